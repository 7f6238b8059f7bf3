-- Laid by a program of this session for this claim.
import Derived.Test.YtiejeflgefdceaaQFnExactTableSamplex0
import Derived.Test.YtiejeflgefdceaaQFnExactTableSamplex1
import Derived.Test.YtiejeflgefdceaaQFnExactTableSamplex2
import Derived.Test.YtiejeflgefdceaaQFnExactTableSamplex4
import Derived.Test.YtiejeflgefdceaaQFnExactTableSamplex5
namespace Go.Proofs.Ytiejeflgefdceaa.QFnExactTableSample
open Go.RowKit Go.Proofs.YtiejeflgefdceaaW.PrintWords Go.Proofs.YtiejeflgefdceaaW.PrintLast Go.Proofs.YtiejeflgefdceaaW.PrintMore
attribute [local go_sem] max2_int min2_int max_two min_two max_three min_three max_four min_four   -- for this text's walks alone
set_option linter.unusedVariables false
set_option linter.unusedSimpArgs false

/-! ### laws_FnExactTableSample: function 14 -/
mutual
def laws_FnExactTableSample.j0 : Nat → Int → List Int → Bool → List Int → Bool → Bool → List (List Int) → List Int → List (List Int) → List Int → Option (Bool)
  | 0, _, _, _, _, _, _, _, _, _, _ => none
  | k + 1, x0, x1, x6, x7, x9, x41, x178000, x178001, x189000, x189001 => if x41 = true then (some false) else ((laws_toIntS.f k x1).bind fun t190 => ((laws_eqIntS.f k x7 t190).bind fun t193 => (if t193 = true then ((laws_markIntS.f k x7 1).bind fun bt194 => (if bt194.1 < 0 then (laws_FnExactTableSample.j1 k x0 x1 x6 true x178000 x178001 x189000 x189001) else ((laws_eqSample.f k x189000 x189001 x178000 x178001).bind fun t196 => (if t196 = true then (laws_FnExactTableSample.j1 k x0 x1 x6 (x9 != x6) x178000 x178001 x189000 x189001) else (laws_FnExactTableSample.j1 k x0 x1 x6 true x178000 x178001 x189000 x189001))))) else (some false))))
def laws_FnExactTableSample.j1 : Nat → Int → List Int → Bool → Bool → List (List Int) → List Int → List (List Int) → List Int → Option (Bool)
  | 0, _, _, _, _, _, _, _, _ => none
  | k + 1, x0, x1, x6, x62, x178000, x178001, x189000, x189001 => if x62 = true then (some false) else ((laws_markSample.f k x189000 x189001 1).bind fun bt197 => ((laws_heldSample.f k bt197.2.1 bt197.2.2 1).bind fun t200 => (if t200 < 0 then (some false) else (if t200 = bt197.1 then ((laws_toIntS.f k x1).bind fun t201 => ((impl_TableSample.f k x0 t201).bind fun bt204 => ((laws_eqSample.f k bt204.1 bt204.2.1 x178000 x178001).bind fun t212 => (if t212 = true then (laws_FnExactTableSample.j2 k bt197.1 (bt204.2.2 != x6) bt197.2.1 bt197.2.2) else (laws_FnExactTableSample.j2 k bt197.1 true bt197.2.1 bt197.2.2))))) else (some false)))))
def laws_FnExactTableSample.j2 : Nat → Int → Bool → List (List Int) → List Int → Option (Bool)
  | 0, _, _, _, _ => none
  | k + 1, x11, x89, x189000, x189001 => if x89 = true then (some false) else ((laws_heldSample.f k x189000 x189001 1).bind fun t213 => (if t213 < 0 then (some false) else (if t213 = x11 then (some true) else (some false))))
end
def laws_FnExactTableSample.f (k : Nat) (a0 : Int) (l1 : List Int) : Option (Bool) := if (l1.length : Int) > 1048576 then (some true) else ((laws_toIntS.f k l1).bind fun t167 => ((spec_TableSample.f k a0 t167).bind fun bt170 => ((laws_toIntS.f k l1).bind fun t178 => ((impl_TableSample.f k a0 t178).bind fun bt181 => ((laws_eqSample.f k bt181.1 bt181.2.1 bt170.1 bt170.2.1).bind fun t189 => (if t189 = true then (laws_FnExactTableSample.j0 k a0 l1 bt170.2.2 t178 bt181.2.2 (bt181.2.2 != bt170.2.2) bt170.1 bt170.2.1 bt181.1 bt181.2.1) else (laws_FnExactTableSample.j0 k a0 l1 bt170.2.2 t178 bt181.2.2 true bt170.1 bt170.2.1 bt181.1 bt181.2.1)))))))
theorem laws_FnExactTableSample.mono_l : ∀ k, (∀ y0 y1 y2 y3 y4 y5 y6 y7 y8 y9, LeO (laws_FnExactTableSample.j0 k y0 y1 y2 y3 y4 y5 y6 y7 y8 y9) (laws_FnExactTableSample.j0 (k + 1) y0 y1 y2 y3 y4 y5 y6 y7 y8 y9)) ∧ (∀ y0 y1 y2 y3 y4 y5 y6 y7, LeO (laws_FnExactTableSample.j1 k y0 y1 y2 y3 y4 y5 y6 y7) (laws_FnExactTableSample.j1 (k + 1) y0 y1 y2 y3 y4 y5 y6 y7)) ∧ (∀ y0 y1 y2 y3, LeO (laws_FnExactTableSample.j2 k y0 y1 y2 y3) (laws_FnExactTableSample.j2 (k + 1) y0 y1 y2 y3))
  | 0 => ⟨fun _ _ _ _ _ _ _ _ _ _ r h => by simp [laws_FnExactTableSample.j0] at h, fun _ _ _ _ _ _ _ _ r h => by simp [laws_FnExactTableSample.j1] at h, fun _ _ _ _ r h => by simp [laws_FnExactTableSample.j2] at h⟩
  | k + 1 => by
    obtain ⟨ih0, ih1, ih2⟩ := laws_FnExactTableSample.mono_l k
    refine ⟨?_, ?_, ?_⟩
    · intro y0 y1 y2 y3 y4 y5 y6 y7 y8 y9
      unfold laws_FnExactTableSample.j0
      repeat' first
      | (with_reducible exact ih0 _ _ _ _ _ _ _ _ _ _)
      | (with_reducible exact ih1 _ _ _ _ _ _ _ _)
      | (with_reducible exact ih2 _ _ _ _)
      | (with_reducible exact impl_TableSample.mono _ _ _)
      | (with_reducible exact laws_eqIntS.mono _ _ _)
      | (with_reducible exact laws_eqSample.mono _ _ _ _ _)
      | (with_reducible exact laws_heldSample.mono _ _ _ _)
      | (with_reducible exact laws_markIntS.mono _ _ _)
      | (with_reducible exact laws_markSample.mono _ _ _ _)
      | (with_reducible exact laws_toIntS.mono _ _)
      | (with_reducible exact spec_TableSample.mono _ _ _)
      | (with_reducible exact LeO.refl _)
      | (with_reducible exact LeO.none _)
      | (with_reducible refine LeO.ite ?_ ?_)
      | (with_reducible refine LeO.bind ?_ (fun _ => ?_))
      | exact ih0 _ _ _ _ _ _ _ _ _ _
      | exact ih1 _ _ _ _ _ _ _ _
      | exact ih2 _ _ _ _
      | exact impl_TableSample.mono _ _ _
      | exact laws_eqIntS.mono _ _ _
      | exact laws_eqSample.mono _ _ _ _ _
      | exact laws_heldSample.mono _ _ _ _
      | exact laws_markIntS.mono _ _ _
      | exact laws_markSample.mono _ _ _ _
      | exact laws_toIntS.mono _ _
      | exact spec_TableSample.mono _ _ _
      | exact LeO.none _
      | refine LeO.ite ?_ ?_
      | refine LeO.bind ?_ (fun _ => ?_)
    · intro y0 y1 y2 y3 y4 y5 y6 y7
      unfold laws_FnExactTableSample.j1
      repeat' first
      | (with_reducible exact ih0 _ _ _ _ _ _ _ _ _ _)
      | (with_reducible exact ih1 _ _ _ _ _ _ _ _)
      | (with_reducible exact ih2 _ _ _ _)
      | (with_reducible exact impl_TableSample.mono _ _ _)
      | (with_reducible exact laws_eqIntS.mono _ _ _)
      | (with_reducible exact laws_eqSample.mono _ _ _ _ _)
      | (with_reducible exact laws_heldSample.mono _ _ _ _)
      | (with_reducible exact laws_markIntS.mono _ _ _)
      | (with_reducible exact laws_markSample.mono _ _ _ _)
      | (with_reducible exact laws_toIntS.mono _ _)
      | (with_reducible exact spec_TableSample.mono _ _ _)
      | (with_reducible exact LeO.refl _)
      | (with_reducible exact LeO.none _)
      | (with_reducible refine LeO.ite ?_ ?_)
      | (with_reducible refine LeO.bind ?_ (fun _ => ?_))
      | exact ih0 _ _ _ _ _ _ _ _ _ _
      | exact ih1 _ _ _ _ _ _ _ _
      | exact ih2 _ _ _ _
      | exact impl_TableSample.mono _ _ _
      | exact laws_eqIntS.mono _ _ _
      | exact laws_eqSample.mono _ _ _ _ _
      | exact laws_heldSample.mono _ _ _ _
      | exact laws_markIntS.mono _ _ _
      | exact laws_markSample.mono _ _ _ _
      | exact laws_toIntS.mono _ _
      | exact spec_TableSample.mono _ _ _
      | exact LeO.none _
      | refine LeO.ite ?_ ?_
      | refine LeO.bind ?_ (fun _ => ?_)
    · intro y0 y1 y2 y3
      unfold laws_FnExactTableSample.j2
      repeat' first
      | (with_reducible exact ih0 _ _ _ _ _ _ _ _ _ _)
      | (with_reducible exact ih1 _ _ _ _ _ _ _ _)
      | (with_reducible exact ih2 _ _ _ _)
      | (with_reducible exact impl_TableSample.mono _ _ _)
      | (with_reducible exact laws_eqIntS.mono _ _ _)
      | (with_reducible exact laws_eqSample.mono _ _ _ _ _)
      | (with_reducible exact laws_heldSample.mono _ _ _ _)
      | (with_reducible exact laws_markIntS.mono _ _ _)
      | (with_reducible exact laws_markSample.mono _ _ _ _)
      | (with_reducible exact laws_toIntS.mono _ _)
      | (with_reducible exact spec_TableSample.mono _ _ _)
      | (with_reducible exact LeO.refl _)
      | (with_reducible exact LeO.none _)
      | (with_reducible refine LeO.ite ?_ ?_)
      | (with_reducible refine LeO.bind ?_ (fun _ => ?_))
      | exact ih0 _ _ _ _ _ _ _ _ _ _
      | exact ih1 _ _ _ _ _ _ _ _
      | exact ih2 _ _ _ _
      | exact impl_TableSample.mono _ _ _
      | exact laws_eqIntS.mono _ _ _
      | exact laws_eqSample.mono _ _ _ _ _
      | exact laws_heldSample.mono _ _ _ _
      | exact laws_markIntS.mono _ _ _
      | exact laws_markSample.mono _ _ _ _
      | exact laws_toIntS.mono _ _
      | exact spec_TableSample.mono _ _ _
      | exact LeO.none _
      | refine LeO.ite ?_ ?_
      | refine LeO.bind ?_ (fun _ => ?_)
theorem laws_FnExactTableSample.mono : ∀ a0 a1 k, LeO (laws_FnExactTableSample.f k a0 a1) (laws_FnExactTableSample.f (k + 1) a0 a1) := by
  intro a0 a1 k
  obtain ⟨ih0, ih1, ih2⟩ := laws_FnExactTableSample.mono_l k
  unfold laws_FnExactTableSample.f
  repeat' first
      | (with_reducible exact ih0 _ _ _ _ _ _ _ _ _ _)
      | (with_reducible exact ih1 _ _ _ _ _ _ _ _)
      | (with_reducible exact ih2 _ _ _ _)
      | (with_reducible exact impl_TableSample.mono _ _ _)
      | (with_reducible exact laws_eqIntS.mono _ _ _)
      | (with_reducible exact laws_eqSample.mono _ _ _ _ _)
      | (with_reducible exact laws_heldSample.mono _ _ _ _)
      | (with_reducible exact laws_markIntS.mono _ _ _)
      | (with_reducible exact laws_markSample.mono _ _ _ _)
      | (with_reducible exact laws_toIntS.mono _ _)
      | (with_reducible exact spec_TableSample.mono _ _ _)
      | (with_reducible exact LeO.refl _)
      | (with_reducible exact LeO.none _)
      | (with_reducible refine LeO.ite ?_ ?_)
      | (with_reducible refine LeO.bind ?_ (fun _ => ?_))
      | exact ih0 _ _ _ _ _ _ _ _ _ _
      | exact ih1 _ _ _ _ _ _ _ _
      | exact ih2 _ _ _ _
      | exact impl_TableSample.mono _ _ _
      | exact laws_eqIntS.mono _ _ _
      | exact laws_eqSample.mono _ _ _ _ _
      | exact laws_heldSample.mono _ _ _ _
      | exact laws_markIntS.mono _ _ _
      | exact laws_markSample.mono _ _ _ _
      | exact laws_toIntS.mono _ _
      | exact spec_TableSample.mono _ _ _
      | exact LeO.none _
      | refine LeO.ite ?_ ?_
      | refine LeO.bind ?_ (fun _ => ?_)
set_option maxHeartbeats 8000000 in
set_option maxRecDepth 100000 in
theorem laws_FnExactTableSample.calls (k : Nat) (a0 : Int) (A1 : Option Addr) (c1 : Nat) (l1 : List Int) (r : Bool) (w : World) (hr1 : Kd.C (Kd.int .i64) w A1 l1.length l1) (hc1 : l1.length ≤ c1) (h : laws_FnExactTableSample.f k a0 l1 = some r) :
    Calls Try.prog 14 #[.int .i64 a0, .slice A1 l1.length c1] w fun e w' => e = .returned (.bool r) ∧ Below w.heap.size w w' := by
  have hu55 := Try.underlying55
  have HR1 := Aside0.mk hr1
  have HC1 := Aside0.mk hc1
  clear hr1 hc1
  have HB := Aside0.mk (Below.refl w.heap.size w)
  have H : (if (l1.length : Int) > 1048576 then (some true) else ((laws_toIntS.f k l1).bind fun t167 => ((spec_TableSample.f k a0 t167).bind fun bt170 => ((laws_toIntS.f k l1).bind fun t178 => ((impl_TableSample.f k a0 t178).bind fun bt181 => ((laws_eqSample.f k bt181.1 bt181.2.1 bt170.1 bt170.2.1).bind fun t189 => (if t189 = true then (laws_FnExactTableSample.j0 k a0 l1 bt170.2.2 t178 bt181.2.2 (bt181.2.2 != bt170.2.2) bt170.1 bt170.2.1 bt181.1 bt181.2.1) else (laws_FnExactTableSample.j0 k a0 l1 bt170.2.2 t178 bt181.2.2 true bt170.1 bt170.2.1 bt181.1 bt181.2.1)))))))) = some r := h
  clear h
  by_cases c3 : (l1.length : Int) > 1048576
  · rw [if_pos c3] at H
    have c3b0 : decide (1048576 < (l1.length : Int)) = true := decide_eq_true c3
    have c3b1 : decide (1048576 < l1.length) = true := decide_eq_true (by omega)
    clear c3
    obtain rfl := Option.some.inj H
    go_enter Try.func14, Try.ntmps14
    go_wp2
    go_ret
    exact ⟨by first | rfl | (simp [errW_none, errW_some] <;> rfl) | (simp [*, errW_none, errW_some] <;> rfl), by repeat (first | (with_reducible first | exact HB.out | apply below_alloc | apply pw_below_drewN | apply below_drew1) | exact HB.out)⟩
  · rw [if_neg c3] at H
    have c3b0 : decide (1048576 < (l1.length : Int)) = false := decide_eq_false c3
    have c3b1 : decide (1048576 < l1.length) = false := decide_eq_false (by omega)
    clear c3
    replace H := Option.bind_eq_some_iff.mp H
    obtain ⟨t167, A40, H⟩ := H
    replace H : ((spec_TableSample.f k a0 t167).bind fun bt170 => ((laws_toIntS.f k l1).bind fun t178 => ((impl_TableSample.f k a0 t178).bind fun bt181 => ((laws_eqSample.f k bt181.1 bt181.2.1 bt170.1 bt170.2.1).bind fun t189 => (if t189 = true then (laws_FnExactTableSample.j0 k a0 l1 bt170.2.2 t178 bt181.2.2 (bt181.2.2 != bt170.2.2) bt170.1 bt170.2.1 bt181.1 bt181.2.1) else (laws_FnExactTableSample.j0 k a0 l1 bt170.2.2 t178 bt181.2.2 true bt170.1 bt170.2.1 bt181.1 bt181.2.1)))))) = some r := H
    have A4 := Aside0.mk A40
    clear A40
    replace H := Option.bind_eq_some_iff.mp H
    obtain ⟨⟨t170, t173, t176⟩, A50, H⟩ := H
    replace H : ((laws_toIntS.f k l1).bind fun t178 => ((impl_TableSample.f k a0 t178).bind fun bt181 => ((laws_eqSample.f k bt181.1 bt181.2.1 t170 t173).bind fun t189 => (if t189 = true then (laws_FnExactTableSample.j0 k a0 l1 t176 t178 bt181.2.2 (bt181.2.2 != t176) t170 t173 bt181.1 bt181.2.1) else (laws_FnExactTableSample.j0 k a0 l1 t176 t178 bt181.2.2 true t170 t173 bt181.1 bt181.2.1))))) = some r := H
    have A5 := Aside0.mk A50
    clear A50
    replace H := Option.bind_eq_some_iff.mp H
    obtain ⟨t178, A60, H⟩ := H
    replace H : ((impl_TableSample.f k a0 t178).bind fun bt181 => ((laws_eqSample.f k bt181.1 bt181.2.1 t170 t173).bind fun t189 => (if t189 = true then (laws_FnExactTableSample.j0 k a0 l1 t176 t178 bt181.2.2 (bt181.2.2 != t176) t170 t173 bt181.1 bt181.2.1) else (laws_FnExactTableSample.j0 k a0 l1 t176 t178 bt181.2.2 true t170 t173 bt181.1 bt181.2.1)))) = some r := H
    have A6 := Aside0.mk A60
    clear A60
    replace H := Option.bind_eq_some_iff.mp H
    obtain ⟨⟨t181, t184, t187⟩, A70, H⟩ := H
    replace H : ((laws_eqSample.f k t181 t184 t170 t173).bind fun t189 => (if t189 = true then (laws_FnExactTableSample.j0 k a0 l1 t176 t178 t187 (t187 != t176) t170 t173 t181 t184) else (laws_FnExactTableSample.j0 k a0 l1 t176 t178 t187 true t170 t173 t181 t184))) = some r := H
    have A7 := Aside0.mk A70
    clear A70
    have HC8 := Aside0.mk H
    clear H
    go_enter Try.func14, Try.ntmps14
    go_upto_region 6 with (first | ((with_reducible refine gate_callee (f := 16) rfl ?_); refine goesL_ (some 21) rfl rfl Try.func16 (by kernel_rfl) rfl #[.slice A1 l1.length c1] rfl (by (try simp only [List.map_toArray, List.map_cons, List.map_nil]); first | done | rfl | (simp only [List.length_drop, List.length_take]; rfl)) ?_; (with_reducible refine (laws_toIntS.calls k _ _ l1 t167 _ ?side1 ?side2 A4.out).mono ?_); (case side1 => repeat (first | exact HR1.out | (with_reducible refine Kd.C_alloc ?_ _) | (with_reducible refine Kd.C_drewN ?_ _) | (with_reducible refine Kd.C_drew ?_))); (case side2 => exact HC1.out); rintro e w9 ⟨v168, rfl, ho0, hb⟩; refine ⟨_, rfl, ?_⟩; have n0_ := Aside0.mk (Kd.R_lower ho0 (below_size (by repeat (first | (with_reducible first | exact HB.out | apply below_alloc | apply pw_below_drewN | apply below_drew1) | exact HB.out)))); have n1_ := Aside0.mk (below_step (by repeat (first | (with_reducible first | exact HB.out | apply below_alloc | apply pw_below_drewN | apply below_drew1) | exact HB.out)) hb); clear HB; have HO169 := n0_; have HB := n1_; clear n0_ n1_; (try clear hb); (try clear hb2); (try clear hk); (try clear hi); (try clear ho0); obtain ⟨Ao10, co10, eo10⟩ := Kd.R_slice HO169.out; subst eo10) | ((with_reducible refine gate_callee (f := 49) rfl ?_); refine goesL_ (some 22) rfl rfl Try.func49 (by kernel_rfl) rfl #[.int .i64 a0, .slice Ao10 t167.length co10] rfl (by (try simp only [List.map_toArray, List.map_cons, List.map_nil]); first | done | rfl | (simp only [List.length_drop, List.length_take]; rfl)) ?_; (with_reducible refine (spec_TableSample.calls k a0 _ _ t167 t170 t173 t176 _ ?side1 ?side2 A5.out).mono ?_); (case side1 => repeat (first | exact (Kd.R_reads' HO169.out).2.2 | (with_reducible refine Kd.C_alloc ?_ _) | (with_reducible refine Kd.C_drewN ?_ _) | (with_reducible refine Kd.C_drew ?_))); (case side2 => exact (Kd.R_reads' HO169.out).2.1); rintro e w11 ⟨vW0_, vW1_, rfl, ho0, ho1, hb⟩; refine ⟨_, rfl, ?_⟩; have n0_ := Aside0.mk (Kd.R_below (by (with_reducible repeat (first | apply Kd.R_alloc | apply Kd.R_drewN | apply Kd.R_drew)); exact HO169.out) hb); have n1_ := Aside0.mk (below_step (by repeat (first | (with_reducible first | exact HB.out | apply below_alloc | apply pw_below_drewN | apply below_drew1) | exact HB.out)) hb); clear HO169; clear HB; have HO169 := n0_; have HB := n1_; clear n0_ n1_; obtain ⟨AW0, cW0, ew_⟩ := Kd.S_slice ho0; subst ew_; obtain ⟨AW1, cW1, ew_⟩ := Kd.R_slice ho1; subst ew_; have HRW0 := Aside0.mk (Kd.S_reads' ho0).2.2; have HCW0 := Aside0.mk (Kd.S_reads' ho0).2.1; have HRW1 := Aside0.mk (Kd.R_reads' ho1).2.2; have HCW1 := Aside0.mk (Kd.R_reads' ho1).2.1; clear ho0 ho1; have HB0 := HB; have m0_ := Aside0.mk (Kd.C_below HR1.out HB.out); clear HB HR1; have HR1 := m0_; clear m0_; have HB := Aside0.mk (Below.refl w11.heap.size w11); (try clear hb)) | ((with_reducible refine gate_dst (N := 5) rfl ?_); refine box_event ?hg (N := 5) ?hd (cs := #[.slice none 0 0, .slice none 0 0]) (t := 55) ?hr ?_; (case hd => rfl); (case hg => rfl); (case hr => first | (go_simp; done) | (go_simp; rfl)); intro gb177 hg w12 hbox hb; have n0_ := Aside0.mk (Kd.R_below (by (with_reducible repeat (first | apply Kd.R_alloc | apply Kd.R_drewN | apply Kd.R_drew)); exact HO169.out) hb); have n1_ := Aside0.mk (below_step (by repeat (first | (with_reducible first | exact HB.out | apply below_alloc | apply pw_below_drewN | apply below_drew1) | exact HB.out)) hb); have n2_ := Aside0.mk (hbox); have n3_ := Aside0.mk ((by rw [hg]; exact (below_size (by repeat (first | (with_reducible first | exact HB.out | apply below_alloc | apply pw_below_drewN | apply below_drew1) | exact HB.out))) : w11.heap.size ≤ gb177)); have n4_ := Aside0.mk ((by rw [hg]; exact (below_size (by repeat (first | (with_reducible first | exact HB.out | apply below_alloc | apply pw_below_drewN | apply below_drew1) | exact HB.out))) : w11.heap.size ≤ gb177)); clear HO169; clear HB; have HO169 := n0_; have HB := n1_; have BK177 := n2_; have GW177 := n3_; have GE177 := n4_; clear n0_ n1_ n2_ n3_ n4_; clear hb hbox hg; have hcz13_0 : w12.cell? ⟨gb177, 0, none⟩ = some (.slice none 0 0) := (blk_cell BK177.out 0).trans rfl; have hcz13_1 : w12.cell? ⟨gb177, 1, none⟩ = some (.slice none 0 0) := (blk_cell BK177.out 1).trans rfl; have hfz13_0 := blk_frozen BK177.out 0; have hfz13_1 := blk_frozen BK177.out 1) | ((with_reducible refine gate_callee (f := 16) rfl ?_); refine goesL_ (some 26) rfl rfl Try.func16 (by kernel_rfl) rfl #[.slice A1 l1.length c1] rfl (by (try simp only [List.map_toArray, List.map_cons, List.map_nil]); first | done | rfl | (simp only [List.length_drop, List.length_take]; rfl)) ?_; (with_reducible refine (laws_toIntS.calls k _ _ l1 t178 _ ?side1 ?side2 A6.out).mono ?_); (case side1 => exact Kd.C_below HR1.out (by repeat (first | (with_reducible first | exact HB.out | apply below_alloc | apply pw_below_drewN | apply below_drew1 | refine below_set ?_ GE177.out) | exact HB.out))); (case side2 => exact HC1.out); rintro e w14 ⟨v179, rfl, ho0, hb⟩; refine ⟨_, rfl, ?_⟩; have n0_ := Aside0.mk (Kd.R_elder' (by (with_reducible repeat (first | apply Kd.R_alloc | apply Kd.R_drewN | apply Kd.R_drew)); exact (Kd.R_mono (Kd.R_far (p := ⟨gb177, 1, none⟩) (Kd.R_far (p := ⟨gb177, 0, none⟩) (Kd.R_types HO169.out BK177.out (by decide)) (fun _ hk => hk.2) (.slice AW0 t170.length cW0)) (fun _ hk => hk.2) (.slice AW1 t173.length cW1)) (fun _ h_ => h_.1))) (Kd.R_base ho0) hb); have n1_ := Aside0.mk (Kd.R_lower (Kd.R_new' ho0 (Kd.R_lt (by (with_reducible repeat (first | apply Kd.R_alloc | apply Kd.R_drewN | apply Kd.R_drew)); exact (Kd.R_mono (Kd.R_far (p := ⟨gb177, 1, none⟩) (Kd.R_far (p := ⟨gb177, 0, none⟩) (Kd.R_types HO169.out BK177.out (by decide)) (fun _ hk => hk.2) (.slice AW0 t170.length cW0)) (fun _ hk => hk.2) (.slice AW1 t173.length cW1)) (fun _ h_ => h_.1))))) (below_size (by repeat (first | (with_reducible first | exact HB.out | apply below_alloc | apply pw_below_drewN | apply below_drew1 | refine below_set ?_ GE177.out) | exact HB.out)))); have n2_ := Aside0.mk (blk_below (g := gb177) (o := .cells #[.slice AW0 t170.length cW0, .slice AW1 t173.length cW1] 55 (0, 0)) (by (with_reducible repeat (first | refine blk_drewN ?_ _ | refine blk_drew ?_ | refine blk_alloc ?_ _)); refine blk_put (cs := #[.slice AW0 t170.length cW0, .slice none 0 0]) ?_ 1 _ rfl; (with_reducible repeat (first | refine blk_drewN ?_ _ | refine blk_drew ?_ | refine blk_alloc ?_ _)); refine blk_put (cs := #[.slice none 0 0, .slice none 0 0]) ?_ 0 _ rfl; (with_reducible repeat (first | refine blk_drewN ?_ _ | refine blk_drew ?_ | refine blk_alloc ?_ _)); exact BK177.out) hb); have n3_ := Aside0.mk (below_step (by repeat (first | (with_reducible first | exact HB.out | apply below_alloc | apply pw_below_drewN | apply below_drew1 | refine below_set ?_ GE177.out) | exact HB.out)) hb); clear HO169; clear BK177; clear HB; have HO169 := n0_; have HO180 := n1_; have BK177 := n2_; have HB := n3_; clear n0_ n1_ n2_ n3_; (try clear hb); (try clear hb2); (try clear hk); (try clear hi); (try clear ho0); obtain ⟨Ao15, co15, eo15⟩ := Kd.R_slice HO180.out; subst eo15) | ((with_reducible refine gate_callee (f := 50) rfl ?_); refine goesL_ (some 30) rfl rfl Try.func50 (by kernel_rfl) rfl #[.int .i64 a0, .slice Ao15 t178.length co15] rfl (by (try simp only [List.map_toArray, List.map_cons, List.map_nil]); first | done | rfl | (simp only [List.length_drop, List.length_take]; rfl)) ?_; (with_reducible refine (impl_TableSample.calls k a0 _ _ t178 t181 t184 t187 _ ?side1 ?side2 A7.out).mono ?_); (case side1 => repeat (first | exact (Kd.R_reads' HO180.out).2.2 | (with_reducible refine Kd.C_alloc ?_ _) | (with_reducible refine Kd.C_drewN ?_ _) | (with_reducible refine Kd.C_drew ?_))); (case side2 => exact (Kd.R_reads' HO180.out).2.1); rintro e w16 ⟨v182, v185, rfl, ho0, ho1, hb⟩; refine ⟨_, rfl, ?_⟩; have n0_ := Aside0.mk (Kd.R_elder' (by (with_reducible repeat (first | apply Kd.R_alloc | apply Kd.R_drewN | apply Kd.R_drew)); exact HO169.out) (Kd.R_base ho1) hb); have n1_ := Aside0.mk (Kd.R_elder' (by (with_reducible repeat (first | apply Kd.R_alloc | apply Kd.R_drewN | apply Kd.R_drew)); exact HO180.out) (Kd.R_base ho1) hb); have n2_ := Aside0.mk (Kd.S_lower (Kd.S_new' (Kd.S_new' ho0 (Kd.R_lt (by (with_reducible repeat (first | apply Kd.R_alloc | apply Kd.R_drewN | apply Kd.R_drew)); exact HO169.out))) (Kd.R_lt (by (with_reducible repeat (first | apply Kd.R_alloc | apply Kd.R_drewN | apply Kd.R_drew)); exact HO180.out))) (below_size (by repeat (first | (with_reducible first | exact HB.out | apply below_alloc | apply pw_below_drewN | apply below_drew1 | refine below_set ?_ GE177.out) | exact HB.out)))); have n3_ := Aside0.mk (Kd.R_lower (Kd.R_new' (Kd.R_new' ho1 (Kd.R_lt (by (with_reducible repeat (first | apply Kd.R_alloc | apply Kd.R_drewN | apply Kd.R_drew)); exact HO169.out))) (Kd.R_lt (by (with_reducible repeat (first | apply Kd.R_alloc | apply Kd.R_drewN | apply Kd.R_drew)); exact HO180.out))) (below_size (by repeat (first | (with_reducible first | exact HB.out | apply below_alloc | apply pw_below_drewN | apply below_drew1 | refine below_set ?_ GE177.out) | exact HB.out)))); have n4_ := Aside0.mk (blk_below (g := gb177) (o := .cells #[.slice AW0 t170.length cW0, .slice AW1 t173.length cW1] 55 (0, 0)) (by (with_reducible repeat (first | refine blk_drewN ?_ _ | refine blk_drew ?_ | refine blk_alloc ?_ _)); exact BK177.out) hb); have n5_ := Aside0.mk (below_step (by repeat (first | (with_reducible first | exact HB.out | apply below_alloc | apply pw_below_drewN | apply below_drew1 | refine below_set ?_ GE177.out) | exact HB.out)) hb); clear HO169; clear HO180; clear BK177; clear HB; have HO169 := n0_; have HO180 := n1_; have HO183 := n2_; have HO186 := n3_; have BK177 := n4_; have HB := n5_; clear n0_ n1_ n2_ n3_ n4_ n5_; (try clear hb); (try clear hb2); (try clear hk); (try clear hi); (try clear ho0); (try clear ho1)) | ((with_reducible refine gate_dst (N := 8) rfl ?_); refine box_event ?hg (N := 8) ?hd (cs := #[.slice none 0 0, .slice none 0 0]) (t := 55) ?hr ?_; (case hd => rfl); (case hg => rfl); (case hr => first | (go_simp; done) | (go_simp; rfl)); intro gb188 hg w17 hbox hb; have n0_ := Aside0.mk (Kd.R_below (by (with_reducible repeat (first | apply Kd.R_alloc | apply Kd.R_drewN | apply Kd.R_drew)); exact HO169.out) hb); have n1_ := Aside0.mk (Kd.R_below (by (with_reducible repeat (first | apply Kd.R_alloc | apply Kd.R_drewN | apply Kd.R_drew)); exact HO180.out) hb); have n2_ := Aside0.mk (Kd.S_below (by (with_reducible repeat (first | apply Kd.S_alloc | apply Kd.S_drewN | apply Kd.S_drew)); exact HO183.out) hb); have n3_ := Aside0.mk (Kd.R_below (by (with_reducible repeat (first | apply Kd.R_alloc | apply Kd.R_drewN | apply Kd.R_drew)); exact HO186.out) hb); have n4_ := Aside0.mk (blk_below (g := gb177) (o := .cells #[.slice AW0 t170.length cW0, .slice AW1 t173.length cW1] 55 (0, 0)) (by (with_reducible repeat (first | refine blk_drewN ?_ _ | refine blk_drew ?_ | refine blk_alloc ?_ _)); exact BK177.out) hb); have n5_ := Aside0.mk (below_step (by repeat (first | (with_reducible first | exact HB.out | apply below_alloc | apply pw_below_drewN | apply below_drew1 | refine below_set ?_ GE177.out) | exact HB.out)) hb); have n6_ := Aside0.mk (hbox); have n7_ := Aside0.mk ((by rw [hg]; exact (below_size (by repeat (first | (with_reducible first | exact HB.out | apply below_alloc | apply pw_below_drewN | apply below_drew1 | refine below_set ?_ GE177.out) | exact HB.out))) : w11.heap.size ≤ gb188)); have n8_ := Aside0.mk ((by rw [hg]; exact (below_size (by repeat (first | (with_reducible first | exact HB.out | apply below_alloc | apply pw_below_drewN | apply below_drew1 | refine below_set ?_ GE177.out) | exact HB.out))) : w11.heap.size ≤ gb188)); have n9_ := Aside0.mk ((by rw [hg]; exact Nat.ne_of_lt (blk_lt (g := gb177) (o := .cells #[.slice AW0 t170.length cW0, .slice AW1 t173.length cW1] 55 (0, 0)) (by (with_reducible repeat (first | refine blk_drewN ?_ _ | refine blk_drew ?_ | refine blk_alloc ?_ _)); exact BK177.out)) : gb177 ≠ gb188)); have n10_ := Aside0.mk ((by rw [hg]; exact Nat.ne_of_gt (blk_lt (g := gb177) (o := .cells #[.slice AW0 t170.length cW0, .slice AW1 t173.length cW1] 55 (0, 0)) (by (with_reducible repeat (first | refine blk_drewN ?_ _ | refine blk_drew ?_ | refine blk_alloc ?_ _)); exact BK177.out)) : gb188 ≠ gb177)); clear HO169; clear HO180; clear HO183; clear HO186; clear BK177; clear HB; have HO169 := n0_; have HO180 := n1_; have HO183 := n2_; have HO186 := n3_; have BK177 := n4_; have HB := n5_; have BK188 := n6_; have GW188 := n7_; have GE188 := n8_; have NB177_188 := n9_; have NB188_177 := n10_; clear n0_ n1_ n2_ n3_ n4_ n5_ n6_ n7_ n8_ n9_ n10_; clear hb hbox hg; obtain ⟨Ao18, co18, eo18⟩ := Kd.S_slice HO183.out; subst eo18; have hnb19 := NB188_177.out; have hnc19 := NB177_188.out; have hcz20_0 : w17.cell? ⟨gb188, 0, none⟩ = some (.slice none 0 0) := (blk_cell BK188.out 0).trans rfl; have hcz20_1 : w17.cell? ⟨gb188, 1, none⟩ = some (.slice none 0 0) := (blk_cell BK188.out 1).trans rfl; have hfz20_0 := blk_frozen BK188.out 0; have hfz20_1 := blk_frozen BK188.out 1; obtain ⟨Ao21, co21, eo21⟩ := Kd.R_slice HO186.out; subst eo21))
    (try simp only [Act.put, List.setIfInBounds_toArray, List.set_cons_zero, List.set_cons_succ])
    go_cut [41] (fun v41 wc => ∃ (kq : Nat) (x41_7 : Bool), v41 = .bool x41_7 ∧ Aside0 (laws_FnExactTableSample.j0 kq a0 l1 t176 t178 t187 x41_7 t170 t173 t181 t184 = some r) ∧ Aside0 (kq ≤ k) ∧ Aside0 (Kd.R (Kd.int .i64) 3 wc w11.heap.size (fun k_ => some k_ ≠ ((.slice Ao21 t184.length co21) : Value).ownBlock) (.slice Ao15 t178.length co15) t178) ∧ Aside0 (Kd.S (Kd.slice 3 (Kd.int .i64)) 22 wc w11.heap.size (fun k_ => some k_ ≠ ((.slice Ao15 t178.length co15) : Value).ownBlock ∧ some k_ ≠ ((.slice Ao21 t184.length co21) : Value).ownBlock) (.slice Ao18 t181.length co18) t181) ∧ Aside0 (Kd.R (Kd.int .i64) 3 wc w11.heap.size (fun k_ => some k_ ≠ ((.slice Ao15 t178.length co15) : Value).ownBlock) (.slice Ao21 t184.length co21) t184) ∧ Aside0 (wc.heap[gb177]? = some (.cells #[(.slice AW0 t170.length cW0), (.slice AW1 t173.length cW1)] 55 (0, 0))) ∧ Aside0 (wc.heap[gb188]? = some (.cells #[(.slice Ao18 t181.length co18), (.slice Ao21 t184.length co21)] 55 (0, 0))) ∧ Aside0 (Below w11.heap.size w11 wc))
    case first =>
      have H := HC8.out
      clear HC8
      replace H := Option.bind_eq_some_iff.mp H
      obtain ⟨t189, A220, H⟩ := H
      replace H : (if t189 = true then (laws_FnExactTableSample.j0 k a0 l1 t176 t178 t187 (t187 != t176) t170 t173 t181 t184) else (laws_FnExactTableSample.j0 k a0 l1 t176 t178 t187 true t170 t173 t181 t184)) = some r := H
      have A22 := Aside0.mk A220
      clear A220
      by_cases c23 : t189 = true
      · subst c23
        have H1 : (laws_FnExactTableSample.j0 k a0 l1 t176 t178 t187 (t187 != t176) t170 t173 t181 t184) = some r := by rw [if_pos rfl] at H; exact H
        clear H
        have H := H1
        clear H1
        have H' := Aside0.mk H
        clear H
        have hnb24 := NB188_177.out
        have hnc24 := NB177_188.out
        have hcz25_0 : w17.cell? ⟨gb188, 0, none⟩ = some (.slice none 0 0) := (blk_cell BK188.out 0).trans rfl
        have hcz25_1 : w17.cell? ⟨gb188, 1, none⟩ = some (.slice none 0 0) := (blk_cell BK188.out 1).trans rfl
        have hfz25_0 := blk_frozen BK188.out 0
        have hfz25_1 := blk_frozen BK188.out 1
        have hcz26_0 : w17.cell? ⟨gb177, 0, none⟩ = some (.slice AW0 t170.length cW0) := (blk_cell BK177.out 0).trans rfl
        have hcz26_1 : w17.cell? ⟨gb177, 1, none⟩ = some (.slice AW1 t173.length cW1) := (blk_cell BK177.out 1).trans rfl
        have hfz26_0 := blk_frozen BK177.out 0
        have hfz26_1 := blk_frozen BK177.out 1
        go_wp2_with (first | ((with_reducible refine gate_callee (f := 46) rfl ?_); refine goesL_ (some 35) rfl rfl Try.func46 (by kernel_rfl) rfl #[.agg #[.slice Ao18 t181.length co18, .slice Ao21 t184.length co21], .agg #[.slice AW0 t170.length cW0, .slice AW1 t173.length cW1]] rfl (by (try simp only [List.map_toArray, List.map_cons, List.map_nil]); first | done | rfl | (simp only [List.length_drop, List.length_take]; rfl)) ?_; (with_reducible refine (laws_eqSample.calls k _ _ t181 _ _ t184 _ _ t170 _ _ t173 true _ ?side1 ?side2 ?side3 ?side4 ?side5 ?side6 ?side7 ?side8 A22.out).mono ?_); (case side1 => refine (Kd.S_reads' (e := 22) (base := w11.heap.size) (ok := fun k_ => ((some k_ ≠ (.slice Ao21 t184.length co21 : Value).ownBlock ∧ some k_ ≠ (.slice Ao10 t167.length co10 : Value).ownBlock) ∧ some k_ ≠ (.slice Ao15 t178.length co15 : Value).ownBlock)) (n := t181.length) (c := co18) ?_).2.2; exact (by (with_reducible repeat (first | apply Kd.S_alloc | apply Kd.S_drewN | apply Kd.S_drew)); exact (Kd.S_mono (Kd.S_far (p := ⟨gb188, 1, none⟩) (Kd.S_far (p := ⟨gb188, 0, none⟩) (Kd.S_types HO183.out BK188.out (by decide)) (fun _ hk => hk.2) (.slice Ao18 t181.length co18)) (fun _ hk => hk.2) (.slice Ao21 t184.length co21)) (fun _ h_ => h_.1)))); (case side2 => exact (Kd.S_reads' HO183.out).2.1); (case side3 => refine (Kd.R_reads' (e := 3) (base := w11.heap.size) (ok := fun k_ => ((True ∧ some k_ ≠ (.slice Ao10 t167.length co10 : Value).ownBlock) ∧ some k_ ≠ (.slice Ao15 t178.length co15 : Value).ownBlock)) (n := t184.length) (c := co21) ?_).2.2; exact (by (with_reducible repeat (first | apply Kd.R_alloc | apply Kd.R_drewN | apply Kd.R_drew)); exact (Kd.R_mono (Kd.R_far (p := ⟨gb188, 1, none⟩) (Kd.R_far (p := ⟨gb188, 0, none⟩) (Kd.R_types HO186.out BK188.out (by decide)) (fun _ hk => hk.2) (.slice Ao18 t181.length co18)) (fun _ hk => hk.2) (.slice Ao21 t184.length co21)) (fun _ h_ => h_.1)))); (case side4 => exact (Kd.R_reads' HO186.out).2.1); (case side5 => exact Kd.C_below HRW0.out (by repeat (first | (with_reducible first | exact HB.out | apply below_alloc | apply pw_below_drewN | apply below_drew1 | refine below_set ?_ GE177.out | refine below_set ?_ GE188.out) | exact HB.out))); (case side6 => exact HCW0.out); (case side7 => exact Kd.C_below HRW1.out (by repeat (first | (with_reducible first | exact HB.out | apply below_alloc | apply pw_below_drewN | apply below_drew1 | refine below_set ?_ GE177.out | refine below_set ?_ GE188.out) | exact HB.out))); (case side8 => exact HCW1.out); rintro e w27 ⟨rfl, hb⟩; refine ⟨_, rfl, ?_⟩; have n0_ := Aside0.mk (Kd.R_below (by (with_reducible repeat (first | apply Kd.R_alloc | apply Kd.R_drewN | apply Kd.R_drew)); exact (Kd.R_mono (Kd.R_far (p := ⟨gb188, 1, none⟩) (Kd.R_far (p := ⟨gb188, 0, none⟩) (Kd.R_types HO169.out BK188.out (by decide)) (fun _ hk => hk.2) (.slice Ao18 t181.length co18)) (fun _ hk => hk.2) (.slice Ao21 t184.length co21)) (fun _ h_ => h_.1))) hb); have n1_ := Aside0.mk (Kd.R_below (by (with_reducible repeat (first | apply Kd.R_alloc | apply Kd.R_drewN | apply Kd.R_drew)); exact (Kd.R_mono (Kd.R_far (p := ⟨gb188, 1, none⟩) (Kd.R_far (p := ⟨gb188, 0, none⟩) (Kd.R_types HO180.out BK188.out (by decide)) (fun _ hk => hk.2) (.slice Ao18 t181.length co18)) (fun _ hk => hk.2) (.slice Ao21 t184.length co21)) (fun _ h_ => h_.1))) hb); have n2_ := Aside0.mk (Kd.S_below (by (with_reducible repeat (first | apply Kd.S_alloc | apply Kd.S_drewN | apply Kd.S_drew)); exact (Kd.S_mono (Kd.S_far (p := ⟨gb188, 1, none⟩) (Kd.S_far (p := ⟨gb188, 0, none⟩) (Kd.S_types HO183.out BK188.out (by decide)) (fun _ hk => hk.2) (.slice Ao18 t181.length co18)) (fun _ hk => hk.2) (.slice Ao21 t184.length co21)) (fun _ h_ => h_.1))) hb); have n3_ := Aside0.mk (Kd.R_below (by (with_reducible repeat (first | apply Kd.R_alloc | apply Kd.R_drewN | apply Kd.R_drew)); exact (Kd.R_mono (Kd.R_far (p := ⟨gb188, 1, none⟩) (Kd.R_far (p := ⟨gb188, 0, none⟩) (Kd.R_types HO186.out BK188.out (by decide)) (fun _ hk => hk.2) (.slice Ao18 t181.length co18)) (fun _ hk => hk.2) (.slice Ao21 t184.length co21)) (fun _ h_ => h_.1))) hb); have n4_ := Aside0.mk (blk_below (g := gb177) (o := .cells #[.slice AW0 t170.length cW0, .slice AW1 t173.length cW1] 55 (0, 0)) (by (with_reducible repeat (first | refine blk_drewN ?_ _ | refine blk_drew ?_ | refine blk_alloc ?_ _)); refine blk_far ?_ NB177_188.out _; (with_reducible repeat (first | refine blk_drewN ?_ _ | refine blk_drew ?_ | refine blk_alloc ?_ _)); refine blk_far ?_ NB177_188.out _; (with_reducible repeat (first | refine blk_drewN ?_ _ | refine blk_drew ?_ | refine blk_alloc ?_ _)); exact BK177.out) hb); have n5_ := Aside0.mk (blk_below (g := gb188) (o := .cells #[.slice Ao18 t181.length co18, .slice Ao21 t184.length co21] 55 (0, 0)) (by (with_reducible repeat (first | refine blk_drewN ?_ _ | refine blk_drew ?_ | refine blk_alloc ?_ _)); refine blk_put (cs := #[.slice Ao18 t181.length co18, .slice none 0 0]) ?_ 1 _ rfl; (with_reducible repeat (first | refine blk_drewN ?_ _ | refine blk_drew ?_ | refine blk_alloc ?_ _)); refine blk_put (cs := #[.slice none 0 0, .slice none 0 0]) ?_ 0 _ rfl; (with_reducible repeat (first | refine blk_drewN ?_ _ | refine blk_drew ?_ | refine blk_alloc ?_ _)); exact BK188.out) hb); have n6_ := Aside0.mk (below_step (by repeat (first | (with_reducible first | exact HB.out | apply below_alloc | apply pw_below_drewN | apply below_drew1 | refine below_set ?_ GE177.out | refine below_set ?_ GE188.out) | exact HB.out)) hb); clear HO169; clear HO180; clear HO183; clear HO186; clear BK177; clear BK188; clear HB; have HO169 := n0_; have HO180 := n1_; have HO183 := n2_; have HO186 := n3_; have BK177 := n4_; have BK188 := n5_; have HB := n6_; clear n0_ n1_ n2_ n3_ n4_ n5_ n6_; (try clear hb); (try clear hb2); (try clear hk); (try clear hi)))
        go_meet
        case rel => exact ⟨_, ((t187 != t176)), (by first | rfl | (simp; done) | (simp [*]; done)), H', ⟨by first | omega | exact Nat.le_refl _⟩, ⟨by (with_reducible repeat (first | apply Kd.R_alloc | apply Kd.R_drewN | apply Kd.R_drew)); exact Kd.R_mono HO180.out (fun _ hk => hk.2)⟩, ⟨by (with_reducible repeat (first | apply Kd.S_alloc | apply Kd.S_drewN | apply Kd.S_drew)); exact Kd.S_mono HO183.out (fun _ hk => by first|exact ⟨hk.2, hk.1.1⟩|grind)⟩, ⟨by (with_reducible repeat (first | apply Kd.R_alloc | apply Kd.R_drewN | apply Kd.R_drew)); exact Kd.R_mono HO186.out (fun _ hk => hk.2)⟩, ⟨by (with_reducible repeat (first | refine blk_drewN ?_ _ | refine blk_drew ?_ | refine blk_alloc ?_ _)); exact BK177.out⟩, ⟨by (with_reducible repeat (first | refine blk_drewN ?_ _ | refine blk_drew ?_ | refine blk_alloc ?_ _)); exact BK188.out⟩, ⟨by repeat (first | (with_reducible first | exact HB.out | apply below_alloc | apply pw_below_drewN | apply below_drew1 | refine below_set ?_ GE177.out | refine below_set ?_ GE188.out) | exact HB.out)⟩⟩
      · replace c23 := Bool.eq_false_iff.mpr c23
        subst c23
        have H1 : (laws_FnExactTableSample.j0 k a0 l1 t176 t178 t187 true t170 t173 t181 t184) = some r := by rw [if_neg (show ¬ (false = true) by decide)] at H; exact H
        clear H
        have H := H1
        clear H1
        have H' := Aside0.mk H
        clear H
        have hnb28 := NB188_177.out
        have hnc28 := NB177_188.out
        have hcz29_0 : w17.cell? ⟨gb188, 0, none⟩ = some (.slice none 0 0) := (blk_cell BK188.out 0).trans rfl
        have hcz29_1 : w17.cell? ⟨gb188, 1, none⟩ = some (.slice none 0 0) := (blk_cell BK188.out 1).trans rfl
        have hfz29_0 := blk_frozen BK188.out 0
        have hfz29_1 := blk_frozen BK188.out 1
        have hcz30_0 : w17.cell? ⟨gb177, 0, none⟩ = some (.slice AW0 t170.length cW0) := (blk_cell BK177.out 0).trans rfl
        have hcz30_1 : w17.cell? ⟨gb177, 1, none⟩ = some (.slice AW1 t173.length cW1) := (blk_cell BK177.out 1).trans rfl
        have hfz30_0 := blk_frozen BK177.out 0
        have hfz30_1 := blk_frozen BK177.out 1
        go_wp2_with (first | ((with_reducible refine gate_callee (f := 46) rfl ?_); refine goesL_ (some 35) rfl rfl Try.func46 (by kernel_rfl) rfl #[.agg #[.slice Ao18 t181.length co18, .slice Ao21 t184.length co21], .agg #[.slice AW0 t170.length cW0, .slice AW1 t173.length cW1]] rfl (by (try simp only [List.map_toArray, List.map_cons, List.map_nil]); first | done | rfl | (simp only [List.length_drop, List.length_take]; rfl)) ?_; (with_reducible refine (laws_eqSample.calls k _ _ t181 _ _ t184 _ _ t170 _ _ t173 false _ ?side1 ?side2 ?side3 ?side4 ?side5 ?side6 ?side7 ?side8 A22.out).mono ?_); (case side1 => refine (Kd.S_reads' (e := 22) (base := w11.heap.size) (ok := fun k_ => ((some k_ ≠ (.slice Ao21 t184.length co21 : Value).ownBlock ∧ some k_ ≠ (.slice Ao10 t167.length co10 : Value).ownBlock) ∧ some k_ ≠ (.slice Ao15 t178.length co15 : Value).ownBlock)) (n := t181.length) (c := co18) ?_).2.2; exact (by (with_reducible repeat (first | apply Kd.S_alloc | apply Kd.S_drewN | apply Kd.S_drew)); exact (Kd.S_mono (Kd.S_far (p := ⟨gb188, 1, none⟩) (Kd.S_far (p := ⟨gb188, 0, none⟩) (Kd.S_types HO183.out BK188.out (by decide)) (fun _ hk => hk.2) (.slice Ao18 t181.length co18)) (fun _ hk => hk.2) (.slice Ao21 t184.length co21)) (fun _ h_ => h_.1)))); (case side2 => exact (Kd.S_reads' HO183.out).2.1); (case side3 => refine (Kd.R_reads' (e := 3) (base := w11.heap.size) (ok := fun k_ => ((True ∧ some k_ ≠ (.slice Ao10 t167.length co10 : Value).ownBlock) ∧ some k_ ≠ (.slice Ao15 t178.length co15 : Value).ownBlock)) (n := t184.length) (c := co21) ?_).2.2; exact (by (with_reducible repeat (first | apply Kd.R_alloc | apply Kd.R_drewN | apply Kd.R_drew)); exact (Kd.R_mono (Kd.R_far (p := ⟨gb188, 1, none⟩) (Kd.R_far (p := ⟨gb188, 0, none⟩) (Kd.R_types HO186.out BK188.out (by decide)) (fun _ hk => hk.2) (.slice Ao18 t181.length co18)) (fun _ hk => hk.2) (.slice Ao21 t184.length co21)) (fun _ h_ => h_.1)))); (case side4 => exact (Kd.R_reads' HO186.out).2.1); (case side5 => exact Kd.C_below HRW0.out (by repeat (first | (with_reducible first | exact HB.out | apply below_alloc | apply pw_below_drewN | apply below_drew1 | refine below_set ?_ GE177.out | refine below_set ?_ GE188.out) | exact HB.out))); (case side6 => exact HCW0.out); (case side7 => exact Kd.C_below HRW1.out (by repeat (first | (with_reducible first | exact HB.out | apply below_alloc | apply pw_below_drewN | apply below_drew1 | refine below_set ?_ GE177.out | refine below_set ?_ GE188.out) | exact HB.out))); (case side8 => exact HCW1.out); rintro e w31 ⟨rfl, hb⟩; refine ⟨_, rfl, ?_⟩; have n0_ := Aside0.mk (Kd.R_below (by (with_reducible repeat (first | apply Kd.R_alloc | apply Kd.R_drewN | apply Kd.R_drew)); exact (Kd.R_mono (Kd.R_far (p := ⟨gb188, 1, none⟩) (Kd.R_far (p := ⟨gb188, 0, none⟩) (Kd.R_types HO169.out BK188.out (by decide)) (fun _ hk => hk.2) (.slice Ao18 t181.length co18)) (fun _ hk => hk.2) (.slice Ao21 t184.length co21)) (fun _ h_ => h_.1))) hb); have n1_ := Aside0.mk (Kd.R_below (by (with_reducible repeat (first | apply Kd.R_alloc | apply Kd.R_drewN | apply Kd.R_drew)); exact (Kd.R_mono (Kd.R_far (p := ⟨gb188, 1, none⟩) (Kd.R_far (p := ⟨gb188, 0, none⟩) (Kd.R_types HO180.out BK188.out (by decide)) (fun _ hk => hk.2) (.slice Ao18 t181.length co18)) (fun _ hk => hk.2) (.slice Ao21 t184.length co21)) (fun _ h_ => h_.1))) hb); have n2_ := Aside0.mk (Kd.S_below (by (with_reducible repeat (first | apply Kd.S_alloc | apply Kd.S_drewN | apply Kd.S_drew)); exact (Kd.S_mono (Kd.S_far (p := ⟨gb188, 1, none⟩) (Kd.S_far (p := ⟨gb188, 0, none⟩) (Kd.S_types HO183.out BK188.out (by decide)) (fun _ hk => hk.2) (.slice Ao18 t181.length co18)) (fun _ hk => hk.2) (.slice Ao21 t184.length co21)) (fun _ h_ => h_.1))) hb); have n3_ := Aside0.mk (Kd.R_below (by (with_reducible repeat (first | apply Kd.R_alloc | apply Kd.R_drewN | apply Kd.R_drew)); exact (Kd.R_mono (Kd.R_far (p := ⟨gb188, 1, none⟩) (Kd.R_far (p := ⟨gb188, 0, none⟩) (Kd.R_types HO186.out BK188.out (by decide)) (fun _ hk => hk.2) (.slice Ao18 t181.length co18)) (fun _ hk => hk.2) (.slice Ao21 t184.length co21)) (fun _ h_ => h_.1))) hb); have n4_ := Aside0.mk (blk_below (g := gb177) (o := .cells #[.slice AW0 t170.length cW0, .slice AW1 t173.length cW1] 55 (0, 0)) (by (with_reducible repeat (first | refine blk_drewN ?_ _ | refine blk_drew ?_ | refine blk_alloc ?_ _)); refine blk_far ?_ NB177_188.out _; (with_reducible repeat (first | refine blk_drewN ?_ _ | refine blk_drew ?_ | refine blk_alloc ?_ _)); refine blk_far ?_ NB177_188.out _; (with_reducible repeat (first | refine blk_drewN ?_ _ | refine blk_drew ?_ | refine blk_alloc ?_ _)); exact BK177.out) hb); have n5_ := Aside0.mk (blk_below (g := gb188) (o := .cells #[.slice Ao18 t181.length co18, .slice Ao21 t184.length co21] 55 (0, 0)) (by (with_reducible repeat (first | refine blk_drewN ?_ _ | refine blk_drew ?_ | refine blk_alloc ?_ _)); refine blk_put (cs := #[.slice Ao18 t181.length co18, .slice none 0 0]) ?_ 1 _ rfl; (with_reducible repeat (first | refine blk_drewN ?_ _ | refine blk_drew ?_ | refine blk_alloc ?_ _)); refine blk_put (cs := #[.slice none 0 0, .slice none 0 0]) ?_ 0 _ rfl; (with_reducible repeat (first | refine blk_drewN ?_ _ | refine blk_drew ?_ | refine blk_alloc ?_ _)); exact BK188.out) hb); have n6_ := Aside0.mk (below_step (by repeat (first | (with_reducible first | exact HB.out | apply below_alloc | apply pw_below_drewN | apply below_drew1 | refine below_set ?_ GE177.out | refine below_set ?_ GE188.out) | exact HB.out)) hb); clear HO169; clear HO180; clear HO183; clear HO186; clear BK177; clear BK188; clear HB; have HO169 := n0_; have HO180 := n1_; have HO183 := n2_; have HO186 := n3_; have BK177 := n4_; have BK188 := n5_; have HB := n6_; clear n0_ n1_ n2_ n3_ n4_ n5_ n6_; (try clear hb); (try clear hb2); (try clear hk); (try clear hi)))
        go_meet
        case rel => exact ⟨_, (true), (by first | rfl | (simp; done) | (simp [*]; done)), H', ⟨by first | omega | exact Nat.le_refl _⟩, ⟨by (with_reducible repeat (first | apply Kd.R_alloc | apply Kd.R_drewN | apply Kd.R_drew)); exact Kd.R_mono HO180.out (fun _ hk => hk.2)⟩, ⟨by (with_reducible repeat (first | apply Kd.S_alloc | apply Kd.S_drewN | apply Kd.S_drew)); exact Kd.S_mono HO183.out (fun _ hk => by first|exact ⟨hk.2, hk.1.1⟩|grind)⟩, ⟨by (with_reducible repeat (first | apply Kd.R_alloc | apply Kd.R_drewN | apply Kd.R_drew)); exact Kd.R_mono HO186.out (fun _ hk => hk.2)⟩, ⟨by (with_reducible repeat (first | refine blk_drewN ?_ _ | refine blk_drew ?_ | refine blk_alloc ?_ _)); exact BK177.out⟩, ⟨by (with_reducible repeat (first | refine blk_drewN ?_ _ | refine blk_drew ?_ | refine blk_alloc ?_ _)); exact BK188.out⟩, ⟨by repeat (first | (with_reducible first | exact HB.out | apply below_alloc | apply pw_below_drewN | apply below_drew1 | refine below_set ?_ GE177.out | refine below_set ?_ GE188.out) | exact HB.out)⟩⟩
    case rest =>
      clear HC8
      try clear c1
      try clear c2
      try clear p2
      try clear c3
      try clear c3b0
      try clear c3b1
      try clear c4
      try clear c5
      try clear c14
      try clear c16
      try clear c19
      try clear c23
      try clear c24
      try clear c28
      try clear hcz13_0
      try clear hcz13_1
      try clear hcz20_0
      try clear hcz20_1
      try clear hcz25_0
      try clear hcz25_1
      try clear hcz26_0
      try clear hcz26_1
      try clear hcz29_0
      try clear hcz29_1
      try clear hcz30_0
      try clear hcz30_1
      try clear hfz13_0
      try clear hfz13_1
      try clear hfz20_0
      try clear hfz20_1
      try clear hfz25_0
      try clear hfz25_1
      try clear hfz26_0
      try clear hfz26_1
      try clear hfz29_0
      try clear hfz29_1
      try clear hfz30_0
      try clear hfz30_1
      obtain ⟨kq, x41_7, rfl, HA, HJ7, HO_7, HO_189000, HO_189001, BK177, BK188, HB⟩ := hcut
      cases kq with
      | zero => exact absurd HA.out (by simp [laws_FnExactTableSample.j0])
      | succ kj7 =>
        have H := HA.out
        clear HA
        simp only [laws_FnExactTableSample.j0] at H
        by_cases c32 : x41_7 = true
        · subst c32
          have H1 : (some false) = some r := by rw [if_pos rfl] at H; exact H
          clear H
          have H := H1
          clear H1
          obtain rfl := Option.some.inj H
          go_wp2
          go_ret
          refine And.imp_right (fun h_ => below_step HB0.out h_) ?_
          exact ⟨by first | rfl | (simp [errW_none, errW_some] <;> rfl) | (simp [*, errW_none, errW_some] <;> rfl), by repeat (first | (with_reducible first | exact HB.out | apply below_alloc | apply pw_below_drewN | apply below_drew1 | refine below_set ?_ GE177.out | refine below_set ?_ GE188.out) | exact HB.out)⟩
        · replace c32 := Bool.eq_false_iff.mpr c32
          subst c32
          have H1 : ((laws_toIntS.f kj7 l1).bind fun t190 => ((laws_eqIntS.f kj7 t178 t190).bind fun t193 => (if t193 = true then ((laws_markIntS.f kj7 t178 1).bind fun bt194 => (if bt194.1 < 0 then (laws_FnExactTableSample.j1 kj7 a0 l1 t176 true t170 t173 t181 t184) else ((laws_eqSample.f kj7 t181 t184 t170 t173).bind fun t196 => (if t196 = true then (laws_FnExactTableSample.j1 kj7 a0 l1 t176 (t187 != t176) t170 t173 t181 t184) else (laws_FnExactTableSample.j1 kj7 a0 l1 t176 true t170 t173 t181 t184))))) else (some false)))) = some r := by rw [if_neg (show ¬ (false = true) by decide)] at H; exact H
          clear H
          have H := H1
          clear H1
          replace H := Option.bind_eq_some_iff.mp H
          obtain ⟨t190, A330, H⟩ := H
          replace H : ((laws_eqIntS.f kj7 t178 t190).bind fun t193 => (if t193 = true then ((laws_markIntS.f kj7 t178 1).bind fun bt194 => (if bt194.1 < 0 then (laws_FnExactTableSample.j1 kj7 a0 l1 t176 true t170 t173 t181 t184) else ((laws_eqSample.f kj7 t181 t184 t170 t173).bind fun t196 => (if t196 = true then (laws_FnExactTableSample.j1 kj7 a0 l1 t176 (t187 != t176) t170 t173 t181 t184) else (laws_FnExactTableSample.j1 kj7 a0 l1 t176 true t170 t173 t181 t184))))) else (some false))) = some r := H
          have A33 := Aside0.mk A330
          clear A330
          replace H := Option.bind_eq_some_iff.mp H
          obtain ⟨t193, A340, H⟩ := H
          replace H : (if t193 = true then ((laws_markIntS.f kj7 t178 1).bind fun bt194 => (if bt194.1 < 0 then (laws_FnExactTableSample.j1 kj7 a0 l1 t176 true t170 t173 t181 t184) else ((laws_eqSample.f kj7 t181 t184 t170 t173).bind fun t196 => (if t196 = true then (laws_FnExactTableSample.j1 kj7 a0 l1 t176 (t187 != t176) t170 t173 t181 t184) else (laws_FnExactTableSample.j1 kj7 a0 l1 t176 true t170 t173 t181 t184))))) else (some false)) = some r := H
          have A34 := Aside0.mk A340
          clear A340
          by_cases c35 : t193 = true
          · subst c35
            have H1 : ((laws_markIntS.f kj7 t178 1).bind fun bt194 => (if bt194.1 < 0 then (laws_FnExactTableSample.j1 kj7 a0 l1 t176 true t170 t173 t181 t184) else ((laws_eqSample.f kj7 t181 t184 t170 t173).bind fun t196 => (if t196 = true then (laws_FnExactTableSample.j1 kj7 a0 l1 t176 (t187 != t176) t170 t173 t181 t184) else (laws_FnExactTableSample.j1 kj7 a0 l1 t176 true t170 t173 t181 t184))))) = some r := by rw [if_pos rfl] at H; exact H
            clear H
            have H := H1
            clear H1
            replace H := Option.bind_eq_some_iff.mp H
            obtain ⟨⟨t194, t195⟩, A360, H⟩ := H
            replace H : (if t194 < 0 then (laws_FnExactTableSample.j1 kj7 a0 l1 t176 true t170 t173 t181 t184) else ((laws_eqSample.f kj7 t181 t184 t170 t173).bind fun t196 => (if t196 = true then (laws_FnExactTableSample.j1 kj7 a0 l1 t176 (t187 != t176) t170 t173 t181 t184) else (laws_FnExactTableSample.j1 kj7 a0 l1 t176 true t170 t173 t181 t184)))) = some r := H
            have A36 := Aside0.mk A360
            clear A360
            have HC37 := Aside0.mk H
            clear H
            go_upto_region 12 with (first | ((with_reducible refine gate_callee (f := 16) rfl ?_); refine goesL_ (some 44) rfl rfl Try.func16 (by kernel_rfl) rfl #[.slice A1 l1.length c1] rfl (by (try simp only [List.map_toArray, List.map_cons, List.map_nil]); first | done | rfl | (simp only [List.length_drop, List.length_take]; rfl)) ?_; (with_reducible refine (laws_toIntS.calls kj7 _ _ l1 t190 _ ?side1 ?side2 A33.out).mono ?_); (case side1 => repeat (first | exact (Kd.C_below HR1.out HB.out) | (with_reducible refine Kd.C_alloc ?_ _) | (with_reducible refine Kd.C_drewN ?_ _) | (with_reducible refine Kd.C_drew ?_))); (case side2 => exact HC1.out); rintro e w38 ⟨v191, rfl, ho0, hb⟩; refine ⟨_, rfl, ?_⟩; have n0_ := Aside0.mk (Kd.R_elder' (by (with_reducible repeat (first | apply Kd.R_alloc | apply Kd.R_drewN | apply Kd.R_drew)); exact HO_7.out) (Kd.R_base ho0) hb); have n1_ := Aside0.mk (Kd.S_elder' (by (with_reducible repeat (first | apply Kd.S_alloc | apply Kd.S_drewN | apply Kd.S_drew)); exact HO_189000.out) (Kd.R_base ho0) hb); have n2_ := Aside0.mk (Kd.R_elder' (by (with_reducible repeat (first | apply Kd.R_alloc | apply Kd.R_drewN | apply Kd.R_drew)); exact HO_189001.out) (Kd.R_base ho0) hb); have n3_ := Aside0.mk (Kd.R_lower (Kd.R_new' (Kd.R_new' ho0 (Kd.R_lt (by (with_reducible repeat (first | apply Kd.R_alloc | apply Kd.R_drewN | apply Kd.R_drew)); exact HO_7.out))) (Kd.R_lt (by (with_reducible repeat (first | apply Kd.R_alloc | apply Kd.R_drewN | apply Kd.R_drew)); exact HO_189001.out))) (below_size (by repeat (first | (with_reducible first | exact HB.out | apply below_alloc | apply pw_below_drewN | apply below_drew1 | refine below_set ?_ GE177.out | refine below_set ?_ GE188.out) | exact HB.out)))); have n4_ := Aside0.mk (blk_below (g := gb177) (o := .cells #[.slice AW0 t170.length cW0, .slice AW1 t173.length cW1] 55 (0, 0)) (by (with_reducible repeat (first | refine blk_drewN ?_ _ | refine blk_drew ?_ | refine blk_alloc ?_ _)); exact BK177.out) hb); have n5_ := Aside0.mk (blk_below (g := gb188) (o := .cells #[.slice Ao18 t181.length co18, .slice Ao21 t184.length co21] 55 (0, 0)) (by (with_reducible repeat (first | refine blk_drewN ?_ _ | refine blk_drew ?_ | refine blk_alloc ?_ _)); exact BK188.out) hb); have n6_ := Aside0.mk (below_step (by repeat (first | (with_reducible first | exact HB.out | apply below_alloc | apply pw_below_drewN | apply below_drew1 | refine below_set ?_ GE177.out | refine below_set ?_ GE188.out) | exact HB.out)) hb); clear HO_7; clear HO_189000; clear HO_189001; clear BK177; clear BK188; clear HB; have HO_7 := n0_; have HO_189000 := n1_; have HO_189001 := n2_; have HO192 := n3_; have BK177 := n4_; have BK188 := n5_; have HB := n6_; clear n0_ n1_ n2_ n3_ n4_ n5_ n6_; (try clear hb); (try clear hb2); (try clear hk); (try clear hi); (try clear ho0); obtain ⟨Ao39, co39, eo39⟩ := Kd.R_slice HO192.out; subst eo39) | ((with_reducible refine gate_callee (f := 18) rfl ?_); refine goesL_ (some 45) rfl rfl Try.func18 (by kernel_rfl) rfl #[.slice Ao15 t178.length co15, .slice Ao39 t190.length co39] rfl (by (try simp only [List.map_toArray, List.map_cons, List.map_nil]); first | done | rfl | (simp only [List.length_drop, List.length_take]; rfl)) ?_; (with_reducible refine (laws_eqIntS.calls kj7 _ _ t178 _ _ t190 true _ ?side1 ?side2 ?side3 ?side4 A34.out).mono ?_); (case side1 => repeat (first | exact (Kd.R_reads' HO_7.out).2.2 | (with_reducible refine Kd.C_alloc ?_ _) | (with_reducible refine Kd.C_drewN ?_ _) | (with_reducible refine Kd.C_drew ?_))); (case side2 => exact (Kd.R_reads' HO_7.out).2.1); (case side3 => repeat (first | exact (Kd.R_reads' HO192.out).2.2 | (with_reducible refine Kd.C_alloc ?_ _) | (with_reducible refine Kd.C_drewN ?_ _) | (with_reducible refine Kd.C_drew ?_))); (case side4 => exact (Kd.R_reads' HO192.out).2.1); rintro e w' ⟨rfl, ⟨nd, rfl⟩⟩; refine ⟨_, rfl, ?_⟩) | ((with_reducible refine gate_callee (f := 21) rfl ?_); refine goesL_ (some 49) rfl rfl Try.func21 (by kernel_rfl) rfl #[.slice Ao15 t178.length co15, .int .i64 1] rfl (by (try simp only [List.map_toArray, List.map_cons, List.map_nil]); first | done | rfl | (simp only [List.length_drop, List.length_take]; rfl)) ?_; (with_reducible refine (laws_markIntS.calls kj7 (fun k_ => some k_ = (.slice Ao15 t178.length co15 : Value).ownBlock) (.slice Ao15 t178.length co15) t178 1 t194 t195 w11 _ ?side1 ?side2 A36.out).mono ?_); (case side1 => repeat (first | (with_reducible first | exact HB.out | apply below_alloc | apply pw_below_drewN | apply below_drew1 | refine below_set ?_ GE177.out | refine below_set ?_ GE188.out) | exact HB.out)); (case side2 => exact Kd.R_tight rfl HO_7.out); rintro e w40 ⟨rfl, hy0, hb, hkp⟩; refine ⟨_, rfl, ?_⟩; have n0_ := Aside0.mk (Kd.R_reok rfl hy0 (fun k_ e_ => HO_7.out.1 k_ e_)); have n1_ := Aside0.mk (Kd.S_mono (ok' := fun k_ => some k_ ≠ (.slice Ao15 t178.length co15 : Value).ownBlock ∧ some k_ ≠ (.slice Ao21 t184.length co21 : Value).ownBlock ∧ some k_ ≠ (.slice Ao39 t190.length co39 : Value).ownBlock) (Kd.S_keptB (HO_189000.out) hkp (fun k_ hk_ hs_ => (hk_.1.1) hs_)) (fun k_ hk_ => by first|exact ⟨hk_.1.1.1, hk_.1.1.2, hk_.1.2⟩|grind)); have n2_ := Aside0.mk (Kd.R_mono (ok' := fun k_ => some k_ ≠ (.slice Ao15 t178.length co15 : Value).ownBlock ∧ some k_ ≠ (.slice Ao39 t190.length co39 : Value).ownBlock) (Kd.R_keptB (HO_189001.out) hkp (fun k_ hk_ hs_ => (hk_.1) hs_)) (fun k_ hk_ => by first|exact ⟨hk_.1.1, hk_.1.2⟩|grind)); have n3_ := Aside0.mk (blk_kept (by (with_reducible repeat (first | refine blk_drewN ?_ _ | refine blk_drew ?_ | refine blk_alloc ?_ _)); exact BK177.out) hkp (fun hs_ => (fun e_ => (Kd.R_ne HO_7.out BK177.out (by decide)) e_) hs_)); have n4_ := Aside0.mk (blk_kept (by (with_reducible repeat (first | refine blk_drewN ?_ _ | refine blk_drew ?_ | refine blk_alloc ?_ _)); exact BK188.out) hkp (fun hs_ => (fun e_ => (Kd.R_ne HO_7.out BK188.out (by decide)) e_) hs_)); have n5_ := Aside0.mk (Kd.R_mono (ok' := fun k_ => some k_ ≠ (.slice Ao15 t178.length co15 : Value).ownBlock ∧ some k_ ≠ (.slice Ao21 t184.length co21 : Value).ownBlock) (Kd.R_keptB (HO192.out) hkp (fun k_ hk_ hs_ => (hk_.1.2) hs_)) (fun k_ hk_ => by first|exact ⟨hk_.1.1.2, hk_.1.2⟩|grind)); have n6_ := Aside0.mk (hb); clear HO_7; clear HO_189000; clear HO_189001; clear BK177; clear BK188; clear HO192; clear HB; have HO_7 := n0_; have HO_189000 := n1_; have HO_189001 := n2_; have BK177 := n3_; have BK188 := n4_; have HO192 := n5_; have HB := n6_; clear n0_ n1_ n2_ n3_ n4_ n5_ n6_; (try clear hb); (try clear hkp); (try clear hy0)))
            (try simp only [Act.put, List.setIfInBounds_toArray, List.set_cons_zero, List.set_cons_succ])
            go_cut [62] (fun v62 wc => ∃ (kq : Nat) (x62_36 : Bool), v62 = .bool x62_36 ∧ Aside0 (laws_FnExactTableSample.j1 kq a0 l1 t176 x62_36 t170 t173 t181 t184 = some r) ∧ Aside0 (kq ≤ kj7) ∧ Aside0 (Kd.S (Kd.slice 3 (Kd.int .i64)) 22 wc w11.heap.size (fun k_ => some k_ ≠ ((.slice Ao21 t184.length co21) : Value).ownBlock) (.slice Ao18 t181.length co18) t181) ∧ Aside0 (Kd.R (Kd.int .i64) 3 wc w11.heap.size (fun _ => True) (.slice Ao21 t184.length co21) t184) ∧ Aside0 (wc.heap[gb177]? = some (.cells #[(.slice AW0 t170.length cW0), (.slice AW1 t173.length cW1)] 55 (0, 0))) ∧ Aside0 (wc.heap[gb188]? = some (.cells #[(.slice Ao18 t181.length co18), (.slice Ao21 t184.length co21)] 55 (0, 0))) ∧ Aside0 (Below w11.heap.size w11 wc))
            case first =>
              have H := HC37.out
              clear HC37
              by_cases c41 : t194 < 0
              · rw [if_pos c41] at H
                have c41b0 : decide (t194 < 0) = true := decide_eq_true c41
                clear c41
                (first | rw [c41b0] | rw [c41b1] | (simp only [i64_w, i32_w]; rw [c41b0]) | skip)
                have H' := Aside0.mk H
                clear H
                go_wp2
                go_meet
                case rel => exact ⟨_, (true), (by first | rfl | (simp; done) | (simp [*]; done)), H', ⟨by have := HJ7.out; first | omega | exact Nat.le_refl _⟩, ⟨by (with_reducible repeat (first | apply Kd.S_alloc | apply Kd.S_drewN | apply Kd.S_drew)); exact Kd.S_mono HO_189000.out (fun _ hk => hk.2.1)⟩, ⟨by (with_reducible repeat (first | apply Kd.R_alloc | apply Kd.R_drewN | apply Kd.R_drew)); exact Kd.R_mono HO_189001.out (fun _ hk => trivial)⟩, ⟨by (with_reducible repeat (first | refine blk_drewN ?_ _ | refine blk_drew ?_ | refine blk_alloc ?_ _)); exact BK177.out⟩, ⟨by (with_reducible repeat (first | refine blk_drewN ?_ _ | refine blk_drew ?_ | refine blk_alloc ?_ _)); exact BK188.out⟩, ⟨by repeat (first | (with_reducible first | exact HB.out | apply below_alloc | apply pw_below_drewN | apply below_drew1 | refine below_set ?_ GE177.out | refine below_set ?_ GE188.out) | exact HB.out)⟩⟩
              · rw [if_neg c41] at H
                have c41b0 : decide (t194 < 0) = false := decide_eq_false c41
                clear c41
                (first | rw [c41b0] | rw [c41b1] | (simp only [i64_w, i32_w]; rw [c41b0]) | skip)
                replace H := Option.bind_eq_some_iff.mp H
                obtain ⟨t196, A420, H⟩ := H
                replace H : (if t196 = true then (laws_FnExactTableSample.j1 kj7 a0 l1 t176 (t187 != t176) t170 t173 t181 t184) else (laws_FnExactTableSample.j1 kj7 a0 l1 t176 true t170 t173 t181 t184)) = some r := H
                have A42 := Aside0.mk A420
                clear A420
                by_cases c43 : t196 = true
                · subst c43
                  have H1 : (laws_FnExactTableSample.j1 kj7 a0 l1 t176 (t187 != t176) t170 t173 t181 t184) = some r := by rw [if_pos rfl] at H; exact H
                  clear H
                  have H := H1
                  clear H1
                  have H' := Aside0.mk H
                  clear H
                  have hnb44 := NB188_177.out
                  have hnc44 := NB177_188.out
                  have hcz45_0 : w40.cell? ⟨gb188, 0, none⟩ = some (.slice Ao18 t181.length co18) := (blk_cell BK188.out 0).trans rfl
                  have hcz45_1 : w40.cell? ⟨gb188, 1, none⟩ = some (.slice Ao21 t184.length co21) := (blk_cell BK188.out 1).trans rfl
                  have hfz45_0 := blk_frozen BK188.out 0
                  have hfz45_1 := blk_frozen BK188.out 1
                  have hcz46_0 : w40.cell? ⟨gb177, 0, none⟩ = some (.slice AW0 t170.length cW0) := (blk_cell BK177.out 0).trans rfl
                  have hcz46_1 : w40.cell? ⟨gb177, 1, none⟩ = some (.slice AW1 t173.length cW1) := (blk_cell BK177.out 1).trans rfl
                  have hfz46_0 := blk_frozen BK177.out 0
                  have hfz46_1 := blk_frozen BK177.out 1
                  go_wp2_with (first | (go_at_call 46; (with_reducible refine (laws_eqSample.calls kj7 _ _ t181 _ _ t184 _ _ t170 _ _ t173 true _ ?side1 ?side2 ?side3 ?side4 ?side5 ?side6 ?side7 ?side8 A42.out).mono ?_); (case side1 => repeat (first | exact (Kd.S_reads' HO_189000.out).2.2 | (with_reducible refine Kd.C_alloc ?_ _) | (with_reducible refine Kd.C_drewN ?_ _) | (with_reducible refine Kd.C_drew ?_))); (case side2 => exact (Kd.S_reads' HO_189000.out).2.1); (case side3 => repeat (first | exact (Kd.R_reads' HO_189001.out).2.2 | (with_reducible refine Kd.C_alloc ?_ _) | (with_reducible refine Kd.C_drewN ?_ _) | (with_reducible refine Kd.C_drew ?_))); (case side4 => exact (Kd.R_reads' HO_189001.out).2.1); (case side5 => repeat (first | exact (Kd.C_below HRW0.out HB.out) | (with_reducible refine Kd.C_alloc ?_ _) | (with_reducible refine Kd.C_drewN ?_ _) | (with_reducible refine Kd.C_drew ?_))); (case side6 => exact HCW0.out); (case side7 => repeat (first | exact (Kd.C_below HRW1.out HB.out) | (with_reducible refine Kd.C_alloc ?_ _) | (with_reducible refine Kd.C_drewN ?_ _) | (with_reducible refine Kd.C_drew ?_))); (case side8 => exact HCW1.out); rintro e w47 ⟨rfl, hb⟩; have n0_ := Aside0.mk (Kd.R_below (by (with_reducible repeat (first | apply Kd.R_alloc | apply Kd.R_drewN | apply Kd.R_drew)); exact HO_7.out) hb); have n1_ := Aside0.mk (Kd.S_below (by (with_reducible repeat (first | apply Kd.S_alloc | apply Kd.S_drewN | apply Kd.S_drew)); exact HO_189000.out) hb); have n2_ := Aside0.mk (Kd.R_below (by (with_reducible repeat (first | apply Kd.R_alloc | apply Kd.R_drewN | apply Kd.R_drew)); exact HO_189001.out) hb); have n3_ := Aside0.mk (Kd.R_below (by (with_reducible repeat (first | apply Kd.R_alloc | apply Kd.R_drewN | apply Kd.R_drew)); exact HO192.out) hb); have n4_ := Aside0.mk (blk_below (g := gb177) (o := .cells #[.slice AW0 t170.length cW0, .slice AW1 t173.length cW1] 55 (0, 0)) (by (with_reducible repeat (first | refine blk_drewN ?_ _ | refine blk_drew ?_ | refine blk_alloc ?_ _)); exact BK177.out) hb); have n5_ := Aside0.mk (blk_below (g := gb188) (o := .cells #[.slice Ao18 t181.length co18, .slice Ao21 t184.length co21] 55 (0, 0)) (by (with_reducible repeat (first | refine blk_drewN ?_ _ | refine blk_drew ?_ | refine blk_alloc ?_ _)); exact BK188.out) hb); have n6_ := Aside0.mk (below_step (by repeat (first | (with_reducible first | exact HB.out | apply below_alloc | apply pw_below_drewN | apply below_drew1 | refine below_set ?_ GE177.out | refine below_set ?_ GE188.out) | exact HB.out)) hb); clear HO_7; clear HO_189000; clear HO_189001; clear HO192; clear BK177; clear BK188; clear HB; have HO_7 := n0_; have HO_189000 := n1_; have HO_189001 := n2_; have HO192 := n3_; have BK177 := n4_; have BK188 := n5_; have HB := n6_; clear n0_ n1_ n2_ n3_ n4_ n5_ n6_; (try clear hb); (try clear hb2); (try clear hk); (try clear hi)))
                  go_meet
                  case rel => exact ⟨_, ((t187 != t176)), (by first | rfl | (simp; done) | (simp [*]; done)), H', ⟨by have := HJ7.out; first | omega | exact Nat.le_refl _⟩, ⟨by (with_reducible repeat (first | apply Kd.S_alloc | apply Kd.S_drewN | apply Kd.S_drew)); exact Kd.S_mono HO_189000.out (fun _ hk => hk.2.1)⟩, ⟨by (with_reducible repeat (first | apply Kd.R_alloc | apply Kd.R_drewN | apply Kd.R_drew)); exact Kd.R_mono HO_189001.out (fun _ hk => trivial)⟩, ⟨by (with_reducible repeat (first | refine blk_drewN ?_ _ | refine blk_drew ?_ | refine blk_alloc ?_ _)); exact BK177.out⟩, ⟨by (with_reducible repeat (first | refine blk_drewN ?_ _ | refine blk_drew ?_ | refine blk_alloc ?_ _)); exact BK188.out⟩, ⟨by repeat (first | (with_reducible first | exact HB.out | apply below_alloc | apply pw_below_drewN | apply below_drew1 | refine below_set ?_ GE177.out | refine below_set ?_ GE188.out) | exact HB.out)⟩⟩
                · replace c43 := Bool.eq_false_iff.mpr c43
                  subst c43
                  have H1 : (laws_FnExactTableSample.j1 kj7 a0 l1 t176 true t170 t173 t181 t184) = some r := by rw [if_neg (show ¬ (false = true) by decide)] at H; exact H
                  clear H
                  have H := H1
                  clear H1
                  have H' := Aside0.mk H
                  clear H
                  have hnb48 := NB188_177.out
                  have hnc48 := NB177_188.out
                  have hcz49_0 : w40.cell? ⟨gb188, 0, none⟩ = some (.slice Ao18 t181.length co18) := (blk_cell BK188.out 0).trans rfl
                  have hcz49_1 : w40.cell? ⟨gb188, 1, none⟩ = some (.slice Ao21 t184.length co21) := (blk_cell BK188.out 1).trans rfl
                  have hfz49_0 := blk_frozen BK188.out 0
                  have hfz49_1 := blk_frozen BK188.out 1
                  have hcz50_0 : w40.cell? ⟨gb177, 0, none⟩ = some (.slice AW0 t170.length cW0) := (blk_cell BK177.out 0).trans rfl
                  have hcz50_1 : w40.cell? ⟨gb177, 1, none⟩ = some (.slice AW1 t173.length cW1) := (blk_cell BK177.out 1).trans rfl
                  have hfz50_0 := blk_frozen BK177.out 0
                  have hfz50_1 := blk_frozen BK177.out 1
                  go_wp2_with (first | (go_at_call 46; (with_reducible refine (laws_eqSample.calls kj7 _ _ t181 _ _ t184 _ _ t170 _ _ t173 false _ ?side1 ?side2 ?side3 ?side4 ?side5 ?side6 ?side7 ?side8 A42.out).mono ?_); (case side1 => repeat (first | exact (Kd.S_reads' HO_189000.out).2.2 | (with_reducible refine Kd.C_alloc ?_ _) | (with_reducible refine Kd.C_drewN ?_ _) | (with_reducible refine Kd.C_drew ?_))); (case side2 => exact (Kd.S_reads' HO_189000.out).2.1); (case side3 => repeat (first | exact (Kd.R_reads' HO_189001.out).2.2 | (with_reducible refine Kd.C_alloc ?_ _) | (with_reducible refine Kd.C_drewN ?_ _) | (with_reducible refine Kd.C_drew ?_))); (case side4 => exact (Kd.R_reads' HO_189001.out).2.1); (case side5 => repeat (first | exact (Kd.C_below HRW0.out HB.out) | (with_reducible refine Kd.C_alloc ?_ _) | (with_reducible refine Kd.C_drewN ?_ _) | (with_reducible refine Kd.C_drew ?_))); (case side6 => exact HCW0.out); (case side7 => repeat (first | exact (Kd.C_below HRW1.out HB.out) | (with_reducible refine Kd.C_alloc ?_ _) | (with_reducible refine Kd.C_drewN ?_ _) | (with_reducible refine Kd.C_drew ?_))); (case side8 => exact HCW1.out); rintro e w51 ⟨rfl, hb⟩; have n0_ := Aside0.mk (Kd.R_below (by (with_reducible repeat (first | apply Kd.R_alloc | apply Kd.R_drewN | apply Kd.R_drew)); exact HO_7.out) hb); have n1_ := Aside0.mk (Kd.S_below (by (with_reducible repeat (first | apply Kd.S_alloc | apply Kd.S_drewN | apply Kd.S_drew)); exact HO_189000.out) hb); have n2_ := Aside0.mk (Kd.R_below (by (with_reducible repeat (first | apply Kd.R_alloc | apply Kd.R_drewN | apply Kd.R_drew)); exact HO_189001.out) hb); have n3_ := Aside0.mk (Kd.R_below (by (with_reducible repeat (first | apply Kd.R_alloc | apply Kd.R_drewN | apply Kd.R_drew)); exact HO192.out) hb); have n4_ := Aside0.mk (blk_below (g := gb177) (o := .cells #[.slice AW0 t170.length cW0, .slice AW1 t173.length cW1] 55 (0, 0)) (by (with_reducible repeat (first | refine blk_drewN ?_ _ | refine blk_drew ?_ | refine blk_alloc ?_ _)); exact BK177.out) hb); have n5_ := Aside0.mk (blk_below (g := gb188) (o := .cells #[.slice Ao18 t181.length co18, .slice Ao21 t184.length co21] 55 (0, 0)) (by (with_reducible repeat (first | refine blk_drewN ?_ _ | refine blk_drew ?_ | refine blk_alloc ?_ _)); exact BK188.out) hb); have n6_ := Aside0.mk (below_step (by repeat (first | (with_reducible first | exact HB.out | apply below_alloc | apply pw_below_drewN | apply below_drew1 | refine below_set ?_ GE177.out | refine below_set ?_ GE188.out) | exact HB.out)) hb); clear HO_7; clear HO_189000; clear HO_189001; clear HO192; clear BK177; clear BK188; clear HB; have HO_7 := n0_; have HO_189000 := n1_; have HO_189001 := n2_; have HO192 := n3_; have BK177 := n4_; have BK188 := n5_; have HB := n6_; clear n0_ n1_ n2_ n3_ n4_ n5_ n6_; (try clear hb); (try clear hb2); (try clear hk); (try clear hi)))
                  go_meet
                  case rel => exact ⟨_, (true), (by first | rfl | (simp; done) | (simp [*]; done)), H', ⟨by have := HJ7.out; first | omega | exact Nat.le_refl _⟩, ⟨by (with_reducible repeat (first | apply Kd.S_alloc | apply Kd.S_drewN | apply Kd.S_drew)); exact Kd.S_mono HO_189000.out (fun _ hk => hk.2.1)⟩, ⟨by (with_reducible repeat (first | apply Kd.R_alloc | apply Kd.R_drewN | apply Kd.R_drew)); exact Kd.R_mono HO_189001.out (fun _ hk => trivial)⟩, ⟨by (with_reducible repeat (first | refine blk_drewN ?_ _ | refine blk_drew ?_ | refine blk_alloc ?_ _)); exact BK177.out⟩, ⟨by (with_reducible repeat (first | refine blk_drewN ?_ _ | refine blk_drew ?_ | refine blk_alloc ?_ _)); exact BK188.out⟩, ⟨by repeat (first | (with_reducible first | exact HB.out | apply below_alloc | apply pw_below_drewN | apply below_drew1 | refine below_set ?_ GE177.out | refine below_set ?_ GE188.out) | exact HB.out)⟩⟩
            case rest =>
              clear HC37
              try clear c1
              try clear c2
              try clear p2
              try clear c3
              try clear c3b0
              try clear c3b1
              try clear c4
              try clear c5
              try clear c14
              try clear c16
              try clear c18
              try clear c19
              try clear c21
              try clear c23
              try clear c24
              try clear c28
              try clear c32
              try clear c35
              try clear c41
              try clear c41b0
              try clear c43
              try clear c44
              try clear c46
              try clear c48
              try clear c49
              try clear c50
              try clear hcz13_0
              try clear hcz13_1
              try clear hcz20_0
              try clear hcz20_1
              try clear hcz25_0
              try clear hcz25_1
              try clear hcz26_0
              try clear hcz26_1
              try clear hcz29_0
              try clear hcz29_1
              try clear hcz30_0
              try clear hcz30_1
              try clear hcz45_0
              try clear hcz45_1
              try clear hcz46_0
              try clear hcz46_1
              try clear hcz49_0
              try clear hcz49_1
              try clear hcz50_0
              try clear hcz50_1
              try clear hfz13_0
              try clear hfz13_1
              try clear hfz20_0
              try clear hfz20_1
              try clear hfz25_0
              try clear hfz25_1
              try clear hfz26_0
              try clear hfz26_1
              try clear hfz29_0
              try clear hfz29_1
              try clear hfz30_0
              try clear hfz30_1
              try clear hfz45_0
              try clear hfz45_1
              try clear hfz46_0
              try clear hfz46_1
              try clear hfz49_0
              try clear hfz49_1
              try clear hfz50_0
              try clear hfz50_1
              try clear p2
              obtain ⟨kq, x62_36, rfl, HA, HJ36, HO_189000, HO_189001, BK177, BK188, HB⟩ := hcut
              cases kq with
              | zero => exact absurd HA.out (by simp [laws_FnExactTableSample.j1])
              | succ kj36 =>
                have H := HA.out
                clear HA
                simp only [laws_FnExactTableSample.j1] at H
                by_cases c52 : x62_36 = true
                · subst c52
                  have H1 : (some false) = some r := by rw [if_pos rfl] at H; exact H
                  clear H
                  have H := H1
                  clear H1
                  obtain rfl := Option.some.inj H
                  go_wp2
                  go_ret
                  refine And.imp_right (fun h_ => below_step HB0.out h_) ?_
                  exact ⟨by first | rfl | (simp [errW_none, errW_some] <;> rfl) | (simp [*, errW_none, errW_some] <;> rfl), by repeat (first | (with_reducible first | exact HB.out | apply below_alloc | apply pw_below_drewN | apply below_drew1 | refine below_set ?_ GE177.out | refine below_set ?_ GE188.out) | exact HB.out)⟩
                · replace c52 := Bool.eq_false_iff.mpr c52
                  subst c52
                  have H1 : ((laws_markSample.f kj36 t181 t184 1).bind fun bt197 => ((laws_heldSample.f kj36 bt197.2.1 bt197.2.2 1).bind fun t200 => (if t200 < 0 then (some false) else (if t200 = bt197.1 then ((laws_toIntS.f kj36 l1).bind fun t201 => ((impl_TableSample.f kj36 a0 t201).bind fun bt204 => ((laws_eqSample.f kj36 bt204.1 bt204.2.1 t170 t173).bind fun t212 => (if t212 = true then (laws_FnExactTableSample.j2 kj36 bt197.1 (bt204.2.2 != t176) bt197.2.1 bt197.2.2) else (laws_FnExactTableSample.j2 kj36 bt197.1 true bt197.2.1 bt197.2.2))))) else (some false))))) = some r := by rw [if_neg (show ¬ (false = true) by decide)] at H; exact H
                  clear H
                  have H := H1
                  clear H1
                  replace H := Option.bind_eq_some_iff.mp H
                  obtain ⟨⟨t197, t198, t199⟩, A530, H⟩ := H
                  replace H : ((laws_heldSample.f kj36 t198 t199 1).bind fun t200 => (if t200 < 0 then (some false) else (if t200 = t197 then ((laws_toIntS.f kj36 l1).bind fun t201 => ((impl_TableSample.f kj36 a0 t201).bind fun bt204 => ((laws_eqSample.f kj36 bt204.1 bt204.2.1 t170 t173).bind fun t212 => (if t212 = true then (laws_FnExactTableSample.j2 kj36 t197 (bt204.2.2 != t176) t198 t199) else (laws_FnExactTableSample.j2 kj36 t197 true t198 t199))))) else (some false)))) = some r := H
                  have A53 := Aside0.mk A530
                  clear A530
                  replace H := Option.bind_eq_some_iff.mp H
                  obtain ⟨t200, A540, H⟩ := H
                  replace H : (if t200 < 0 then (some false) else (if t200 = t197 then ((laws_toIntS.f kj36 l1).bind fun t201 => ((impl_TableSample.f kj36 a0 t201).bind fun bt204 => ((laws_eqSample.f kj36 bt204.1 bt204.2.1 t170 t173).bind fun t212 => (if t212 = true then (laws_FnExactTableSample.j2 kj36 t197 (bt204.2.2 != t176) t198 t199) else (laws_FnExactTableSample.j2 kj36 t197 true t198 t199))))) else (some false))) = some r := H
                  have A54 := Aside0.mk A540
                  clear A540
                  by_cases c55 : t200 < 0
                  · rw [if_pos c55] at H
                    have c55b0 : decide (t200 < 0) = true := decide_eq_true c55
                    clear c55
                    obtain rfl := Option.some.inj H
                    have hnb56 := NB188_177.out
                    have hnc56 := NB177_188.out
                    have hcz57_0 : wc.cell? ⟨gb188, 0, none⟩ = some (.slice Ao18 t181.length co18) := (blk_cell BK188.out 0).trans rfl
                    have hcz57_1 : wc.cell? ⟨gb188, 1, none⟩ = some (.slice Ao21 t184.length co21) := (blk_cell BK188.out 1).trans rfl
                    have hfz57_0 := blk_frozen BK188.out 0
                    have hfz57_1 := blk_frozen BK188.out 1
                    go_wp2_with (first | ((with_reducible refine gate_callee (f := 51) rfl ?_); refine goesL_ (some 65) rfl rfl Try.func51 (by kernel_rfl) rfl #[.agg #[.slice Ao18 t181.length co18, .slice Ao21 t184.length co21], .int .i64 1] rfl (by (try simp only [List.map_toArray, List.map_cons, List.map_nil]); first | done | rfl | (simp only [List.length_drop, List.length_take]; rfl)) ?_; (with_reducible refine (laws_markSample.calls kj36 (fun k_ => w11.heap.size ≤ k_ ∧ ((some k_ ≠ (.slice Ao21 t184.length co21 : Value).ownBlock ∧ k_ ≠ gb177) ∧ k_ ≠ gb188)) (.slice Ao18 t181.length co18) t181 (fun k_ => some k_ = (.slice Ao21 t184.length co21 : Value).ownBlock) (.slice Ao21 t184.length co21) t184 1 t197 t198 t199 w11 _ ?side1 ?side2 ?side3 ?side4 A53.out).mono ?_); (case side1 => repeat (first | (with_reducible first | exact HB.out | apply below_alloc | apply pw_below_drewN | apply below_drew1 | refine below_set ?_ GE177.out | refine below_set ?_ GE188.out) | exact HB.out)); (case side2 => exact Kd.S_mono (Kd.S_bound (Kd.S_types (Kd.S_types (HO_189000.out) BK177.out (by decide)) BK188.out (by decide))) (fun k_ hk => by first|exact ⟨hk.2.1, hk.1⟩|grind)); (case side3 => exact Kd.R_tight rfl HO_189001.out); (case side4 => exact fun k_ e_ e2_ => (e_.2.1.1) e2_); rintro e w58 ⟨rfl, hy0, hy1, hb, hkp⟩; refine ⟨_, rfl, ?_⟩; have n0_ := Aside0.mk (Kd.S_mono (ok' := fun k_ => some k_ ≠ (.slice Ao21 t184.length co21 : Value).ownBlock) hy0 (fun k_ hk => hk.2.1.1)); have n1_ := Aside0.mk (Kd.R_reok rfl hy1 (fun k_ e_ => HO_189001.out.1 k_ e_)); have n2_ := Aside0.mk (blk_kept (by (with_reducible repeat (first | refine blk_drewN ?_ _ | refine blk_drew ?_ | refine blk_alloc ?_ _)); exact BK177.out) hkp (fun hs_ => Or.elim hs_ (fun e_ => (fun e_ => (e_.2.1.2) rfl) e_) (fun e_ => (fun e_ => (Kd.R_ne HO_189001.out BK177.out (by decide)) e_) e_))); have n3_ := Aside0.mk (blk_kept (by (with_reducible repeat (first | refine blk_drewN ?_ _ | refine blk_drew ?_ | refine blk_alloc ?_ _)); exact BK188.out) hkp (fun hs_ => Or.elim hs_ (fun e_ => (fun e_ => (e_.2.2) rfl) e_) (fun e_ => (fun e_ => (Kd.R_ne HO_189001.out BK188.out (by decide)) e_) e_))); have n4_ := Aside0.mk (hb); clear HO_189000; clear HO_189001; clear BK177; clear BK188; clear HB; have HO_189000 := n0_; have HO_189001 := n1_; have BK177 := n2_; have BK188 := n3_; have HB := n4_; clear n0_ n1_ n2_ n3_ n4_; (try clear hb); (try clear hkp); (try clear hy0); (try clear hy1); have hcz59_0 : w58.cell? ⟨gb188, 0, none⟩ = some (.slice Ao18 t181.length co18) := (blk_cell BK188.out 0).trans rfl; have hcz59_1 : w58.cell? ⟨gb188, 1, none⟩ = some (.slice Ao21 t184.length co21) := (blk_cell BK188.out 1).trans rfl; have hfz59_0 := blk_frozen BK188.out 0; have hfz59_1 := blk_frozen BK188.out 1) | ((with_reducible refine gate_callee (f := 52) rfl ?_); refine goesL_ (some 68) rfl rfl Try.func52 (by kernel_rfl) rfl #[.agg #[.slice Ao18 t198.length co18, .slice Ao21 t199.length co21], .int .i64 1] rfl (by (try simp only [List.map_toArray, List.map_cons, List.map_nil]); first | done | (rw [show t198.length = t181.length from (Kd.S_reads' HO_189000.out).1.symm, show t199.length = t184.length from (Kd.R_reads' HO_189001.out).1.symm] <;> rfl) | rfl | (simp only [List.length_drop, List.length_take]; rfl)) ?_; (with_reducible refine (laws_heldSample.calls kj36 _ _ t198 _ _ t199 1 t200 _ ?side1 ?side2 ?side3 ?side4 A54.out).mono ?_); (case side1 => repeat (first | exact (Kd.S_reads' HO_189000.out).2.2 | (with_reducible refine Kd.C_alloc ?_ _) | (with_reducible refine Kd.C_drewN ?_ _) | (with_reducible refine Kd.C_drew ?_))); (case side2 => rw [show t198.length = t181.length from (Kd.S_reads' HO_189000.out).1.symm]; exact (Kd.S_reads' HO_189000.out).2.1); (case side3 => repeat (first | exact (Kd.R_reads' HO_189001.out).2.2 | (with_reducible refine Kd.C_alloc ?_ _) | (with_reducible refine Kd.C_drewN ?_ _) | (with_reducible refine Kd.C_drew ?_))); (case side4 => rw [show t199.length = t184.length from (Kd.R_reads' HO_189001.out).1.symm]; exact (Kd.R_reads' HO_189001.out).2.1); rintro e w60 ⟨rfl, hb⟩; refine ⟨_, rfl, ?_⟩; have n0_ := Aside0.mk (Kd.S_below (by (with_reducible repeat (first | apply Kd.S_alloc | apply Kd.S_drewN | apply Kd.S_drew)); exact HO_189000.out) hb); have n1_ := Aside0.mk (Kd.R_below (by (with_reducible repeat (first | apply Kd.R_alloc | apply Kd.R_drewN | apply Kd.R_drew)); exact HO_189001.out) hb); have n2_ := Aside0.mk (blk_below (g := gb177) (o := .cells #[.slice AW0 t170.length cW0, .slice AW1 t173.length cW1] 55 (0, 0)) (by (with_reducible repeat (first | refine blk_drewN ?_ _ | refine blk_drew ?_ | refine blk_alloc ?_ _)); exact BK177.out) hb); have n3_ := Aside0.mk (blk_below (g := gb188) (o := .cells #[.slice Ao18 t181.length co18, .slice Ao21 t184.length co21] 55 (0, 0)) (by (with_reducible repeat (first | refine blk_drewN ?_ _ | refine blk_drew ?_ | refine blk_alloc ?_ _)); exact BK188.out) hb); have n4_ := Aside0.mk (below_step (by repeat (first | (with_reducible first | exact HB.out | apply below_alloc | apply pw_below_drewN | apply below_drew1 | refine below_set ?_ GE177.out | refine below_set ?_ GE188.out) | exact HB.out)) hb); clear HO_189000; clear HO_189001; clear BK177; clear BK188; clear HB; have HO_189000 := n0_; have HO_189001 := n1_; have BK177 := n2_; have BK188 := n3_; have HB := n4_; clear n0_ n1_ n2_ n3_ n4_; (try clear hb); (try clear hb2); (try clear hk); (try clear hi)))
                    go_ret
                    refine And.imp_right (fun h_ => below_step HB0.out h_) ?_
                    exact ⟨by first | rfl | (simp [errW_none, errW_some] <;> rfl) | (simp [*, errW_none, errW_some] <;> rfl), by repeat (first | (with_reducible first | exact HB.out | apply below_alloc | apply pw_below_drewN | apply below_drew1 | refine below_set ?_ GE177.out | refine below_set ?_ GE188.out) | exact HB.out)⟩
                  · rw [if_neg c55] at H
                    have c55b0 : decide (t200 < 0) = false := decide_eq_false c55
                    clear c55
                    by_cases c61 : t200 = t197
                    · rw [if_pos c61] at H
                      have c61b0 : (t200 == t197) = true := beq_iff_eq.mpr c61
                      have c61b1 : (t200 != t197) = false := bne_eq_false_iff_eq.mpr c61
                      clear c61
                      replace H := Option.bind_eq_some_iff.mp H
                      obtain ⟨t201, A620, H⟩ := H
                      replace H : ((impl_TableSample.f kj36 a0 t201).bind fun bt204 => ((laws_eqSample.f kj36 bt204.1 bt204.2.1 t170 t173).bind fun t212 => (if t212 = true then (laws_FnExactTableSample.j2 kj36 t197 (bt204.2.2 != t176) t198 t199) else (laws_FnExactTableSample.j2 kj36 t197 true t198 t199)))) = some r := H
                      have A62 := Aside0.mk A620
                      clear A620
                      replace H := Option.bind_eq_some_iff.mp H
                      obtain ⟨⟨t204, t207, t210⟩, A630, H⟩ := H
                      replace H : ((laws_eqSample.f kj36 t204 t207 t170 t173).bind fun t212 => (if t212 = true then (laws_FnExactTableSample.j2 kj36 t197 (t210 != t176) t198 t199) else (laws_FnExactTableSample.j2 kj36 t197 true t198 t199))) = some r := H
                      have A63 := Aside0.mk A630
                      clear A630
                      have HC64 := Aside0.mk H
                      clear H
                      have hnb65 := NB188_177.out
                      have hnc65 := NB177_188.out
                      have hcz66_0 : wc.cell? ⟨gb188, 0, none⟩ = some (.slice Ao18 t181.length co18) := (blk_cell BK188.out 0).trans rfl
                      have hcz66_1 : wc.cell? ⟨gb188, 1, none⟩ = some (.slice Ao21 t184.length co21) := (blk_cell BK188.out 1).trans rfl
                      have hfz66_0 := blk_frozen BK188.out 0
                      have hfz66_1 := blk_frozen BK188.out 1
                      go_upto_region 23 with (first | ((with_reducible refine gate_callee (f := 51) rfl ?_); refine goesL_ (some 65) rfl rfl Try.func51 (by kernel_rfl) rfl #[.agg #[.slice Ao18 t181.length co18, .slice Ao21 t184.length co21], .int .i64 1] rfl (by (try simp only [List.map_toArray, List.map_cons, List.map_nil]); first | done | rfl | (simp only [List.length_drop, List.length_take]; rfl)) ?_; (with_reducible refine (laws_markSample.calls kj36 (fun k_ => w11.heap.size ≤ k_ ∧ ((some k_ ≠ (.slice Ao21 t184.length co21 : Value).ownBlock ∧ k_ ≠ gb177) ∧ k_ ≠ gb188)) (.slice Ao18 t181.length co18) t181 (fun k_ => some k_ = (.slice Ao21 t184.length co21 : Value).ownBlock) (.slice Ao21 t184.length co21) t184 1 t197 t198 t199 w11 _ ?side1 ?side2 ?side3 ?side4 A53.out).mono ?_); (case side1 => repeat (first | (with_reducible first | exact HB.out | apply below_alloc | apply pw_below_drewN | apply below_drew1 | refine below_set ?_ GE177.out | refine below_set ?_ GE188.out) | exact HB.out)); (case side2 => exact Kd.S_mono (Kd.S_bound (Kd.S_types (Kd.S_types (HO_189000.out) BK177.out (by decide)) BK188.out (by decide))) (fun k_ hk => by first|exact ⟨hk.2.1, hk.1⟩|grind)); (case side3 => exact Kd.R_tight rfl HO_189001.out); (case side4 => exact fun k_ e_ e2_ => (e_.2.1.1) e2_); rintro e w67 ⟨rfl, hy0, hy1, hb, hkp⟩; refine ⟨_, rfl, ?_⟩; have n0_ := Aside0.mk (Kd.S_mono (ok' := fun k_ => some k_ ≠ (.slice Ao21 t184.length co21 : Value).ownBlock) hy0 (fun k_ hk => hk.2.1.1)); have n1_ := Aside0.mk (Kd.R_reok rfl hy1 (fun k_ e_ => HO_189001.out.1 k_ e_)); have n2_ := Aside0.mk (blk_kept (by (with_reducible repeat (first | refine blk_drewN ?_ _ | refine blk_drew ?_ | refine blk_alloc ?_ _)); exact BK177.out) hkp (fun hs_ => Or.elim hs_ (fun e_ => (fun e_ => (e_.2.1.2) rfl) e_) (fun e_ => (fun e_ => (Kd.R_ne HO_189001.out BK177.out (by decide)) e_) e_))); have n3_ := Aside0.mk (blk_kept (by (with_reducible repeat (first | refine blk_drewN ?_ _ | refine blk_drew ?_ | refine blk_alloc ?_ _)); exact BK188.out) hkp (fun hs_ => Or.elim hs_ (fun e_ => (fun e_ => (e_.2.2) rfl) e_) (fun e_ => (fun e_ => (Kd.R_ne HO_189001.out BK188.out (by decide)) e_) e_))); have n4_ := Aside0.mk (hb); clear HO_189000; clear HO_189001; clear BK177; clear BK188; clear HB; have HO_189000 := n0_; have HO_189001 := n1_; have BK177 := n2_; have BK188 := n3_; have HB := n4_; clear n0_ n1_ n2_ n3_ n4_; (try clear hb); (try clear hkp); (try clear hy0); (try clear hy1); have hcz68_0 : w67.cell? ⟨gb188, 0, none⟩ = some (.slice Ao18 t181.length co18) := (blk_cell BK188.out 0).trans rfl; have hcz68_1 : w67.cell? ⟨gb188, 1, none⟩ = some (.slice Ao21 t184.length co21) := (blk_cell BK188.out 1).trans rfl; have hfz68_0 := blk_frozen BK188.out 0; have hfz68_1 := blk_frozen BK188.out 1) | ((with_reducible refine gate_callee (f := 52) rfl ?_); refine goesL_ (some 68) rfl rfl Try.func52 (by kernel_rfl) rfl #[.agg #[.slice Ao18 t198.length co18, .slice Ao21 t199.length co21], .int .i64 1] rfl (by (try simp only [List.map_toArray, List.map_cons, List.map_nil]); first | done | (rw [show t198.length = t181.length from (Kd.S_reads' HO_189000.out).1.symm, show t199.length = t184.length from (Kd.R_reads' HO_189001.out).1.symm] <;> rfl) | rfl | (simp only [List.length_drop, List.length_take]; rfl)) ?_; (with_reducible refine (laws_heldSample.calls kj36 _ _ t198 _ _ t199 1 t200 _ ?side1 ?side2 ?side3 ?side4 A54.out).mono ?_); (case side1 => repeat (first | exact (Kd.S_reads' HO_189000.out).2.2 | (with_reducible refine Kd.C_alloc ?_ _) | (with_reducible refine Kd.C_drewN ?_ _) | (with_reducible refine Kd.C_drew ?_))); (case side2 => rw [show t198.length = t181.length from (Kd.S_reads' HO_189000.out).1.symm]; exact (Kd.S_reads' HO_189000.out).2.1); (case side3 => repeat (first | exact (Kd.R_reads' HO_189001.out).2.2 | (with_reducible refine Kd.C_alloc ?_ _) | (with_reducible refine Kd.C_drewN ?_ _) | (with_reducible refine Kd.C_drew ?_))); (case side4 => rw [show t199.length = t184.length from (Kd.R_reads' HO_189001.out).1.symm]; exact (Kd.R_reads' HO_189001.out).2.1); rintro e w69 ⟨rfl, hb⟩; refine ⟨_, rfl, ?_⟩; have n0_ := Aside0.mk (Kd.S_below (by (with_reducible repeat (first | apply Kd.S_alloc | apply Kd.S_drewN | apply Kd.S_drew)); exact HO_189000.out) hb); have n1_ := Aside0.mk (Kd.R_below (by (with_reducible repeat (first | apply Kd.R_alloc | apply Kd.R_drewN | apply Kd.R_drew)); exact HO_189001.out) hb); have n2_ := Aside0.mk (blk_below (g := gb177) (o := .cells #[.slice AW0 t170.length cW0, .slice AW1 t173.length cW1] 55 (0, 0)) (by (with_reducible repeat (first | refine blk_drewN ?_ _ | refine blk_drew ?_ | refine blk_alloc ?_ _)); exact BK177.out) hb); have n3_ := Aside0.mk (blk_below (g := gb188) (o := .cells #[.slice Ao18 t181.length co18, .slice Ao21 t184.length co21] 55 (0, 0)) (by (with_reducible repeat (first | refine blk_drewN ?_ _ | refine blk_drew ?_ | refine blk_alloc ?_ _)); exact BK188.out) hb); have n4_ := Aside0.mk (below_step (by repeat (first | (with_reducible first | exact HB.out | apply below_alloc | apply pw_below_drewN | apply below_drew1 | refine below_set ?_ GE177.out | refine below_set ?_ GE188.out) | exact HB.out)) hb); clear HO_189000; clear HO_189001; clear BK177; clear BK188; clear HB; have HO_189000 := n0_; have HO_189001 := n1_; have BK177 := n2_; have BK188 := n3_; have HB := n4_; clear n0_ n1_ n2_ n3_ n4_; (try clear hb); (try clear hb2); (try clear hk); (try clear hi)) | ((with_reducible refine gate_callee (f := 16) rfl ?_); refine goesL_ (some 77) rfl rfl Try.func16 (by kernel_rfl) rfl #[.slice A1 l1.length c1] rfl (by (try simp only [List.map_toArray, List.map_cons, List.map_nil]); first | done | rfl | (simp only [List.length_drop, List.length_take]; rfl)) ?_; (with_reducible refine (laws_toIntS.calls kj36 _ _ l1 t201 _ ?side1 ?side2 A62.out).mono ?_); (case side1 => repeat (first | exact (Kd.C_below HR1.out HB.out) | (with_reducible refine Kd.C_alloc ?_ _) | (with_reducible refine Kd.C_drewN ?_ _) | (with_reducible refine Kd.C_drew ?_))); (case side2 => exact HC1.out); rintro e w70 ⟨v202, rfl, ho0, hb⟩; refine ⟨_, rfl, ?_⟩; have n0_ := Aside0.mk (Kd.S_elder' (by (with_reducible repeat (first | apply Kd.S_alloc | apply Kd.S_drewN | apply Kd.S_drew)); exact HO_189000.out) (Kd.R_base ho0) hb); have n1_ := Aside0.mk (Kd.R_elder' (by (with_reducible repeat (first | apply Kd.R_alloc | apply Kd.R_drewN | apply Kd.R_drew)); exact HO_189001.out) (Kd.R_base ho0) hb); have n2_ := Aside0.mk (Kd.R_lower (Kd.R_new' ho0 (Kd.R_lt (by (with_reducible repeat (first | apply Kd.R_alloc | apply Kd.R_drewN | apply Kd.R_drew)); exact HO_189001.out))) (below_size (by repeat (first | (with_reducible first | exact HB.out | apply below_alloc | apply pw_below_drewN | apply below_drew1 | refine below_set ?_ GE177.out | refine below_set ?_ GE188.out) | exact HB.out)))); have n3_ := Aside0.mk (blk_below (g := gb177) (o := .cells #[.slice AW0 t170.length cW0, .slice AW1 t173.length cW1] 55 (0, 0)) (by (with_reducible repeat (first | refine blk_drewN ?_ _ | refine blk_drew ?_ | refine blk_alloc ?_ _)); exact BK177.out) hb); have n4_ := Aside0.mk (blk_below (g := gb188) (o := .cells #[.slice Ao18 t181.length co18, .slice Ao21 t184.length co21] 55 (0, 0)) (by (with_reducible repeat (first | refine blk_drewN ?_ _ | refine blk_drew ?_ | refine blk_alloc ?_ _)); exact BK188.out) hb); have n5_ := Aside0.mk (below_step (by repeat (first | (with_reducible first | exact HB.out | apply below_alloc | apply pw_below_drewN | apply below_drew1 | refine below_set ?_ GE177.out | refine below_set ?_ GE188.out) | exact HB.out)) hb); clear HO_189000; clear HO_189001; clear BK177; clear BK188; clear HB; have HO_189000 := n0_; have HO_189001 := n1_; have HO203 := n2_; have BK177 := n3_; have BK188 := n4_; have HB := n5_; clear n0_ n1_ n2_ n3_ n4_ n5_; (try clear hb); (try clear hb2); (try clear hk); (try clear hi); (try clear ho0); obtain ⟨Ao71, co71, eo71⟩ := Kd.R_slice HO203.out; subst eo71) | ((with_reducible refine gate_callee (f := 50) rfl ?_); refine goesL_ (some 78) rfl rfl Try.func50 (by kernel_rfl) rfl #[.int .i64 a0, .slice Ao71 t201.length co71] rfl (by (try simp only [List.map_toArray, List.map_cons, List.map_nil]); first | done | rfl | (simp only [List.length_drop, List.length_take]; rfl)) ?_; (with_reducible refine (impl_TableSample.calls kj36 a0 _ _ t201 t204 t207 t210 _ ?side1 ?side2 A63.out).mono ?_); (case side1 => repeat (first | exact (Kd.R_reads' HO203.out).2.2 | (with_reducible refine Kd.C_alloc ?_ _) | (with_reducible refine Kd.C_drewN ?_ _) | (with_reducible refine Kd.C_drew ?_))); (case side2 => exact (Kd.R_reads' HO203.out).2.1); rintro e w72 ⟨v205, v208, rfl, ho0, ho1, hb⟩; refine ⟨_, rfl, ?_⟩; have n0_ := Aside0.mk (Kd.S_mono (Kd.S_told (Kd.S_told (Kd.S_old (by (with_reducible repeat (first | apply Kd.S_alloc | apply Kd.S_drewN | apply Kd.S_drew)); exact HO_189000.out) hb) (Kd.S_base ho0)) (Kd.R_base ho1)) (fun _ h_ => h_.1)); have n1_ := Aside0.mk (Kd.R_elder' (by (with_reducible repeat (first | apply Kd.R_alloc | apply Kd.R_drewN | apply Kd.R_drew)); exact HO_189001.out) (Kd.R_base ho1) hb); have n2_ := Aside0.mk (Kd.R_elder' (by (with_reducible repeat (first | apply Kd.R_alloc | apply Kd.R_drewN | apply Kd.R_drew)); exact HO203.out) (Kd.R_base ho1) hb); have n3_ := Aside0.mk (Kd.S_lower (Kd.S_new' (Kd.S_new' (Kd.S_new' ho0 (Kd.S_lt (by (with_reducible repeat (first | apply Kd.S_alloc | apply Kd.S_drewN | apply Kd.S_drew)); exact HO_189000.out))) (Kd.R_lt (by (with_reducible repeat (first | apply Kd.R_alloc | apply Kd.R_drewN | apply Kd.R_drew)); exact HO_189001.out))) (Kd.R_lt (by (with_reducible repeat (first | apply Kd.R_alloc | apply Kd.R_drewN | apply Kd.R_drew)); exact HO203.out))) (below_size (by repeat (first | (with_reducible first | exact HB.out | apply below_alloc | apply pw_below_drewN | apply below_drew1 | refine below_set ?_ GE177.out | refine below_set ?_ GE188.out) | exact HB.out)))); have n4_ := Aside0.mk (Kd.R_lower (Kd.R_new' (Kd.R_new' ho1 (Kd.R_lt (by (with_reducible repeat (first | apply Kd.R_alloc | apply Kd.R_drewN | apply Kd.R_drew)); exact HO_189001.out))) (Kd.R_lt (by (with_reducible repeat (first | apply Kd.R_alloc | apply Kd.R_drewN | apply Kd.R_drew)); exact HO203.out))) (below_size (by repeat (first | (with_reducible first | exact HB.out | apply below_alloc | apply pw_below_drewN | apply below_drew1 | refine below_set ?_ GE177.out | refine below_set ?_ GE188.out) | exact HB.out)))); have n5_ := Aside0.mk (blk_below (g := gb177) (o := .cells #[.slice AW0 t170.length cW0, .slice AW1 t173.length cW1] 55 (0, 0)) (by (with_reducible repeat (first | refine blk_drewN ?_ _ | refine blk_drew ?_ | refine blk_alloc ?_ _)); exact BK177.out) hb); have n6_ := Aside0.mk (blk_below (g := gb188) (o := .cells #[.slice Ao18 t181.length co18, .slice Ao21 t184.length co21] 55 (0, 0)) (by (with_reducible repeat (first | refine blk_drewN ?_ _ | refine blk_drew ?_ | refine blk_alloc ?_ _)); exact BK188.out) hb); have n7_ := Aside0.mk (below_step (by repeat (first | (with_reducible first | exact HB.out | apply below_alloc | apply pw_below_drewN | apply below_drew1 | refine below_set ?_ GE177.out | refine below_set ?_ GE188.out) | exact HB.out)) hb); clear HO_189000; clear HO_189001; clear HO203; clear BK177; clear BK188; clear HB; have HO_189000 := n0_; have HO_189001 := n1_; have HO203 := n2_; have HO206 := n3_; have HO209 := n4_; have BK177 := n5_; have BK188 := n6_; have HB := n7_; clear n0_ n1_ n2_ n3_ n4_ n5_ n6_ n7_; (try clear hb); (try clear hb2); (try clear hk); (try clear hi); (try clear ho0); (try clear ho1)) | ((with_reducible refine gate_dst (N := 13) rfl ?_); refine box_event ?hg (N := 13) ?hd (cs := #[.slice none 0 0, .slice none 0 0]) (t := 55) ?hr ?_; (case hd => rfl); (case hg => rfl); (case hr => first | (go_simp; done) | (go_simp; rfl)); intro gb211 hg w73 hbox hb; have n0_ := Aside0.mk (Kd.S_below (by (with_reducible repeat (first | apply Kd.S_alloc | apply Kd.S_drewN | apply Kd.S_drew)); exact HO_189000.out) hb); have n1_ := Aside0.mk (Kd.R_below (by (with_reducible repeat (first | apply Kd.R_alloc | apply Kd.R_drewN | apply Kd.R_drew)); exact HO_189001.out) hb); have n2_ := Aside0.mk (Kd.R_below (by (with_reducible repeat (first | apply Kd.R_alloc | apply Kd.R_drewN | apply Kd.R_drew)); exact HO203.out) hb); have n3_ := Aside0.mk (Kd.S_below (by (with_reducible repeat (first | apply Kd.S_alloc | apply Kd.S_drewN | apply Kd.S_drew)); exact HO206.out) hb); have n4_ := Aside0.mk (Kd.R_below (by (with_reducible repeat (first | apply Kd.R_alloc | apply Kd.R_drewN | apply Kd.R_drew)); exact HO209.out) hb); have n5_ := Aside0.mk (blk_below (g := gb177) (o := .cells #[.slice AW0 t170.length cW0, .slice AW1 t173.length cW1] 55 (0, 0)) (by (with_reducible repeat (first | refine blk_drewN ?_ _ | refine blk_drew ?_ | refine blk_alloc ?_ _)); exact BK177.out) hb); have n6_ := Aside0.mk (blk_below (g := gb188) (o := .cells #[.slice Ao18 t181.length co18, .slice Ao21 t184.length co21] 55 (0, 0)) (by (with_reducible repeat (first | refine blk_drewN ?_ _ | refine blk_drew ?_ | refine blk_alloc ?_ _)); exact BK188.out) hb); have n7_ := Aside0.mk (below_step (by repeat (first | (with_reducible first | exact HB.out | apply below_alloc | apply pw_below_drewN | apply below_drew1 | refine below_set ?_ GE177.out | refine below_set ?_ GE188.out) | exact HB.out)) hb); have n8_ := Aside0.mk (hbox); have n9_ := Aside0.mk ((by rw [hg]; exact (below_size (by repeat (first | (with_reducible first | exact HB.out | apply below_alloc | apply pw_below_drewN | apply below_drew1 | refine below_set ?_ GE177.out | refine below_set ?_ GE188.out) | exact HB.out))) : w11.heap.size ≤ gb211)); have n10_ := Aside0.mk ((by rw [hg]; exact (below_size (by repeat (first | (with_reducible first | exact HB.out | apply below_alloc | apply pw_below_drewN | apply below_drew1 | refine below_set ?_ GE177.out | refine below_set ?_ GE188.out) | exact HB.out))) : w11.heap.size ≤ gb211)); have n11_ := Aside0.mk ((by rw [hg]; exact Nat.ne_of_lt (blk_lt (g := gb177) (o := .cells #[.slice AW0 t170.length cW0, .slice AW1 t173.length cW1] 55 (0, 0)) (by (with_reducible repeat (first | refine blk_drewN ?_ _ | refine blk_drew ?_ | refine blk_alloc ?_ _)); exact BK177.out)) : gb177 ≠ gb211)); have n12_ := Aside0.mk ((by rw [hg]; exact Nat.ne_of_gt (blk_lt (g := gb177) (o := .cells #[.slice AW0 t170.length cW0, .slice AW1 t173.length cW1] 55 (0, 0)) (by (with_reducible repeat (first | refine blk_drewN ?_ _ | refine blk_drew ?_ | refine blk_alloc ?_ _)); exact BK177.out)) : gb211 ≠ gb177)); have n13_ := Aside0.mk ((by rw [hg]; exact Nat.ne_of_lt (blk_lt (g := gb188) (o := .cells #[.slice Ao18 t181.length co18, .slice Ao21 t184.length co21] 55 (0, 0)) (by (with_reducible repeat (first | refine blk_drewN ?_ _ | refine blk_drew ?_ | refine blk_alloc ?_ _)); exact BK188.out)) : gb188 ≠ gb211)); have n14_ := Aside0.mk ((by rw [hg]; exact Nat.ne_of_gt (blk_lt (g := gb188) (o := .cells #[.slice Ao18 t181.length co18, .slice Ao21 t184.length co21] 55 (0, 0)) (by (with_reducible repeat (first | refine blk_drewN ?_ _ | refine blk_drew ?_ | refine blk_alloc ?_ _)); exact BK188.out)) : gb211 ≠ gb188)); clear HO_189000; clear HO_189001; clear HO203; clear HO206; clear HO209; clear BK177; clear BK188; clear HB; have HO_189000 := n0_; have HO_189001 := n1_; have HO203 := n2_; have HO206 := n3_; have HO209 := n4_; have BK177 := n5_; have BK188 := n6_; have HB := n7_; have BK211 := n8_; have GW211 := n9_; have GE211 := n10_; have NB177_211 := n11_; have NB211_177 := n12_; have NB188_211 := n13_; have NB211_188 := n14_; clear n0_ n1_ n2_ n3_ n4_ n5_ n6_ n7_ n8_ n9_ n10_ n11_ n12_ n13_ n14_; clear hb hbox hg; obtain ⟨Ao74, co74, eo74⟩ := Kd.S_slice HO206.out; subst eo74; have hnb75 := NB211_177.out; have hnc75 := NB177_211.out; have hnb76 := NB211_188.out; have hnc76 := NB188_211.out; have hcz77_0 : w73.cell? ⟨gb211, 0, none⟩ = some (.slice none 0 0) := (blk_cell BK211.out 0).trans rfl; have hcz77_1 : w73.cell? ⟨gb211, 1, none⟩ = some (.slice none 0 0) := (blk_cell BK211.out 1).trans rfl; have hfz77_0 := blk_frozen BK211.out 0; have hfz77_1 := blk_frozen BK211.out 1; obtain ⟨Ao78, co78, eo78⟩ := Kd.R_slice HO209.out; subst eo78))
                      (try simp only [Act.put, List.setIfInBounds_toArray, List.set_cons_zero, List.set_cons_succ])
                      go_cut [89] (fun v89 wc => ∃ (kq : Nat) (x89_63 : Bool), v89 = .bool x89_63 ∧ Aside0 (laws_FnExactTableSample.j2 kq t197 x89_63 t198 t199 = some r) ∧ Aside0 (kq ≤ kj36) ∧ Aside0 (Kd.S (Kd.slice 3 (Kd.int .i64)) 22 wc w11.heap.size (fun k_ => some k_ ≠ ((.slice Ao21 t184.length co21) : Value).ownBlock ∧ some k_ ≠ ((.slice Ao74 t204.length co74) : Value).ownBlock ∧ some k_ ≠ ((.slice Ao78 t207.length co78) : Value).ownBlock) (.slice Ao18 t181.length co18) t198) ∧ Aside0 (Kd.R (Kd.int .i64) 3 wc w11.heap.size (fun k_ => some k_ ≠ ((.slice Ao78 t207.length co78) : Value).ownBlock) (.slice Ao21 t184.length co21) t199) ∧ Aside0 (Kd.S (Kd.slice 3 (Kd.int .i64)) 22 wc w11.heap.size (fun k_ => some k_ ≠ ((.slice Ao18 t181.length co18) : Value).ownBlock ∧ some k_ ≠ ((.slice Ao21 t184.length co21) : Value).ownBlock ∧ some k_ ≠ ((.slice Ao78 t207.length co78) : Value).ownBlock) (.slice Ao74 t204.length co74) t204) ∧ Aside0 (Kd.R (Kd.int .i64) 3 wc w11.heap.size (fun k_ => some k_ ≠ ((.slice Ao21 t184.length co21) : Value).ownBlock) (.slice Ao78 t207.length co78) t207) ∧ Aside0 (wc.heap[gb177]? = some (.cells #[(.slice AW0 t170.length cW0), (.slice AW1 t173.length cW1)] 55 (0, 0))) ∧ Aside0 (wc.heap[gb188]? = some (.cells #[(.slice Ao18 t181.length co18), (.slice Ao21 t184.length co21)] 55 (0, 0))) ∧ Aside0 (wc.heap[gb211]? = some (.cells #[(.slice Ao74 t204.length co74), (.slice Ao78 t207.length co78)] 55 (0, 0))) ∧ Aside0 (Below w11.heap.size w11 wc))
                      case first =>
                        have H := HC64.out
                        clear HC64
                        replace H := Option.bind_eq_some_iff.mp H
                        obtain ⟨t212, A790, H⟩ := H
                        replace H : (if t212 = true then (laws_FnExactTableSample.j2 kj36 t197 (t210 != t176) t198 t199) else (laws_FnExactTableSample.j2 kj36 t197 true t198 t199)) = some r := H
                        have A79 := Aside0.mk A790
                        clear A790
                        by_cases c80 : t212 = true
                        · subst c80
                          have H1 : (laws_FnExactTableSample.j2 kj36 t197 (t210 != t176) t198 t199) = some r := by rw [if_pos rfl] at H; exact H
                          clear H
                          have H := H1
                          clear H1
                          have H' := Aside0.mk H
                          clear H
                          have hnb81 := NB211_177.out
                          have hnc81 := NB177_211.out
                          have hnb82 := NB211_188.out
                          have hnc82 := NB188_211.out
                          have hcz83_0 : w73.cell? ⟨gb211, 0, none⟩ = some (.slice none 0 0) := (blk_cell BK211.out 0).trans rfl
                          have hcz83_1 : w73.cell? ⟨gb211, 1, none⟩ = some (.slice none 0 0) := (blk_cell BK211.out 1).trans rfl
                          have hfz83_0 := blk_frozen BK211.out 0
                          have hfz83_1 := blk_frozen BK211.out 1
                          have hnb84 := NB177_188.out
                          have hnc84 := NB188_177.out
                          have hcz85_0 : w73.cell? ⟨gb177, 0, none⟩ = some (.slice AW0 t170.length cW0) := (blk_cell BK177.out 0).trans rfl
                          have hcz85_1 : w73.cell? ⟨gb177, 1, none⟩ = some (.slice AW1 t173.length cW1) := (blk_cell BK177.out 1).trans rfl
                          have hfz85_0 := blk_frozen BK177.out 0
                          have hfz85_1 := blk_frozen BK177.out 1
                          go_wp2_with (first | ((with_reducible refine gate_callee (f := 46) rfl ?_); refine goesL_ (some 83) rfl rfl Try.func46 (by kernel_rfl) rfl #[.agg #[.slice Ao74 t204.length co74, .slice Ao78 t207.length co78], .agg #[.slice AW0 t170.length cW0, .slice AW1 t173.length cW1]] rfl (by (try simp only [List.map_toArray, List.map_cons, List.map_nil]); first | done | rfl | (simp only [List.length_drop, List.length_take]; rfl)) ?_; (with_reducible refine (laws_eqSample.calls kj36 _ _ t204 _ _ t207 _ _ t170 _ _ t173 true _ ?side1 ?side2 ?side3 ?side4 ?side5 ?side6 ?side7 ?side8 A79.out).mono ?_); (case side1 => refine (Kd.S_reads' (e := 22) (base := w11.heap.size) (ok := fun k_ => (((some k_ ≠ (.slice Ao78 t207.length co78 : Value).ownBlock ∧ some k_ ≠ (.slice Ao18 t181.length co18 : Value).ownBlock) ∧ some k_ ≠ (.slice Ao21 t184.length co21 : Value).ownBlock) ∧ some k_ ≠ (.slice Ao71 t201.length co71 : Value).ownBlock)) (n := t204.length) (c := co74) ?_).2.2; exact (by (with_reducible repeat (first | apply Kd.S_alloc | apply Kd.S_drewN | apply Kd.S_drew)); exact (Kd.S_mono (Kd.S_far (p := ⟨gb211, 1, none⟩) (Kd.S_far (p := ⟨gb211, 0, none⟩) (Kd.S_types HO206.out BK211.out (by decide)) (fun _ hk => hk.2) (.slice Ao74 t204.length co74)) (fun _ hk => hk.2) (.slice Ao78 t207.length co78)) (fun _ h_ => h_.1)))); (case side2 => exact (Kd.S_reads' HO206.out).2.1); (case side3 => refine (Kd.R_reads' (e := 3) (base := w11.heap.size) (ok := fun k_ => ((True ∧ some k_ ≠ (.slice Ao21 t184.length co21 : Value).ownBlock) ∧ some k_ ≠ (.slice Ao71 t201.length co71 : Value).ownBlock)) (n := t207.length) (c := co78) ?_).2.2; exact (by (with_reducible repeat (first | apply Kd.R_alloc | apply Kd.R_drewN | apply Kd.R_drew)); exact (Kd.R_mono (Kd.R_far (p := ⟨gb211, 1, none⟩) (Kd.R_far (p := ⟨gb211, 0, none⟩) (Kd.R_types HO209.out BK211.out (by decide)) (fun _ hk => hk.2) (.slice Ao74 t204.length co74)) (fun _ hk => hk.2) (.slice Ao78 t207.length co78)) (fun _ h_ => h_.1)))); (case side4 => exact (Kd.R_reads' HO209.out).2.1); (case side5 => exact Kd.C_below HRW0.out (by repeat (first | (with_reducible first | exact HB.out | apply below_alloc | apply pw_below_drewN | apply below_drew1 | refine below_set ?_ GE177.out | refine below_set ?_ GE188.out | refine below_set ?_ GE211.out) | exact HB.out))); (case side6 => exact HCW0.out); (case side7 => exact Kd.C_below HRW1.out (by repeat (first | (with_reducible first | exact HB.out | apply below_alloc | apply pw_below_drewN | apply below_drew1 | refine below_set ?_ GE177.out | refine below_set ?_ GE188.out | refine below_set ?_ GE211.out) | exact HB.out))); (case side8 => exact HCW1.out); rintro e w86 ⟨rfl, hb⟩; refine ⟨_, rfl, ?_⟩; have n0_ := Aside0.mk (Kd.S_below (by (with_reducible repeat (first | apply Kd.S_alloc | apply Kd.S_drewN | apply Kd.S_drew)); exact (Kd.S_mono (Kd.S_far (p := ⟨gb211, 1, none⟩) (Kd.S_far (p := ⟨gb211, 0, none⟩) (Kd.S_types HO_189000.out BK211.out (by decide)) (fun _ hk => hk.2) (.slice Ao74 t204.length co74)) (fun _ hk => hk.2) (.slice Ao78 t207.length co78)) (fun _ h_ => h_.1))) hb); have n1_ := Aside0.mk (Kd.R_below (by (with_reducible repeat (first | apply Kd.R_alloc | apply Kd.R_drewN | apply Kd.R_drew)); exact (Kd.R_mono (Kd.R_far (p := ⟨gb211, 1, none⟩) (Kd.R_far (p := ⟨gb211, 0, none⟩) (Kd.R_types HO_189001.out BK211.out (by decide)) (fun _ hk => hk.2) (.slice Ao74 t204.length co74)) (fun _ hk => hk.2) (.slice Ao78 t207.length co78)) (fun _ h_ => h_.1))) hb); have n2_ := Aside0.mk (Kd.R_below (by (with_reducible repeat (first | apply Kd.R_alloc | apply Kd.R_drewN | apply Kd.R_drew)); exact (Kd.R_mono (Kd.R_far (p := ⟨gb211, 1, none⟩) (Kd.R_far (p := ⟨gb211, 0, none⟩) (Kd.R_types HO203.out BK211.out (by decide)) (fun _ hk => hk.2) (.slice Ao74 t204.length co74)) (fun _ hk => hk.2) (.slice Ao78 t207.length co78)) (fun _ h_ => h_.1))) hb); have n3_ := Aside0.mk (Kd.S_below (by (with_reducible repeat (first | apply Kd.S_alloc | apply Kd.S_drewN | apply Kd.S_drew)); exact (Kd.S_mono (Kd.S_far (p := ⟨gb211, 1, none⟩) (Kd.S_far (p := ⟨gb211, 0, none⟩) (Kd.S_types HO206.out BK211.out (by decide)) (fun _ hk => hk.2) (.slice Ao74 t204.length co74)) (fun _ hk => hk.2) (.slice Ao78 t207.length co78)) (fun _ h_ => h_.1))) hb); have n4_ := Aside0.mk (Kd.R_below (by (with_reducible repeat (first | apply Kd.R_alloc | apply Kd.R_drewN | apply Kd.R_drew)); exact (Kd.R_mono (Kd.R_far (p := ⟨gb211, 1, none⟩) (Kd.R_far (p := ⟨gb211, 0, none⟩) (Kd.R_types HO209.out BK211.out (by decide)) (fun _ hk => hk.2) (.slice Ao74 t204.length co74)) (fun _ hk => hk.2) (.slice Ao78 t207.length co78)) (fun _ h_ => h_.1))) hb); have n5_ := Aside0.mk (blk_below (g := gb177) (o := .cells #[.slice AW0 t170.length cW0, .slice AW1 t173.length cW1] 55 (0, 0)) (by (with_reducible repeat (first | refine blk_drewN ?_ _ | refine blk_drew ?_ | refine blk_alloc ?_ _)); refine blk_far ?_ NB177_211.out _; (with_reducible repeat (first | refine blk_drewN ?_ _ | refine blk_drew ?_ | refine blk_alloc ?_ _)); refine blk_far ?_ NB177_211.out _; (with_reducible repeat (first | refine blk_drewN ?_ _ | refine blk_drew ?_ | refine blk_alloc ?_ _)); exact BK177.out) hb); have n6_ := Aside0.mk (blk_below (g := gb188) (o := .cells #[.slice Ao18 t181.length co18, .slice Ao21 t184.length co21] 55 (0, 0)) (by (with_reducible repeat (first | refine blk_drewN ?_ _ | refine blk_drew ?_ | refine blk_alloc ?_ _)); refine blk_far ?_ NB188_211.out _; (with_reducible repeat (first | refine blk_drewN ?_ _ | refine blk_drew ?_ | refine blk_alloc ?_ _)); refine blk_far ?_ NB188_211.out _; (with_reducible repeat (first | refine blk_drewN ?_ _ | refine blk_drew ?_ | refine blk_alloc ?_ _)); exact BK188.out) hb); have n7_ := Aside0.mk (blk_below (g := gb211) (o := .cells #[.slice Ao74 t204.length co74, .slice Ao78 t207.length co78] 55 (0, 0)) (by (with_reducible repeat (first | refine blk_drewN ?_ _ | refine blk_drew ?_ | refine blk_alloc ?_ _)); refine blk_put (cs := #[.slice Ao74 t204.length co74, .slice none 0 0]) ?_ 1 _ rfl; (with_reducible repeat (first | refine blk_drewN ?_ _ | refine blk_drew ?_ | refine blk_alloc ?_ _)); refine blk_put (cs := #[.slice none 0 0, .slice none 0 0]) ?_ 0 _ rfl; (with_reducible repeat (first | refine blk_drewN ?_ _ | refine blk_drew ?_ | refine blk_alloc ?_ _)); exact BK211.out) hb); have n8_ := Aside0.mk (below_step (by repeat (first | (with_reducible first | exact HB.out | apply below_alloc | apply pw_below_drewN | apply below_drew1 | refine below_set ?_ GE177.out | refine below_set ?_ GE188.out | refine below_set ?_ GE211.out) | exact HB.out)) hb); clear HO_189000; clear HO_189001; clear HO203; clear HO206; clear HO209; clear BK177; clear BK188; clear BK211; clear HB; have HO_189000 := n0_; have HO_189001 := n1_; have HO203 := n2_; have HO206 := n3_; have HO209 := n4_; have BK177 := n5_; have BK188 := n6_; have BK211 := n7_; have HB := n8_; clear n0_ n1_ n2_ n3_ n4_ n5_ n6_ n7_ n8_; (try clear hb); (try clear hb2); (try clear hk); (try clear hi)))
                          go_meet
                          case rel => exact ⟨_, ((t210 != t176)), (by first | rfl | (simp; done) | (simp [*]; done)), H', ⟨by have := HJ7.out; have := HJ36.out; first | omega | exact Nat.le_refl _⟩, ⟨by (with_reducible repeat (first | apply Kd.S_alloc | apply Kd.S_drewN | apply Kd.S_drew)); exact Kd.S_mono HO_189000.out (fun _ hk => by first|exact ⟨hk.1.1.1, ⟨hk.1.2, hk.2⟩⟩|grind)⟩, ⟨by (with_reducible repeat (first | apply Kd.R_alloc | apply Kd.R_drewN | apply Kd.R_drew)); exact Kd.R_mono HO_189001.out (fun _ hk => hk.2)⟩, ⟨by (with_reducible repeat (first | apply Kd.S_alloc | apply Kd.S_drewN | apply Kd.S_drew)); exact Kd.S_mono HO206.out (fun _ hk => by first|exact ⟨hk.1.1.2, ⟨hk.1.2, hk.1.1.1⟩⟩|grind)⟩, ⟨by (with_reducible repeat (first | apply Kd.R_alloc | apply Kd.R_drewN | apply Kd.R_drew)); exact Kd.R_mono HO209.out (fun _ hk => hk.1.2)⟩, ⟨by (with_reducible repeat (first | refine blk_drewN ?_ _ | refine blk_drew ?_ | refine blk_alloc ?_ _)); exact BK177.out⟩, ⟨by (with_reducible repeat (first | refine blk_drewN ?_ _ | refine blk_drew ?_ | refine blk_alloc ?_ _)); exact BK188.out⟩, ⟨by (with_reducible repeat (first | refine blk_drewN ?_ _ | refine blk_drew ?_ | refine blk_alloc ?_ _)); exact BK211.out⟩, ⟨by repeat (first | (with_reducible first | exact HB.out | apply below_alloc | apply pw_below_drewN | apply below_drew1 | refine below_set ?_ GE177.out | refine below_set ?_ GE188.out | refine below_set ?_ GE211.out) | exact HB.out)⟩⟩
                        · replace c80 := Bool.eq_false_iff.mpr c80
                          subst c80
                          have H1 : (laws_FnExactTableSample.j2 kj36 t197 true t198 t199) = some r := by rw [if_neg (show ¬ (false = true) by decide)] at H; exact H
                          clear H
                          have H := H1
                          clear H1
                          have H' := Aside0.mk H
                          clear H
                          have hnb87 := NB211_177.out
                          have hnc87 := NB177_211.out
                          have hnb88 := NB211_188.out
                          have hnc88 := NB188_211.out
                          have hcz89_0 : w73.cell? ⟨gb211, 0, none⟩ = some (.slice none 0 0) := (blk_cell BK211.out 0).trans rfl
                          have hcz89_1 : w73.cell? ⟨gb211, 1, none⟩ = some (.slice none 0 0) := (blk_cell BK211.out 1).trans rfl
                          have hfz89_0 := blk_frozen BK211.out 0
                          have hfz89_1 := blk_frozen BK211.out 1
                          have hnb90 := NB177_188.out
                          have hnc90 := NB188_177.out
                          have hcz91_0 : w73.cell? ⟨gb177, 0, none⟩ = some (.slice AW0 t170.length cW0) := (blk_cell BK177.out 0).trans rfl
                          have hcz91_1 : w73.cell? ⟨gb177, 1, none⟩ = some (.slice AW1 t173.length cW1) := (blk_cell BK177.out 1).trans rfl
                          have hfz91_0 := blk_frozen BK177.out 0
                          have hfz91_1 := blk_frozen BK177.out 1
                          go_wp2_with (first | ((with_reducible refine gate_callee (f := 46) rfl ?_); refine goesL_ (some 83) rfl rfl Try.func46 (by kernel_rfl) rfl #[.agg #[.slice Ao74 t204.length co74, .slice Ao78 t207.length co78], .agg #[.slice AW0 t170.length cW0, .slice AW1 t173.length cW1]] rfl (by (try simp only [List.map_toArray, List.map_cons, List.map_nil]); first | done | rfl | (simp only [List.length_drop, List.length_take]; rfl)) ?_; (with_reducible refine (laws_eqSample.calls kj36 _ _ t204 _ _ t207 _ _ t170 _ _ t173 false _ ?side1 ?side2 ?side3 ?side4 ?side5 ?side6 ?side7 ?side8 A79.out).mono ?_); (case side1 => refine (Kd.S_reads' (e := 22) (base := w11.heap.size) (ok := fun k_ => (((some k_ ≠ (.slice Ao78 t207.length co78 : Value).ownBlock ∧ some k_ ≠ (.slice Ao18 t181.length co18 : Value).ownBlock) ∧ some k_ ≠ (.slice Ao21 t184.length co21 : Value).ownBlock) ∧ some k_ ≠ (.slice Ao71 t201.length co71 : Value).ownBlock)) (n := t204.length) (c := co74) ?_).2.2; exact (by (with_reducible repeat (first | apply Kd.S_alloc | apply Kd.S_drewN | apply Kd.S_drew)); exact (Kd.S_mono (Kd.S_far (p := ⟨gb211, 1, none⟩) (Kd.S_far (p := ⟨gb211, 0, none⟩) (Kd.S_types HO206.out BK211.out (by decide)) (fun _ hk => hk.2) (.slice Ao74 t204.length co74)) (fun _ hk => hk.2) (.slice Ao78 t207.length co78)) (fun _ h_ => h_.1)))); (case side2 => exact (Kd.S_reads' HO206.out).2.1); (case side3 => refine (Kd.R_reads' (e := 3) (base := w11.heap.size) (ok := fun k_ => ((True ∧ some k_ ≠ (.slice Ao21 t184.length co21 : Value).ownBlock) ∧ some k_ ≠ (.slice Ao71 t201.length co71 : Value).ownBlock)) (n := t207.length) (c := co78) ?_).2.2; exact (by (with_reducible repeat (first | apply Kd.R_alloc | apply Kd.R_drewN | apply Kd.R_drew)); exact (Kd.R_mono (Kd.R_far (p := ⟨gb211, 1, none⟩) (Kd.R_far (p := ⟨gb211, 0, none⟩) (Kd.R_types HO209.out BK211.out (by decide)) (fun _ hk => hk.2) (.slice Ao74 t204.length co74)) (fun _ hk => hk.2) (.slice Ao78 t207.length co78)) (fun _ h_ => h_.1)))); (case side4 => exact (Kd.R_reads' HO209.out).2.1); (case side5 => exact Kd.C_below HRW0.out (by repeat (first | (with_reducible first | exact HB.out | apply below_alloc | apply pw_below_drewN | apply below_drew1 | refine below_set ?_ GE177.out | refine below_set ?_ GE188.out | refine below_set ?_ GE211.out) | exact HB.out))); (case side6 => exact HCW0.out); (case side7 => exact Kd.C_below HRW1.out (by repeat (first | (with_reducible first | exact HB.out | apply below_alloc | apply pw_below_drewN | apply below_drew1 | refine below_set ?_ GE177.out | refine below_set ?_ GE188.out | refine below_set ?_ GE211.out) | exact HB.out))); (case side8 => exact HCW1.out); rintro e w92 ⟨rfl, hb⟩; refine ⟨_, rfl, ?_⟩; have n0_ := Aside0.mk (Kd.S_below (by (with_reducible repeat (first | apply Kd.S_alloc | apply Kd.S_drewN | apply Kd.S_drew)); exact (Kd.S_mono (Kd.S_far (p := ⟨gb211, 1, none⟩) (Kd.S_far (p := ⟨gb211, 0, none⟩) (Kd.S_types HO_189000.out BK211.out (by decide)) (fun _ hk => hk.2) (.slice Ao74 t204.length co74)) (fun _ hk => hk.2) (.slice Ao78 t207.length co78)) (fun _ h_ => h_.1))) hb); have n1_ := Aside0.mk (Kd.R_below (by (with_reducible repeat (first | apply Kd.R_alloc | apply Kd.R_drewN | apply Kd.R_drew)); exact (Kd.R_mono (Kd.R_far (p := ⟨gb211, 1, none⟩) (Kd.R_far (p := ⟨gb211, 0, none⟩) (Kd.R_types HO_189001.out BK211.out (by decide)) (fun _ hk => hk.2) (.slice Ao74 t204.length co74)) (fun _ hk => hk.2) (.slice Ao78 t207.length co78)) (fun _ h_ => h_.1))) hb); have n2_ := Aside0.mk (Kd.R_below (by (with_reducible repeat (first | apply Kd.R_alloc | apply Kd.R_drewN | apply Kd.R_drew)); exact (Kd.R_mono (Kd.R_far (p := ⟨gb211, 1, none⟩) (Kd.R_far (p := ⟨gb211, 0, none⟩) (Kd.R_types HO203.out BK211.out (by decide)) (fun _ hk => hk.2) (.slice Ao74 t204.length co74)) (fun _ hk => hk.2) (.slice Ao78 t207.length co78)) (fun _ h_ => h_.1))) hb); have n3_ := Aside0.mk (Kd.S_below (by (with_reducible repeat (first | apply Kd.S_alloc | apply Kd.S_drewN | apply Kd.S_drew)); exact (Kd.S_mono (Kd.S_far (p := ⟨gb211, 1, none⟩) (Kd.S_far (p := ⟨gb211, 0, none⟩) (Kd.S_types HO206.out BK211.out (by decide)) (fun _ hk => hk.2) (.slice Ao74 t204.length co74)) (fun _ hk => hk.2) (.slice Ao78 t207.length co78)) (fun _ h_ => h_.1))) hb); have n4_ := Aside0.mk (Kd.R_below (by (with_reducible repeat (first | apply Kd.R_alloc | apply Kd.R_drewN | apply Kd.R_drew)); exact (Kd.R_mono (Kd.R_far (p := ⟨gb211, 1, none⟩) (Kd.R_far (p := ⟨gb211, 0, none⟩) (Kd.R_types HO209.out BK211.out (by decide)) (fun _ hk => hk.2) (.slice Ao74 t204.length co74)) (fun _ hk => hk.2) (.slice Ao78 t207.length co78)) (fun _ h_ => h_.1))) hb); have n5_ := Aside0.mk (blk_below (g := gb177) (o := .cells #[.slice AW0 t170.length cW0, .slice AW1 t173.length cW1] 55 (0, 0)) (by (with_reducible repeat (first | refine blk_drewN ?_ _ | refine blk_drew ?_ | refine blk_alloc ?_ _)); refine blk_far ?_ NB177_211.out _; (with_reducible repeat (first | refine blk_drewN ?_ _ | refine blk_drew ?_ | refine blk_alloc ?_ _)); refine blk_far ?_ NB177_211.out _; (with_reducible repeat (first | refine blk_drewN ?_ _ | refine blk_drew ?_ | refine blk_alloc ?_ _)); exact BK177.out) hb); have n6_ := Aside0.mk (blk_below (g := gb188) (o := .cells #[.slice Ao18 t181.length co18, .slice Ao21 t184.length co21] 55 (0, 0)) (by (with_reducible repeat (first | refine blk_drewN ?_ _ | refine blk_drew ?_ | refine blk_alloc ?_ _)); refine blk_far ?_ NB188_211.out _; (with_reducible repeat (first | refine blk_drewN ?_ _ | refine blk_drew ?_ | refine blk_alloc ?_ _)); refine blk_far ?_ NB188_211.out _; (with_reducible repeat (first | refine blk_drewN ?_ _ | refine blk_drew ?_ | refine blk_alloc ?_ _)); exact BK188.out) hb); have n7_ := Aside0.mk (blk_below (g := gb211) (o := .cells #[.slice Ao74 t204.length co74, .slice Ao78 t207.length co78] 55 (0, 0)) (by (with_reducible repeat (first | refine blk_drewN ?_ _ | refine blk_drew ?_ | refine blk_alloc ?_ _)); refine blk_put (cs := #[.slice Ao74 t204.length co74, .slice none 0 0]) ?_ 1 _ rfl; (with_reducible repeat (first | refine blk_drewN ?_ _ | refine blk_drew ?_ | refine blk_alloc ?_ _)); refine blk_put (cs := #[.slice none 0 0, .slice none 0 0]) ?_ 0 _ rfl; (with_reducible repeat (first | refine blk_drewN ?_ _ | refine blk_drew ?_ | refine blk_alloc ?_ _)); exact BK211.out) hb); have n8_ := Aside0.mk (below_step (by repeat (first | (with_reducible first | exact HB.out | apply below_alloc | apply pw_below_drewN | apply below_drew1 | refine below_set ?_ GE177.out | refine below_set ?_ GE188.out | refine below_set ?_ GE211.out) | exact HB.out)) hb); clear HO_189000; clear HO_189001; clear HO203; clear HO206; clear HO209; clear BK177; clear BK188; clear BK211; clear HB; have HO_189000 := n0_; have HO_189001 := n1_; have HO203 := n2_; have HO206 := n3_; have HO209 := n4_; have BK177 := n5_; have BK188 := n6_; have BK211 := n7_; have HB := n8_; clear n0_ n1_ n2_ n3_ n4_ n5_ n6_ n7_ n8_; (try clear hb); (try clear hb2); (try clear hk); (try clear hi)))
                          go_meet
                          case rel => exact ⟨_, (true), (by first | rfl | (simp; done) | (simp [*]; done)), H', ⟨by have := HJ7.out; have := HJ36.out; first | omega | exact Nat.le_refl _⟩, ⟨by (with_reducible repeat (first | apply Kd.S_alloc | apply Kd.S_drewN | apply Kd.S_drew)); exact Kd.S_mono HO_189000.out (fun _ hk => by first|exact ⟨hk.1.1.1, ⟨hk.1.2, hk.2⟩⟩|grind)⟩, ⟨by (with_reducible repeat (first | apply Kd.R_alloc | apply Kd.R_drewN | apply Kd.R_drew)); exact Kd.R_mono HO_189001.out (fun _ hk => hk.2)⟩, ⟨by (with_reducible repeat (first | apply Kd.S_alloc | apply Kd.S_drewN | apply Kd.S_drew)); exact Kd.S_mono HO206.out (fun _ hk => by first|exact ⟨hk.1.1.2, ⟨hk.1.2, hk.1.1.1⟩⟩|grind)⟩, ⟨by (with_reducible repeat (first | apply Kd.R_alloc | apply Kd.R_drewN | apply Kd.R_drew)); exact Kd.R_mono HO209.out (fun _ hk => hk.1.2)⟩, ⟨by (with_reducible repeat (first | refine blk_drewN ?_ _ | refine blk_drew ?_ | refine blk_alloc ?_ _)); exact BK177.out⟩, ⟨by (with_reducible repeat (first | refine blk_drewN ?_ _ | refine blk_drew ?_ | refine blk_alloc ?_ _)); exact BK188.out⟩, ⟨by (with_reducible repeat (first | refine blk_drewN ?_ _ | refine blk_drew ?_ | refine blk_alloc ?_ _)); exact BK211.out⟩, ⟨by repeat (first | (with_reducible first | exact HB.out | apply below_alloc | apply pw_below_drewN | apply below_drew1 | refine below_set ?_ GE177.out | refine below_set ?_ GE188.out | refine below_set ?_ GE211.out) | exact HB.out)⟩⟩
                      case rest =>
                        clear HC64
                        try clear c1
                        try clear c2
                        try clear p2
                        try clear c3
                        try clear c3b0
                        try clear c3b1
                        try clear c4
                        try clear c5
                        try clear c6
                        try clear c7
                        try clear c8
                        try clear c9
                        try clear c14
                        try clear c16
                        try clear c18
                        try clear c19
                        try clear c21
                        try clear c23
                        try clear c24
                        try clear c28
                        try clear c32
                        try clear c35
                        try clear c41
                        try clear c41b0
                        try clear c43
                        try clear c44
                        try clear c46
                        try clear c48
                        try clear c49
                        try clear c50
                        try clear c51
                        try clear c52
                        try clear c55
                        try clear c55b0
                        try clear c56
                        try clear c61
                        try clear c61b0
                        try clear c61b1
                        try clear c65
                        try clear c75
                        try clear c76
                        try clear c80
                        try clear c81
                        try clear c82
                        try clear c84
                        try clear c87
                        try clear c88
                        try clear c90
                        try clear hcz13_0
                        try clear hcz13_1
                        try clear hcz20_0
                        try clear hcz20_1
                        try clear hcz25_0
                        try clear hcz25_1
                        try clear hcz26_0
                        try clear hcz26_1
                        try clear hcz29_0
                        try clear hcz29_1
                        try clear hcz30_0
                        try clear hcz30_1
                        try clear hcz45_0
                        try clear hcz45_1
                        try clear hcz46_0
                        try clear hcz46_1
                        try clear hcz49_0
                        try clear hcz49_1
                        try clear hcz50_0
                        try clear hcz50_1
                        try clear hcz57_0
                        try clear hcz57_1
                        try clear hcz59_0
                        try clear hcz59_1
                        try clear hcz66_0
                        try clear hcz66_1
                        try clear hcz68_0
                        try clear hcz68_1
                        try clear hcz77_0
                        try clear hcz77_1
                        try clear hcz83_0
                        try clear hcz83_1
                        try clear hcz85_0
                        try clear hcz85_1
                        try clear hcz89_0
                        try clear hcz89_1
                        try clear hcz91_0
                        try clear hcz91_1
                        try clear hfz13_0
                        try clear hfz13_1
                        try clear hfz20_0
                        try clear hfz20_1
                        try clear hfz25_0
                        try clear hfz25_1
                        try clear hfz26_0
                        try clear hfz26_1
                        try clear hfz29_0
                        try clear hfz29_1
                        try clear hfz30_0
                        try clear hfz30_1
                        try clear hfz45_0
                        try clear hfz45_1
                        try clear hfz46_0
                        try clear hfz46_1
                        try clear hfz49_0
                        try clear hfz49_1
                        try clear hfz50_0
                        try clear hfz50_1
                        try clear hfz57_0
                        try clear hfz57_1
                        try clear hfz59_0
                        try clear hfz59_1
                        try clear hfz66_0
                        try clear hfz66_1
                        try clear hfz68_0
                        try clear hfz68_1
                        try clear hfz77_0
                        try clear hfz77_1
                        try clear hfz83_0
                        try clear hfz83_1
                        try clear hfz85_0
                        try clear hfz85_1
                        try clear hfz89_0
                        try clear hfz89_1
                        try clear hfz91_0
                        try clear hfz91_1
                        try clear p2
                        obtain ⟨kq, x89_63, rfl, HA, HJ63, HO_189000, HO_189001, HO_212000, HO_212001, BK177, BK188, BK211, HB⟩ := hcut
                        have hl189000_63 := (Kd.S_reads' HO_189000.out).1
                        rw [hl189000_63] at HO_189000
                        (try simp only [hl189000_63])
                        (try simp only [hl189000_63] at BK177)
                        (try simp only [hl189000_63] at BK188)
                        (try simp only [hl189000_63] at BK211)
                        (try simp only [hl189000_63] at HO_189001)
                        (try simp only [hl189000_63] at HO_212000)
                        (try simp only [hl189000_63] at HO_212001)
                        have hl189001_63 := (Kd.R_reads' HO_189001.out).1
                        rw [hl189001_63] at HO_189001
                        (try simp only [hl189001_63])
                        (try simp only [hl189001_63] at BK177)
                        (try simp only [hl189001_63] at BK188)
                        (try simp only [hl189001_63] at BK211)
                        (try simp only [hl189001_63] at HO_189000)
                        (try simp only [hl189001_63] at HO_212000)
                        (try simp only [hl189001_63] at HO_212001)
                        cases kq with
                        | zero => exact absurd HA.out (by simp [laws_FnExactTableSample.j2])
                        | succ kj63 =>
                          have H := HA.out
                          clear HA
                          simp only [laws_FnExactTableSample.j2] at H
                          by_cases c93 : x89_63 = true
                          · subst c93
                            have H1 : (some false) = some r := by rw [if_pos rfl] at H; exact H
                            clear H
                            have H := H1
                            clear H1
                            obtain rfl := Option.some.inj H
                            go_wp2
                            go_ret
                            refine And.imp_right (fun h_ => below_step HB0.out h_) ?_
                            exact ⟨by first | rfl | (simp [errW_none, errW_some] <;> rfl) | (simp [*, errW_none, errW_some] <;> rfl), by repeat (first | (with_reducible first | exact HB.out | apply below_alloc | apply pw_below_drewN | apply below_drew1 | refine below_set ?_ GE177.out | refine below_set ?_ GE188.out | refine below_set ?_ GE211.out) | exact HB.out)⟩
                          · replace c93 := Bool.eq_false_iff.mpr c93
                            subst c93
                            have H1 : ((laws_heldSample.f kj63 t198 t199 1).bind fun t213 => (if t213 < 0 then (some false) else (if t213 = t197 then (some true) else (some false)))) = some r := by rw [if_neg (show ¬ (false = true) by decide)] at H; exact H
                            clear H
                            have H := H1
                            clear H1
                            replace H := Option.bind_eq_some_iff.mp H
                            obtain ⟨t213, A940, H⟩ := H
                            replace H : (if t213 < 0 then (some false) else (if t213 = t197 then (some true) else (some false))) = some r := H
                            have A94 := Aside0.mk A940
                            clear A940
                            by_cases c95 : t213 < 0
                            · rw [if_pos c95] at H
                              have c95b0 : decide (t213 < 0) = true := decide_eq_true c95
                              clear c95
                              obtain rfl := Option.some.inj H
                              have hnb96 := NB188_177.out
                              have hnc96 := NB177_188.out
                              have hnb97 := NB188_211.out
                              have hnc97 := NB211_188.out
                              have hcz98_0 : wc.cell? ⟨gb188, 0, none⟩ = some (.slice Ao18 t198.length co18) := (blk_cell BK188.out 0).trans rfl
                              have hcz98_1 : wc.cell? ⟨gb188, 1, none⟩ = some (.slice Ao21 t199.length co21) := (blk_cell BK188.out 1).trans rfl
                              have hfz98_0 := blk_frozen BK188.out 0
                              have hfz98_1 := blk_frozen BK188.out 1
                              go_wp2_with (first | ((with_reducible refine gate_callee (f := 52) rfl ?_); refine goesL_ (some 92) rfl rfl Try.func52 (by kernel_rfl) rfl #[.agg #[.slice Ao18 t198.length co18, .slice Ao21 t199.length co21], .int .i64 1] rfl (by (try simp only [List.map_toArray, List.map_cons, List.map_nil]); first | done | rfl | (simp only [List.length_drop, List.length_take]; rfl)) ?_; (with_reducible refine (laws_heldSample.calls kj63 _ _ t198 _ _ t199 1 t213 _ ?side1 ?side2 ?side3 ?side4 A94.out).mono ?_); (case side1 => repeat (first | exact (Kd.S_reads' HO_189000.out).2.2 | (with_reducible refine Kd.C_alloc ?_ _) | (with_reducible refine Kd.C_drewN ?_ _) | (with_reducible refine Kd.C_drew ?_))); (case side2 => exact (Kd.S_reads' HO_189000.out).2.1); (case side3 => repeat (first | exact (Kd.R_reads' HO_189001.out).2.2 | (with_reducible refine Kd.C_alloc ?_ _) | (with_reducible refine Kd.C_drewN ?_ _) | (with_reducible refine Kd.C_drew ?_))); (case side4 => exact (Kd.R_reads' HO_189001.out).2.1); rintro e w99 ⟨rfl, hb⟩; refine ⟨_, rfl, ?_⟩; have n0_ := Aside0.mk (Kd.S_below (by (with_reducible repeat (first | apply Kd.S_alloc | apply Kd.S_drewN | apply Kd.S_drew)); exact HO_189000.out) hb); have n1_ := Aside0.mk (Kd.R_below (by (with_reducible repeat (first | apply Kd.R_alloc | apply Kd.R_drewN | apply Kd.R_drew)); exact HO_189001.out) hb); have n2_ := Aside0.mk (Kd.S_below (by (with_reducible repeat (first | apply Kd.S_alloc | apply Kd.S_drewN | apply Kd.S_drew)); exact HO_212000.out) hb); have n3_ := Aside0.mk (Kd.R_below (by (with_reducible repeat (first | apply Kd.R_alloc | apply Kd.R_drewN | apply Kd.R_drew)); exact HO_212001.out) hb); have n4_ := Aside0.mk (blk_below (g := gb177) (o := .cells #[.slice AW0 t170.length cW0, .slice AW1 t173.length cW1] 55 (0, 0)) (by (with_reducible repeat (first | refine blk_drewN ?_ _ | refine blk_drew ?_ | refine blk_alloc ?_ _)); exact BK177.out) hb); have n5_ := Aside0.mk (blk_below (g := gb188) (o := .cells #[.slice Ao18 t198.length co18, .slice Ao21 t199.length co21] 55 (0, 0)) (by (with_reducible repeat (first | refine blk_drewN ?_ _ | refine blk_drew ?_ | refine blk_alloc ?_ _)); exact BK188.out) hb); have n6_ := Aside0.mk (blk_below (g := gb211) (o := .cells #[.slice Ao74 t204.length co74, .slice Ao78 t207.length co78] 55 (0, 0)) (by (with_reducible repeat (first | refine blk_drewN ?_ _ | refine blk_drew ?_ | refine blk_alloc ?_ _)); exact BK211.out) hb); have n7_ := Aside0.mk (below_step (by repeat (first | (with_reducible first | exact HB.out | apply below_alloc | apply pw_below_drewN | apply below_drew1 | refine below_set ?_ GE177.out | refine below_set ?_ GE188.out | refine below_set ?_ GE211.out) | exact HB.out)) hb); clear HO_189000; clear HO_189001; clear HO_212000; clear HO_212001; clear BK177; clear BK188; clear BK211; clear HB; have HO_189000 := n0_; have HO_189001 := n1_; have HO_212000 := n2_; have HO_212001 := n3_; have BK177 := n4_; have BK188 := n5_; have BK211 := n6_; have HB := n7_; clear n0_ n1_ n2_ n3_ n4_ n5_ n6_ n7_; (try clear hb); (try clear hb2); (try clear hk); (try clear hi)))
                              go_ret
                              refine And.imp_right (fun h_ => below_step HB0.out h_) ?_
                              exact ⟨by first | rfl | (simp [errW_none, errW_some] <;> rfl) | (simp [*, errW_none, errW_some] <;> rfl), by repeat (first | (with_reducible first | exact HB.out | apply below_alloc | apply pw_below_drewN | apply below_drew1 | refine below_set ?_ GE177.out | refine below_set ?_ GE188.out | refine below_set ?_ GE211.out) | exact HB.out)⟩
                            · rw [if_neg c95] at H
                              have c95b0 : decide (t213 < 0) = false := decide_eq_false c95
                              clear c95
                              by_cases c100 : t213 = t197
                              · rw [if_pos c100] at H
                                have c100b0 : (t213 == t197) = true := beq_iff_eq.mpr c100
                                have c100b1 : (t213 != t197) = false := bne_eq_false_iff_eq.mpr c100
                                clear c100
                                obtain rfl := Option.some.inj H
                                have hnb101 := NB188_177.out
                                have hnc101 := NB177_188.out
                                have hnb102 := NB188_211.out
                                have hnc102 := NB211_188.out
                                have hcz103_0 : wc.cell? ⟨gb188, 0, none⟩ = some (.slice Ao18 t198.length co18) := (blk_cell BK188.out 0).trans rfl
                                have hcz103_1 : wc.cell? ⟨gb188, 1, none⟩ = some (.slice Ao21 t199.length co21) := (blk_cell BK188.out 1).trans rfl
                                have hfz103_0 := blk_frozen BK188.out 0
                                have hfz103_1 := blk_frozen BK188.out 1
                                go_wp2_with (first | ((with_reducible refine gate_callee (f := 52) rfl ?_); refine goesL_ (some 92) rfl rfl Try.func52 (by kernel_rfl) rfl #[.agg #[.slice Ao18 t198.length co18, .slice Ao21 t199.length co21], .int .i64 1] rfl (by (try simp only [List.map_toArray, List.map_cons, List.map_nil]); first | done | rfl | (simp only [List.length_drop, List.length_take]; rfl)) ?_; (with_reducible refine (laws_heldSample.calls kj63 _ _ t198 _ _ t199 1 t213 _ ?side1 ?side2 ?side3 ?side4 A94.out).mono ?_); (case side1 => repeat (first | exact (Kd.S_reads' HO_189000.out).2.2 | (with_reducible refine Kd.C_alloc ?_ _) | (with_reducible refine Kd.C_drewN ?_ _) | (with_reducible refine Kd.C_drew ?_))); (case side2 => exact (Kd.S_reads' HO_189000.out).2.1); (case side3 => repeat (first | exact (Kd.R_reads' HO_189001.out).2.2 | (with_reducible refine Kd.C_alloc ?_ _) | (with_reducible refine Kd.C_drewN ?_ _) | (with_reducible refine Kd.C_drew ?_))); (case side4 => exact (Kd.R_reads' HO_189001.out).2.1); rintro e w104 ⟨rfl, hb⟩; refine ⟨_, rfl, ?_⟩; have n0_ := Aside0.mk (Kd.S_below (by (with_reducible repeat (first | apply Kd.S_alloc | apply Kd.S_drewN | apply Kd.S_drew)); exact HO_189000.out) hb); have n1_ := Aside0.mk (Kd.R_below (by (with_reducible repeat (first | apply Kd.R_alloc | apply Kd.R_drewN | apply Kd.R_drew)); exact HO_189001.out) hb); have n2_ := Aside0.mk (Kd.S_below (by (with_reducible repeat (first | apply Kd.S_alloc | apply Kd.S_drewN | apply Kd.S_drew)); exact HO_212000.out) hb); have n3_ := Aside0.mk (Kd.R_below (by (with_reducible repeat (first | apply Kd.R_alloc | apply Kd.R_drewN | apply Kd.R_drew)); exact HO_212001.out) hb); have n4_ := Aside0.mk (blk_below (g := gb177) (o := .cells #[.slice AW0 t170.length cW0, .slice AW1 t173.length cW1] 55 (0, 0)) (by (with_reducible repeat (first | refine blk_drewN ?_ _ | refine blk_drew ?_ | refine blk_alloc ?_ _)); exact BK177.out) hb); have n5_ := Aside0.mk (blk_below (g := gb188) (o := .cells #[.slice Ao18 t198.length co18, .slice Ao21 t199.length co21] 55 (0, 0)) (by (with_reducible repeat (first | refine blk_drewN ?_ _ | refine blk_drew ?_ | refine blk_alloc ?_ _)); exact BK188.out) hb); have n6_ := Aside0.mk (blk_below (g := gb211) (o := .cells #[.slice Ao74 t204.length co74, .slice Ao78 t207.length co78] 55 (0, 0)) (by (with_reducible repeat (first | refine blk_drewN ?_ _ | refine blk_drew ?_ | refine blk_alloc ?_ _)); exact BK211.out) hb); have n7_ := Aside0.mk (below_step (by repeat (first | (with_reducible first | exact HB.out | apply below_alloc | apply pw_below_drewN | apply below_drew1 | refine below_set ?_ GE177.out | refine below_set ?_ GE188.out | refine below_set ?_ GE211.out) | exact HB.out)) hb); clear HO_189000; clear HO_189001; clear HO_212000; clear HO_212001; clear BK177; clear BK188; clear BK211; clear HB; have HO_189000 := n0_; have HO_189001 := n1_; have HO_212000 := n2_; have HO_212001 := n3_; have BK177 := n4_; have BK188 := n5_; have BK211 := n6_; have HB := n7_; clear n0_ n1_ n2_ n3_ n4_ n5_ n6_ n7_; (try clear hb); (try clear hb2); (try clear hk); (try clear hi)))
                                go_ret
                                refine And.imp_right (fun h_ => below_step HB0.out h_) ?_
                                exact ⟨by first | rfl | (simp [errW_none, errW_some] <;> rfl) | (simp [*, errW_none, errW_some] <;> rfl), by repeat (first | (with_reducible first | exact HB.out | apply below_alloc | apply pw_below_drewN | apply below_drew1 | refine below_set ?_ GE177.out | refine below_set ?_ GE188.out | refine below_set ?_ GE211.out) | exact HB.out)⟩
                              · rw [if_neg c100] at H
                                have c100b0 : (t213 == t197) = false := beq_eq_false_iff_ne.mpr c100
                                have c100b1 : (t213 != t197) = true := bne_iff_ne.mpr c100
                                obtain rfl := Option.some.inj H
                                have hnb105 := NB188_177.out
                                have hnc105 := NB177_188.out
                                have hnb106 := NB188_211.out
                                have hnc106 := NB211_188.out
                                have hcz107_0 : wc.cell? ⟨gb188, 0, none⟩ = some (.slice Ao18 t198.length co18) := (blk_cell BK188.out 0).trans rfl
                                have hcz107_1 : wc.cell? ⟨gb188, 1, none⟩ = some (.slice Ao21 t199.length co21) := (blk_cell BK188.out 1).trans rfl
                                have hfz107_0 := blk_frozen BK188.out 0
                                have hfz107_1 := blk_frozen BK188.out 1
                                go_wp2_with (first | ((with_reducible refine gate_callee (f := 52) rfl ?_); refine goesL_ (some 92) rfl rfl Try.func52 (by kernel_rfl) rfl #[.agg #[.slice Ao18 t198.length co18, .slice Ao21 t199.length co21], .int .i64 1] rfl (by (try simp only [List.map_toArray, List.map_cons, List.map_nil]); first | done | rfl | (simp only [List.length_drop, List.length_take]; rfl)) ?_; (with_reducible refine (laws_heldSample.calls kj63 _ _ t198 _ _ t199 1 t213 _ ?side1 ?side2 ?side3 ?side4 A94.out).mono ?_); (case side1 => repeat (first | exact (Kd.S_reads' HO_189000.out).2.2 | (with_reducible refine Kd.C_alloc ?_ _) | (with_reducible refine Kd.C_drewN ?_ _) | (with_reducible refine Kd.C_drew ?_))); (case side2 => exact (Kd.S_reads' HO_189000.out).2.1); (case side3 => repeat (first | exact (Kd.R_reads' HO_189001.out).2.2 | (with_reducible refine Kd.C_alloc ?_ _) | (with_reducible refine Kd.C_drewN ?_ _) | (with_reducible refine Kd.C_drew ?_))); (case side4 => exact (Kd.R_reads' HO_189001.out).2.1); rintro e w108 ⟨rfl, hb⟩; refine ⟨_, rfl, ?_⟩; have n0_ := Aside0.mk (Kd.S_below (by (with_reducible repeat (first | apply Kd.S_alloc | apply Kd.S_drewN | apply Kd.S_drew)); exact HO_189000.out) hb); have n1_ := Aside0.mk (Kd.R_below (by (with_reducible repeat (first | apply Kd.R_alloc | apply Kd.R_drewN | apply Kd.R_drew)); exact HO_189001.out) hb); have n2_ := Aside0.mk (Kd.S_below (by (with_reducible repeat (first | apply Kd.S_alloc | apply Kd.S_drewN | apply Kd.S_drew)); exact HO_212000.out) hb); have n3_ := Aside0.mk (Kd.R_below (by (with_reducible repeat (first | apply Kd.R_alloc | apply Kd.R_drewN | apply Kd.R_drew)); exact HO_212001.out) hb); have n4_ := Aside0.mk (blk_below (g := gb177) (o := .cells #[.slice AW0 t170.length cW0, .slice AW1 t173.length cW1] 55 (0, 0)) (by (with_reducible repeat (first | refine blk_drewN ?_ _ | refine blk_drew ?_ | refine blk_alloc ?_ _)); exact BK177.out) hb); have n5_ := Aside0.mk (blk_below (g := gb188) (o := .cells #[.slice Ao18 t198.length co18, .slice Ao21 t199.length co21] 55 (0, 0)) (by (with_reducible repeat (first | refine blk_drewN ?_ _ | refine blk_drew ?_ | refine blk_alloc ?_ _)); exact BK188.out) hb); have n6_ := Aside0.mk (blk_below (g := gb211) (o := .cells #[.slice Ao74 t204.length co74, .slice Ao78 t207.length co78] 55 (0, 0)) (by (with_reducible repeat (first | refine blk_drewN ?_ _ | refine blk_drew ?_ | refine blk_alloc ?_ _)); exact BK211.out) hb); have n7_ := Aside0.mk (below_step (by repeat (first | (with_reducible first | exact HB.out | apply below_alloc | apply pw_below_drewN | apply below_drew1 | refine below_set ?_ GE177.out | refine below_set ?_ GE188.out | refine below_set ?_ GE211.out) | exact HB.out)) hb); clear HO_189000; clear HO_189001; clear HO_212000; clear HO_212001; clear BK177; clear BK188; clear BK211; clear HB; have HO_189000 := n0_; have HO_189001 := n1_; have HO_212000 := n2_; have HO_212001 := n3_; have BK177 := n4_; have BK188 := n5_; have BK211 := n6_; have HB := n7_; clear n0_ n1_ n2_ n3_ n4_ n5_ n6_ n7_; (try clear hb); (try clear hb2); (try clear hk); (try clear hi)))
                                go_ret
                                refine And.imp_right (fun h_ => below_step HB0.out h_) ?_
                                exact ⟨by first | rfl | (simp [errW_none, errW_some] <;> rfl) | (simp [*, errW_none, errW_some] <;> rfl), by repeat (first | (with_reducible first | exact HB.out | apply below_alloc | apply pw_below_drewN | apply below_drew1 | refine below_set ?_ GE177.out | refine below_set ?_ GE188.out | refine below_set ?_ GE211.out) | exact HB.out)⟩
                    · rw [if_neg c61] at H
                      have c61b0 : (t200 == t197) = false := beq_eq_false_iff_ne.mpr c61
                      have c61b1 : (t200 != t197) = true := bne_iff_ne.mpr c61
                      obtain rfl := Option.some.inj H
                      have hnb109 := NB188_177.out
                      have hnc109 := NB177_188.out
                      have hcz110_0 : wc.cell? ⟨gb188, 0, none⟩ = some (.slice Ao18 t181.length co18) := (blk_cell BK188.out 0).trans rfl
                      have hcz110_1 : wc.cell? ⟨gb188, 1, none⟩ = some (.slice Ao21 t184.length co21) := (blk_cell BK188.out 1).trans rfl
                      have hfz110_0 := blk_frozen BK188.out 0
                      have hfz110_1 := blk_frozen BK188.out 1
                      go_wp2_with (first | ((with_reducible refine gate_callee (f := 51) rfl ?_); refine goesL_ (some 65) rfl rfl Try.func51 (by kernel_rfl) rfl #[.agg #[.slice Ao18 t181.length co18, .slice Ao21 t184.length co21], .int .i64 1] rfl (by (try simp only [List.map_toArray, List.map_cons, List.map_nil]); first | done | rfl | (simp only [List.length_drop, List.length_take]; rfl)) ?_; (with_reducible refine (laws_markSample.calls kj36 (fun k_ => w11.heap.size ≤ k_ ∧ ((some k_ ≠ (.slice Ao21 t184.length co21 : Value).ownBlock ∧ k_ ≠ gb177) ∧ k_ ≠ gb188)) (.slice Ao18 t181.length co18) t181 (fun k_ => some k_ = (.slice Ao21 t184.length co21 : Value).ownBlock) (.slice Ao21 t184.length co21) t184 1 t197 t198 t199 w11 _ ?side1 ?side2 ?side3 ?side4 A53.out).mono ?_); (case side1 => repeat (first | (with_reducible first | exact HB.out | apply below_alloc | apply pw_below_drewN | apply below_drew1 | refine below_set ?_ GE177.out | refine below_set ?_ GE188.out) | exact HB.out)); (case side2 => exact Kd.S_mono (Kd.S_bound (Kd.S_types (Kd.S_types (HO_189000.out) BK177.out (by decide)) BK188.out (by decide))) (fun k_ hk => by first|exact ⟨hk.2.1, hk.1⟩|grind)); (case side3 => exact Kd.R_tight rfl HO_189001.out); (case side4 => exact fun k_ e_ e2_ => (e_.2.1.1) e2_); rintro e w111 ⟨rfl, hy0, hy1, hb, hkp⟩; refine ⟨_, rfl, ?_⟩; have n0_ := Aside0.mk (Kd.S_mono (ok' := fun k_ => some k_ ≠ (.slice Ao21 t184.length co21 : Value).ownBlock) hy0 (fun k_ hk => hk.2.1.1)); have n1_ := Aside0.mk (Kd.R_reok rfl hy1 (fun k_ e_ => HO_189001.out.1 k_ e_)); have n2_ := Aside0.mk (blk_kept (by (with_reducible repeat (first | refine blk_drewN ?_ _ | refine blk_drew ?_ | refine blk_alloc ?_ _)); exact BK177.out) hkp (fun hs_ => Or.elim hs_ (fun e_ => (fun e_ => (e_.2.1.2) rfl) e_) (fun e_ => (fun e_ => (Kd.R_ne HO_189001.out BK177.out (by decide)) e_) e_))); have n3_ := Aside0.mk (blk_kept (by (with_reducible repeat (first | refine blk_drewN ?_ _ | refine blk_drew ?_ | refine blk_alloc ?_ _)); exact BK188.out) hkp (fun hs_ => Or.elim hs_ (fun e_ => (fun e_ => (e_.2.2) rfl) e_) (fun e_ => (fun e_ => (Kd.R_ne HO_189001.out BK188.out (by decide)) e_) e_))); have n4_ := Aside0.mk (hb); clear HO_189000; clear HO_189001; clear BK177; clear BK188; clear HB; have HO_189000 := n0_; have HO_189001 := n1_; have BK177 := n2_; have BK188 := n3_; have HB := n4_; clear n0_ n1_ n2_ n3_ n4_; (try clear hb); (try clear hkp); (try clear hy0); (try clear hy1); have hcz112_0 : w111.cell? ⟨gb188, 0, none⟩ = some (.slice Ao18 t181.length co18) := (blk_cell BK188.out 0).trans rfl; have hcz112_1 : w111.cell? ⟨gb188, 1, none⟩ = some (.slice Ao21 t184.length co21) := (blk_cell BK188.out 1).trans rfl; have hfz112_0 := blk_frozen BK188.out 0; have hfz112_1 := blk_frozen BK188.out 1) | ((with_reducible refine gate_callee (f := 52) rfl ?_); refine goesL_ (some 68) rfl rfl Try.func52 (by kernel_rfl) rfl #[.agg #[.slice Ao18 t198.length co18, .slice Ao21 t199.length co21], .int .i64 1] rfl (by (try simp only [List.map_toArray, List.map_cons, List.map_nil]); first | done | (rw [show t198.length = t181.length from (Kd.S_reads' HO_189000.out).1.symm, show t199.length = t184.length from (Kd.R_reads' HO_189001.out).1.symm] <;> rfl) | rfl | (simp only [List.length_drop, List.length_take]; rfl)) ?_; (with_reducible refine (laws_heldSample.calls kj36 _ _ t198 _ _ t199 1 t200 _ ?side1 ?side2 ?side3 ?side4 A54.out).mono ?_); (case side1 => repeat (first | exact (Kd.S_reads' HO_189000.out).2.2 | (with_reducible refine Kd.C_alloc ?_ _) | (with_reducible refine Kd.C_drewN ?_ _) | (with_reducible refine Kd.C_drew ?_))); (case side2 => rw [show t198.length = t181.length from (Kd.S_reads' HO_189000.out).1.symm]; exact (Kd.S_reads' HO_189000.out).2.1); (case side3 => repeat (first | exact (Kd.R_reads' HO_189001.out).2.2 | (with_reducible refine Kd.C_alloc ?_ _) | (with_reducible refine Kd.C_drewN ?_ _) | (with_reducible refine Kd.C_drew ?_))); (case side4 => rw [show t199.length = t184.length from (Kd.R_reads' HO_189001.out).1.symm]; exact (Kd.R_reads' HO_189001.out).2.1); rintro e w113 ⟨rfl, hb⟩; refine ⟨_, rfl, ?_⟩; have n0_ := Aside0.mk (Kd.S_below (by (with_reducible repeat (first | apply Kd.S_alloc | apply Kd.S_drewN | apply Kd.S_drew)); exact HO_189000.out) hb); have n1_ := Aside0.mk (Kd.R_below (by (with_reducible repeat (first | apply Kd.R_alloc | apply Kd.R_drewN | apply Kd.R_drew)); exact HO_189001.out) hb); have n2_ := Aside0.mk (blk_below (g := gb177) (o := .cells #[.slice AW0 t170.length cW0, .slice AW1 t173.length cW1] 55 (0, 0)) (by (with_reducible repeat (first | refine blk_drewN ?_ _ | refine blk_drew ?_ | refine blk_alloc ?_ _)); exact BK177.out) hb); have n3_ := Aside0.mk (blk_below (g := gb188) (o := .cells #[.slice Ao18 t181.length co18, .slice Ao21 t184.length co21] 55 (0, 0)) (by (with_reducible repeat (first | refine blk_drewN ?_ _ | refine blk_drew ?_ | refine blk_alloc ?_ _)); exact BK188.out) hb); have n4_ := Aside0.mk (below_step (by repeat (first | (with_reducible first | exact HB.out | apply below_alloc | apply pw_below_drewN | apply below_drew1 | refine below_set ?_ GE177.out | refine below_set ?_ GE188.out) | exact HB.out)) hb); clear HO_189000; clear HO_189001; clear BK177; clear BK188; clear HB; have HO_189000 := n0_; have HO_189001 := n1_; have BK177 := n2_; have BK188 := n3_; have HB := n4_; clear n0_ n1_ n2_ n3_ n4_; (try clear hb); (try clear hb2); (try clear hk); (try clear hi)))
                      go_ret
                      refine And.imp_right (fun h_ => below_step HB0.out h_) ?_
                      exact ⟨by first | rfl | (simp [errW_none, errW_some] <;> rfl) | (simp [*, errW_none, errW_some] <;> rfl), by repeat (first | (with_reducible first | exact HB.out | apply below_alloc | apply pw_below_drewN | apply below_drew1 | refine below_set ?_ GE177.out | refine below_set ?_ GE188.out) | exact HB.out)⟩
          · replace c35 := Bool.eq_false_iff.mpr c35
            subst c35
            have H1 : (some false) = some r := by rw [if_neg (show ¬ (false = true) by decide)] at H; exact H
            clear H
            have H := H1
            clear H1
            obtain rfl := Option.some.inj H
            go_wp2_with (first | ((with_reducible refine gate_callee (f := 16) rfl ?_); refine goesL_ (some 44) rfl rfl Try.func16 (by kernel_rfl) rfl #[.slice A1 l1.length c1] rfl (by (try simp only [List.map_toArray, List.map_cons, List.map_nil]); first | done | rfl | (simp only [List.length_drop, List.length_take]; rfl)) ?_; (with_reducible refine (laws_toIntS.calls kj7 _ _ l1 t190 _ ?side1 ?side2 A33.out).mono ?_); (case side1 => repeat (first | exact (Kd.C_below HR1.out HB.out) | (with_reducible refine Kd.C_alloc ?_ _) | (with_reducible refine Kd.C_drewN ?_ _) | (with_reducible refine Kd.C_drew ?_))); (case side2 => exact HC1.out); rintro e w114 ⟨v191, rfl, ho0, hb⟩; refine ⟨_, rfl, ?_⟩; have n0_ := Aside0.mk (Kd.R_elder' (by (with_reducible repeat (first | apply Kd.R_alloc | apply Kd.R_drewN | apply Kd.R_drew)); exact HO_7.out) (Kd.R_base ho0) hb); have n1_ := Aside0.mk (Kd.S_elder' (by (with_reducible repeat (first | apply Kd.S_alloc | apply Kd.S_drewN | apply Kd.S_drew)); exact HO_189000.out) (Kd.R_base ho0) hb); have n2_ := Aside0.mk (Kd.R_elder' (by (with_reducible repeat (first | apply Kd.R_alloc | apply Kd.R_drewN | apply Kd.R_drew)); exact HO_189001.out) (Kd.R_base ho0) hb); have n3_ := Aside0.mk (Kd.R_lower (Kd.R_new' (Kd.R_new' ho0 (Kd.R_lt (by (with_reducible repeat (first | apply Kd.R_alloc | apply Kd.R_drewN | apply Kd.R_drew)); exact HO_7.out))) (Kd.R_lt (by (with_reducible repeat (first | apply Kd.R_alloc | apply Kd.R_drewN | apply Kd.R_drew)); exact HO_189001.out))) (below_size (by repeat (first | (with_reducible first | exact HB.out | apply below_alloc | apply pw_below_drewN | apply below_drew1 | refine below_set ?_ GE177.out | refine below_set ?_ GE188.out) | exact HB.out)))); have n4_ := Aside0.mk (blk_below (g := gb177) (o := .cells #[.slice AW0 t170.length cW0, .slice AW1 t173.length cW1] 55 (0, 0)) (by (with_reducible repeat (first | refine blk_drewN ?_ _ | refine blk_drew ?_ | refine blk_alloc ?_ _)); exact BK177.out) hb); have n5_ := Aside0.mk (blk_below (g := gb188) (o := .cells #[.slice Ao18 t181.length co18, .slice Ao21 t184.length co21] 55 (0, 0)) (by (with_reducible repeat (first | refine blk_drewN ?_ _ | refine blk_drew ?_ | refine blk_alloc ?_ _)); exact BK188.out) hb); have n6_ := Aside0.mk (below_step (by repeat (first | (with_reducible first | exact HB.out | apply below_alloc | apply pw_below_drewN | apply below_drew1 | refine below_set ?_ GE177.out | refine below_set ?_ GE188.out) | exact HB.out)) hb); clear HO_7; clear HO_189000; clear HO_189001; clear BK177; clear BK188; clear HB; have HO_7 := n0_; have HO_189000 := n1_; have HO_189001 := n2_; have HO192 := n3_; have BK177 := n4_; have BK188 := n5_; have HB := n6_; clear n0_ n1_ n2_ n3_ n4_ n5_ n6_; (try clear hb); (try clear hb2); (try clear hk); (try clear hi); (try clear ho0); obtain ⟨Ao115, co115, eo115⟩ := Kd.R_slice HO192.out; subst eo115) | ((with_reducible refine gate_callee (f := 18) rfl ?_); refine goesL_ (some 45) rfl rfl Try.func18 (by kernel_rfl) rfl #[.slice Ao15 t178.length co15, .slice Ao115 t190.length co115] rfl (by (try simp only [List.map_toArray, List.map_cons, List.map_nil]); first | done | rfl | (simp only [List.length_drop, List.length_take]; rfl)) ?_; (with_reducible refine (laws_eqIntS.calls kj7 _ _ t178 _ _ t190 false _ ?side1 ?side2 ?side3 ?side4 A34.out).mono ?_); (case side1 => repeat (first | exact (Kd.R_reads' HO_7.out).2.2 | (with_reducible refine Kd.C_alloc ?_ _) | (with_reducible refine Kd.C_drewN ?_ _) | (with_reducible refine Kd.C_drew ?_))); (case side2 => exact (Kd.R_reads' HO_7.out).2.1); (case side3 => repeat (first | exact (Kd.R_reads' HO192.out).2.2 | (with_reducible refine Kd.C_alloc ?_ _) | (with_reducible refine Kd.C_drewN ?_ _) | (with_reducible refine Kd.C_drew ?_))); (case side4 => exact (Kd.R_reads' HO192.out).2.1); rintro e w' ⟨rfl, ⟨nd, rfl⟩⟩; refine ⟨_, rfl, ?_⟩))
            go_ret
            refine And.imp_right (fun h_ => below_step HB0.out h_) ?_
            exact ⟨by first | rfl | (simp [errW_none, errW_some] <;> rfl) | (simp [*, errW_none, errW_some] <;> rfl), by repeat (first | (with_reducible first | exact HB.out | apply below_alloc | apply pw_below_drewN | apply below_drew1 | refine below_set ?_ GE177.out | refine below_set ?_ GE188.out) | exact HB.out)⟩

/-- THE ONE PURE STATEMENT of laws_FnExactTableSample: yours. -/
def laws_FnExactTableSample.Pure : Prop := ∀ (a0 : Int) (l1 : List Int), (Lit.int .i64 a0).wf = true → l1.length ≤ maxLen → l1.length * 8 ≤ 140737488351232 → (∀ x ∈ l1, (Lit.int .i64 x).wf = true) → ∃ k, laws_FnExactTableSample.f k a0 l1 = some true
theorem laws_FnExactTableSample.walk (P : laws_FnExactTableSample.Pure) (a0 : Int) (a1 : Option Addr) (len1 cap1 : Nat) (z1 : List Int) (w : World) (w0 : (Lit.int .i64 a0).wf = true) (w1 : (a1 = none ∧ len1 = 0 ∧ cap1 = 0 ∧ z1 = []) ∨ ∃ x, a1 = some x ∧ len1 ≤ cap1 ∧ cap1 ≤ maxLen ∧ z1.length = cap1 ∧ (∀ i, i < z1.length → w.cell? (x.add i) = some (.int .i64 (z1.getD i 0))) ∧ ∀ n ∈ z1, (Lit.int .i64 n).wf = true) (y1 : len1 * 8 ≤ 140737488351232) :
    Calls Try.prog 14 #[.int .i64 a0, .slice a1 len1 cap1] w fun e w' => e = .returned (.bool true) ∧ Below w.heap.size w w' := by
  obtain ⟨l1, rfl, hr1, hm1, hw1, hc1⟩ := ReadsInt.ofRowC w1
  obtain ⟨k, h⟩ := P a0 l1 w0 hm1 y1 hw1
  refine (laws_FnExactTableSample.calls k a0 _ _ l1 true w (Kd.C_of_reads (d := (0 : Int)) (h1 := fun _ => rfl) hr1) hc1 h).mono ?_
  rintro e w' ⟨rfl, hd⟩
  exact ⟨rfl, hd⟩

end Go.Proofs.Ytiejeflgefdceaa.QFnExactTableSample
