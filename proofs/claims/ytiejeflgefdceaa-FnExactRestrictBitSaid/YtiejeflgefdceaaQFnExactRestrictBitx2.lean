-- Laid by a program of this session for this claim.
import Derived.Test.YtiejeflgefdceaaClos
import Derived.Test.YtiejeflgefdceaaQFnExactRestrictBitx0
import Derived.Test.YtiejeflgefdceaaQFnExactRestrictBitx1
namespace Go.Proofs.Ytiejeflgefdceaa.QFnExactRestrictBit
open Go.RowKit Go.Proofs.YtiejeflgefdceaaW.PrintWords Go.Proofs.YtiejeflgefdceaaW.PrintLast Go.Proofs.YtiejeflgefdceaaW.PrintMore
attribute [local go_sem] max2_int min2_int max_two min_two max_three min_three max_four min_four   -- for this text's walks alone
set_option linter.unusedVariables false
set_option linter.unusedSimpArgs false

/-! ### spec_RestrictBit: function 23 -/
mutual
def spec_RestrictBit.j0 : Nat → List Int → Int → Int → List Int → Bool → Option (List Int × Bool)
  | 0, _, _, _, _, _ => none
  | k + 1, x1, x2, x3, x10, x28 => if x28 = true then (some (x10, false)) else (spec_RestrictBit.l0 k x1 x2 x3 x10 0)
def spec_RestrictBit.l0 : Nat → List Int → Int → Int → List Int → Int → Option (List Int × Bool)
  | 0, _, _, _, _, _ => none
  | k + 1, x1, x2, x3, x10, x11 => if x11 < (x1.length : Int) then (if 0 ≤ x2 then (if (Go.bits .and .i64 (shr .i64 x11 x2) 1) = x3 then (if 0 ≤ x11 then (if x10.length < 17592186044416 then (spec_RestrictBit.l0 k x1 x2 x3 (x10 ++ [rd x1 x11]) (wrap64 (x11 + 1))) else (none)) else (none)) else (spec_RestrictBit.l0 k x1 x2 x3 x10 (wrap64 (x11 + 1)))) else (none)) else (some (x10, true))
end
def spec_RestrictBit.f (k : Nat) (a0 : Int) (l1 : List Int) (a2 : Int) (a3 : Int) : Option (List Int × Bool) := (some (([] : List Int) : List Int)).bind fun y113 => ((spec_l2Table.f k a0 l1).bind fun t116 => (if t116 = true then ((spec_l1In.f a2 0 (wrap64 (a0 - 1))).bind fun t117 => (if t117 = true then ((spec_l1In.f a3 0 1).bind fun t118 => (spec_RestrictBit.j0 k l1 a2 a3 y113 (!t118))) else (spec_RestrictBit.j0 k l1 a2 a3 y113 true))) else (spec_RestrictBit.j0 k l1 a2 a3 y113 true)))
theorem spec_RestrictBit.mono_l : ∀ k, (∀ y0 y1 y2 y3 y4, LeO (spec_RestrictBit.j0 k y0 y1 y2 y3 y4) (spec_RestrictBit.j0 (k + 1) y0 y1 y2 y3 y4)) ∧ (∀ y0 y1 y2 y3 y4, LeO (spec_RestrictBit.l0 k y0 y1 y2 y3 y4) (spec_RestrictBit.l0 (k + 1) y0 y1 y2 y3 y4))
  | 0 => ⟨fun _ _ _ _ _ r h => by simp [spec_RestrictBit.j0] at h, fun _ _ _ _ _ r h => by simp [spec_RestrictBit.l0] at h⟩
  | k + 1 => by
    obtain ⟨ih0, ih1⟩ := spec_RestrictBit.mono_l k
    refine ⟨?_, ?_⟩
    · intro y0 y1 y2 y3 y4
      unfold spec_RestrictBit.j0
      repeat' first
      | (with_reducible exact ih0 _ _ _ _ _)
      | (with_reducible exact ih1 _ _ _ _ _)
      | (with_reducible exact spec_l2Table.mono _ _ _)
      | (with_reducible exact LeO.refl _)
      | (with_reducible exact LeO.none _)
      | (with_reducible refine LeO.ite ?_ ?_)
      | (with_reducible refine LeO.bind ?_ (fun _ => ?_))
      | exact ih0 _ _ _ _ _
      | exact ih1 _ _ _ _ _
      | exact spec_l2Table.mono _ _ _
      | exact LeO.none _
      | refine LeO.ite ?_ ?_
      | refine LeO.bind ?_ (fun _ => ?_)
    · intro y0 y1 y2 y3 y4
      unfold spec_RestrictBit.l0
      repeat' first
      | (with_reducible exact ih0 _ _ _ _ _)
      | (with_reducible exact ih1 _ _ _ _ _)
      | (with_reducible exact spec_l2Table.mono _ _ _)
      | (with_reducible exact LeO.refl _)
      | (with_reducible exact LeO.none _)
      | (with_reducible refine LeO.ite ?_ ?_)
      | (with_reducible refine LeO.bind ?_ (fun _ => ?_))
      | exact ih0 _ _ _ _ _
      | exact ih1 _ _ _ _ _
      | exact spec_l2Table.mono _ _ _
      | exact LeO.none _
      | refine LeO.ite ?_ ?_
      | refine LeO.bind ?_ (fun _ => ?_)
theorem spec_RestrictBit.mono : ∀ a0 a1 a2 a3 k, LeO (spec_RestrictBit.f k a0 a1 a2 a3) (spec_RestrictBit.f (k + 1) a0 a1 a2 a3) := by
  intro a0 a1 a2 a3 k
  obtain ⟨ih0, ih1⟩ := spec_RestrictBit.mono_l k
  unfold spec_RestrictBit.f
  repeat' first
      | (with_reducible exact ih0 _ _ _ _ _)
      | (with_reducible exact ih1 _ _ _ _ _)
      | (with_reducible exact spec_l2Table.mono _ _ _)
      | (with_reducible exact LeO.refl _)
      | (with_reducible exact LeO.none _)
      | (with_reducible refine LeO.ite ?_ ?_)
      | (with_reducible refine LeO.bind ?_ (fun _ => ?_))
      | exact ih0 _ _ _ _ _
      | exact ih1 _ _ _ _ _
      | exact spec_l2Table.mono _ _ _
      | exact LeO.none _
      | refine LeO.ite ?_ ?_
      | refine LeO.bind ?_ (fun _ => ?_)
set_option maxHeartbeats 8000000 in
set_option maxRecDepth 100000 in
theorem spec_RestrictBit.calls (k : Nat) (a0 : Int) (A1 : Option Addr) (c1 : Nat) (l1 : List Int) (a2 : Int) (a3 : Int) (r1 : List Int) (r2 : Bool) (w : World) (hr1 : Kd.C (Kd.int .i64) w A1 l1.length l1) (hc1 : l1.length ≤ c1) (h : spec_RestrictBit.f k a0 l1 a2 a3 = some (r1, r2)) :
    Calls Try.prog 23 #[.int .i64 a0, .slice A1 l1.length c1, .int .i64 a2, .int .i64 a3] w fun e w' => ∃ v0_ : Value, e = .returned (.tuple #[v0_, .bool r2]) ∧ Kd.R (Kd.int .i64) 3 w' w.heap.size (fun _ => True) v0_ r1 ∧ Below w.heap.size w w' := by
  have HR1 := Aside0.mk hr1
  have HC1 := Aside0.mk hc1
  clear hr1 hc1
  have HB := Aside0.mk (Below.refl w.heap.size w)
  have H : ((some (([] : List Int) : List Int)).bind fun y113 => ((spec_l2Table.f k a0 l1).bind fun t116 => (if t116 = true then ((spec_l1In.f a2 0 (wrap64 (a0 - 1))).bind fun t117 => (if t117 = true then ((spec_l1In.f a3 0 1).bind fun t118 => (spec_RestrictBit.j0 k l1 a2 a3 y113 (!t118))) else (spec_RestrictBit.j0 k l1 a2 a3 y113 true))) else (spec_RestrictBit.j0 k l1 a2 a3 y113 true)))) = some (r1, r2) := h
  clear h
  obtain ⟨y113, hy113⟩ : ∃ y_ : List Int, y_ = (([] : List Int)) := ⟨_, rfl⟩
  replace H : ((spec_l2Table.f k a0 l1).bind fun t116 => (if t116 = true then ((spec_l1In.f a2 0 (wrap64 (a0 - 1))).bind fun t117 => (if t117 = true then ((spec_l1In.f a3 0 1).bind fun t118 => (spec_RestrictBit.j0 k l1 a2 a3 y113 (!t118))) else (spec_RestrictBit.j0 k l1 a2 a3 y113 true))) else (spec_RestrictBit.j0 k l1 a2 a3 y113 true))) = some (r1, r2) := by first | (rw [hy113]; with_reducible exact H) | (have H2_ := (Option.bind_some _ _).symm.trans H; rw [hy113]; with_reducible exact H2_) | (have H2_ := (Option.bind_some _ _).symm.trans H; with_reducible exact H2_) | with_reducible exact H | (rw [hy113]; exact H) | exact H
  have Ny113 := Aside0.mk hy113
  clear hy113
  have HC5 := Aside0.mk H
  clear H
  go_enter Try.func23, Try.ntmps23
  go_upto_region 2 with (first | ((with_reducible refine gate_dst (N := 12) rfl ?_); refine Kd.R_lit (Kd.int .i64) _ 3 ?hg (N := 12) ?hd (xs := ([] : List Int)) (inner := []) (ok := fun _ => True) (okp := fun _ => True) ?hr ?hp (fun _ hk => hk) trivial (Below.refl _ _) (Nat.le_refl _) (by simp) ?_; (case hd => rfl); (case hg => rfl); (case hr => first | (go_simp; done) | (go_simp; rfl)); (case hp => exact (Reps.none _ _)); intro v114 w6 ho7 hb hg_ hnew_; clear hg_ hnew_; (first | rw [← Ny113.out] at ho7 | (simp only [Int.reduceToNat] at ho7; rw [← Ny113.out] at ho7)); have n0_ := Aside0.mk (Kd.R_lower ho7 (below_size (by repeat (first | (with_reducible first | exact HB.out | apply below_alloc | apply pw_below_drewN | apply below_drew1) | exact HB.out)))); have n1_ := Aside0.mk (below_step (by repeat (first | (with_reducible first | exact HB.out | apply below_alloc | apply pw_below_drewN | apply below_drew1) | exact HB.out)) hb); clear HB; have HO115 := n0_; have HB := n1_; clear n0_ n1_; clear hb ho7))
  (try simp only [Act.put, List.setIfInBounds_toArray, List.set_cons_zero, List.set_cons_succ])
  go_cut [28] (fun v28 wc => ∃ (kq : Nat) (x28_4 : Bool), v28 = .bool x28_4 ∧ Aside0 (spec_RestrictBit.j0 kq l1 a2 a3 y113 x28_4 = some (r1, r2)) ∧ Aside0 (kq ≤ k) ∧ Aside0 (Kd.R (Kd.int .i64) 3 wc w.heap.size (fun _ => True) v114 y113) ∧ Aside0 (Below w.heap.size w wc))
  case first =>
    have H := HC5.out
    clear HC5
    replace H := Option.bind_eq_some_iff.mp H
    obtain ⟨t116, A80, H⟩ := H
    replace H : (if t116 = true then ((spec_l1In.f a2 0 (wrap64 (a0 - 1))).bind fun t117 => (if t117 = true then ((spec_l1In.f a3 0 1).bind fun t118 => (spec_RestrictBit.j0 k l1 a2 a3 y113 (!t118))) else (spec_RestrictBit.j0 k l1 a2 a3 y113 true))) else (spec_RestrictBit.j0 k l1 a2 a3 y113 true)) = some (r1, r2) := H
    have A8 := Aside0.mk A80
    clear A80
    by_cases c9 : t116 = true
    · subst c9
      have H1 : ((spec_l1In.f a2 0 (wrap64 (a0 - 1))).bind fun t117 => (if t117 = true then ((spec_l1In.f a3 0 1).bind fun t118 => (spec_RestrictBit.j0 k l1 a2 a3 y113 (!t118))) else (spec_RestrictBit.j0 k l1 a2 a3 y113 true))) = some (r1, r2) := by rw [if_pos rfl] at H; exact H
      clear H
      have H := H1
      clear H1
      replace H := Option.bind_eq_some_iff.mp H
      obtain ⟨t117, A100, H⟩ := H
      replace H : (if t117 = true then ((spec_l1In.f a3 0 1).bind fun t118 => (spec_RestrictBit.j0 k l1 a2 a3 y113 (!t118))) else (spec_RestrictBit.j0 k l1 a2 a3 y113 true)) = some (r1, r2) := H
      have A10 := Aside0.mk A100
      clear A100
      by_cases c11 : t117 = true
      · subst c11
        have H1 : ((spec_l1In.f a3 0 1).bind fun t118 => (spec_RestrictBit.j0 k l1 a2 a3 y113 (!t118))) = some (r1, r2) := by rw [if_pos rfl] at H; exact H
        clear H
        have H := H1
        clear H1
        replace H := Option.bind_eq_some_iff.mp H
        obtain ⟨t118, A120, H⟩ := H
        replace H : (spec_RestrictBit.j0 k l1 a2 a3 y113 (!t118)) = some (r1, r2) := H
        have A12 := Aside0.mk A120
        clear A120
        have H' := Aside0.mk H
        clear H
        go_wp2_with (first | ((with_reducible refine gate_callee (f := 53) rfl ?_); refine goesL_ (some 15) rfl rfl Try.func53 (by kernel_rfl) rfl #[.int .i64 a0, .slice A1 l1.length c1] rfl (by (try simp only [List.map_toArray, List.map_cons, List.map_nil]); first | done | rfl | (simp only [List.length_drop, List.length_take]; rfl)) ?_; (with_reducible refine (spec_l2Table.calls k a0 _ _ l1 true _ ?side1 ?side2 A8.out).mono ?_); (case side1 => repeat (first | exact (Kd.C_below HR1.out HB.out) | (with_reducible refine Kd.C_alloc ?_ _) | (with_reducible refine Kd.C_drewN ?_ _) | (with_reducible refine Kd.C_drew ?_))); (case side2 => exact HC1.out); rintro e w' ⟨rfl, ⟨nd, rfl⟩⟩; refine ⟨_, rfl, ?_⟩) | (go_at_call 60; (with_reducible refine (spec_l1In.calls a2 0 (wrap64 (a0 - 1)) true _ A10.out).mono ?_); rintro e w' ⟨rfl, ⟨nd, rfl⟩⟩) | (go_at_call 60; (with_reducible refine (spec_l1In.calls a3 0 1 t118 _ A12.out).mono ?_); rintro e w' ⟨rfl, ⟨nd, rfl⟩⟩))
        go_meet
        case rel => exact ⟨_, (!t118), (by first | rfl | (simp; done) | (simp [*]; done)), H', ⟨by first | omega | exact Nat.le_refl _⟩, ⟨by (with_reducible repeat (first | apply Kd.R_alloc | apply Kd.R_drewN | apply Kd.R_drew)); exact HO115.out⟩, ⟨by repeat (first | (with_reducible first | exact HB.out | apply below_alloc | apply pw_below_drewN | apply below_drew1) | exact HB.out)⟩⟩
      · replace c11 := Bool.eq_false_iff.mpr c11
        subst c11
        have H1 : (spec_RestrictBit.j0 k l1 a2 a3 y113 true) = some (r1, r2) := by rw [if_neg (show ¬ (false = true) by decide)] at H; exact H
        clear H
        have H := H1
        clear H1
        have H' := Aside0.mk H
        clear H
        go_wp2_with (first | ((with_reducible refine gate_callee (f := 53) rfl ?_); refine goesL_ (some 15) rfl rfl Try.func53 (by kernel_rfl) rfl #[.int .i64 a0, .slice A1 l1.length c1] rfl (by (try simp only [List.map_toArray, List.map_cons, List.map_nil]); first | done | rfl | (simp only [List.length_drop, List.length_take]; rfl)) ?_; (with_reducible refine (spec_l2Table.calls k a0 _ _ l1 true _ ?side1 ?side2 A8.out).mono ?_); (case side1 => repeat (first | exact (Kd.C_below HR1.out HB.out) | (with_reducible refine Kd.C_alloc ?_ _) | (with_reducible refine Kd.C_drewN ?_ _) | (with_reducible refine Kd.C_drew ?_))); (case side2 => exact HC1.out); rintro e w' ⟨rfl, ⟨nd, rfl⟩⟩; refine ⟨_, rfl, ?_⟩) | (go_at_call 60; (with_reducible refine (spec_l1In.calls a2 0 (wrap64 (a0 - 1)) false _ A10.out).mono ?_); rintro e w' ⟨rfl, ⟨nd, rfl⟩⟩))
        go_meet
        case rel => exact ⟨_, (true), (by first | rfl | (simp; done) | (simp [*]; done)), H', ⟨by first | omega | exact Nat.le_refl _⟩, ⟨by (with_reducible repeat (first | apply Kd.R_alloc | apply Kd.R_drewN | apply Kd.R_drew)); exact HO115.out⟩, ⟨by repeat (first | (with_reducible first | exact HB.out | apply below_alloc | apply pw_below_drewN | apply below_drew1) | exact HB.out)⟩⟩
    · replace c9 := Bool.eq_false_iff.mpr c9
      subst c9
      have H1 : (spec_RestrictBit.j0 k l1 a2 a3 y113 true) = some (r1, r2) := by rw [if_neg (show ¬ (false = true) by decide)] at H; exact H
      clear H
      have H := H1
      clear H1
      have H' := Aside0.mk H
      clear H
      go_wp2_with (first | ((with_reducible refine gate_callee (f := 53) rfl ?_); refine goesL_ (some 15) rfl rfl Try.func53 (by kernel_rfl) rfl #[.int .i64 a0, .slice A1 l1.length c1] rfl (by (try simp only [List.map_toArray, List.map_cons, List.map_nil]); first | done | rfl | (simp only [List.length_drop, List.length_take]; rfl)) ?_; (with_reducible refine (spec_l2Table.calls k a0 _ _ l1 false _ ?side1 ?side2 A8.out).mono ?_); (case side1 => repeat (first | exact (Kd.C_below HR1.out HB.out) | (with_reducible refine Kd.C_alloc ?_ _) | (with_reducible refine Kd.C_drewN ?_ _) | (with_reducible refine Kd.C_drew ?_))); (case side2 => exact HC1.out); rintro e w' ⟨rfl, ⟨nd, rfl⟩⟩; refine ⟨_, rfl, ?_⟩))
      go_meet
      case rel => exact ⟨_, (true), (by first | rfl | (simp; done) | (simp [*]; done)), H', ⟨by first | omega | exact Nat.le_refl _⟩, ⟨by (with_reducible repeat (first | apply Kd.R_alloc | apply Kd.R_drewN | apply Kd.R_drew)); exact HO115.out⟩, ⟨by repeat (first | (with_reducible first | exact HB.out | apply below_alloc | apply pw_below_drewN | apply below_drew1) | exact HB.out)⟩⟩
  case rest =>
    clear HC5
    try clear c1
    try clear c2
    try clear p2
    try clear c5
    try clear p6
    try clear c9
    try clear c11
    obtain ⟨kq, x28_4, rfl, HA, HJ4, HO_10, HB⟩ := hcut
    cases kq with
    | zero => exact absurd HA.out (by simp [spec_RestrictBit.j0])
    | succ kj4 =>
      have H := HA.out
      clear HA
      simp only [spec_RestrictBit.j0] at H
      by_cases c13 : x28_4 = true
      · subst c13
        have H1 : (some (y113, false)) = some (r1, r2) := by rw [if_pos rfl] at H; exact H
        clear H
        have H := H1
        clear H1
        simp only [Option.some.injEq, Prod.mk.injEq] at H
        obtain ⟨rfl, rfl⟩ := H
        go_wp2
        go_ret2
        exact ⟨_, by first | rfl | (simp [errW_none, errW_some] <;> rfl) | (simp [*, errW_none, errW_some] <;> rfl), by (with_reducible repeat (first | apply Kd.R_alloc | apply Kd.R_drewN | apply Kd.R_drew)); exact HO_10.out, by repeat (first | (with_reducible first | exact HB.out | apply below_alloc | apply pw_below_drewN | apply below_drew1) | exact HB.out)⟩
      · replace c13 := Bool.eq_false_iff.mpr c13
        subst c13
        have H1 : (spec_RestrictBit.l0 kj4 l1 a2 a3 y113 0) = some (r1, r2) := by rw [if_neg (show ¬ (false = true) by decide)] at H; exact H
        clear H
        have H := H1
        clear H1
        have H' := Aside0.mk H
        clear H
        go_wp2
        go_loopg [10, 11] kj4 (fun kq v10 v11 w' => ∃ (x10_2 : List Int) (x11_2 : Int), v11 = .int .i64 x11_2 ∧ Aside0 (spec_RestrictBit.l0 kq l1 a2 a3 x10_2 x11_2 = some (r1, r2)) ∧ Aside0 (kq ≤ kj4) ∧ Aside0 (Kd.R (Kd.int .i64) 3 w' w.heap.size (fun _ => True) v10 x10_2) ∧ Aside0 (Below w.heap.size w w'))
        case atStart => exact ⟨(y113), (0), (by first | rfl | (simp; done) | (simp [*]; done)), H', ⟨Nat.le_refl _⟩, ⟨by (with_reducible repeat (first | apply Kd.R_alloc | apply Kd.R_drewN | apply Kd.R_drew)); exact HO_10.out⟩, ⟨by repeat (first | (with_reducible first | exact HB.out | apply below_alloc | apply pw_below_drewN | apply below_drew1) | exact HB.out)⟩⟩
        case round =>
          clear H'
          try clear c1
          try clear c2
          try clear p2
          try clear c5
          try clear p6
          try clear c9
          try clear c11
          try clear c13
          try clear p2
          try clear p6
          obtain ⟨x10_2, x11_2, rfl, HA, HK2, HO_10, HB⟩ := hrel
          cases gk with
          | zero => exact absurd HA.out (by simp [spec_RestrictBit.l0])
          | succ k2 =>
            have H := HA.out
            clear HA
            simp only [spec_RestrictBit.l0] at H
            by_cases c14 : x11_2 < (l1.length : Int)
            · rw [if_pos c14] at H
              have c14b0 : decide (x11_2 < (l1.length : Int)) = true := decide_eq_true c14
              clear c14
              by_cases c15 : 0 ≤ a2
              · rw [if_pos c15] at H
                have c15b0 := eq_true c15
                have c15b1 : decide (0 ≤ a2) = true := decide_eq_true c15
                clear c15
                obtain ⟨ji16, hji16⟩ : ∃ j_ : Int, (shr .i64 x11_2 a2) = j_ := ⟨_, rfl⟩
                replace H : (if (Go.bits .and .i64 (ji16) 1) = a3 then (if 0 ≤ x11_2 then (if x10_2.length < 17592186044416 then (spec_RestrictBit.l0 k2 l1 a2 a3 (x10_2 ++ [rd l1 x11_2]) (wrap64 (x11_2 + 1))) else (none)) else (none)) else (spec_RestrictBit.l0 k2 l1 a2 a3 x10_2 (wrap64 (x11_2 + 1)))) = some (r1, r2) := by first | (rw [hji16] at H; exact H) | (simp only [hji16] at H ⊢; exact H)
                have hji16_ : (x11_2 / 2 ^ min a2.toNat 64) = ji16 := hji16
                have hji16z : a2 ≤ 64 → (x11_2 / 2 ^ a2.toNat) = ji16 := shr_small hji16
                by_cases c17 : (Go.bits .and .i64 (ji16) 1) = a3
                · rw [if_pos c17] at H
                  have c17b0 : ((Go.bits .and .i64 (ji16) 1) == a3) = true := beq_iff_eq.mpr c17
                  have c17b1 : ((Go.bits .and .i64 (ji16) 1) != a3) = false := bne_eq_false_iff_eq.mpr c17
                  clear c17
                  by_cases c18 : 0 ≤ x11_2
                  · rw [if_pos c18] at H
                    have c18b0 : decide (0 ≤ x11_2) = true := decide_eq_true c18
                    clear c18
                    by_cases c19 : x10_2.length < 17592186044416
                    · rw [if_pos c19] at H
                      have LMc19 := Aside0.mk c19
                      clear c19
                      obtain ⟨y120, hy120⟩ : ∃ y_ : List Int, y_ = (x10_2 ++ [rd l1 x11_2]) := ⟨_, rfl⟩
                      replace H : (spec_RestrictBit.l0 k2 l1 a2 a3 y120 (wrap64 (x11_2 + 1))) = some (r1, r2) := by first | (rw [hy120]; with_reducible exact H) | (have H2_ := (Option.bind_some _ _).symm.trans H; rw [hy120]; with_reducible exact H2_) | (have H2_ := (Option.bind_some _ _).symm.trans H; with_reducible exact H2_) | with_reducible exact H | (rw [hy120]; exact H) | exact H
                      have Ny120 := Aside0.mk hy120
                      clear hy120
                      have H' := Aside0.mk H
                      clear H
                      have p119 : 0 ≤ (x11_2 : Int) := of_decide_eq_true (by first | (with_reducible assumption) | assumption)
                      have q119 : x11_2 < (l1.length : Int) := of_decide_eq_true (by first | (with_reducible assumption) | assumption)
                      obtain ⟨ad119, e119, hx119_0⟩ := Kd.at_int HR1.out x11_2 p119 q119
                      cases e119
                      replace hx119_0 := (HB.out.cell (World.block_lt_of_cell? w _ hx119_0)).trans hx119_0
                      replace p119 := eq_true p119
                      replace q119 := eq_true q119
                      go_wp2_with (first | ((with_reducible refine gate_builtin (b := .append) (xs := #[.tmp 42, .tmp 47]) rfl ?_); at_builtin; refine Kd.R_append (Kd.int .i64) (w0 := w) w.heap.size rfl (.tmp 42) (.tmp 47) 22 3 (.int .i64 0) 8 rfl Try.underlying22 info3 rfl (by decide) (by omega) u10 x10_2 (rd l1 x11_2) [.int .i64 (rd l1 x11_2)] (fun _ => True) (fun _ => False) rfl rfl ?aP (fun _ hk => hk.elim) ?aF ?aO ?aB ?aS ?aL ?_; (case aP => exact rfl); (case aB => exact (by repeat (first | (with_reducible first | exact HB.out | apply below_alloc | apply pw_below_drewN | apply below_drew1) | exact HB.out))); (case aF => exact (fun _ _ => trivial)); (case aO => exact (by (with_reducible repeat (first | apply Kd.R_alloc | apply Kd.R_drewN | apply Kd.R_drew)); exact HO_10.out)); (case aS => exact (below_size (by repeat (first | (with_reducible first | exact HB.out | apply below_alloc | apply pw_below_drewN | apply below_drew1) | exact HB.out)))); (case aL => have := LMc19.out; omega); intro v121 w20 ho hb hg hat; rw [← Ny120.out] at ho; have n0_ := Aside0.mk (hb); have n1_ := Aside0.mk (ho); clear HB; clear HO_10; have HB := n0_; have HO122 := n1_; clear n0_ n1_; clear ho hb hg hat))
                      go_roundg k2
                      case measure => have := HJ4.out; have := HK2.out; omega
                      case rel => exact ⟨(y120), (wrap64 (x11_2 + 1)), (by first | rfl | (simp; done) | (simp [*]; done)), H', ⟨by have := HJ4.out; have := HK2.out; omega⟩, ⟨by (with_reducible repeat (first | apply Kd.R_alloc | apply Kd.R_drewN | apply Kd.R_drew)); exact HO122.out⟩, ⟨by repeat (first | (with_reducible first | exact HB.out | apply below_alloc | apply pw_below_drewN | apply below_drew1) | exact HB.out)⟩⟩
                    · rw [if_neg c19] at H
                      exact absurd H (by simp)
                  · rw [if_neg c18] at H
                    exact absurd H (by simp)
                · rw [if_neg c17] at H
                  have c17b0 : ((Go.bits .and .i64 (ji16) 1) == a3) = false := beq_eq_false_iff_ne.mpr c17
                  have c17b1 : ((Go.bits .and .i64 (ji16) 1) != a3) = true := bne_iff_ne.mpr c17
                  have H' := Aside0.mk H
                  clear H
                  go_wp2
                  go_roundg k2
                  case measure => have := HJ4.out; have := HK2.out; omega
                  case rel => exact ⟨(x10_2), (wrap64 (x11_2 + 1)), (by first | rfl | (simp; done) | (simp [*]; done)), H', ⟨by have := HJ4.out; have := HK2.out; omega⟩, ⟨by (with_reducible repeat (first | apply Kd.R_alloc | apply Kd.R_drewN | apply Kd.R_drew)); exact HO_10.out⟩, ⟨by repeat (first | (with_reducible first | exact HB.out | apply below_alloc | apply pw_below_drewN | apply below_drew1) | exact HB.out)⟩⟩
              · rw [if_neg c15] at H
                exact absurd H (by simp)
            · rw [if_neg c14] at H
              have c14b0 : decide (x11_2 < (l1.length : Int)) = false := decide_eq_false c14
              clear c14
              simp only [Option.some.injEq, Prod.mk.injEq] at H
              obtain ⟨rfl, rfl⟩ := H
              go_wp2
              go_ret2
              exact ⟨_, by first | rfl | (simp [errW_none, errW_some] <;> rfl) | (simp [*, errW_none, errW_some] <;> rfl), by (with_reducible repeat (first | apply Kd.R_alloc | apply Kd.R_drewN | apply Kd.R_drew)); exact HO_10.out, by repeat (first | (with_reducible first | exact HB.out | apply below_alloc | apply pw_below_drewN | apply below_drew1) | exact HB.out)⟩

/-! ### impl_within: function 61 -/
def impl_within.f (a0 : Int) (a1 : Int) (a2 : Int) : Option (Bool) := if a0 ≥ a1 then (some (decide (a0 ≤ a2))) else (some false)
set_option maxHeartbeats 8000000 in
set_option maxRecDepth 100000 in
theorem impl_within.calls (a0 : Int) (a1 : Int) (a2 : Int) (r : Bool) (w : World) (h : impl_within.f a0 a1 a2 = some r) :
    Calls Try.prog 61 #[.int .i64 a0, .int .i64 a1, .int .i64 a2] w fun e w' => e = .returned (.bool r) ∧ Drawn0 w w' := by
  have H : (if a0 ≥ a1 then (some (decide (a0 ≤ a2))) else (some false)) = some r := h
  clear h
  by_cases c4 : a0 ≥ a1
  · rw [if_pos c4] at H
    have c4b0 : decide (a1 ≤ a0) = true := decide_eq_true c4
    clear c4
    obtain rfl := Option.some.inj H
    go_enter Try.func61, Try.ntmps61
    go_wp2
    go_ret
    exact ⟨by first | rfl | (simp; done) | (simp [*]; done), by repeat (first | exact Drawn0.refl _ | apply Drawn0.step)⟩
  · rw [if_neg c4] at H
    have c4b0 : decide (a1 ≤ a0) = false := decide_eq_false c4
    clear c4
    obtain rfl := Option.some.inj H
    go_enter Try.func61, Try.ntmps61
    go_wp2
    go_ret
    exact ⟨by first | rfl | (simp; done) | (simp [*]; done), by repeat (first | exact Drawn0.refl _ | apply Drawn0.step)⟩

/-! ### impl_allWithin: function 56 -/
def impl_allWithin.l0 : Nat → Int → Int → List Int → Int → Int → Option (Bool)
  | 0, _, _, _, _, _ => none
  | k + 1, x1, x2, x9, x10, x11 => if x11 < x10 then (if 0 ≤ x11 then (if x11 < (x9.length : Int) then ((impl_within.f (rd x9 x11) x1 x2).bind fun t124 => (if t124 = true then (impl_allWithin.l0 k x1 x2 x9 x10 (wrap64 (x11 + 1))) else (some false))) else (none)) else (none)) else (some true)
def impl_allWithin.f (k : Nat) (l0 : List Int) (a1 : Int) (a2 : Int) : Option (Bool) := impl_allWithin.l0 k a1 a2 l0 (l0.length : Int) 0
theorem impl_allWithin.mono_l : ∀ k, (∀ y0 y1 y2 y3 y4, LeO (impl_allWithin.l0 k y0 y1 y2 y3 y4) (impl_allWithin.l0 (k + 1) y0 y1 y2 y3 y4))
  | 0 => fun _ _ _ _ _ r h => by simp [impl_allWithin.l0] at h
  | k + 1 => by
    have ih0 := impl_allWithin.mono_l k
    · intro y0 y1 y2 y3 y4
      unfold impl_allWithin.l0
      repeat' first
      | (with_reducible exact ih0 _ _ _ _ _)
      | (with_reducible exact LeO.refl _)
      | (with_reducible exact LeO.none _)
      | (with_reducible refine LeO.ite ?_ ?_)
      | (with_reducible refine LeO.bind ?_ (fun _ => ?_))
      | exact ih0 _ _ _ _ _
      | exact LeO.none _
      | refine LeO.ite ?_ ?_
      | refine LeO.bind ?_ (fun _ => ?_)
theorem impl_allWithin.mono : ∀ a0 a1 a2 k, LeO (impl_allWithin.f k a0 a1 a2) (impl_allWithin.f (k + 1) a0 a1 a2) := by
  intro a0 a1 a2 k
  have ih0 := impl_allWithin.mono_l k
  unfold impl_allWithin.f
  repeat' first
      | (with_reducible exact ih0 _ _ _ _ _)
      | (with_reducible exact LeO.refl _)
      | (with_reducible exact LeO.none _)
      | (with_reducible refine LeO.ite ?_ ?_)
      | (with_reducible refine LeO.bind ?_ (fun _ => ?_))
      | exact ih0 _ _ _ _ _
      | exact LeO.none _
      | refine LeO.ite ?_ ?_
      | refine LeO.bind ?_ (fun _ => ?_)
set_option maxHeartbeats 8000000 in
set_option maxRecDepth 100000 in
theorem impl_allWithin.calls (k : Nat) (A0 : Option Addr) (c0 : Nat) (l0 : List Int) (a1 : Int) (a2 : Int) (r : Bool) (w : World) (hr0 : Kd.C (Kd.int .i64) w A0 l0.length l0) (hc0 : l0.length ≤ c0) (h : impl_allWithin.f k l0 a1 a2 = some r) :
    Calls Try.prog 56 #[.slice A0 l0.length c0, .int .i64 a1, .int .i64 a2] w fun e w' => e = .returned (.bool r) ∧ Drawn0 w w' := by
  have HR0 := Aside0.mk hr0
  have HC0 := Aside0.mk hc0
  clear hr0 hc0
  have H : (impl_allWithin.l0 k a1 a2 l0 (l0.length : Int) 0) = some r := h
  clear h
  have H' := Aside0.mk H
  clear H
  go_enter Try.func56, Try.ntmps56
  go_wp2
  go_loopg [11] k (fun kq v11 w' => ∃ (x11_1 : Int), v11 = .int .i64 x11_1 ∧ Aside0 (impl_allWithin.l0 kq a1 a2 l0 (l0.length : Int) x11_1 = some r) ∧ Aside0 (kq ≤ k) ∧ Drawn0 w w')
  case atStart => exact ⟨(0), (by first | rfl | (simp; done) | (simp [*]; done)), H', ⟨Nat.le_refl _⟩, by repeat (first | exact Drawn0.refl _ | apply Drawn0.step)⟩
  case round =>
    clear H'
    try clear p2
    obtain ⟨x11_1, rfl, HA, HK1, ⟨m1, rfl⟩⟩ := hrel
    cases gk with
    | zero => exact absurd HA.out (by simp [impl_allWithin.l0])
    | succ k1 =>
      have H := HA.out
      clear HA
      simp only [impl_allWithin.l0] at H
      by_cases c4 : x11_1 < (l0.length : Int)
      · rw [if_pos c4] at H
        have c4b0 : decide (x11_1 < (l0.length : Int)) = true := decide_eq_true c4
        clear c4
        by_cases c5 : 0 ≤ x11_1
        · rw [if_pos c5] at H
          have c5b0 : decide (0 ≤ x11_1) = true := decide_eq_true c5
          clear c5
          by_cases c6 : x11_1 < (l0.length : Int)
          · rw [if_pos c6] at H
            have c6b0 : decide (x11_1 < (l0.length : Int)) = true := decide_eq_true c6
            clear c6
            replace H := Option.bind_eq_some_iff.mp H
            obtain ⟨t124, A70, H⟩ := H
            replace H : (if t124 = true then (impl_allWithin.l0 k1 a1 a2 l0 (l0.length : Int) (wrap64 (x11_1 + 1))) else (some false)) = some r := H
            have A7 := Aside0.mk A70
            clear A70
            by_cases c8 : t124 = true
            · subst c8
              have H1 : (impl_allWithin.l0 k1 a1 a2 l0 (l0.length : Int) (wrap64 (x11_1 + 1))) = some r := by rw [if_pos rfl] at H; exact H
              clear H
              have H := H1
              clear H1
              have H' := Aside0.mk H
              clear H
              have p123 : 0 ≤ (x11_1 : Int) := of_decide_eq_true (by first | (with_reducible assumption) | assumption)
              have q123 : x11_1 < (l0.length : Int) := of_decide_eq_true (by first | (with_reducible assumption) | assumption)
              obtain ⟨ad123, e123, hx123_0⟩ := Kd.at_int HR0.out x11_1 p123 q123
              cases e123
              replace p123 := eq_true p123
              replace q123 := eq_true q123
              go_wp2_with (first | ((with_reducible refine gate_callee (f := 61) rfl ?_); refine goesL_ (some 18) rfl rfl Try.func61 (by kernel_rfl) rfl #[.int .i64 (rd l0 x11_1), .int .i64 a1, .int .i64 a2] rfl (by (try simp only [List.map_toArray, List.map_cons, List.map_nil]); first | done | rfl | (simp only [List.length_drop, List.length_take]; rfl)) ?_; (with_reducible refine (impl_within.calls (rd l0 x11_1) a1 a2 true _ A7.out).mono ?_); rintro e w' ⟨rfl, ⟨nd, rfl⟩⟩; refine ⟨_, rfl, ?_⟩))
              go_roundg k1
              case measure => have := HK1.out; omega
              case rel => exact ⟨(wrap64 (x11_1 + 1)), (by first | rfl | (simp; done) | (simp [*]; done)), H', ⟨by have := HK1.out; omega⟩, by repeat (first | exact Drawn0.refl _ | apply Drawn0.step)⟩
            · replace c8 := Bool.eq_false_iff.mpr c8
              subst c8
              have H1 : (some false) = some r := by rw [if_neg (show ¬ (false = true) by decide)] at H; exact H
              clear H
              have H := H1
              clear H1
              obtain rfl := Option.some.inj H
              have p123 : 0 ≤ (x11_1 : Int) := of_decide_eq_true (by first | (with_reducible assumption) | assumption)
              have q123 : x11_1 < (l0.length : Int) := of_decide_eq_true (by first | (with_reducible assumption) | assumption)
              obtain ⟨ad123, e123, hx123_0⟩ := Kd.at_int HR0.out x11_1 p123 q123
              cases e123
              replace p123 := eq_true p123
              replace q123 := eq_true q123
              go_wp2_with (first | ((with_reducible refine gate_callee (f := 61) rfl ?_); refine goesL_ (some 18) rfl rfl Try.func61 (by kernel_rfl) rfl #[.int .i64 (rd l0 x11_1), .int .i64 a1, .int .i64 a2] rfl (by (try simp only [List.map_toArray, List.map_cons, List.map_nil]); first | done | rfl | (simp only [List.length_drop, List.length_take]; rfl)) ?_; (with_reducible refine (impl_within.calls (rd l0 x11_1) a1 a2 false _ A7.out).mono ?_); rintro e w' ⟨rfl, ⟨nd, rfl⟩⟩; refine ⟨_, rfl, ?_⟩))
              go_ret
              exact ⟨by first | rfl | (simp; done) | (simp [*]; done), by repeat (first | exact Drawn0.refl _ | apply Drawn0.step)⟩
          · rw [if_neg c6] at H
            exact absurd H (by simp)
        · rw [if_neg c5] at H
          exact absurd H (by simp)
      · rw [if_neg c4] at H
        have c4b0 : decide (x11_1 < (l0.length : Int)) = false := decide_eq_false c4
        clear c4
        obtain rfl := Option.some.inj H
        go_wp2
        go_ret
        exact ⟨by first | rfl | (simp; done) | (simp [*]; done), by repeat (first | exact Drawn0.refl _ | apply Drawn0.step)⟩

/-! ### impl_isTable: function 55 -/
def impl_isTable.f (k : Nat) (a0 : Int) (l1 : List Int) : Option (Bool) := (impl_within.f a0 0 4).bind fun t125 => (if t125 = true then (if 0 ≤ a0 then (if (l1.length : Int) = (shl .i64 1 a0) then ((impl_allWithin.f k l1 0 1).bind fun t126 => (some t126)) else (some false)) else (none)) else (some false))
theorem impl_isTable.mono : ∀ a0 a1 k, LeO (impl_isTable.f k a0 a1) (impl_isTable.f (k + 1) a0 a1) := by
  intro a0 a1 k
  unfold impl_isTable.f
  repeat' first
      | (with_reducible exact impl_allWithin.mono _ _ _ _)
      | (with_reducible exact LeO.refl _)
      | (with_reducible exact LeO.none _)
      | (with_reducible refine LeO.ite ?_ ?_)
      | (with_reducible refine LeO.bind ?_ (fun _ => ?_))
      | exact impl_allWithin.mono _ _ _ _
      | exact LeO.none _
      | refine LeO.ite ?_ ?_
      | refine LeO.bind ?_ (fun _ => ?_)
set_option maxHeartbeats 8000000 in
set_option maxRecDepth 100000 in
theorem impl_isTable.calls (k : Nat) (a0 : Int) (A1 : Option Addr) (c1 : Nat) (l1 : List Int) (r : Bool) (w : World) (hr1 : Kd.C (Kd.int .i64) w A1 l1.length l1) (hc1 : l1.length ≤ c1) (h : impl_isTable.f k a0 l1 = some r) :
    Calls Try.prog 55 #[.int .i64 a0, .slice A1 l1.length c1] w fun e w' => e = .returned (.bool r) ∧ Drawn0 w w' := by
  have HR1 := Aside0.mk hr1
  have HC1 := Aside0.mk hc1
  clear hr1 hc1
  have H : ((impl_within.f a0 0 4).bind fun t125 => (if t125 = true then (if 0 ≤ a0 then (if (l1.length : Int) = (shl .i64 1 a0) then ((impl_allWithin.f k l1 0 1).bind fun t126 => (some t126)) else (some false)) else (none)) else (some false))) = some r := h
  clear h
  replace H := Option.bind_eq_some_iff.mp H
  obtain ⟨t125, A30, H⟩ := H
  replace H : (if t125 = true then (if 0 ≤ a0 then (if (l1.length : Int) = (shl .i64 1 a0) then ((impl_allWithin.f k l1 0 1).bind fun t126 => (some t126)) else (some false)) else (none)) else (some false)) = some r := H
  have A3 := Aside0.mk A30
  clear A30
  by_cases c4 : t125 = true
  · subst c4
    have H1 : (if 0 ≤ a0 then (if (l1.length : Int) = (shl .i64 1 a0) then ((impl_allWithin.f k l1 0 1).bind fun t126 => (some t126)) else (some false)) else (none)) = some r := by rw [if_pos rfl] at H; exact H
    clear H
    have H := H1
    clear H1
    by_cases c5 : 0 ≤ a0
    · rw [if_pos c5] at H
      have c5b0 := eq_true c5
      have c5b1 : decide (0 ≤ a0) = true := decide_eq_true c5
      clear c5
      obtain ⟨ji6, hji6⟩ : ∃ j_ : Int, (shl .i64 1 a0) = j_ := ⟨_, rfl⟩
      replace H : (if (l1.length : Int) = (ji6) then ((impl_allWithin.f k l1 0 1).bind fun t126 => (some t126)) else (some false)) = some r := by first | (rw [hji6] at H; exact H) | (simp only [hji6] at H ⊢; exact H)
      (try rw [hji6] at A3)
      have hji6_ : (IntKind.i64.wrap (1 * 2 ^ min a0.toNat 64)) = ji6 := hji6
      have hji6z : a0 ≤ 64 → (IntKind.i64.wrap (1 * 2 ^ a0.toNat)) = ji6 := shl_small hji6
      have hji6u : (IntKind.i64.wrap (2 ^ min a0.toNat 64)) = ji6 := by have h_ := hji6_; rw [Int.one_mul] at h_; exact h_
      have hji6v : a0 ≤ 64 → (IntKind.i64.wrap (2 ^ a0.toNat)) = ji6 := fun hle_ => by have h_ := hji6z hle_; rw [Int.one_mul] at h_; exact h_
      have hji6y : (wrap64 (1 * 2 ^ min a0.toNat 64)) = ji6 := (i64_w _).symm.trans hji6_
      have hji6x : a0 ≤ 64 → (wrap64 (1 * 2 ^ a0.toNat)) = ji6 := fun h_ => (i64_w _).symm.trans (hji6z h_)
      by_cases c7 : (l1.length : Int) = (ji6)
      · rw [if_pos c7] at H
        have c7b0 : ((l1.length : Int) == (ji6)) = true := beq_iff_eq.mpr c7
        have c7b1 : ((l1.length : Int) != (ji6)) = false := bne_eq_false_iff_eq.mpr c7
        clear c7
        replace H := Option.bind_eq_some_iff.mp H
        obtain ⟨t126, A80, H⟩ := H
        replace H : (some t126) = some r := H
        have A8 := Aside0.mk A80
        clear A80
        obtain rfl := Option.some.inj H
        go_enter Try.func55, Try.ntmps55
        go_wp2_with (first | ((with_reducible refine gate_callee (f := 61) rfl ?_); refine goesL_ (some 6) rfl rfl Try.func61 (by kernel_rfl) rfl #[.int .i64 a0, .int .i64 0, .int .i64 4] rfl (by (try simp only [List.map_toArray, List.map_cons, List.map_nil]); first | done | rfl | (simp only [List.length_drop, List.length_take]; rfl)) ?_; (with_reducible refine (impl_within.calls a0 0 4 true _ A3.out).mono ?_); rintro e w' ⟨rfl, ⟨nd, rfl⟩⟩; refine ⟨_, rfl, ?_⟩) | (go_at_call 56; (with_reducible refine (impl_allWithin.calls k _ _ l1 0 1 t126 _ ?side1 ?side2 A8.out).mono ?_); (case side1 => repeat (first | exact HR1.out | (with_reducible refine Kd.C_alloc ?_ _) | (with_reducible refine Kd.C_drewN ?_ _) | (with_reducible refine Kd.C_drew ?_))); (case side2 => exact HC1.out); rintro e w' ⟨rfl, ⟨nd, rfl⟩⟩))
        go_ret
        exact ⟨by first | rfl | (simp; done) | (simp only [← hji6] <;> (first | rfl | simp)) | (simp [*]; done), by repeat (first | exact Drawn0.refl _ | apply Drawn0.step)⟩
      · rw [if_neg c7] at H
        have c7b0 : ((l1.length : Int) == (ji6)) = false := beq_eq_false_iff_ne.mpr c7
        have c7b1 : ((l1.length : Int) != (ji6)) = true := bne_iff_ne.mpr c7
        obtain rfl := Option.some.inj H
        go_enter Try.func55, Try.ntmps55
        go_wp2_with (first | ((with_reducible refine gate_callee (f := 61) rfl ?_); refine goesL_ (some 6) rfl rfl Try.func61 (by kernel_rfl) rfl #[.int .i64 a0, .int .i64 0, .int .i64 4] rfl (by (try simp only [List.map_toArray, List.map_cons, List.map_nil]); first | done | rfl | (simp only [List.length_drop, List.length_take]; rfl)) ?_; (with_reducible refine (impl_within.calls a0 0 4 true _ A3.out).mono ?_); rintro e w' ⟨rfl, ⟨nd, rfl⟩⟩; refine ⟨_, rfl, ?_⟩))
        go_ret
        exact ⟨by first | rfl | (simp; done) | (simp only [← hji6] <;> (first | rfl | simp)) | (simp [*]; done), by repeat (first | exact Drawn0.refl _ | apply Drawn0.step)⟩
    · rw [if_neg c5] at H
      exact absurd H (by simp)
  · replace c4 := Bool.eq_false_iff.mpr c4
    subst c4
    have H1 : (some false) = some r := by rw [if_neg (show ¬ (false = true) by decide)] at H; exact H
    clear H
    have H := H1
    clear H1
    obtain rfl := Option.some.inj H
    go_enter Try.func55, Try.ntmps55
    go_wp2_with (first | ((with_reducible refine gate_callee (f := 61) rfl ?_); refine goesL_ (some 6) rfl rfl Try.func61 (by kernel_rfl) rfl #[.int .i64 a0, .int .i64 0, .int .i64 4] rfl (by (try simp only [List.map_toArray, List.map_cons, List.map_nil]); first | done | rfl | (simp only [List.length_drop, List.length_take]; rfl)) ?_; (with_reducible refine (impl_within.calls a0 0 4 false _ A3.out).mono ?_); rintro e w' ⟨rfl, ⟨nd, rfl⟩⟩; refine ⟨_, rfl, ?_⟩))
    go_ret
    exact ⟨by first | rfl | (simp; done) | (simp [*]; done), by repeat (first | exact Drawn0.refl _ | apply Drawn0.step)⟩

-- NOT PRINTED: function 58 (impl_looked)

/-! ### impl_RestrictBit: function 24 -/
open Go.Proofs.Ytiejeflgefdceaa.Clos
/-- the list that a function tells, from i to n -/
def impl_looked.l0 (g : Int → Option Int) : Nat → List Int → Int → Int → Option (List Int)
  | 0, _, _, _ => none
  | k + 1, x5, x8, x9 => if x9 < x8 then ((g x9).bind fun t => (if x5.length < 17592186044416 then (impl_looked.l0 g k (x5 ++ [t]) x8 (wrap64 (x9 + 1))) else (none))) else (some x5)
def impl_looked.f (g : Int → Option Int) (k : Nat) (a0 : Int) : Option (List Int) := impl_looked.l0 g k [] a0 0
theorem impl_looked.mono_l (g : Int → Option Int) : ∀ k y0 y1 y2, LeO (impl_looked.l0 g k y0 y1 y2) (impl_looked.l0 g (k + 1) y0 y1 y2)
  | 0, _, _, _ => fun r h => by simp [impl_looked.l0] at h
  | k + 1, y0, y1, y2 => by
    have ih := impl_looked.mono_l g k
    rw [impl_looked.l0, impl_looked.l0.eq_def g (k + 1 + 1)]
    refine LeO.ite (LeO.bind (LeO.refl _) fun _ => LeO.ite (ih _ _ _) (LeO.refl _)) (LeO.refl _)
theorem impl_looked.mono (g : Int → Option Int) : ∀ a0 k, LeO (impl_looked.f g k a0) (impl_looked.f g (k + 1) a0) := fun _ k => impl_looked.mono_l g k _ _ _
set_option maxHeartbeats 8000000 in
set_option maxRecDepth 100000 in
/-- looked, whatever function it is given: hat is that function's contract in every world that I holds of -/
theorem impl_looked.calls (g : Int → Option Int) (G : FuncId) (C : Array Value) (I : World → Prop) (hent : Ent Try.prog G) (hI : ∀ w w' : World, I w → Below w.heap.size w w' → I w')
    (hat : ∀ (i r : Int) (w : World), I w → g i = some r → Calls Try.prog G (#[.int .i64 i] ++ C) w fun e w' => e = .returned (.int .i64 r) ∧ Below w.heap.size w w')
    (k : Nat) (a0 : Int) (r : List Int) (w : World) (hw : I w) (h : impl_looked.f g k a0 = some r) :
    Calls Try.prog 58 #[.int .i64 a0, .func (.func G) #[] C] w fun e w' => ∃ v0_ : Value, e = .returned (v0_) ∧ Kd.R (Kd.int .i64) 3 w' w.heap.size (fun _ => True) v0_ r ∧ Below w.heap.size w w' := by
  have HB := Aside0.mk (Below.refl w.heap.size w)
  have H : (impl_looked.l0 g k (([] : List Int)) a0 0) = some r := h
  clear h
  have HI := Aside0.mk hI
  have HAT := Aside0.mk hat
  have HW := Aside0.mk hw
  have HE := Aside0.mk hent
  clear hI hat hw hent
  obtain ⟨y155, hy155⟩ : ∃ y_ : List Int, y_ = (([] : List Int)) := ⟨_, rfl⟩
  replace H : (impl_looked.l0 g k y155 a0 0) = some r := by rw [hy155]; exact H
  have Ny155 := Aside0.mk hy155
  clear hy155
  have H' := Aside0.mk H
  clear H
  go_enter Try.func58, Try.ntmps58
  go_wp2_with (first | ((with_reducible refine gate_dst (N := 7) rfl ?_); refine Kd.R_lit (Kd.int .i64) _ 3 ?hg (N := 7) ?hd (xs := ([] : List Int)) (inner := []) (ok := fun _ => True) (okp := fun _ => True) ?hr ?hp (fun _ hk => hk) trivial (Below.refl _ _) (Nat.le_refl _) (by simp) ?_; (case hd => rfl); (case hg => rfl); (case hr => first | (go_simp; done) | (go_simp; rfl)); (case hp => exact (Reps.none _ _)); intro v156 w3 ho4 hb hg_ hnew_; clear hg_ hnew_; (first | rw [← Ny155.out] at ho4 | (simp only [Int.reduceToNat] at ho4; rw [← Ny155.out] at ho4)); have n0_ := Aside0.mk (Kd.R_lower ho4 (below_size (by repeat (first | (with_reducible first | exact HB.out | apply below_alloc | apply pw_below_drewN | apply below_drew1) | exact HB.out)))); have n1_ := Aside0.mk (below_step (by repeat (first | (with_reducible first | exact HB.out | apply below_alloc | apply pw_below_drewN | apply below_drew1) | exact HB.out)) hb); clear HB; have HO157 := n0_; have HB := n1_; clear n0_ n1_; clear hb ho4))
  go_loopg [5, 9] k (fun kq v5 v9 w' => ∃ (x5_1 : List Int) (x9_1 : Int), v9 = .int .i64 x9_1 ∧ Aside0 (impl_looked.l0 g kq x5_1 a0 x9_1 = some r) ∧ Aside0 (kq ≤ k) ∧ Aside0 (Kd.R (Kd.int .i64) 3 w' w.heap.size (fun _ => True) v5 x5_1) ∧ Aside0 (Below w.heap.size w w'))
  case atStart => exact ⟨(y155), (0), (by first | rfl | (simp; done) | (simp [*]; done)), H', ⟨Nat.le_refl _⟩, ⟨by (with_reducible repeat (first | apply Kd.R_alloc | apply Kd.R_drewN | apply Kd.R_drew)); exact HO157.out⟩, ⟨by repeat (first | (with_reducible first | exact HB.out | apply below_alloc | apply pw_below_drewN | apply below_drew1) | exact HB.out)⟩⟩
  case round =>
    clear H' HO157 Ny155 HB
    obtain ⟨x5_1, x9_1, rfl, HA, HK1, HO_5, HB⟩ := hrel
    cases gk with
    | zero => exact absurd HA.out (by simp [impl_looked.l0])
    | succ k1 =>
      have H := HA.out
      clear HA
      simp only [impl_looked.l0] at H
      by_cases c5 : x9_1 < a0
      · rw [if_pos c5] at H
        have c5b0 : decide (x9_1 < a0) = true := decide_eq_true c5
        clear c5
        obtain ⟨t, hgt, H⟩ := Option.bind_eq_some_iff.mp H
        have A7 := Aside0.mk (HAT.out x9_1 t wr (HI.out w wr HW.out HB.out) hgt)
        clear hgt
        by_cases c8 : x5_1.length < 17592186044416
        · rw [if_pos c8] at H
          have LMc8 := Aside0.mk c8
          clear c8
          obtain ⟨y158, hy158⟩ : ∃ y_ : List Int, y_ = (x5_1 ++ [t]) := ⟨_, rfl⟩
          replace H : (impl_looked.l0 g k1 y158 a0 (wrap64 (x9_1 + 1))) = some r := by rw [hy158]; exact H
          have Ny158 := Aside0.mk hy158
          clear hy158
          have H' := Aside0.mk H
          clear H
          go_wp2_with (first | (refine goesC_ (some 15) rfl rfl HE.out #[.int .i64 x9_1] rfl rfl (by (try simp only [List.map_toArray, List.map_cons, List.map_nil]); first | done | rfl) ?_; (with_reducible refine A7.out.mono ?_); rintro e w9 ⟨rfl, hbel⟩; refine ⟨_, rfl, ?_⟩; have n0_ := Aside0.mk (below_step HB.out hbel); have n1_ := Aside0.mk (Kd.R_below HO_5.out hbel); clear HB HO_5 hbel; have HB := n0_; have HO_5 := n1_; clear n0_ n1_) | ((with_reducible refine gate_builtin (b := .append) (xs := #[.tmp 12, .tmp 16]) rfl ?_); at_builtin; refine Kd.R_append (Kd.int .i64) (w0 := w) w.heap.size rfl (.tmp 12) (.tmp 16) 22 3 (.int .i64 0) 8 rfl Try.underlying22 info3 rfl (by decide) (by omega) u5 x5_1 t [.int .i64 t] (fun _ => True) (fun _ => False) rfl rfl ?aP (fun _ hk => hk.elim) ?aF ?aO ?aB ?aS ?aL ?_; (case aP => exact rfl); (case aB => exact (by repeat (first | (with_reducible first | exact HB.out | apply below_alloc | apply pw_below_drewN | apply below_drew1) | exact HB.out))); (case aF => exact (fun _ _ => trivial)); (case aO => exact (by (with_reducible repeat (first | apply Kd.R_alloc | apply Kd.R_drewN | apply Kd.R_drew)); exact HO_5.out)); (case aS => exact (below_size (by repeat (first | (with_reducible first | exact HB.out | apply below_alloc | apply pw_below_drewN | apply below_drew1) | exact HB.out)))); (case aL => have := LMc8.out; omega); intro v159 w9 ho hb hg hat; rw [← Ny158.out] at ho; have n0_ := Aside0.mk (hb); have n1_ := Aside0.mk (ho); clear HB; clear HO_5; have HB := n0_; have HO160 := n1_; clear n0_ n1_; clear ho hb hg hat))
          go_roundg k1
          case measure => have := HK1.out; omega
          case rel => exact ⟨(y158), (wrap64 (x9_1 + 1)), (by first | rfl | (simp; done) | (simp [*]; done)), H', ⟨by have := HK1.out; omega⟩, ⟨by (with_reducible repeat (first | apply Kd.R_alloc | apply Kd.R_drewN | apply Kd.R_drew)); exact HO160.out⟩, ⟨by repeat (first | (with_reducible first | exact HB.out | apply below_alloc | apply pw_below_drewN | apply below_drew1) | exact HB.out)⟩⟩
        · rw [if_neg c8] at H
          exact absurd H (by simp)
      · rw [if_neg c5] at H
        have c5b0 : decide (x9_1 < a0) = false := decide_eq_false c5
        clear c5
        obtain rfl := Option.some.inj H
        go_wp2
        go_ret
        exact ⟨_, by first | rfl | (simp [errW_none, errW_some] <;> rfl) | (simp [*, errW_none, errW_some] <;> rfl), by (with_reducible repeat (first | apply Kd.R_alloc | apply Kd.R_drewN | apply Kd.R_drew)); exact HO_5.out, by repeat (first | (with_reducible first | exact HB.out | apply below_alloc | apply pw_below_drewN | apply below_drew1) | exact HB.out)⟩
/-- what the restricted table has at a place -/
def impl_RestrictBit.g (l1 : List Int) (bit value x0 : Int) : Option Int :=
  if 0 ≤ bit then (if 0 ≤ Go.bits .or .i64 (Go.bits .or .i64 (Go.bits .and .i64 x0 (wrap64 (shl .i64 1 bit - 1))) (shl .i64 value bit)) (wrap64 (wrap64 (x0 - Go.bits .and .i64 x0 (wrap64 (shl .i64 1 bit - 1))) * 2)) then (if Go.bits .or .i64 (Go.bits .or .i64 (Go.bits .and .i64 x0 (wrap64 (shl .i64 1 bit - 1))) (shl .i64 value bit)) (wrap64 (wrap64 (x0 - Go.bits .and .i64 x0 (wrap64 (shl .i64 1 bit - 1))) * 2)) < (l1.length : Int) then some (rd l1 (Go.bits .or .i64 (Go.bits .or .i64 (Go.bits .and .i64 x0 (wrap64 (shl .i64 1 bit - 1))) (shl .i64 value bit)) (wrap64 (wrap64 (x0 - Go.bits .and .i64 x0 (wrap64 (shl .i64 1 bit - 1))) * 2)))) else none) else none) else none
set_option maxHeartbeats 8000000 in
set_option maxRecDepth 100000 in
/-- the function value of RestrictBit: it reads the bit, the table and the value through their variables -/
theorem impl_RestrictBit.clo (b1 b2 b3 : Nat) (A1 : Option Addr) (c1 : Nat) (l1 : List Int) (bit value x0 r : Int) (w : World) (hb1 : w.heap[b1]? = some (.cells #[.int .i64 bit] 3 (0, 0))) (hb2 : w.heap[b2]? = some (.cells #[.slice A1 l1.length c1] 22 (0, 0))) (hb3 : w.heap[b3]? = some (.cells #[.int .i64 value] 3 (0, 0))) (hr1 : Kd.C (Kd.int .i64) w A1 l1.length l1) (h : impl_RestrictBit.g l1 bit value x0 = some r) :
    Calls Try.prog 62 #[.int .i64 x0, .pointer (some ⟨b1, 0, none⟩), .pointer (some ⟨b2, 0, none⟩), .pointer (some ⟨b3, 0, none⟩)] w fun e w' => e = .returned (.int .i64 r) ∧ Below w.heap.size w w' := by
  have HR1 := Aside0.mk hr1
  unfold impl_RestrictBit.g at h
  by_cases c0 : 0 ≤ bit
  · rw [if_pos c0] at h
    obtain ⟨s1, h1⟩ : ∃ s, shl .i64 1 bit = s := ⟨_, rfl⟩
    obtain ⟨s2, h2⟩ : ∃ s, shl .i64 value bit = s := ⟨_, rfl⟩
    rw [h1, h2] at h
    obtain ⟨s3, h3⟩ : ∃ s, wrap64 (s1 - 1) = s := ⟨_, rfl⟩
    rw [h3] at h
    obtain ⟨low, h4⟩ : ∃ s, Go.bits .and .i64 x0 s3 = s := ⟨_, rfl⟩
    rw [h4] at h
    obtain ⟨s5, h5⟩ : ∃ s, wrap64 (x0 - low) = s := ⟨_, rfl⟩
    rw [h5] at h
    obtain ⟨s6, h6⟩ : ∃ s, wrap64 (s5 * 2) = s := ⟨_, rfl⟩
    rw [h6] at h
    obtain ⟨s7, h7⟩ : ∃ s, Go.bits .or .i64 low s2 = s := ⟨_, rfl⟩
    rw [h7] at h
    obtain ⟨j, h8⟩ : ∃ s, Go.bits .or .i64 s7 s6 = s := ⟨_, rfl⟩
    rw [h8] at h
    by_cases c1_ : 0 ≤ j
    · rw [if_pos c1_] at h
      by_cases c2 : j < (l1.length : Int)
      · rw [if_pos c2] at h
        obtain rfl := Option.some.inj h
        obtain ⟨ad, e, hx⟩ := Kd.at_int HR1.out j c1_ c2
        have hc1 : w.cell? ⟨b1, 0, none⟩ = some (.int .i64 bit) := (blk_cell hb1 0).trans rfl
        have hc2 : w.cell? ⟨b2, 0, none⟩ = some (.slice A1 l1.length c1) := (blk_cell hb2 0).trans rfl
        have hc3 : w.cell? ⟨b3, 0, none⟩ = some (.int .i64 value) := (blk_cell hb3 0).trans rfl
        clear h hr1 hb1 hb2 hb3
        subst e
        have h1a : (IntKind.i64.wrap (1 * 2 ^ min bit.toNat 64)) = s1 := h1
        have h1b : (IntKind.i64.wrap (2 ^ min bit.toNat 64)) = s1 := by have q := h1a; rw [Int.one_mul] at q; exact q
        have h1c : (wrap64 (1 * 2 ^ min bit.toNat 64)) = s1 := (i64_w _).symm.trans h1a
        have h1d : (wrap64 (2 ^ min bit.toNat 64)) = s1 := (i64_w _).symm.trans h1b
        have h2a : (IntKind.i64.wrap (value * 2 ^ min bit.toNat 64)) = s2 := h2
        have h2c : (wrap64 (value * 2 ^ min bit.toNat 64)) = s2 := (i64_w _).symm.trans h2a
        clear h1 h2
        have c0b := eq_true c0
        have c0d : decide (0 ≤ bit) = true := decide_eq_true c0
        go_enter Try.func62, Try.ntmps62
        go_wp2
        go_quiet (fail)
        go_wp2
        go_ret
        exact ⟨rfl, pw_below_drewN (Below.refl _ _) _⟩
      · rw [if_neg c2] at h
        exact absurd h (by simp)
    · rw [if_neg c1_] at h
      exact absurd h (by simp)
  · rw [if_neg c0] at h
    exact absurd h (by simp)
def impl_RestrictBit.f (k : Nat) (a0 : Int) (l1 : List Int) (a2 : Int) (a3 : Int) : Option (List Int × Bool) := (impl_isTable.f k a0 l1).bind fun t => (if t = true then ((impl_within.f a2 0 (wrap64 (a0 - 1))).bind fun u => (if u = true then ((impl_within.f a3 0 1).bind fun v => (if v = true then ((impl_looked.f (impl_RestrictBit.g l1 a2 a3) k (wrap64 ((l1.length : Int) / 2))).bind fun r => (some (r, true))) else (some ([], false)))) else (some ([], false)))) else (some ([], false)))
theorem impl_RestrictBit.mono : ∀ a0 a1 a2 a3 k, LeO (impl_RestrictBit.f k a0 a1 a2 a3) (impl_RestrictBit.f (k + 1) a0 a1 a2 a3) := fun a0 a1 a2 a3 k => by
  unfold impl_RestrictBit.f
  exact LeO.bind (impl_isTable.mono _ _ _) fun _ => LeO.ite (LeO.bind (LeO.refl _) fun _ => LeO.ite (LeO.bind (LeO.refl _) fun _ => LeO.ite (LeO.bind (impl_looked.mono _ _ _) fun _ => LeO.refl _) (LeO.refl _)) (LeO.refl _)) (LeO.refl _)
set_option maxHeartbeats 8000000 in
set_option maxRecDepth 100000 in
theorem impl_RestrictBit.calls (k : Nat) (a0 : Int) (A1 : Option Addr) (c1 : Nat) (l1 : List Int) (a2 : Int) (a3 : Int) (r1 : List Int) (r2 : Bool) (w : World) (hr1 : Kd.C (Kd.int .i64) w A1 l1.length l1) (hc1 : l1.length ≤ c1) (h : impl_RestrictBit.f k a0 l1 a2 a3 = some (r1, r2)) :
    Calls Try.prog 24 #[.int .i64 a0, .slice A1 l1.length c1, .int .i64 a2, .int .i64 a3] w fun e w' => ∃ v0_ : Value, e = .returned (.tuple #[v0_, .bool r2]) ∧ Kd.R (Kd.int .i64) 3 w' w.heap.size (fun _ => True) v0_ r1 ∧ Below w.heap.size w w' := by
  unfold impl_RestrictBit.f at h
  obtain ⟨t, A20, H⟩ := Option.bind_eq_some_iff.mp h
  have A2 := Aside0.mk A20
  have HR1 := Aside0.mk hr1
  have HC1 := Aside0.mk hc1
  clear h A20 hr1 hc1
  obtain ⟨B0, hB0⟩ : ∃ B0, B0 = Obj.cells #[.slice A1 l1.length c1] 22 (0, 0) := ⟨_, rfl⟩
  have hb0 : Below w.heap.size w (((w.alloc (.cells #[.slice A1 l1.length c1] 22 (0, 0))).alloc (.cells #[.int .i64 a2] 3 (0, 0))).alloc (.cells #[.int .i64 a3] 3 (0, 0))) := below_alloc (below_alloc (below_alloc (Below.refl _ _) _) _) _
  have hx1 : (((w.alloc (.cells #[.slice A1 l1.length c1] 22 (0, 0))).alloc (.cells #[.int .i64 a2] 3 (0, 0))).alloc (.cells #[.int .i64 a3] 3 (0, 0))).heap[w.heap.size]? = some (.cells #[.slice A1 l1.length c1] 22 (0, 0)) := by
    rw [Below.heap_alloc _ _ _ (by simp; omega), Below.heap_alloc _ _ _ (by simp)]
    exact boxed_at w _
  have hx2 : (((w.alloc (.cells #[.slice A1 l1.length c1] 22 (0, 0))).alloc (.cells #[.int .i64 a2] 3 (0, 0))).alloc (.cells #[.int .i64 a3] 3 (0, 0))).heap[w.heap.size + 1]? = some (.cells #[.int .i64 a2] 3 (0, 0)) := by
    rw [Below.heap_alloc _ _ _ (by simp)]
    have q := boxed_at (w.alloc (.cells #[.slice A1 l1.length c1] 22 (0, 0))) (.cells #[.int .i64 a2] 3 (0, 0))
    rw [show (w.alloc (.cells #[.slice A1 l1.length c1] 22 (0, 0))).heap.size = w.heap.size + 1 by simp] at q
    exact q
  have hx3 : (((w.alloc (.cells #[.slice A1 l1.length c1] 22 (0, 0))).alloc (.cells #[.int .i64 a2] 3 (0, 0))).alloc (.cells #[.int .i64 a3] 3 (0, 0))).heap[w.heap.size + 1 + 1]? = some (.cells #[.int .i64 a3] 3 (0, 0)) := by
    have q := boxed_at ((w.alloc (.cells #[.slice A1 l1.length c1] 22 (0, 0))).alloc (.cells #[.int .i64 a2] 3 (0, 0))) (.cells #[.int .i64 a3] 3 (0, 0))
    rw [show ((w.alloc (.cells #[.slice A1 l1.length c1] 22 (0, 0))).alloc (.cells #[.int .i64 a2] 3 (0, 0))).heap.size = w.heap.size + 1 + 1 by simp] at q
    exact q
  have HB := Aside0.mk hb0
  have X1 := Aside0.mk hx1
  have X2 := Aside0.mk hx2
  have X3 := Aside0.mk hx3
  have hmf : ∀ (fn : Fn) (first cap : Array Value) (w : World), (Instr.makeFunc fn first cap).run Try.prog w = .ok (.func fn first cap) w := fun _ _ _ _ => rfl
  have hu := Try.underlying22
  have R0 := Aside0.mk (Kd.C_below HR1.out hb0)
  clear hb0 hx1 hx2 hx3 hB0 B0
  cases t with
  | false =>
    simp only [Bool.false_eq_true, if_false, Option.some.injEq, Prod.mk.injEq] at H
    obtain ⟨rfl, rfl⟩ := H
    go_enter Try.func24, Try.ntmps24
    go_wp2_with fail
    refine (impl_isTable.calls k a0 A1 c1 l1 false _ R0.out HC1.out A2.out).mono ?_
    rintro e w7 ⟨rfl, ⟨m, rfl⟩⟩
    go_wp2
    go_ret2
    exact ⟨_, rfl, Kd.R_nil _ _ _ _ _, pw_below_drewN HB.out m⟩
  | true =>
    rw [if_pos rfl] at H
    replace H := Option.bind_eq_some_iff.mp H
    obtain ⟨u, A30, H⟩ := H
    have A3 := Aside0.mk A30
    clear A30
    cases u with
    | false =>
      simp only [Bool.false_eq_true, if_false, Option.some.injEq, Prod.mk.injEq] at H
      obtain ⟨rfl, rfl⟩ := H
      go_enter Try.func24, Try.ntmps24
      go_wp2_with fail
      refine (impl_isTable.calls k a0 A1 c1 l1 true _ R0.out HC1.out A2.out).mono ?_
      rintro e w7 ⟨rfl, ⟨m, rfl⟩⟩
      go_wp2_with fail
      refine (impl_within.calls a2 0 (wrap64 (a0 - 1)) false _ A3.out).mono ?_
      rintro e w7 ⟨rfl, ⟨m2, rfl⟩⟩
      go_wp2
      go_ret2
      exact ⟨_, rfl, Kd.R_nil _ _ _ _ _, by with_reducible repeat (first | exact HB.out | apply pw_below_drewN)⟩
    | true =>
      rw [if_pos rfl] at H
      replace H := Option.bind_eq_some_iff.mp H
      obtain ⟨v, A40, H⟩ := H
      have A4 := Aside0.mk A40
      clear A40
      cases v with
      | false =>
        simp only [Bool.false_eq_true, if_false, Option.some.injEq, Prod.mk.injEq] at H
        obtain ⟨rfl, rfl⟩ := H
        go_enter Try.func24, Try.ntmps24
        go_wp2_with fail
        refine (impl_isTable.calls k a0 A1 c1 l1 true _ R0.out HC1.out A2.out).mono ?_
        rintro e w7 ⟨rfl, ⟨m, rfl⟩⟩
        go_wp2_with fail
        refine (impl_within.calls a2 0 (wrap64 (a0 - 1)) true _ A3.out).mono ?_
        rintro e w7 ⟨rfl, ⟨m2, rfl⟩⟩
        go_wp2_with fail
        refine (impl_within.calls a3 0 1 false _ A4.out).mono ?_
        rintro e w7 ⟨rfl, ⟨m3, rfl⟩⟩
        go_wp2
        go_ret2
        exact ⟨_, rfl, Kd.R_nil _ _ _ _ _, by with_reducible repeat (first | exact HB.out | apply pw_below_drewN)⟩
      | true =>
        rw [if_pos rfl] at H
        replace H := Option.bind_eq_some_iff.mp H
        obtain ⟨rr, A50, H⟩ := H
        simp only [Option.some.injEq, Prod.mk.injEq] at H
        obtain ⟨rfl, rfl⟩ := H
        have A5 := Aside0.mk A50
        clear A50
        go_enter Try.func24, Try.ntmps24
        go_wp2_with fail
        refine (impl_isTable.calls k a0 A1 c1 l1 true _ R0.out HC1.out A2.out).mono ?_
        rintro e w7 ⟨rfl, ⟨m, rfl⟩⟩
        go_wp2_with fail
        refine (impl_within.calls a2 0 (wrap64 (a0 - 1)) true _ A3.out).mono ?_
        rintro e w7 ⟨rfl, ⟨m2, rfl⟩⟩
        go_wp2_with fail
        refine (impl_within.calls a3 0 1 true _ A4.out).mono ?_
        rintro e w7 ⟨rfl, ⟨m3, rfl⟩⟩
        go_wp2_with fail
        have HD : Below w.heap.size w ((((w.alloc (.cells #[.slice A1 l1.length c1] 22 (0, 0))).alloc (.cells #[.int .i64 a2] 3 (0, 0))).alloc (.cells #[.int .i64 a3] 3 (0, 0))).drewN (m + m2 + m3)) := by with_reducible repeat (first | exact HB.out | apply pw_below_drewN)
        have HE : ∀ W : World, Below W.heap.size W (W.drewN (m + m2 + m3)) := fun W => by with_reducible repeat (first | exact Below.refl _ _ | apply pw_below_drewN)
        refine (impl_looked.calls (impl_RestrictBit.g l1 a2 a3) 62 #[.pointer (some ⟨w.heap.size + 1, 0, none⟩), .pointer (some ⟨w.heap.size, 0, none⟩), .pointer (some ⟨w.heap.size + 1 + 1, 0, none⟩)] (fun w' => w'.heap[w.heap.size]? = some (.cells #[.slice A1 l1.length c1] 22 (0, 0)) ∧ w'.heap[w.heap.size + 1]? = some (.cells #[.int .i64 a2] 3 (0, 0)) ∧ w'.heap[w.heap.size + 1 + 1]? = some (.cells #[.int .i64 a3] 3 (0, 0)) ∧ Kd.C (Kd.int .i64) w' A1 l1.length l1) (ent_of Try.func62 (by kernel_rfl) rfl) (fun w1 w2 hw hb => ⟨(hb.block _ (blk_lt hw.1)).trans hw.1, (hb.block _ (blk_lt hw.2.1)).trans hw.2.1, (hb.block _ (blk_lt hw.2.2.1)).trans hw.2.2.1, Kd.C_below hw.2.2.2 hb⟩) (fun i r w1 hw hg => impl_RestrictBit.clo _ _ _ A1 c1 l1 a2 a3 i r w1 hw.2.1 hw.1 hw.2.2.1 hw.2.2.2 hg) k (wrap64 ((l1.length : Int) / 2)) rr ((((w.alloc (.cells #[.slice A1 l1.length c1] 22 (0, 0))).alloc (.cells #[.int .i64 a2] 3 (0, 0))).alloc (.cells #[.int .i64 a3] 3 (0, 0))).drewN (m + m2 + m3)) ⟨((HE _).block _ (blk_lt X1.out)).trans X1.out, ((HE _).block _ (blk_lt X2.out)).trans X2.out, ((HE _).block _ (blk_lt X3.out)).trans X3.out, Kd.C_below R0.out (HE _)⟩ A5.out).mono ?_
        rintro e w8 ⟨v0, rfl, hR, hb⟩
        have H1 := Aside0.mk (Kd.R_lower hR HD.size)
        have H2 := Aside0.mk (below_step HD hb)
        clear hR hb HD HE
        go_wp2
        go_ret2
        exact ⟨_, rfl, H1.out, H2.out⟩

end Go.Proofs.Ytiejeflgefdceaa.QFnExactRestrictBit
