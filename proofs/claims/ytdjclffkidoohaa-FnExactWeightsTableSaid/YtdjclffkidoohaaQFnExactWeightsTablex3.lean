-- Laid by a program of this session for this claim.
import Derived.Maps.OwnSet
import Derived.Test.YtdjclffkidoohaaClos
import Derived.Test.YtdjclffkidoohaaQFnExactWeightsTablex0
import Derived.Test.YtdjclffkidoohaaQFnExactWeightsTablex2
namespace Go.Proofs.Ytdjclffkidoohaa.QFnExactWeightsTable
open Go.RowKit Go.Proofs.YtdjclffkidoohaaW.PrintWords Go.Proofs.YtdjclffkidoohaaW.PrintLast Go.Proofs.YtdjclffkidoohaaW.PrintMore
attribute [local go_sem] max2_int min2_int max_two min_two max_three min_three max_four min_four   -- for this text's walks alone
set_option linter.unusedVariables false
set_option linter.unusedSimpArgs false

/-! ### impl_product: function 81 -/
def impl_product.l0 : Nat → List Int → Int → List Int → Int → Int → Option (Int)
  | 0, _, _, _, _, _ => none
  | k + 1, x1, x5, x8, x9, x10 => if x10 < x9 then (if 0 ≤ x10 then (if x10 < (x8.length : Int) then (if x10 < (x1.length : Int) then (impl_product.l0 k x1 (wrap64 (x5 + (wrap64 ((rd x8 x10) * (rd x1 x10))))) x8 x9 (wrap64 (x10 + 1))) else (none)) else (none)) else (none)) else (some x5)
def impl_product.f (k : Nat) (l0 : List Int) (l1 : List Int) : Option (Int) := impl_product.l0 k l1 0 l0 (l0.length : Int) 0
theorem impl_product.mono_l : ∀ k, (∀ y0 y1 y2 y3 y4, LeO (impl_product.l0 k y0 y1 y2 y3 y4) (impl_product.l0 (k + 1) y0 y1 y2 y3 y4))
  | 0 => fun _ _ _ _ _ r h => by simp [impl_product.l0] at h
  | k + 1 => by
    have ih0 := impl_product.mono_l k
    · intro y0 y1 y2 y3 y4
      unfold impl_product.l0
      repeat' first
      | (with_reducible exact ih0 _ _ _ _ _)
      | (with_reducible exact LeO.refl _)
      | (with_reducible exact LeO.none _)
      | (with_reducible refine LeO.ite ?_ ?_)
      | (with_reducible refine LeO.bind ?_ (fun _ => ?_))
      | exact ih0 _ _ _ _ _
      | exact LeO.none _
      | refine LeO.ite ?_ ?_
      | refine LeO.bind ?_ (fun _ => ?_)
theorem impl_product.mono : ∀ a0 a1 k, LeO (impl_product.f k a0 a1) (impl_product.f (k + 1) a0 a1) := by
  intro a0 a1 k
  have ih0 := impl_product.mono_l k
  unfold impl_product.f
  repeat' first
      | (with_reducible exact ih0 _ _ _ _ _)
      | (with_reducible exact LeO.refl _)
      | (with_reducible exact LeO.none _)
      | (with_reducible refine LeO.ite ?_ ?_)
      | (with_reducible refine LeO.bind ?_ (fun _ => ?_))
      | exact ih0 _ _ _ _ _
      | exact LeO.none _
      | refine LeO.ite ?_ ?_
      | refine LeO.bind ?_ (fun _ => ?_)
set_option maxHeartbeats 8000000 in
set_option maxRecDepth 100000 in
theorem impl_product.calls (k : Nat) (A0 : Option Addr) (c0 : Nat) (l0 : List Int) (A1 : Option Addr) (c1 : Nat) (l1 : List Int) (r : Int) (w : World) (hr0 : Kd.C (Kd.int .i64) w A0 l0.length l0) (hc0 : l0.length ≤ c0) (hr1 : Kd.C (Kd.int .i64) w A1 l1.length l1) (hc1 : l1.length ≤ c1) (h : impl_product.f k l0 l1 = some r) :
    Calls Try.prog 81 #[.slice A0 l0.length c0, .slice A1 l1.length c1] w fun e w' => e = .returned (.int .i64 r) ∧ Drawn0 w w' := by
  have HR0 := Aside0.mk hr0
  have HC0 := Aside0.mk hc0
  clear hr0 hc0
  have HR1 := Aside0.mk hr1
  have HC1 := Aside0.mk hc1
  clear hr1 hc1
  have H : (impl_product.l0 k l1 0 l0 (l0.length : Int) 0) = some r := h
  clear h
  have H' := Aside0.mk H
  clear H
  go_enter Try.func81, Try.ntmps81
  go_wp2
  go_loopg [5, 10] k (fun kq v5 v10 w' => ∃ (x5_1 : Int) (x10_1 : Int), v5 = .int .i64 x5_1 ∧ v10 = .int .i64 x10_1 ∧ Aside0 (impl_product.l0 kq l1 x5_1 l0 (l0.length : Int) x10_1 = some r) ∧ Aside0 (kq ≤ k) ∧ Drawn0 w w')
  case atStart => exact ⟨(0), (0), (by first | rfl | (simp; done) | (simp [*]; done)), (by first | rfl | (simp; done) | (simp [*]; done)), H', ⟨Nat.le_refl _⟩, by repeat (first | exact Drawn0.refl _ | apply Drawn0.step)⟩
  case round =>
    clear H'
    try clear c1
    try clear p2
    obtain ⟨x5_1, x10_1, rfl, rfl, HA, HK1, ⟨m1, rfl⟩⟩ := hrel
    cases gk with
    | zero => exact absurd HA.out (by simp [impl_product.l0])
    | succ k1 =>
      have H := HA.out
      clear HA
      simp only [impl_product.l0] at H
      by_cases c3 : x10_1 < (l0.length : Int)
      · rw [if_pos c3] at H
        have c3b0 : decide (x10_1 < (l0.length : Int)) = true := decide_eq_true c3
        clear c3
        by_cases c4 : 0 ≤ x10_1
        · rw [if_pos c4] at H
          have c4b0 : decide (0 ≤ x10_1) = true := decide_eq_true c4
          clear c4
          by_cases c5 : x10_1 < (l0.length : Int)
          · rw [if_pos c5] at H
            have c5b0 : decide (x10_1 < (l0.length : Int)) = true := decide_eq_true c5
            clear c5
            by_cases c6 : x10_1 < (l1.length : Int)
            · rw [if_pos c6] at H
              have c6b0 : decide (x10_1 < (l1.length : Int)) = true := decide_eq_true c6
              clear c6
              have H' := Aside0.mk H
              clear H
              have p164 : 0 ≤ (x10_1 : Int) := of_decide_eq_true (by first | (with_reducible assumption) | assumption)
              have q164 : x10_1 < (l0.length : Int) := of_decide_eq_true (by first | (with_reducible assumption) | assumption)
              obtain ⟨ad164, e164, hx164_0⟩ := Kd.at_int HR0.out x10_1 p164 q164
              cases e164
              replace p164 := eq_true p164
              replace q164 := eq_true q164
              have p165 : 0 ≤ (x10_1 : Int) := of_decide_eq_true (by first | (with_reducible assumption) | assumption)
              have q165 : x10_1 < (l1.length : Int) := of_decide_eq_true (by first | (with_reducible assumption) | assumption)
              obtain ⟨ad165, e165, hx165_0⟩ := Kd.at_int HR1.out x10_1 p165 q165
              cases e165
              replace p165 := eq_true p165
              replace q165 := eq_true q165
              go_wp2
              go_roundg k1
              case measure => have := HK1.out; omega
              case rel => exact ⟨(wrap64 (x5_1 + (wrap64 ((rd l0 x10_1) * (rd l1 x10_1))))), (wrap64 (x10_1 + 1)), (by first | rfl | (simp; done) | (simp [*]; done)), (by first | rfl | (simp; done) | (simp [*]; done)), H', ⟨by have := HK1.out; omega⟩, by repeat (first | exact Drawn0.refl _ | apply Drawn0.step)⟩
            · rw [if_neg c6] at H
              exact absurd H (by simp)
          · rw [if_neg c5] at H
            exact absurd H (by simp)
        · rw [if_neg c4] at H
          exact absurd H (by simp)
      · rw [if_neg c3] at H
        have c3b0 : decide (x10_1 < (l0.length : Int)) = false := decide_eq_false c3
        clear c3
        obtain rfl := Option.some.inj H
        go_wp2
        go_ret
        exact ⟨by first | rfl | (simp; done) | (simp [*]; done), by repeat (first | exact Drawn0.refl _ | apply Drawn0.step)⟩

/-! ### impl_bitPoint: function 150 -/
def impl_bitPoint.l0 : Nat → Int → List Int → Int → Int → Option (List Int)
  | 0, _, _, _, _ => none
  | k + 1, x1, x5, x8, x9 => if x9 < x8 then (if 0 ≤ x9 then (if x5.length < 17592186044416 then (impl_bitPoint.l0 k x1 (x5 ++ [Go.bits .and .i64 (shr .i64 x1 x9) 1]) x8 (wrap64 (x9 + 1))) else (none)) else (none)) else (some x5)
def impl_bitPoint.f (k : Nat) (a0 : Int) (a1 : Int) : Option (List Int) := impl_bitPoint.l0 k a1 (([] : List Int)) a0 0
theorem impl_bitPoint.mono_l : ∀ k, (∀ y0 y1 y2 y3, LeO (impl_bitPoint.l0 k y0 y1 y2 y3) (impl_bitPoint.l0 (k + 1) y0 y1 y2 y3))
  | 0 => fun _ _ _ _ r h => by simp [impl_bitPoint.l0] at h
  | k + 1 => by
    have ih0 := impl_bitPoint.mono_l k
    · intro y0 y1 y2 y3
      unfold impl_bitPoint.l0
      repeat' first
      | (with_reducible exact ih0 _ _ _ _)
      | (with_reducible exact LeO.refl _)
      | (with_reducible exact LeO.none _)
      | (with_reducible refine LeO.ite ?_ ?_)
      | (with_reducible refine LeO.bind ?_ (fun _ => ?_))
      | exact ih0 _ _ _ _
      | exact LeO.none _
      | refine LeO.ite ?_ ?_
      | refine LeO.bind ?_ (fun _ => ?_)
theorem impl_bitPoint.mono : ∀ a0 a1 k, LeO (impl_bitPoint.f k a0 a1) (impl_bitPoint.f (k + 1) a0 a1) := by
  intro a0 a1 k
  have ih0 := impl_bitPoint.mono_l k
  unfold impl_bitPoint.f
  repeat' first
      | (with_reducible exact ih0 _ _ _ _)
      | (with_reducible exact LeO.refl _)
      | (with_reducible exact LeO.none _)
      | (with_reducible refine LeO.ite ?_ ?_)
      | (with_reducible refine LeO.bind ?_ (fun _ => ?_))
      | exact ih0 _ _ _ _
      | exact LeO.none _
      | refine LeO.ite ?_ ?_
      | refine LeO.bind ?_ (fun _ => ?_)
set_option maxHeartbeats 8000000 in
set_option maxRecDepth 100000 in
theorem impl_bitPoint.calls (k : Nat) (a0 : Int) (a1 : Int) (r : List Int) (w : World) (h : impl_bitPoint.f k a0 a1 = some r) :
    Calls Try.prog 150 #[.int .i64 a0, .int .i64 a1] w fun e w' => ∃ v0_ : Value, e = .returned (v0_) ∧ Kd.R (Kd.int .i64) 3 w' w.heap.size (fun _ => True) v0_ r ∧ Below w.heap.size w w' := by
  have HB := Aside0.mk (Below.refl w.heap.size w)
  have H : (impl_bitPoint.l0 k a1 (([] : List Int)) a0 0) = some r := h
  clear h
  obtain ⟨y166, hy166⟩ : ∃ y_ : List Int, y_ = (([] : List Int)) := ⟨_, rfl⟩
  replace H : (impl_bitPoint.l0 k a1 y166 a0 0) = some r := by first | (rw [hy166]; with_reducible exact H) | (have H2_ := (Option.bind_some _ _).symm.trans H; rw [hy166]; with_reducible exact H2_) | (have H2_ := (Option.bind_some _ _).symm.trans H; with_reducible exact H2_) | with_reducible exact H | (rw [hy166]; exact H) | exact H
  have Ny166 := Aside0.mk hy166
  clear hy166
  have H' := Aside0.mk H
  clear H
  go_enter Try.func150, Try.ntmps150
  go_wp2_with (first | ((with_reducible refine gate_dst (N := 7) rfl ?_); refine Kd.R_lit (Kd.int .i64) _ 3 ?hg (N := 7) ?hd (xs := ([] : List Int)) (inner := []) (ok := fun _ => True) (okp := fun _ => True) ?hr ?hp (fun _ hk => hk) trivial (Below.refl _ _) (Nat.le_refl _) (by simp) ?_; (case hd => rfl); (case hg => rfl); (case hr => first | (go_simp; done) | (go_simp; rfl)); (case hp => exact (Reps.none _ _)); intro v167 w3 ho4 hb hg_ hnew_; clear hg_ hnew_; (first | rw [← Ny166.out] at ho4 | (simp only [Int.reduceToNat] at ho4; rw [← Ny166.out] at ho4)); have n0_ := Aside0.mk (Kd.R_lower ho4 (below_size (by repeat (first | (with_reducible first | exact HB.out | apply below_alloc | apply pw_below_drewN | apply below_drew1) | exact HB.out)))); have n1_ := Aside0.mk (below_step (by repeat (first | (with_reducible first | exact HB.out | apply below_alloc | apply pw_below_drewN | apply below_drew1) | exact HB.out)) hb); clear HB; have HO168 := n0_; have HB := n1_; clear n0_ n1_; clear hb ho4))
  go_loopg [5, 9] k (fun kq v5 v9 w' => ∃ (x5_1 : List Int) (x9_1 : Int), v9 = .int .i64 x9_1 ∧ Aside0 (impl_bitPoint.l0 kq a1 x5_1 a0 x9_1 = some r) ∧ Aside0 (kq ≤ k) ∧ Aside0 (Kd.R (Kd.int .i64) 3 w' w.heap.size (fun _ => True) v5 x5_1) ∧ Aside0 (Below w.heap.size w w'))
  case atStart => exact ⟨(y166), (0), (by first | rfl | (simp; done) | (simp [*]; done)), H', ⟨Nat.le_refl _⟩, ⟨by (with_reducible repeat (first | apply Kd.R_alloc | apply Kd.R_drewN | apply Kd.R_drew)); exact HO168.out⟩, ⟨by repeat (first | (with_reducible first | exact HB.out | apply below_alloc | apply pw_below_drewN | apply below_drew1) | exact HB.out)⟩⟩
  case round =>
    clear H'
    try clear c1
    try clear p2
    obtain ⟨x5_1, x9_1, rfl, HA, HK1, HO_5, HB⟩ := hrel
    cases gk with
    | zero => exact absurd HA.out (by simp [impl_bitPoint.l0])
    | succ k1 =>
      have H := HA.out
      clear HA
      simp only [impl_bitPoint.l0] at H
      by_cases c5 : x9_1 < a0
      · rw [if_pos c5] at H
        have c5b0 : decide (x9_1 < a0) = true := decide_eq_true c5
        clear c5
        by_cases c6 : 0 ≤ x9_1
        · rw [if_pos c6] at H
          have c6b0 := eq_true c6
          have c6b1 : decide (0 ≤ x9_1) = true := decide_eq_true c6
          clear c6
          obtain ⟨ji7, hji7⟩ : ∃ j_ : Int, (shr .i64 a1 x9_1) = j_ := ⟨_, rfl⟩
          replace H : (if x5_1.length < 17592186044416 then (impl_bitPoint.l0 k1 a1 (x5_1 ++ [Go.bits .and .i64 (ji7) 1]) a0 (wrap64 (x9_1 + 1))) else (none)) = some r := by first | (rw [hji7] at H; exact H) | (simp only [hji7] at H ⊢; exact H)
          have hji7_ : (a1 / 2 ^ min x9_1.toNat 64) = ji7 := hji7
          have hji7z : x9_1 ≤ 64 → (a1 / 2 ^ x9_1.toNat) = ji7 := shr_small hji7
          by_cases c8 : x5_1.length < 17592186044416
          · rw [if_pos c8] at H
            have LMc8 := Aside0.mk c8
            clear c8
            obtain ⟨y169, hy169⟩ : ∃ y_ : List Int, y_ = (x5_1 ++ [Go.bits .and .i64 (ji7) 1]) := ⟨_, rfl⟩
            replace H : (impl_bitPoint.l0 k1 a1 y169 a0 (wrap64 (x9_1 + 1))) = some r := by first | (rw [hy169]; with_reducible exact H) | (have H2_ := (Option.bind_some _ _).symm.trans H; rw [hy169]; with_reducible exact H2_) | (have H2_ := (Option.bind_some _ _).symm.trans H; with_reducible exact H2_) | with_reducible exact H | (rw [hy169]; exact H) | exact H
            have Ny169 := Aside0.mk hy169
            clear hy169
            have H' := Aside0.mk H
            clear H
            go_wp2_with (first | ((with_reducible refine gate_builtin (b := .append) (xs := #[.tmp 12, .tmp 17]) rfl ?_); at_builtin; refine Kd.R_append (Kd.int .i64) (w0 := w) w.heap.size rfl (.tmp 12) (.tmp 17) 26 3 (.int .i64 0) 8 rfl Try.underlying26 info3 rfl (by decide) (by omega) u5 x5_1 (Go.bits .and .i64 (ji7) 1) [.int .i64 (Go.bits .and .i64 (ji7) 1)] (fun _ => True) (fun _ => False) rfl rfl ?aP (fun _ hk => hk.elim) ?aF ?aO ?aB ?aS ?aL ?_; (case aP => exact rfl); (case aB => exact (by repeat (first | (with_reducible first | exact HB.out | apply below_alloc | apply pw_below_drewN | apply below_drew1) | exact HB.out))); (case aF => exact (fun _ _ => trivial)); (case aO => exact (by (with_reducible repeat (first | apply Kd.R_alloc | apply Kd.R_drewN | apply Kd.R_drew)); exact HO_5.out)); (case aS => exact (below_size (by repeat (first | (with_reducible first | exact HB.out | apply below_alloc | apply pw_below_drewN | apply below_drew1) | exact HB.out)))); (case aL => have := LMc8.out; omega); intro v170 w9 ho hb hg hat; rw [← Ny169.out] at ho; have n0_ := Aside0.mk (hb); have n1_ := Aside0.mk (ho); clear HB; clear HO_5; have HB := n0_; have HO171 := n1_; clear n0_ n1_; clear ho hb hg hat))
            go_roundg k1
            case measure => have := HK1.out; omega
            case rel => exact ⟨(y169), (wrap64 (x9_1 + 1)), (by first | rfl | (simp; done) | (simp [*]; done)), H', ⟨by have := HK1.out; omega⟩, ⟨by (with_reducible repeat (first | apply Kd.R_alloc | apply Kd.R_drewN | apply Kd.R_drew)); exact HO171.out⟩, ⟨by repeat (first | (with_reducible first | exact HB.out | apply below_alloc | apply pw_below_drewN | apply below_drew1) | exact HB.out)⟩⟩
          · rw [if_neg c8] at H
            exact absurd H (by simp)
        · rw [if_neg c6] at H
          exact absurd H (by simp)
      · rw [if_neg c5] at H
        have c5b0 : decide (x9_1 < a0) = false := decide_eq_false c5
        clear c5
        obtain rfl := Option.some.inj H
        go_wp2
        go_ret
        exact ⟨_, by first | rfl | (simp [errW_none, errW_some] <;> rfl) | (simp [*, errW_none, errW_some] <;> rfl), by (with_reducible repeat (first | apply Kd.R_alloc | apply Kd.R_drewN | apply Kd.R_drew)); exact HO_5.out, by repeat (first | (with_reducible first | exact HB.out | apply below_alloc | apply pw_below_drewN | apply below_drew1) | exact HB.out)⟩

/-! ### impl_productsOf: function 127 -/
def impl_productsOf.l0 : Nat → Int → List Int → List Int → Int → Int → Option (List Int)
  | 0, _, _, _, _, _ => none
  | k + 1, x0, x1, x5, x9, x10 => if x10 < x9 then ((impl_bitPoint.f k x0 x10).bind fun t175 => ((impl_product.f k x1 t175).bind fun t178 => (if x5.length < 17592186044416 then (impl_productsOf.l0 k x0 x1 (x5 ++ [t178]) x9 (wrap64 (x10 + 1))) else (none)))) else (some x5)
def impl_productsOf.f (k : Nat) (a0 : Int) (l1 : List Int) : Option (List Int) := if 0 ≤ a0 then (impl_productsOf.l0 k a0 l1 (([] : List Int)) (shl .i64 1 a0) 0) else (none)
theorem impl_productsOf.mono_l : ∀ k, (∀ y0 y1 y2 y3 y4, LeO (impl_productsOf.l0 k y0 y1 y2 y3 y4) (impl_productsOf.l0 (k + 1) y0 y1 y2 y3 y4))
  | 0 => fun _ _ _ _ _ r h => by simp [impl_productsOf.l0] at h
  | k + 1 => by
    have ih0 := impl_productsOf.mono_l k
    · intro y0 y1 y2 y3 y4
      unfold impl_productsOf.l0
      repeat' first
      | (with_reducible exact ih0 _ _ _ _ _)
      | (with_reducible exact impl_bitPoint.mono _ _ _)
      | (with_reducible exact impl_product.mono _ _ _)
      | (with_reducible exact LeO.refl _)
      | (with_reducible exact LeO.none _)
      | (with_reducible refine LeO.ite ?_ ?_)
      | (with_reducible refine LeO.bind ?_ (fun _ => ?_))
      | exact ih0 _ _ _ _ _
      | exact impl_bitPoint.mono _ _ _
      | exact impl_product.mono _ _ _
      | exact LeO.none _
      | refine LeO.ite ?_ ?_
      | refine LeO.bind ?_ (fun _ => ?_)
theorem impl_productsOf.mono : ∀ a0 a1 k, LeO (impl_productsOf.f k a0 a1) (impl_productsOf.f (k + 1) a0 a1) := by
  intro a0 a1 k
  have ih0 := impl_productsOf.mono_l k
  unfold impl_productsOf.f
  repeat' first
      | (with_reducible exact ih0 _ _ _ _ _)
      | (with_reducible exact impl_bitPoint.mono _ _ _)
      | (with_reducible exact impl_product.mono _ _ _)
      | (with_reducible exact LeO.refl _)
      | (with_reducible exact LeO.none _)
      | (with_reducible refine LeO.ite ?_ ?_)
      | (with_reducible refine LeO.bind ?_ (fun _ => ?_))
      | exact ih0 _ _ _ _ _
      | exact impl_bitPoint.mono _ _ _
      | exact impl_product.mono _ _ _
      | exact LeO.none _
      | refine LeO.ite ?_ ?_
      | refine LeO.bind ?_ (fun _ => ?_)
set_option maxHeartbeats 8000000 in
set_option maxRecDepth 100000 in
theorem impl_productsOf.calls (k : Nat) (a0 : Int) (A1 : Option Addr) (c1 : Nat) (l1 : List Int) (r : List Int) (w : World) (hr1 : Kd.C (Kd.int .i64) w A1 l1.length l1) (hc1 : l1.length ≤ c1) (h : impl_productsOf.f k a0 l1 = some r) :
    Calls Try.prog 127 #[.int .i64 a0, .slice A1 l1.length c1] w fun e w' => ∃ v0_ : Value, e = .returned (v0_) ∧ Kd.R (Kd.int .i64) 3 w' w.heap.size (fun _ => True) v0_ r ∧ Below w.heap.size w w' := by
  have HR1 := Aside0.mk hr1
  have HC1 := Aside0.mk hc1
  clear hr1 hc1
  have HB := Aside0.mk (Below.refl w.heap.size w)
  have H : (if 0 ≤ a0 then (impl_productsOf.l0 k a0 l1 (([] : List Int)) (shl .i64 1 a0) 0) else (none)) = some r := h
  clear h
  obtain ⟨y172, hy172⟩ : ∃ y_ : List Int, y_ = (([] : List Int)) := ⟨_, rfl⟩
  replace H : (if 0 ≤ a0 then (impl_productsOf.l0 k a0 l1 y172 (shl .i64 1 a0) 0) else (none)) = some r := by first | (rw [hy172]; with_reducible exact H) | (have H2_ := (Option.bind_some _ _).symm.trans H; rw [hy172]; with_reducible exact H2_) | (have H2_ := (Option.bind_some _ _).symm.trans H; with_reducible exact H2_) | with_reducible exact H | (rw [hy172]; exact H) | exact H
  have Ny172 := Aside0.mk hy172
  clear hy172
  by_cases c3 : 0 ≤ a0
  · rw [if_pos c3] at H
    have c3b0 := eq_true c3
    have c3b1 : decide (0 ≤ a0) = true := decide_eq_true c3
    clear c3
    obtain ⟨ji4, hji4⟩ : ∃ j_ : Int, (shl .i64 1 a0) = j_ := ⟨_, rfl⟩
    replace H : (impl_productsOf.l0 k a0 l1 y172 ji4 0) = some r := by first | (rw [hji4] at H; exact H) | (simp only [hji4] at H ⊢; exact H)
    have hji4_ : (IntKind.i64.wrap (1 * 2 ^ min a0.toNat 64)) = ji4 := hji4
    have hji4z : a0 ≤ 64 → (IntKind.i64.wrap (1 * 2 ^ a0.toNat)) = ji4 := shl_small hji4
    have hji4u : (IntKind.i64.wrap (2 ^ min a0.toNat 64)) = ji4 := by have h_ := hji4_; rw [Int.one_mul] at h_; exact h_
    have hji4v : a0 ≤ 64 → (IntKind.i64.wrap (2 ^ a0.toNat)) = ji4 := fun hle_ => by have h_ := hji4z hle_; rw [Int.one_mul] at h_; exact h_
    have hji4y : (wrap64 (1 * 2 ^ min a0.toNat 64)) = ji4 := (i64_w _).symm.trans hji4_
    have hji4x : a0 ≤ 64 → (wrap64 (1 * 2 ^ a0.toNat)) = ji4 := fun h_ => (i64_w _).symm.trans (hji4z h_)
    have H' := Aside0.mk H
    clear H
    go_enter Try.func127, Try.ntmps127
    go_wp2_with (first | ((with_reducible refine gate_dst (N := 7) rfl ?_); refine Kd.R_lit (Kd.int .i64) _ 3 ?hg (N := 7) ?hd (xs := ([] : List Int)) (inner := []) (ok := fun _ => True) (okp := fun _ => True) ?hr ?hp (fun _ hk => hk) trivial (Below.refl _ _) (Nat.le_refl _) (by simp) ?_; (case hd => rfl); (case hg => rfl); (case hr => first | (go_simp; done) | (go_simp; rfl)); (case hp => exact (Reps.none _ _)); intro v173 w5 ho6 hb hg_ hnew_; clear hg_ hnew_; (first | rw [← Ny172.out] at ho6 | (simp only [Int.reduceToNat] at ho6; rw [← Ny172.out] at ho6)); have n0_ := Aside0.mk (Kd.R_lower ho6 (below_size (by repeat (first | (with_reducible first | exact HB.out | apply below_alloc | apply pw_below_drewN | apply below_drew1) | exact HB.out)))); have n1_ := Aside0.mk (below_step (by repeat (first | (with_reducible first | exact HB.out | apply below_alloc | apply pw_below_drewN | apply below_drew1) | exact HB.out)) hb); clear HB; have HO174 := n0_; have HB := n1_; clear n0_ n1_; clear hb ho6))
    go_loopg [5, 10] k (fun kq v5 v10 w' => ∃ (x5_1 : List Int) (x10_1 : Int), v10 = .int .i64 x10_1 ∧ Aside0 (impl_productsOf.l0 kq a0 l1 x5_1 ji4 x10_1 = some r) ∧ Aside0 (kq ≤ k) ∧ Aside0 (Kd.R (Kd.int .i64) 3 w' w.heap.size (fun _ => True) v5 x5_1) ∧ Aside0 (Below w.heap.size w w'))
    case atStart => exact ⟨(y172), (0), (by first | rfl | (simp; done) | (simp [*]; done)), H', ⟨Nat.le_refl _⟩, ⟨by (with_reducible repeat (first | apply Kd.R_alloc | apply Kd.R_drewN | apply Kd.R_drew)); exact HO174.out⟩, ⟨by repeat (first | (with_reducible first | exact HB.out | apply below_alloc | apply pw_below_drewN | apply below_drew1) | exact HB.out)⟩⟩
    case round =>
      clear H'
      try clear c1
      try clear p2
      try clear c3
      try clear c3b0
      try clear c3b1
      try clear p6
      obtain ⟨x5_1, x10_1, rfl, HA, HK1, HO_5, HB⟩ := hrel
      cases gk with
      | zero => exact absurd HA.out (by simp [impl_productsOf.l0])
      | succ k1 =>
        have H := HA.out
        clear HA
        simp only [impl_productsOf.l0] at H
        by_cases c7 : x10_1 < ji4
        · rw [if_pos c7] at H
          have c7b0 : decide (x10_1 < ji4) = true := decide_eq_true c7
          clear c7
          replace H := Option.bind_eq_some_iff.mp H
          obtain ⟨t175, A80, H⟩ := H
          replace H : ((impl_product.f k1 l1 t175).bind fun t178 => (if x5_1.length < 17592186044416 then (impl_productsOf.l0 k1 a0 l1 (x5_1 ++ [t178]) ji4 (wrap64 (x10_1 + 1))) else (none))) = some r := H
          have A8 := Aside0.mk A80
          clear A80
          replace H := Option.bind_eq_some_iff.mp H
          obtain ⟨t178, A90, H⟩ := H
          replace H : (if x5_1.length < 17592186044416 then (impl_productsOf.l0 k1 a0 l1 (x5_1 ++ [t178]) ji4 (wrap64 (x10_1 + 1))) else (none)) = some r := H
          have A9 := Aside0.mk A90
          clear A90
          by_cases c10 : x5_1.length < 17592186044416
          · rw [if_pos c10] at H
            have LMc10 := Aside0.mk c10
            clear c10
            obtain ⟨y179, hy179⟩ : ∃ y_ : List Int, y_ = (x5_1 ++ [t178]) := ⟨_, rfl⟩
            replace H : (impl_productsOf.l0 k1 a0 l1 y179 ji4 (wrap64 (x10_1 + 1))) = some r := by first | (rw [hy179]; with_reducible exact H) | (have H2_ := (Option.bind_some _ _).symm.trans H; rw [hy179]; with_reducible exact H2_) | (have H2_ := (Option.bind_some _ _).symm.trans H; with_reducible exact H2_) | with_reducible exact H | (rw [hy179]; exact H) | exact H
            have Ny179 := Aside0.mk hy179
            clear hy179
            have H' := Aside0.mk H
            clear H
            go_wp2_with (first | ((with_reducible refine gate_callee (f := 150) rfl ?_); refine goesL_ (some 17) rfl rfl Try.func150 (by kernel_rfl) rfl #[.int .i64 a0, .int .i64 x10_1] rfl (by (try simp only [List.map_toArray, List.map_cons, List.map_nil]); first | done | rfl | (simp only [List.length_drop, List.length_take]; rfl)) ?_; (with_reducible refine (impl_bitPoint.calls k1 a0 x10_1 t175 _ A8.out).mono ?_); rintro e w11 ⟨v176, rfl, ho0, hb⟩; refine ⟨_, rfl, ?_⟩; have n0_ := Aside0.mk (Kd.R_elder' (by (with_reducible repeat (first | apply Kd.R_alloc | apply Kd.R_drewN | apply Kd.R_drew)); exact HO_5.out) (Kd.R_base ho0) hb); have n1_ := Aside0.mk (Kd.R_lower (Kd.R_new' ho0 (Kd.R_lt (by (with_reducible repeat (first | apply Kd.R_alloc | apply Kd.R_drewN | apply Kd.R_drew)); exact HO_5.out))) (below_size (by repeat (first | (with_reducible first | exact HB.out | apply below_alloc | apply pw_below_drewN | apply below_drew1) | exact HB.out)))); have n2_ := Aside0.mk (below_step (by repeat (first | (with_reducible first | exact HB.out | apply below_alloc | apply pw_below_drewN | apply below_drew1) | exact HB.out)) hb); clear HO_5; clear HB; have HO_5 := n0_; have HO177 := n1_; have HB := n2_; clear n0_ n1_ n2_; (try clear hb); (try clear hb2); (try clear hk); (try clear hi); (try clear ho0); obtain ⟨Ao12, co12, eo12⟩ := Kd.R_slice HO177.out; subst eo12) | ((with_reducible refine gate_callee (f := 81) rfl ?_); refine goesL_ (some 18) rfl rfl Try.func81 (by kernel_rfl) rfl #[.slice A1 l1.length c1, .slice Ao12 t175.length co12] rfl (by (try simp only [List.map_toArray, List.map_cons, List.map_nil]); first | done | rfl | (simp only [List.length_drop, List.length_take]; rfl)) ?_; (with_reducible refine (impl_product.calls k1 _ _ l1 _ _ t175 t178 _ ?side1 ?side2 ?side3 ?side4 A9.out).mono ?_); (case side1 => repeat (first | exact (Kd.C_below HR1.out HB.out) | (with_reducible refine Kd.C_alloc ?_ _) | (with_reducible refine Kd.C_drewN ?_ _) | (with_reducible refine Kd.C_drew ?_))); (case side2 => exact HC1.out); (case side3 => repeat (first | exact (Kd.R_reads' HO177.out).2.2 | (with_reducible refine Kd.C_alloc ?_ _) | (with_reducible refine Kd.C_drewN ?_ _) | (with_reducible refine Kd.C_drew ?_))); (case side4 => exact (Kd.R_reads' HO177.out).2.1); rintro e w' ⟨rfl, ⟨nd, rfl⟩⟩; refine ⟨_, rfl, ?_⟩) | ((with_reducible refine gate_builtin (b := .append) (xs := #[.tmp 13, .tmp 19]) rfl ?_); at_builtin; refine Kd.R_append (Kd.int .i64) (w0 := w) w.heap.size rfl (.tmp 13) (.tmp 19) 26 3 (.int .i64 0) 8 rfl Try.underlying26 info3 rfl (by decide) (by omega) u5 x5_1 t178 [.int .i64 t178] (fun k_ => some k_ ≠ (.slice Ao12 t175.length co12 : Value).ownBlock) (fun _ => False) rfl rfl ?aP (fun _ hk => hk.elim) ?aF ?aO ?aB ?aS ?aL ?_; (case aP => exact rfl); (case aB => exact (by repeat (first | (with_reducible first | exact HB.out | apply below_alloc | apply pw_below_drewN | apply below_drew1) | exact HB.out))); (case aF => exact (fun k_ hk => Kd.fresh' (Kd.R_lt (by (with_reducible repeat (first | apply Kd.R_alloc | apply Kd.R_drewN | apply Kd.R_drew)); exact HO177.out)) k_ hk)); (case aO => exact (by (with_reducible repeat (first | apply Kd.R_alloc | apply Kd.R_drewN | apply Kd.R_drew)); exact Kd.R_mono HO_5.out (fun _ hk => hk.2))); (case aS => exact (below_size (by repeat (first | (with_reducible first | exact HB.out | apply below_alloc | apply pw_below_drewN | apply below_drew1) | exact HB.out)))); (case aL => have := LMc10.out; omega); intro v180 w13 ho hb hg hat; rw [← Ny179.out] at ho; have n0_ := Aside0.mk (Kd.R_after (ok := (fun _ => True)) (by (with_reducible repeat (first | apply Kd.R_alloc | apply Kd.R_drewN | apply Kd.R_drew)); exact HO177.out) hg hat); have n1_ := Aside0.mk (hb); have n2_ := Aside0.mk (ho); clear HO177; clear HB; clear HO_5; have HO177 := n0_; have HB := n1_; have HO181 := n2_; clear n0_ n1_ n2_; clear ho hb hg hat))
            go_roundg k1
            case measure => have := HK1.out; omega
            case rel => exact ⟨(y179), (wrap64 (x10_1 + 1)), (by first | rfl | (simp; done) | (simp [*]; done)), H', ⟨by have := HK1.out; omega⟩, ⟨by (with_reducible repeat (first | apply Kd.R_alloc | apply Kd.R_drewN | apply Kd.R_drew)); exact Kd.R_mono HO181.out (fun _ hk => trivial)⟩, ⟨by repeat (first | (with_reducible first | exact HB.out | apply below_alloc | apply pw_below_drewN | apply below_drew1) | exact HB.out)⟩⟩
          · rw [if_neg c10] at H
            exact absurd H (by simp)
        · rw [if_neg c7] at H
          have c7b0 : decide (x10_1 < ji4) = false := decide_eq_false c7
          clear c7
          obtain rfl := Option.some.inj H
          go_wp2
          go_ret
          exact ⟨_, by first | rfl | (simp [errW_none, errW_some] <;> rfl) | (simp only [← hji4]; first | rfl | (simp [errW_none, errW_some] <;> rfl)) | (simp [*, errW_none, errW_some] <;> rfl), by (with_reducible repeat (first | apply Kd.R_alloc | apply Kd.R_drewN | apply Kd.R_drew)); exact HO_5.out, by repeat (first | (with_reducible first | exact HB.out | apply below_alloc | apply pw_below_drewN | apply below_drew1) | exact HB.out)⟩
  · rw [if_neg c3] at H
    exact absurd H (by simp)

-- NOT PRINTED: function 126 (impl_tablesOf_1)

-- NOT PRINTED: function 70 (impl_tablesOf)

/-! ### impl_WeightsTable: function 16 -/
open Go.Proofs.Ytdjclffkidoohaa.Clos
def impl_smallWeights.f0 (N m : Int) : Nat → List Int → Int → Option (List Int)
  | 0, _, _ => none
  | k + 1, x, i => if i < N then (if 0 ≤ i then impl_smallWeights.f0 N m k (x.set i.toNat (wrap64 (-m))) (wrap64 (i + 1)) else none) else some x
def impl_smallWeights.g0 (N m : Int) : Nat → List Int → Int → Option (List Int × Int)
  | 0, _, _ => none
  | k + 1, x, i => if 0 ≤ i then (if i < N then (if rd x i = m then impl_smallWeights.g0 N m k (x.set i.toNat (wrap64 (-m))) (wrap64 (i - 1)) else some (x, i)) else none) else some (x, i)
def impl_smallWeights.l0 {σ : Type} (V : Nat → σ → List Int → Option σ) (N m : Int) : Nat → σ → List Int → Option σ
  | 0, _, _ => none
  | k + 1, s, x => (V k s x).bind fun s1 => (impl_smallWeights.g0 N m k x (wrap64 (N - 1))).bind fun r => (if r.2 < 0 then some s1 else (if r.2 < N then impl_smallWeights.l0 V N m k s1 (r.1.set r.2.toNat (wrap64 (rd r.1 r.2 + 1))) else none))
def impl_smallWeights.f {σ : Type} (V : Nat → σ → List Int → Option σ) (k : Nat) (s : σ) (n m : Int) : Option σ := if 1 ≤ n then (if n.toNat ≤ 35184372088832 then ((impl_smallWeights.f0 n m k (List.replicate n.toNat 0) 0).bind fun x => impl_smallWeights.l0 V n m k s x) else none) else none
theorem impl_smallWeights.mono_f0 (N m : Int) : ∀ k x i, LeO (impl_smallWeights.f0 N m k x i) (impl_smallWeights.f0 N m (k + 1) x i)
  | 0, _, _ => fun r h => by simp [impl_smallWeights.f0] at h
  | k + 1, x, i => by
    rw [impl_smallWeights.f0, impl_smallWeights.f0.eq_def N m (k + 1 + 1)]
    exact LeO.ite (LeO.ite (impl_smallWeights.mono_f0 N m k _ _) (LeO.refl _)) (LeO.refl _)
theorem impl_smallWeights.mono_g0 (N m : Int) : ∀ k x i, LeO (impl_smallWeights.g0 N m k x i) (impl_smallWeights.g0 N m (k + 1) x i)
  | 0, _, _ => fun r h => by simp [impl_smallWeights.g0] at h
  | k + 1, x, i => by
    rw [impl_smallWeights.g0, impl_smallWeights.g0.eq_def N m (k + 1 + 1)]
    exact LeO.ite (LeO.ite (LeO.ite (impl_smallWeights.mono_g0 N m k _ _) (LeO.refl _)) (LeO.refl _)) (LeO.refl _)
theorem impl_smallWeights.mono_l0 {σ : Type} (V : Nat → σ → List Int → Option σ) (hV : ∀ k s set, LeO (V k s set) (V (k + 1) s set)) (N m : Int) : ∀ k s x, LeO (impl_smallWeights.l0 V N m k s x) (impl_smallWeights.l0 V N m (k + 1) s x)
  | 0, _, _ => fun r h => by simp [impl_smallWeights.l0] at h
  | k + 1, s, x => by
    rw [impl_smallWeights.l0, impl_smallWeights.l0.eq_def V N m (k + 1 + 1)]
    exact LeO.bind (hV _ _ _) fun _ => LeO.bind (impl_smallWeights.mono_g0 _ _ _ _ _) fun _ => LeO.ite (LeO.refl _) (LeO.ite (impl_smallWeights.mono_l0 V hV N m k _ _) (LeO.refl _))
theorem impl_smallWeights.mono {σ : Type} (V : Nat → σ → List Int → Option σ) (hV : ∀ k s set, LeO (V k s set) (V (k + 1) s set)) : ∀ s n m k, LeO (impl_smallWeights.f V k s n m) (impl_smallWeights.f V (k + 1) s n m) := fun s n m k => by
  unfold impl_smallWeights.f
  exact LeO.ite (LeO.ite (LeO.bind (impl_smallWeights.mono_f0 _ _ _ _ _) fun _ => impl_smallWeights.mono_l0 V hV _ _ _ _ _) (LeO.refl _)) (LeO.refl _)
set_option maxHeartbeats 8000000 in
set_option maxRecDepth 100000 in
/-- smallWeights, whatever function it visits with. I g tells of the worlds while the row of weights lies in block g: it holds where nothing but g and what is new has changed. -/
theorem impl_smallWeights.calls {σ : Type} (V : Nat → σ → List Int → Option σ) (G : FuncId) (C : Array Value) (hent : Ent Try.prog G) (I : Nat → σ → World → Prop) (S : Nat → Prop)
    (hIs : ∀ g s w j u, I g s w → (∃ cells, w.heap[g]? = some (.cells cells 3 (0, 0))) → I g s (w.setCell ⟨g, j, none⟩ u))
    (hat : ∀ g k s set s' c w, I g s w → (∀ W', Kept w W' S → (Kd.int .i64).C W' (some ⟨g, 0, none⟩) set.length set) → set.length ≤ c → V k s set = some s' → Calls Try.prog G (#[.slice (some ⟨g, 0, none⟩) set.length c] ++ C) w fun e w' => e = .returned (.tuple #[]) ∧ I g s' w' ∧ Kept w w' S)
    (k : Nat) (s : σ) (n m : Int) (s' : σ) (w : World) (hi : ∀ g w1, w.heap.size ≤ g → g < w1.heap.size → Below w.heap.size w w1 → I g s w1) (hSb : ∀ k, S k → k < w.heap.size) (h : impl_smallWeights.f V k s n m = some s') :
    Calls Try.prog 78 #[.int .i64 n, .int .i64 m, .func (.func G) #[] C] w fun e w' => e = .returned (.tuple #[]) ∧ (∃ g, w.heap.size ≤ g ∧ I g s' w') ∧ Kept w w' S := by
  have HB := Aside0.mk (Below.refl w.heap.size w)
  have HAT := Aside0.mk hat
  have HIS := Aside0.mk hIs
  have HE := Aside0.mk hent
  have HSB := Aside0.mk hSb
  have HW := Aside0.mk hi
  clear hat hIs hent hSb hi
  unfold impl_smallWeights.f at h
  by_cases c1 : 1 ≤ n
  · rw [if_pos c1] at h
    by_cases c2 : n.toNat ≤ 35184372088832
    · rw [if_pos c2] at h
      obtain ⟨N, rfl⟩ := Int.eq_ofNat_of_zero_le (show 0 ≤ n by omega)
      rw [Int.toNat_natCast] at c2
      obtain ⟨X, A10, H⟩ := Option.bind_eq_some_iff.mp h
      rw [Int.toNat_natCast] at A10
      have H' := Aside0.mk A10
      have HL := Aside0.mk H
      have C1 := Aside0.mk c1
      have C2 := Aside0.mk c2
      have c0b : decide (0 ≤ (N : Int)) = true := decide_eq_true (by omega)
      have c0n : decide ((N : Int) < 0) = false := decide_eq_false (by omega)
      have c0t : (0 ≤ (N : Int)) = True := eq_true (by omega)
      clear h A10 H c1 c2
      go_enter Try.func78, Try.ntmps78
      go_wp2_with (first
        | ((with_reducible refine gate_dst (N := 10) rfl ?_); refine Kd.R_make (Kd.int .i64) _ 3 rfl (N := 10) rfl 26 _ _ rfl (N : Int) rfl rfl Try.underlying26 (.int .i64 0) 8 info3 rfl (by decide) (by omega) 0 (ok := fun _ => True) (okp := fun _ => True) rfl (fun _ hk => hk) trivial (by have := C1.out; omega) (by rw [Int.toNat_natCast]; have := C2.out; omega) (Below.refl _ _) (Nat.le_refl _) ?_; intro v10 w4 ho hb hg_ hnew_; clear hg_ hnew_; rw [Int.toNat_natCast] at ho; have n0_ := Aside0.mk (Kd.R_lower ho (below_size HB.out)); have n1_ := Aside0.mk (below_step HB.out hb); obtain ⟨g, c, ev, hgb, hgl, hgc⟩ := Kd.R_form n0_.out (by rw [List.length_replicate]; have := C1.out; omega); subst ev; rw [List.length_replicate] at n0_; have HG := Aside0.mk hgb; have HGC := Aside0.mk hgc; clear HB hb ho hgb hgl hgc; have HO := n0_; have HB := n1_; clear n0_ n1_)
        | fail)
      go_loopg [13] k (fun kq v13 w' => ∃ (x : List Int) (i : Int), v13 = .int .i64 i ∧ Aside0 (impl_smallWeights.f0 (N : Int) m kq x i = some X) ∧ Aside0 (kq ≤ k) ∧ Aside0 (Kd.R (Kd.int .i64) 3 w' w.heap.size (fun _ => True) (.slice (some ⟨g, 0, none⟩) N c) x) ∧ Aside0 (Below w.heap.size w w'))
      case atStart => exact ⟨_, 0, rfl, H', ⟨Nat.le_refl _⟩, HO, HB⟩
      case round =>
        clear H' HO HB
        obtain ⟨x, i, rfl, HA, HK1, HO, HB⟩ := hrel
        cases gk with
        | zero => exact absurd HA.out (by simp [impl_smallWeights.f0])
        | succ k1 =>
          have H := HA.out
          clear HA
          simp only [impl_smallWeights.f0] at H
          by_cases c1 : i < (N : Int)
          · rw [if_pos c1] at H
            have c1b : decide (i < (N : Int)) = true := decide_eq_true c1
            by_cases c2 : 0 ≤ i
            · rw [if_pos c2] at H
              obtain ⟨y, hy⟩ : ∃ y_ : List Int, y_ = x.set i.toNat (wrap64 (-m)) := ⟨_, rfl⟩
              rw [← hy] at H
              have NY := Aside0.mk hy
              have H' := Aside0.mk H
              obtain ⟨hx, hf⟩ := Kd.R_celln 0 HO.out i c2 c1
              have p1 := eq_true c1
              have p2 := eq_true c2
              have HP := Aside0.mk (Kd.R_putn HO.out i (wrap64 (-m)))
              have HGG := Aside0.mk (show w.heap.size ≤ g from HG.out)
              clear c1 c2 H hy
              go_wp2
              go_roundg k1
              case measure => have := HK1.out; omega
              case rel => exact ⟨y, wrap64 (i + 1), rfl, H', ⟨by have := HK1.out; omega⟩, ⟨by rw [NY.out]; exact HP.out⟩, ⟨below_set HB.out HGG.out⟩⟩
            · rw [if_neg c2] at H
              exact absurd H (by simp)
          · rw [if_neg c1] at H
            have c1b : decide (i < (N : Int)) = false := decide_eq_false c1
            obtain rfl := Option.some.inj H
            clear H c1
            have HI := Aside0.mk (HW.out g wr HG.out (by obtain ⟨g', c', e, _, hl, _⟩ := Kd.R_form HO.out (by have := (Kd.R_reads' HO.out).1; have := C1.out; omega); injection e with e1 _ _; injection e1 with e1; injection e1 with e1; rw [e1]; exact hl) HB.out)
            have HK := Aside0.mk (Kept.of_below HB.out S)
            clear HB HW
            try go_wp2
            go_loopg [8] k (fun kq v8 w' => ∃ (s1 : σ) (x1 : List Int), Aside0 (impl_smallWeights.l0 V (N : Int) m kq s1 x1 = some s') ∧ Aside0 (kq ≤ k) ∧ Aside0 (Kd.R (Kd.int .i64) 3 w' w.heap.size (fun _ => True) (.slice (some ⟨g, 0, none⟩) N c) x1) ∧ Aside0 (I g s1 w') ∧ Aside0 (Kept w w' S))
            case atStart => exact ⟨s, x, HL, ⟨Nat.le_refl _⟩, HO, HI, HK⟩
            case round =>
              clear HL HO HI HK HK1
              obtain ⟨s1, x1, HA, HK1, HO, HI, HK⟩ := hrel
              cases gk with
              | zero => exact absurd HA.out (by simp [impl_smallWeights.l0])
              | succ k2 =>
                have H := HA.out
                clear HA
                simp only [impl_smallWeights.l0] at H
                obtain ⟨s2, A10, H⟩ := Option.bind_eq_some_iff.mp H
                obtain ⟨⟨y, i2⟩, A20, H⟩ := Option.bind_eq_some_iff.mp H
                have A2 := Aside0.mk A20
                have HF := Aside0.mk H
                have hN := (Kd.R_reads' HO.out).1
                have hNc := (Kd.R_reads' HO.out).2.1
                have A3 := HAT.out g k2 s1 x1 s2 c wr HI.out (by rw [← hN]; exact Kd.C_kept_own (Kd.R_bound HO.out) (fun k_ hk hs => by have := HSB.out _ hs; have := hk.2.1; omega)) (by omega) A10
                rw [← hN] at A3
                have A4 := Aside0.mk A3
                clear A10 A20 H hN hNc A3
                go_wp2_with (first
                  | (refine goesC_ (some 24) rfl rfl HE.out #[.slice (some ⟨g, 0, none⟩) N c] rfl rfl (by (try simp only [List.map_toArray, List.map_cons, List.map_nil]); first | done | rfl) ?_; (with_reducible refine A4.out.mono ?_); rintro e w9 ⟨rfl, hi9, hk9⟩; refine ⟨_, rfl, ?_⟩; have n0_ := Aside0.mk hi9; have n1_ := Aside0.mk (HK.out.then_ hk9 (fun _ h => .inl h)); have n2_ := Aside0.mk (Kd.R_mono (ok' := fun _ => True) (Kd.R_kept (Kd.R_bound HO.out) hk9 (fun k_ hk hs => by have := HSB.out _ hs; have := hk.2.1; omega)) (fun _ _ => trivial)); clear hi9 hk9 HI HK HO A4; have HI := n0_; have HK := n1_; have HO := n2_; clear n0_ n1_ n2_)
                  | fail)
                go_loopg [8] k2 (fun kq v8 w' => ∃ (x2 : List Int) (i : Int), v8 = .int .i64 i ∧ Aside0 (impl_smallWeights.g0 (N : Int) m kq x2 i = some (y, i2)) ∧ Aside0 (kq ≤ k2) ∧ Aside0 (Kd.R (Kd.int .i64) 3 w' w.heap.size (fun _ => True) (.slice (some ⟨g, 0, none⟩) N c) x2) ∧ Aside0 (I g s2 w') ∧ Aside0 (Kept w w' S))
                case atStart => exact ⟨x1, _, rfl, A2, ⟨Nat.le_refl _⟩, HO, HI, HK⟩
                case round =>
                  clear A2 HO HI HK
                  obtain ⟨x2, i, rfl, HA, HK3, HO, HI, HK⟩ := hrel
                  cases gk with
                  | zero => exact absurd HA.out (by simp [impl_smallWeights.g0])
                  | succ k3 =>
                    have H := HA.out
                    clear HA
                    simp only [impl_smallWeights.g0] at H
                    by_cases c1 : 0 ≤ i
                    · rw [if_pos c1] at H
                      have c1b : decide (0 ≤ i) = true := decide_eq_true c1
                      have c1c : decide (i ≥ 0) = true := decide_eq_true c1
                      by_cases c2 : i < (N : Int)
                      · rw [if_pos c2] at H
                        obtain ⟨hx, hf⟩ := Kd.R_celln 0 HO.out i c1 c2
                        replace hx : wr.cell? ⟨g, i.toNat, none⟩ = some (.int .i64 (rd x2 i)) := hx
                        have p1 := eq_true c1
                        have p2 := eq_true c2
                        by_cases c3 : rd x2 i = m
                        · rw [if_pos c3] at H
                          have c3b : (rd x2 i == m) = true := beq_iff_eq.mpr c3
                          obtain ⟨z, hz⟩ : ∃ z_ : List Int, z_ = x2.set i.toNat (wrap64 (-m)) := ⟨_, rfl⟩
                          rw [← hz] at H
                          have NZ := Aside0.mk hz
                          have H' := Aside0.mk H
                          have HP := Aside0.mk (Kd.R_putn HO.out i (wrap64 (-m)))
                          have HGG := Aside0.mk (show w.heap.size ≤ g from HG.out)
                          have HQ := Aside0.mk (HIS.out g s2 wr i.toNat (.int .i64 (wrap64 (-m))) HI.out (by obtain ⟨g', c', e, _, _, hc⟩ := Kd.R_form HO.out (by have := (Kd.R_reads' HO.out).1; omega); injection e with e1 _ _; injection e1 with e1; injection e1 with e1; rw [e1]; exact hc))
                          have HKS := Aside0.mk (HK.out.setCell (p := ⟨g, i.toNat, none⟩) (.inr HG.out) (.int .i64 (wrap64 (-m))))
                          clear c1 c2 c3 H hz
                          go_wp2
                          go_roundg k3
                          case measure => have := HK3.out; omega
                          case rel => exact ⟨z, wrap64 (i - 1), rfl, H', ⟨by have := HK3.out; omega⟩, ⟨by rw [NZ.out]; exact HP.out⟩, HQ, HKS⟩
                        · rw [if_neg c3] at H
                          have c3b : (rd x2 i == m) = false := beq_eq_false_iff_ne.mpr c3
                          obtain ⟨rfl, rfl⟩ : x2 = y ∧ i = i2 := by simpa using H
                          have H := HF.out
                          have ci : ¬ i < 0 := by omega
                          have cib : decide (i < 0) = false := decide_eq_false ci
                          simp only [if_neg ci, if_pos c2] at H
                          obtain ⟨z, hz⟩ : ∃ z_ : List Int, z_ = x2.set i.toNat (wrap64 (rd x2 i + 1)) := ⟨_, rfl⟩
                          rw [← hz] at H
                          have NZ := Aside0.mk hz
                          have H' := Aside0.mk H
                          have HP := Aside0.mk (Kd.R_putn HO.out i (wrap64 (rd x2 i + 1)))
                          have HGG := Aside0.mk (show w.heap.size ≤ g from HG.out)
                          have HKS := Aside0.mk (HK.out.setCell (p := ⟨g, i.toNat, none⟩) (.inr HG.out) (.int .i64 (wrap64 (rd x2 i + 1))))
                          have HQ := Aside0.mk (HIS.out g s2 wr i.toNat (.int .i64 (wrap64 (rd x2 i + 1))) HI.out (by obtain ⟨g', c', e, _, _, hc⟩ := Kd.R_form HO.out (by have := (Kd.R_reads' HO.out).1; omega); injection e with e1 _ _; injection e1 with e1; injection e1 with e1; rw [e1]; exact hc))
                          clear c1 c2 c3 ci H hz
                          go_wp2
                          go_roundg k2
                          case measure => have := HK1.out; omega
                          case rel => exact ⟨s2, z, H', ⟨by have := HK1.out; omega⟩, ⟨by rw [NZ.out]; exact HP.out⟩, HQ, HKS⟩
                      · rw [if_neg c2] at H
                        exact absurd H (by simp)
                    · rw [if_neg c1] at H
                      have c1b : decide (0 ≤ i) = false := decide_eq_false c1
                      have c1c : decide (i ≥ 0) = false := decide_eq_false c1
                      obtain ⟨rfl, rfl⟩ : x2 = y ∧ i = i2 := by simpa using H
                      have H := HF.out
                      have ci : i < 0 := by omega
                      have cib : decide (i < 0) = true := decide_eq_true ci
                      simp only [if_pos ci] at H
                      obtain rfl := Option.some.inj H
                      clear c1 ci H
                      go_wp2
                      first | go_end0 | ((try simp only [Exit.inBlock, Exit.then]); refine bodyPost_ret (results_none rfl _ _ _) rfl ?_)
                      exact ⟨rfl, ⟨g, HG.out, HI.out⟩, HK.out⟩
    · rw [if_neg c2] at h
      exact absurd h (by simp)
  · rw [if_neg c1] at h
    exact absurd h (by simp)
/-- a set of numbers, grown by one -/
def impl_tablesOf.ins (s : List Int) (t : Int) : List Int := if t ∈ s then s else t :: s
def impl_tablesOf.g0 (qs : List Int) (b : Int) : Nat → Int → Int → Option Int
  | 0, _, _ => none
  | k + 1, t, j => if j < (qs.length : Int) then (if 0 ≤ j then (if rd qs j ≥ b then impl_tablesOf.g0 qs b k (Go.bits .or .i64 t (shl .i64 1 j)) (wrap64 (j + 1)) else impl_tablesOf.g0 qs b k t (wrap64 (j + 1))) else none) else some t
def impl_tablesOf.l0 (N : Int) (set X : List Int) : Nat → List Int → Int → Option (List Int)
  | 0, _, _ => none
  | k + 1, s, i => if i < (X.length : Int) then (if 0 ≤ i then (impl_productsOf.f k N set).bind fun qs => (impl_tablesOf.g0 qs (rd X i) k 0 0).bind fun t => (if s.length < 1000000000 ∧ (Lit.int .i64 t).wf = true then impl_tablesOf.l0 N set X k (impl_tablesOf.ins s t) (wrap64 (i + 1)) else none) else none) else some s
/-- one visit of tablesOf: the tables seen so far -/
def impl_tablesOf.v (N : Int) (k : Nat) (s : List Int) (set : List Int) : Option (List Int) := (impl_productsOf.f k N set).bind fun ps => (if ps.length < 17592186044416 then impl_tablesOf.l0 N set (ps ++ [99]) k s 0 else none)
theorem impl_tablesOf.mono_g0 (qs : List Int) (b : Int) : ∀ k t j, LeO (impl_tablesOf.g0 qs b k t j) (impl_tablesOf.g0 qs b (k + 1) t j)
  | 0, _, _ => fun r h => by simp [impl_tablesOf.g0] at h
  | k + 1, t, j => by
    rw [impl_tablesOf.g0, impl_tablesOf.g0.eq_def qs b (k + 1 + 1)]
    exact LeO.ite (LeO.ite (LeO.ite (impl_tablesOf.mono_g0 qs b k _ _) (impl_tablesOf.mono_g0 qs b k _ _)) (LeO.refl _)) (LeO.refl _)
theorem impl_tablesOf.mono_l0 (N : Int) (set X : List Int) : ∀ k s i, LeO (impl_tablesOf.l0 N set X k s i) (impl_tablesOf.l0 N set X (k + 1) s i)
  | 0, _, _ => fun r h => by simp [impl_tablesOf.l0] at h
  | k + 1, s, i => by
    rw [impl_tablesOf.l0, impl_tablesOf.l0.eq_def N set X (k + 1 + 1)]
    exact LeO.ite (LeO.ite (LeO.bind (impl_productsOf.mono _ _ _) fun _ => LeO.bind (impl_tablesOf.mono_g0 _ _ _ _ _) fun _ => LeO.ite (impl_tablesOf.mono_l0 N set X k _ _) (LeO.refl _)) (LeO.refl _)) (LeO.refl _)
theorem impl_tablesOf.mono_v (N : Int) (k : Nat) (s : List Int) (set : List Int) : LeO (impl_tablesOf.v N k s set) (impl_tablesOf.v N (k + 1) s set) := by
  unfold impl_tablesOf.v
  exact LeO.bind (impl_productsOf.mono _ _ _) fun _ => LeO.ite (impl_tablesOf.mono_l0 _ _ _ _ _ _) (LeO.refl _)
/-- an entry of the map of tables -/
def impl_tablesOf.en (t : Int) : Lit × DataW Unit := (.int .i64 t, .lit (.bool true))
/-- block bm is the map of the tables seen -/
def impl_tablesOf.Has (bm : Nat) (s : List Int) (w : World) : Prop := s.Nodup ∧ ∃ l : List (Lit × DataW Unit), w.ownsMap Try.prog 3 (plainElem Try.prog 4) bm s.length (.map l) ∧ l.Perm (s.map impl_tablesOf.en)
theorem impl_tablesOf.Has.of_eq {bm : Nat} {s : List Int} {w w' : World} (h : impl_tablesOf.Has bm s w) (e : w'.heap[bm]? = w.heap[bm]?) : impl_tablesOf.Has bm s w' := by
  obtain ⟨hn, l, ⟨es, clock, hb, r⟩, hp⟩ := h
  exact ⟨hn, l, ⟨es, clock, e.trans hb, r⟩, hp⟩
theorem impl_tablesOf.Has.lt {bm : Nat} {s : List Int} {w : World} (h : impl_tablesOf.Has bm s w) : bm < w.heap.size := by
  obtain ⟨_, l, ho, _⟩ := h
  exact ho.lt
theorem impl_tablesOf.put_perm (s : List Int) (hn : s.Nodup) (t : Int) (l : List (Lit × DataW Unit)) (h : l.Perm (s.map impl_tablesOf.en)) : (Go.ChangeMaps.putKey (.int .i64 t) (.lit (.bool true)) l).Perm ((impl_tablesOf.ins s t).map impl_tablesOf.en) ∧ (impl_tablesOf.ins s t).Nodup := by
  have e1 : (s.map impl_tablesOf.en).filter (Go.ChangeMaps.notKey (.int .i64 t)) = (s.filter (fun u => u != t)).map impl_tablesOf.en := by
    rw [List.filter_map]
    congr 1
    apply List.filter_congr
    intro u _
    by_cases hu : u = t <;> simp [Function.comp, impl_tablesOf.en, Go.ChangeMaps.notKey, Lit.sameKey, hu]
  have p1 : (Go.ChangeMaps.putKey (.int .i64 t) (.lit (.bool true)) l).Perm (impl_tablesOf.en t :: (s.filter (fun u => u != t)).map impl_tablesOf.en) := by
    unfold Go.ChangeMaps.putKey
    rw [← e1]
    exact (Go.WideShapes.insert_perm _ _).trans ((h.filter _).cons _)
  unfold impl_tablesOf.ins
  by_cases hm : t ∈ s
  · rw [if_pos hm]
    refine ⟨p1.trans ?_, hn⟩
    rw [← List.map_cons]
    apply List.Perm.map
    have e2 : s.filter (fun u => u != t) = s.erase t := (List.Nodup.erase_eq_filter hn t).symm
    rw [e2]
    exact (List.perm_cons_erase hm).symm
  · rw [if_neg hm]
    have e3 : s.filter (fun u => u != t) = s := List.filter_eq_self.mpr (fun u hu => by simp; rintro rfl; exact hm hu)
    rw [e3] at p1
    exact ⟨p1, List.nodup_cons.mpr ⟨hm, hn⟩⟩
theorem impl_tablesOf.Has.put {bm : Nat} {s : List Int} {w' : World} {l : List (Lit × DataW Unit)} {t : Int} (hn : s.Nodup) (hp : l.Perm (s.map impl_tablesOf.en)) (h : w'.ownsMap Try.prog 3 (plainElem Try.prog 4) bm (s.length + 1) ((DataW.map l).put (.int .i64 t) (.lit (.bool true)))) : impl_tablesOf.Has bm (impl_tablesOf.ins s t) w' := by
  obtain ⟨q1, q2⟩ := impl_tablesOf.put_perm s hn t l hp
  rw [DataW.put_eq] at h
  refine ⟨q2, _, ?_, q1⟩
  obtain ⟨es, clock, hb, F, hs, hD⟩ := h
  refine ⟨es, clock, hb, F, ?_, hD⟩
  have e1 := q1.length_eq
  injection hD with e2
  have e3 := congrArg List.length e2
  rw [length_sorted] at e3
  simp only [List.length_map, Array.length_toList] at e1 e3
  omega
theorem impl_tablesOf.Has.size {bm : Nat} {s : List Int} {w : World} (h : impl_tablesOf.Has bm s w) : ∃ D : DataW Unit, w.ownsMap Try.prog 3 (plainElem Try.prog 4) bm s.length D ∧ Go.Maps.size D = s.length := by
  obtain ⟨_, l, ho, hp⟩ := h
  refine ⟨_, ho, ?_⟩
  have := hp.length_eq
  simp only [List.length_map] at this
  simpa [Go.Maps.size] using this
theorem impl_tablesOf.Has.made (w : World) : impl_tablesOf.Has w.heap.size [] (w.alloc (.map #[] 0)) := ⟨List.nodup_nil, [], World.ownsMap_made _ _ _ _, by simp⟩
/-- what the visits stand on: the box of n, the variable of the map, and the map, none of them block g -/
def impl_tablesOf.I (w0 : World) (N : Int) (b2 b5 bm : Nat) (g : Nat) (s : List Int) (w : World) : Prop :=
  g ≠ b2 ∧ g ≠ b5 ∧ g ≠ bm ∧ b2 ≠ bm ∧ b5 ≠ bm ∧ w.heap[b2]? = some (.cells #[.int .i64 N] 3 (0, 0)) ∧ w.heap[b5]? = some (.cells #[.map (some bm)] 81 (0, 0)) ∧ impl_tablesOf.Has bm s w ∧ w0.heap.size ≤ g ∧ w0.heap.size ≤ bm ∧ Below w0.heap.size w0 w
theorem impl_tablesOf.I_below {w0 : World} {N : Int} {b2 b5 bm g : Nat} {s : List Int} {w w' : World} (h : impl_tablesOf.I w0 N b2 b5 bm g s w) (hb : Below w.heap.size w w') : impl_tablesOf.I w0 N b2 b5 bm g s w' := by
  obtain ⟨n1, n2, n3, n4, n5, h1, h2, h3, h4, h5, h6⟩ := h
  exact ⟨n1, n2, n3, n4, n5, blk_below h1 hb, blk_below h2 hb, h3.of_eq (hb.block _ h3.lt), h4, h5, below_step h6 hb⟩
theorem impl_tablesOf.I_set {w0 : World} {N : Int} {b2 b5 bm g : Nat} {s : List Int} {w : World} (h : impl_tablesOf.I w0 N b2 b5 bm g s w) (j : Nat) (u : Value) : impl_tablesOf.I w0 N b2 b5 bm g s (w.setCell ⟨g, j, none⟩ u) := by
  obtain ⟨n1, n2, n3, n4, n5, h1, h2, h3, h4, h5, h6⟩ := h
  exact ⟨n1, n2, n3, n4, n5, blk_far h1 n1.symm u, blk_far h2 n2.symm u, h3.of_eq (RowKit.Below.heap_setCell _ _ _ _ n3.symm), h4, h5, below_set h6 h4⟩
/-- a store into the map -/
theorem impl_tablesOf.I_put {w0 : World} {N : Int} {b2 b5 bm g : Nat} {s : List Int} {w w' : World} {l : List (Lit × DataW Unit)} {t : Int} (h : impl_tablesOf.I w0 N b2 b5 bm g s w) (hp : l.Perm (s.map impl_tablesOf.en)) (hg : w.grownBy w' (some bm)) (ho : w'.ownsMap Try.prog 3 (plainElem Try.prog 4) bm (s.length + 1) ((DataW.map l).put (.int .i64 t) (.lit (.bool true)))) : impl_tablesOf.I w0 N b2 b5 bm g (impl_tablesOf.ins s t) w' := by
  obtain ⟨n1, n2, n3, n4, n5, h1, h2, h3, h4, h5, h6⟩ := h
  exact ⟨n1, n2, n3, n4, n5, (hg.block b2 (blk_lt h1) (by simpa using n4)).trans h1, (hg.block b5 (blk_lt h2) (by simpa using n5)).trans h2, impl_tablesOf.Has.put h3.1 hp ho, h4, h5, ⟨hg.os.trans h6.os, hg.tape.trans h6.tape, hg.output.trans h6.output, Nat.le_trans h6.size hg.size, fun i hi => (hg.block i (Nat.lt_of_lt_of_le hi h6.size) (fun e => by injection e with e; omega)).trans (h6.block i hi)⟩⟩
set_option maxHeartbeats 8000000 in
set_option maxRecDepth 100000 in
theorem impl_tablesOf.vcalls (w0 : World) (N : Int) (b2 b5 bm : Nat) (g : Nat) (k : Nat) (s : List Int) (set : List Int) (s' : List Int) (c : Nat) (w : World) (hi : impl_tablesOf.I w0 N b2 b5 bm g s w) (hset : ∀ W', Kept w W' (fun k_ => k_ = bm) → (Kd.int .i64).C W' (some ⟨g, 0, none⟩) set.length set) (hc : set.length ≤ c) (h : impl_tablesOf.v N k s set = some s') :
    Calls Try.prog 126 (#[.slice (some ⟨g, 0, none⟩) set.length c] ++ #[.pointer (some ⟨b2, 0, none⟩), .pointer (some ⟨b5, 0, none⟩)]) w fun e w' => e = .returned (.tuple #[]) ∧ impl_tablesOf.I w0 N b2 b5 bm g s' w' ∧ Kept w w' (fun k_ => k_ = bm) := by
  have HW := Aside0.mk hi
  have HS := Aside0.mk hset
  have HL := Aside0.mk hc
  have HB := Aside0.mk (Below.refl w.heap.size w)
  have HM := Aside0.mk hi.2.2.2.2.2.2.2.1.lt
  unfold impl_tablesOf.v at h
  obtain ⟨ps, A10, H⟩ := Option.bind_eq_some_iff.mp h
  have A1 := Aside0.mk A10
  have hz0 : w.cell? ⟨b2, 0, none⟩ = some (.int .i64 N) := (blk_cell hi.2.2.2.2.2.1 0).trans rfl
  by_cases c1 : ps.length < 17592186044416
  · rw [if_pos c1] at H
    have LM := Aside0.mk c1
    obtain ⟨X, hX⟩ : ∃ y_ : List Int, y_ = ps ++ [99] := ⟨_, rfl⟩
    rw [← hX] at H
    have NX := Aside0.mk hX
    have HH := Aside0.mk H
    clear hset hc h hi A10 H hX c1
    go_enter Try.func126, Try.ntmps126
    go_wp2_with (first
      | ((with_reducible refine gate_callee (f := 127) rfl ?_); refine goesL_ (some 11) rfl rfl Try.func127 (by kernel_rfl) rfl #[.int .i64 N, .slice (some ⟨g, 0, none⟩) set.length c] rfl (by (try simp only [List.map_toArray, List.map_cons, List.map_nil]); first | done | rfl) ?_; (with_reducible refine (impl_productsOf.calls k N _ _ set ps _ ?s1 HL.out A1.out).mono ?_); (case s1 => exact HS.out _ (Kept.of_below HB.out _)); rintro e w9 ⟨v11, rfl, ho0, hb⟩; refine ⟨_, rfl, ?_⟩; have HO := Aside0.mk ho0; have n0_ := Aside0.mk (below_step HB.out hb); clear HB hb hz0 ho0; have HB := n0_; clear n0_)
      | ((with_reducible refine gate_builtin (b := .append) (xs := #[.tmp 11, .tmp 12]) rfl ?_); at_builtin; refine Kd.R_append (Kd.int .i64) (w0 := w) w.heap.size rfl (.tmp 11) (.tmp 12) 26 3 (.int .i64 0) 8 rfl Try.underlying26 info3 rfl (by decide) (by omega) v11 ps 99 [.int .i64 99] (fun _ => True) (fun _ => False) rfl rfl ?aP (fun _ hk => hk.elim) ?aF ?aO ?aB ?aS ?aL ?_; (case aP => exact rfl); (case aB => exact (by repeat (first | (with_reducible first | exact HB.out | apply below_alloc | apply pw_below_drewN | apply below_drew1) | exact HB.out))); (case aF => exact (fun _ _ => trivial)); (case aO => exact (by (with_reducible repeat (first | apply Kd.R_alloc | apply Kd.R_drewN | apply Kd.R_drew)); exact HO.out)); (case aS => exact (below_size (by repeat (first | (with_reducible first | exact HB.out | apply below_alloc | apply pw_below_drewN | apply below_drew1) | exact HB.out)))); (case aL => have := LM.out; omega); intro v13 w10 ho hb hg hat; rw [← NX.out] at ho; have n0_ := Aside0.mk hb; have n1_ := Aside0.mk ho; clear HB HO ho hb hg hat; have HB := n0_; have HO := n1_; clear n0_ n1_; obtain ⟨gx, cx, ev, hgb, hgl, hgc⟩ := Kd.R_form HO.out (by rw [NX.out]; simp); subst ev; clear hgb hgl hgc)
      | fail)
    go_loopg [15] k (fun kq v15 w' => ∃ (s1 : List Int) (i : Int), v15 = .int .i64 i ∧ Aside0 (impl_tablesOf.l0 N set X kq s1 i = some s') ∧ Aside0 (kq ≤ k) ∧ Aside0 (Kd.R (Kd.int .i64) 3 w' w.heap.size (fun _ => True) (.slice (some ⟨gx, 0, none⟩) X.length cx) X) ∧ Aside0 (impl_tablesOf.I w0 N b2 b5 bm g s1 w') ∧ Aside0 (Kept w w' (fun k_ => k_ = bm)))
    case atStart => exact ⟨s, 0, rfl, HH, ⟨Nat.le_refl _⟩, HO, ⟨impl_tablesOf.I_below HW.out HB.out⟩, ⟨Kept.of_below HB.out _⟩⟩
    case round =>
      clear HH HO HW HB
      obtain ⟨s1, i, rfl, HA, HK1, HO, HI, HK⟩ := hrel
      cases gk with
      | zero => exact absurd HA.out (by simp [impl_tablesOf.l0])
      | succ k1 =>
        have H := HA.out
        clear HA
        simp only [impl_tablesOf.l0] at H
        by_cases c1 : i < (X.length : Int)
        · rw [if_pos c1] at H
          have c1b : decide (i < (X.length : Int)) = true := decide_eq_true c1
          by_cases c2 : 0 ≤ i
          · rw [if_pos c2] at H
            obtain ⟨qs, A20, H⟩ := Option.bind_eq_some_iff.mp H
            obtain ⟨t, A30, H⟩ := Option.bind_eq_some_iff.mp H
            by_cases c3 : s1.length < 1000000000 ∧ (Lit.int .i64 t).wf = true
            · rw [if_pos c3] at H
              have A2 := Aside0.mk A20
              have A3 := Aside0.mk A30
              have C3 := Aside0.mk c3
              have H' := Aside0.mk H
              obtain ⟨hx, hf⟩ := Kd.R_celln 0 HO.out i c2 c1
              replace hx : wr.cell? ⟨gx, i.toNat, none⟩ = some (.int .i64 (rd X i)) := hx
              have p1 := eq_true c1
              have p2 := eq_true c2
              have hz0 : wr.cell? ⟨b2, 0, none⟩ = some (.int .i64 N) := (blk_cell HI.out.2.2.2.2.2.1 0).trans rfl
              clear c1 c2 c3 A20 A30 H hf
              go_wp2_with (first
                | ((with_reducible refine gate_callee (f := 127) rfl ?_); refine goesL_ (some 21) rfl rfl Try.func127 (by kernel_rfl) rfl #[.int .i64 N, .slice (some ⟨g, 0, none⟩) set.length c] rfl (by (try simp only [List.map_toArray, List.map_cons, List.map_nil]); first | done | rfl) ?_; (with_reducible refine (impl_productsOf.calls k1 N _ _ set qs _ ?s1 HL.out A2.out).mono ?_); (case s1 => exact HS.out _ HK.out); rintro e w19 ⟨v21, rfl, ho0, hb⟩; refine ⟨_, rfl, ?_⟩; have HQ := Aside0.mk ho0; have n0_ := Aside0.mk (Kd.R_below HO.out hb); have n1_ := Aside0.mk (impl_tablesOf.I_below HI.out hb); have n2_ := Aside0.mk (HK.out.below hb); clear HO HI HK hb hx hz0 ho0; have HO := n0_; have HI := n1_; have HK := n2_; clear n0_ n1_ n2_; obtain ⟨Aq, cq, eq_⟩ := Kd.R_slice HQ.out; subst eq_)
                | fail)
              go_loopg [6, 23] k1 (fun kq v6 v23 w' => ∃ (t0 j : Int), v6 = .int .i64 t0 ∧ v23 = .int .i64 j ∧ Aside0 (impl_tablesOf.g0 qs (rd X i) kq t0 j = some t) ∧ Aside0 (kq ≤ k1) ∧ Aside0 (Kd.R (Kd.int .i64) 3 w' wr.heap.size (fun _ => True) (.slice Aq qs.length cq) qs) ∧ Aside0 (Kd.R (Kd.int .i64) 3 w' w.heap.size (fun _ => True) (.slice (some ⟨gx, 0, none⟩) X.length cx) X) ∧ Aside0 (impl_tablesOf.I w0 N b2 b5 bm g s1 w') ∧ Aside0 (Kept w w' (fun k_ => k_ = bm)))
              case atStart => exact ⟨0, 0, rfl, rfl, A3, ⟨Nat.le_refl _⟩, HQ, HO, HI, HK⟩
              case round =>
                clear A3 HQ HO HI HK
                obtain ⟨t0, j, rfl, rfl, HA, HK2, HQ, HO, HI, HK⟩ := hrel
                cases gk with
                | zero => exact absurd HA.out (by simp [impl_tablesOf.g0])
                | succ k2 =>
                  have H := HA.out
                  clear HA
                  simp only [impl_tablesOf.g0] at H
                  by_cases d1 : j < (qs.length : Int)
                  · rw [if_pos d1] at H
                    have d1b : decide (j < (qs.length : Int)) = true := decide_eq_true d1
                    by_cases d2 : 0 ≤ j
                    · rw [if_pos d2] at H
                      obtain ⟨gq, cq', e, _, _, _⟩ := Kd.R_form HQ.out (by omega)
                      injection e with e1 _ e3
                      subst e1 e3
                      obtain ⟨hx, hf⟩ := Kd.R_celln 0 HQ.out j d2 d1
                      replace hx : wr.cell? ⟨gq, j.toNat, none⟩ = some (.int .i64 (rd qs j)) := hx
                      have p1 := eq_true d1
                      have p2 := eq_true d2
                      have p2b : decide (0 ≤ j) = true := decide_eq_true d2
                      clear hf
                      by_cases d3 : rd qs j ≥ rd X i
                      · rw [if_pos d3] at H
                        have d3b : decide (rd qs j ≥ rd X i) = true := decide_eq_true d3
                        have d3c : decide (rd X i ≤ rd qs j) = true := decide_eq_true d3
                        obtain ⟨ji, hji⟩ : ∃ j_ : Int, (shl .i64 1 j) = j_ := ⟨_, rfl⟩
                        rw [hji] at H
                        have hji_ : (IntKind.i64.wrap (1 * 2 ^ min j.toNat 64)) = ji := hji
                        have hjiu : (IntKind.i64.wrap (2 ^ min j.toNat 64)) = ji := by have h_ := hji_; rw [Int.one_mul] at h_; exact h_
                        have hjiy : (wrap64 (1 * 2 ^ min j.toNat 64)) = ji := (i64_w _).symm.trans hji_
                        have hjiz : (wrap64 (2 ^ min j.toNat 64)) = ji := (i64_w _).symm.trans hjiu
                        have H' := Aside0.mk H
                        clear d1 d2 d3 H hji
                        go_wp2
                        go_roundg k2
                        case measure => have := HK2.out; omega
                        case rel => exact ⟨_, _, rfl, rfl, H', ⟨by have := HK2.out; omega⟩, HQ, HO, HI, HK⟩
                      · rw [if_neg d3] at H
                        have d3b : decide (rd qs j ≥ rd X i) = false := decide_eq_false d3
                        have d3c : decide (rd X i ≤ rd qs j) = false := decide_eq_false d3
                        have H' := Aside0.mk H
                        clear d1 d2 d3 H
                        go_wp2
                        go_roundg k2
                        case measure => have := HK2.out; omega
                        case rel => exact ⟨_, _, rfl, rfl, H', ⟨by have := HK2.out; omega⟩, HQ, HO, HI, HK⟩
                    · rw [if_neg d2] at H
                      exact absurd H (by simp)
                  · rw [if_neg d1] at H
                    have d1b : decide (j < (qs.length : Int)) = false := decide_eq_false d1
                    obtain rfl := Option.some.inj H
                    have hz5 : wr.cell? ⟨b5, 0, none⟩ = some (.map (some bm)) := (blk_cell HI.out.2.2.2.2.2.2.1 0).trans rfl
                    obtain ⟨l, ho, hp⟩ := HI.out.2.2.2.2.2.2.2.1.2
                    have HOW := Aside0.mk ho
                    have HP := Aside0.mk hp
                    clear d1 H ho hp
                    go_wp2_with (first
                      | (at_mapUpdate; refine wpList_mapUpdate_own _ rfl _ _ _ 81 rfl 3 4 (Go.Maps.int_keyed Try.underlying3) Try.underlying81 _ bm s1.length (.map l) rfl HOW.out (by have := C3.out.1; unfold maxLen; omega) _ _ (.int .i64 t0) rfl rfl (Go.Maps.keyOf_int_mk Try.underlying3 C3.out.2) (.lit (.bool true)) [] (plainElem_bool Try.underlying4 true) ?_; intro w29 hown1 hgrow1; have n0_ := Aside0.mk (impl_tablesOf.I_put HI.out HP.out hgrow1 hown1); have n1_ := Aside0.mk (HK.out.of_grown hgrow1 (fun _ h_ => by injection h_ with h_; exact .inl h_.symm)); have n2_ := Aside0.mk (Kd.R_mono (ok' := fun _ => True) (Kd.R_kept (Kd.R_bound HO.out) ((Kept.refl _ (fun k_ => k_ = bm)).of_grown hgrow1 (fun _ h_ => by injection h_ with h_; exact .inl h_.symm)) (fun k_ hk hs => by have := HM.out; have := hk.2.1; omega)) (fun _ _ => trivial)); clear HI HK HO HQ HOW HP hown1 hgrow1 hz5; have HI := n0_; have HK := n1_; have HO := n2_; clear n0_ n1_ n2_)
                      | fail)
                    go_roundg k1
                    case measure => have := HK1.out; omega
                    case rel => exact ⟨_, _, rfl, H', ⟨by have := HK1.out; omega⟩, HO, HI, HK⟩
            · rw [if_neg c3] at H
              exact absurd H (by simp)
          · rw [if_neg c2] at H
            exact absurd H (by simp)
        · rw [if_neg c1] at H
          have c1b : decide (i < (X.length : Int)) = false := decide_eq_false c1
          obtain rfl := Option.some.inj H
          clear c1 H
          go_wp2
          first | go_end0 | ((try simp only [Exit.inBlock, Exit.then]); refine bodyPost_ret (results_none rfl _ _ _) rfl ?_)
          exact ⟨rfl, HI.out, HK.out⟩
  · rw [if_neg c1] at H
    exact absurd H (by simp)
def impl_tablesOf.f (k : Nat) (n m : Int) : Option (List Int) := impl_smallWeights.f (impl_tablesOf.v n) k [] n m
theorem impl_tablesOf.mono : ∀ n m k, LeO (impl_tablesOf.f k n m) (impl_tablesOf.f (k + 1) n m) := fun n m k => impl_smallWeights.mono _ (impl_tablesOf.mono_v _) _ _ _ _
set_option maxHeartbeats 8000000 in
set_option maxRecDepth 100000 in
theorem impl_tablesOf.calls (k : Nat) (n m : Int) (r : List Int) (w : World) (h : impl_tablesOf.f k n m = some r) :
    Calls Try.prog 70 #[.int .i64 n, .int .i64 m] w fun e w' => ∃ bm : Nat, e = .returned (.map (some bm)) ∧ impl_tablesOf.Has bm r w' ∧ Below w.heap.size w w' := by
  have hu81 := Try.underlying81
  have hmf : ∀ (fn : Fn) (first cap : Array Value) (w : World), (Instr.makeFunc fn first cap).run Try.prog w = .ok (.func fn first cap) w := fun _ _ _ _ => rfl
  have hmm : ∀ (w : World), (Instr.makeMap 81 none).run Try.prog w = .ok (.map (some w.heap.size)) (w.alloc (.map #[] 0)) := fun _ => rfl
  have HB := Aside0.mk (Below.refl w.heap.size w)
  have A1 := Aside0.mk h
  clear h
  unfold impl_tablesOf.f at A1
  go_enter Try.func70, Try.ntmps70
  go_wp2_with (first
    | ((with_reducible refine gate_dst (N := 2) rfl ?_); refine box_event ?hg (N := 2) ?hd (cs := #[.int .i64 n]) (t := 3) ?hr ?_; (case hd => rfl); (case hg => rfl); (case hr => first | (go_simp; done) | (go_simp; rfl)); intro b2 hg w9 hbox hb; have B0 := Aside0.mk (below_step HB.out hb); have K0 := Aside0.mk hbox; have Z2 := Aside0.mk (show w.heap.size ≤ b2 by rw [hg]; exact HB.out.size); have hb9 : Below w9.heap.size w9 ((w9.alloc (.map #[] 0)).alloc (.cells #[.map (some w9.heap.size)] 81)) := below_alloc (below_alloc (Below.refl _ _) _) _; have KF := Aside0.mk (blk_below K0.out hb9); have BF := Aside0.mk (below_step B0.out hb9); have hz2 : ((w9.alloc (.map #[] 0)).alloc (.cells #[.map (some w9.heap.size)] 81)).cell? ⟨b2, 0, none⟩ = some (.int .i64 n) := (blk_cell KF.out 0).trans rfl; clear HB hb hbox hg hb9)
    | fail)
  have hs1 : (w9.alloc (.map #[] 0)).heap.size = w9.heap.size + 1 := by simp
  have K5 : ((w9.alloc (.map #[] 0)).alloc (.cells #[.map (some w9.heap.size)] 81)).heap[w9.heap.size + 1]? = some (.cells #[.map (some w9.heap.size)] 81 (0, 0)) := by
    rw [← hs1]; exact (MapKept.heap_alloc _ _).1
  have K6 : impl_tablesOf.Has w9.heap.size [] ((w9.alloc (.map #[] 0)).alloc (.cells #[.map (some w9.heap.size)] 81)) := (impl_tablesOf.Has.made w9).of_eq ((below_alloc (Below.refl _ _) _ : Below (w9.alloc (.map #[] 0)).heap.size (w9.alloc (.map #[] 0)) _).block _ (by rw [hs1]; omega))
  have hb2 := blk_lt K0.out
  refine (impl_smallWeights.calls (impl_tablesOf.v n) 126 #[.pointer (some ⟨b2, 0, none⟩), .pointer (some ⟨w9.heap.size + 1, 0, none⟩)] (ent_of Try.func126 (by kernel_rfl) rfl) (impl_tablesOf.I w n b2 (w9.heap.size + 1) w9.heap.size) (fun k_ => k_ = w9.heap.size) (fun g s w j u hI_ _ => impl_tablesOf.I_set hI_ j u) (impl_tablesOf.vcalls w n b2 (w9.heap.size + 1) w9.heap.size) k [] n m r _ ?pi ?ps A1.out).mono ?_
  case pi => exact fun g w1 hg hg1 hb => ⟨by have := blk_lt KF.out; omega, by have := blk_lt K5; omega, by have := K6.lt; omega, by omega, by omega, blk_below KF.out hb, blk_below K5 hb, K6.of_eq (hb.block _ K6.lt), Nat.le_trans BF.out.size hg, B0.out.size, below_step BF.out hb⟩
  case ps => exact fun k_ hk_ => by subst hk_; exact K6.lt
  rintro e w31 ⟨rfl, ⟨g, hg, hi9⟩, hk9⟩
  obtain ⟨_, _, _, _, _, J1, J2, J3, _, _, J6⟩ := hi9
  have Q3 := Aside0.mk J3
  have Q6 := Aside0.mk J6
  have hp2 : w31.cell? ⟨w9.heap.size + 1, 0, none⟩ = some (.map (some w9.heap.size)) := (blk_cell J2 0).trans rfl
  clear hk9 hg J1 J2 J3 J6 hz2 K5 K6 KF BF B0 K0
  go_wp2
  first | go_end0 | ((try simp only [Exit.inBlock, Exit.then]); refine bodyPost_ret (v := .map (some w9.heap.size)) (by simp [results, Try.results70, go_sem, *]) rfl ?_)
  exact ⟨_, rfl, Q3.out, Q6.out⟩
def impl_WeightsTable.f (k : Nat) (n m : Int) : Option (Int × Bool) := (impl_within.f n 1 3).bind fun t => (if t = true then ((impl_within.f m 0 5).bind fun u => (if u = true then ((impl_tablesOf.f k n m).bind fun s => some ((s.length : Int), true)) else some (0, false))) else some (0, false))
theorem impl_WeightsTable.mono : ∀ a0 a1 k, LeO (impl_WeightsTable.f k a0 a1) (impl_WeightsTable.f (k + 1) a0 a1) := fun a0 a1 k => by
  unfold impl_WeightsTable.f
  exact LeO.bind (LeO.refl _) fun _ => LeO.ite (LeO.bind (LeO.refl _) fun _ => LeO.ite (LeO.bind (impl_tablesOf.mono _ _ _) fun _ => LeO.refl _) (LeO.refl _)) (LeO.refl _)
set_option maxHeartbeats 8000000 in
set_option maxRecDepth 100000 in
theorem impl_WeightsTable.calls (k : Nat) (n m : Int) (r1 : Int) (r2 : Bool) (w : World) (h : impl_WeightsTable.f k n m = some (r1, r2)) :
    Calls Try.prog 16 #[.int .i64 n, .int .i64 m] w fun e w' => e = .returned (.tuple #[.int .i64 r1, .bool r2]) ∧ Below w.heap.size w w' := by
  have HB := Aside0.mk (Below.refl w.heap.size w)
  unfold impl_WeightsTable.f at h
  obtain ⟨t, A10, H⟩ := Option.bind_eq_some_iff.mp h
  have A1 := Aside0.mk A10
  clear h A10
  cases t with
  | false =>
    simp only [Bool.false_eq_true, if_false, Option.some.injEq, Prod.mk.injEq] at H
    obtain ⟨rfl, rfl⟩ := H
    go_enter Try.func16, Try.ntmps16
    go_wp2_with (first
      | ((with_reducible refine gate_callee (f := 69) rfl ?_); refine goesL_ (some 7) rfl rfl Try.func69 (by kernel_rfl) rfl #[.int .i64 n, .int .i64 1, .int .i64 3] rfl (by (try simp only [List.map_toArray, List.map_cons, List.map_nil]); first | done | rfl) ?_; (with_reducible refine (impl_within.calls n 1 3 false _ A1.out).mono ?_); rintro e w' ⟨rfl, ⟨nd, rfl⟩⟩; refine ⟨_, rfl, ?_⟩)
      | fail)
    first | go_end0 | (refine bodyPost_ret (v := .tuple #[.int .i64 0, .bool false]) (by simp [results, Try.results16, go_sem, *]) rfl ?_)
    exact ⟨rfl, by repeat (first | exact HB.out | apply below_alloc | apply pw_below_drewN | apply below_drew1)⟩
  | true =>
    simp only [if_true] at H
    obtain ⟨u, A20, H⟩ := Option.bind_eq_some_iff.mp H
    have A2 := Aside0.mk A20
    clear A20
    cases u with
    | false =>
      simp only [Bool.false_eq_true, if_false, Option.some.injEq, Prod.mk.injEq] at H
      obtain ⟨rfl, rfl⟩ := H
      go_enter Try.func16, Try.ntmps16
      go_wp2_with (first
        | ((with_reducible refine gate_callee (f := 69) rfl ?_); refine goesL_ (some 7) rfl rfl Try.func69 (by kernel_rfl) rfl #[.int .i64 n, .int .i64 1, .int .i64 3] rfl (by (try simp only [List.map_toArray, List.map_cons, List.map_nil]); first | done | rfl) ?_; (with_reducible refine (impl_within.calls n 1 3 true _ A1.out).mono ?_); rintro e w' ⟨rfl, ⟨nd, rfl⟩⟩; refine ⟨_, rfl, ?_⟩)
        | fail)
      refine (impl_within.calls m 0 5 false _ A2.out).mono ?_
      rintro e w12 ⟨rfl, ⟨nd2, rfl⟩⟩
      go_wp2
      first | go_end0 | (refine bodyPost_ret (v := .tuple #[.int .i64 0, .bool false]) (by simp [results, Try.results16, go_sem, *]) rfl ?_)
      exact ⟨rfl, by repeat (first | exact HB.out | apply below_alloc | apply pw_below_drewN | apply below_drew1)⟩
    | true =>
      simp only [if_true] at H
      obtain ⟨s, A40, H⟩ := Option.bind_eq_some_iff.mp H
      have A4 := Aside0.mk A40
      obtain ⟨rfl, rfl⟩ : (s.length : Int) = r1 ∧ true = r2 := by simpa using H
      clear A40 H
      go_enter Try.func16, Try.ntmps16
      go_wp2_with (first
        | ((with_reducible refine gate_callee (f := 69) rfl ?_); refine goesL_ (some 7) rfl rfl Try.func69 (by kernel_rfl) rfl #[.int .i64 n, .int .i64 1, .int .i64 3] rfl (by (try simp only [List.map_toArray, List.map_cons, List.map_nil]); first | done | rfl) ?_; (with_reducible refine (impl_within.calls n 1 3 true _ A1.out).mono ?_); rintro e w' ⟨rfl, ⟨nd, rfl⟩⟩; refine ⟨_, rfl, ?_⟩)
        | fail)
      refine (impl_within.calls m 0 5 true _ A2.out).mono ?_
      rintro e w12 ⟨rfl, ⟨nd2, rfl⟩⟩
      go_wp2_with (first
        | ((with_reducible refine gate_callee (f := 70) rfl ?_); refine goesL_ (some 16) rfl rfl Try.func70 (by kernel_rfl) rfl #[.int .i64 n, .int .i64 m] rfl (by (try simp only [List.map_toArray, List.map_cons, List.map_nil]); first | done | rfl) ?_; (with_reducible refine (impl_tablesOf.calls k n m s _ A4.out).mono ?_); rintro e w31 ⟨bm, rfl, hh, hb⟩; refine ⟨_, rfl, ?_⟩; have n1_ := Aside0.mk (below_step (by repeat (first | exact HB.out | apply below_alloc | apply pw_below_drewN | apply below_drew1)) hb); obtain ⟨D, ho, hsz⟩ := hh.size; have hlen : ∀ ty, (Builtin.len_ #[81] ty #[.map (some bm)]).run Try.prog w31 = .ok (.int .i64 (s.length : Int)) w31 := (fun ty => by rw [← hsz]; exact ho.len Try.underlying81 ty); clear HB hh hb ho hsz; have HB := n1_; clear n1_)
        | fail)
      first | go_end0 | (refine bodyPost_ret (v := .tuple #[.int .i64 (s.length : Int), .bool true]) (by simp [results, Try.results16, go_sem, *]) rfl ?_)
      exact ⟨rfl, by repeat (first | exact HB.out | apply below_alloc | apply pw_below_drewN | apply below_drew1)⟩

end Go.Proofs.Ytdjclffkidoohaa.QFnExactWeightsTable
