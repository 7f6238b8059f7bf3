-- Laid by a program of this session for this claim.
import Derived.Test.YtkgjacacldcacaaDoorConv
import Derived.Test.YtkgjacacldcacaaDoorLibC
import Derived.Test.YtkgjacacldcacaaDoorQFnStringsx0
import Derived.Test.YtkgjacacldcacaaDoorQFnStringsx1
import Derived.Test.YtkgjacacldcacaaDoorQFnStringsx2
import Derived.Test.YtkgjacacldcacaaDoorQFnStringsx3
namespace Go.Proofs.YtkgjacacldcacaaDoor.QFnStrings
open Go.RowKit Go.Proofs.YtkgjacacldcacaaDoorW.PrintWords Go.Proofs.YtkgjacacldcacaaDoorW.PrintLast Go.Proofs.YtkgjacacldcacaaDoorW.PrintMore
attribute [local go_sem] max2_int min2_int max_two min_two max_three min_three max_four min_four   -- for this text's walks alone
set_option linter.unusedVariables false
set_option linter.unusedSimpArgs false

/-! ### laws_FnStrings: function 10 -/
mutual
def laws_FnStrings.j0 : Nat → List Int → Int → ByteArray → Bool → ByteArray → ByteArray → Bool → Bool → Option (Bool)
  | 0, _, _, _, _, _, _, _, _ => none
  | k + 1, x0, x3, x4, x5, x13, x14, x15, x91 => if x91 = true then (some false) else ((impl_ParseInt.f k x4).bind fun bt203 => (if x5 = true then (if bt203.2 = true then (laws_FnStrings.j1 k x0 x13 x14 x15 (bt203.1 != x3)) else (laws_FnStrings.j1 k x0 x13 x14 x15 true)) else (laws_FnStrings.j1 k x0 x13 x14 x15 false)))
def laws_FnStrings.j1 : Nat → List Int → ByteArray → ByteArray → Bool → Bool → Option (Bool)
  | 0, _, _, _, _, _ => none
  | k + 1, x0, x13, x14, x15, x106 => if x106 = true then (some false) else (if x15 = true then ((impl_VerifyChecksum.f k x14).bind fun bt205 => (if x14.size ≤ 9223372036854775807 then ((some (BC.bytesL x14 : List Int)).bind fun y207 => ((laws_vAt.f x0 9).bind fun t210 => (if (y207.length : Int) = 0 then (none) else (if 0 ≤ (Int.tmod t210 (y207.length : Int)) then (if (Int.tmod t210 (y207.length : Int)) < (y207.length : Int) then ((laws_vAt.f x0 10).bind fun t212 => ((impl_VerifyChecksum.f k (strOfNums (y207.set ((Int.tmod t210 (y207.length : Int)) : Int).toNat (Go.bits .xor .u8 (rd y207 (Int.tmod t210 (y207.length : Int))) ((wrap64 (1 + (Int.tmod t212 255))) % 256))))).bind fun bt214 => (if bt205.2 = true then (if bt205.1.toList = x13.toList then (some (!bt214.2)) else (some false)) else (some false)))) else (none)) else (none))))) else (none))) else (some (x14.toList == ([] : List UInt8))))
end
def laws_FnStrings.f (k : Nat) (l0 : List Int) : Option (Bool) := (laws_vBig.f l0).bind fun t187 => (if t187 = true then (some true) else ((spec_DrawFormatInt.f l0).bind fun t188 => ((impl_FormatInt.f k t188).bind fun bt189 => ((spec_FormatInt.f k t188).bind fun bt191 => ((spec_DrawParseInt.f k l0).bind fun t193 => ((impl_ParseInt.f k t193).bind fun bt194 => ((spec_ParseInt.f k t193).bind fun bt196 => ((spec_DrawAppendChecksum.f l0).bind fun t198 => ((impl_AppendChecksum.f k t198).bind fun bt199 => ((spec_AppendChecksum.f k t198).bind fun bt201 => (if bt189.1.toList = bt191.1.toList then (if (bt189.2 != bt191.2) = true then (laws_FnStrings.j0 k l0 t188 bt189.1 bt189.2 t198 bt199.1 bt199.2 true) else (if bt194.1 = bt196.1 then (if (bt194.2 != bt196.2) = true then (laws_FnStrings.j0 k l0 t188 bt189.1 bt189.2 t198 bt199.1 bt199.2 true) else (if bt199.1.toList = bt201.1.toList then (laws_FnStrings.j0 k l0 t188 bt189.1 bt189.2 t198 bt199.1 bt199.2 (bt199.2 != bt201.2)) else (laws_FnStrings.j0 k l0 t188 bt189.1 bt189.2 t198 bt199.1 bt199.2 true))) else (laws_FnStrings.j0 k l0 t188 bt189.1 bt189.2 t198 bt199.1 bt199.2 true))) else (laws_FnStrings.j0 k l0 t188 bt189.1 bt189.2 t198 bt199.1 bt199.2 true))))))))))))
theorem laws_FnStrings.mono_l : ∀ k, (∀ y0 y1 y2 y3 y4 y5 y6 y7, LeO (laws_FnStrings.j0 k y0 y1 y2 y3 y4 y5 y6 y7) (laws_FnStrings.j0 (k + 1) y0 y1 y2 y3 y4 y5 y6 y7)) ∧ (∀ y0 y1 y2 y3 y4, LeO (laws_FnStrings.j1 k y0 y1 y2 y3 y4) (laws_FnStrings.j1 (k + 1) y0 y1 y2 y3 y4))
  | 0 => ⟨fun _ _ _ _ _ _ _ _ r h => by simp [laws_FnStrings.j0] at h, fun _ _ _ _ _ r h => by simp [laws_FnStrings.j1] at h⟩
  | k + 1 => by
    obtain ⟨ih0, ih1⟩ := laws_FnStrings.mono_l k
    refine ⟨?_, ?_⟩
    · intro y0 y1 y2 y3 y4 y5 y6 y7
      unfold laws_FnStrings.j0
      repeat' first
      | (with_reducible exact ih0 _ _ _ _ _ _ _ _)
      | (with_reducible exact ih1 _ _ _ _ _)
      | (with_reducible exact impl_AppendChecksum.mono _ _)
      | (with_reducible exact impl_FormatInt.mono _ _)
      | (with_reducible exact impl_ParseInt.mono _ _)
      | (with_reducible exact impl_VerifyChecksum.mono _ _)
      | (with_reducible exact spec_AppendChecksum.mono _ _)
      | (with_reducible exact spec_DrawParseInt.mono _ _)
      | (with_reducible exact spec_FormatInt.mono _ _)
      | (with_reducible exact spec_ParseInt.mono _ _)
      | (with_reducible exact LeO.refl _)
      | (with_reducible exact LeO.none _)
      | (with_reducible refine LeO.ite ?_ ?_)
      | (with_reducible refine LeO.bind ?_ (fun _ => ?_))
      | exact ih0 _ _ _ _ _ _ _ _
      | exact ih1 _ _ _ _ _
      | exact impl_AppendChecksum.mono _ _
      | exact impl_FormatInt.mono _ _
      | exact impl_ParseInt.mono _ _
      | exact impl_VerifyChecksum.mono _ _
      | exact spec_AppendChecksum.mono _ _
      | exact spec_DrawParseInt.mono _ _
      | exact spec_FormatInt.mono _ _
      | exact spec_ParseInt.mono _ _
      | exact LeO.none _
      | refine LeO.ite ?_ ?_
      | refine LeO.bind ?_ (fun _ => ?_)
    · intro y0 y1 y2 y3 y4
      unfold laws_FnStrings.j1
      repeat' first
      | (with_reducible exact ih0 _ _ _ _ _ _ _ _)
      | (with_reducible exact ih1 _ _ _ _ _)
      | (with_reducible exact impl_AppendChecksum.mono _ _)
      | (with_reducible exact impl_FormatInt.mono _ _)
      | (with_reducible exact impl_ParseInt.mono _ _)
      | (with_reducible exact impl_VerifyChecksum.mono _ _)
      | (with_reducible exact spec_AppendChecksum.mono _ _)
      | (with_reducible exact spec_DrawParseInt.mono _ _)
      | (with_reducible exact spec_FormatInt.mono _ _)
      | (with_reducible exact spec_ParseInt.mono _ _)
      | (with_reducible exact LeO.refl _)
      | (with_reducible exact LeO.none _)
      | (with_reducible refine LeO.ite ?_ ?_)
      | (with_reducible refine LeO.bind ?_ (fun _ => ?_))
      | exact ih0 _ _ _ _ _ _ _ _
      | exact ih1 _ _ _ _ _
      | exact impl_AppendChecksum.mono _ _
      | exact impl_FormatInt.mono _ _
      | exact impl_ParseInt.mono _ _
      | exact impl_VerifyChecksum.mono _ _
      | exact spec_AppendChecksum.mono _ _
      | exact spec_DrawParseInt.mono _ _
      | exact spec_FormatInt.mono _ _
      | exact spec_ParseInt.mono _ _
      | exact LeO.none _
      | refine LeO.ite ?_ ?_
      | refine LeO.bind ?_ (fun _ => ?_)
theorem laws_FnStrings.mono : ∀ a0 k, LeO (laws_FnStrings.f k a0) (laws_FnStrings.f (k + 1) a0) := by
  intro a0 k
  obtain ⟨ih0, ih1⟩ := laws_FnStrings.mono_l k
  unfold laws_FnStrings.f
  repeat' first
      | (with_reducible exact ih0 _ _ _ _ _ _ _ _)
      | (with_reducible exact ih1 _ _ _ _ _)
      | (with_reducible exact impl_AppendChecksum.mono _ _)
      | (with_reducible exact impl_FormatInt.mono _ _)
      | (with_reducible exact impl_ParseInt.mono _ _)
      | (with_reducible exact impl_VerifyChecksum.mono _ _)
      | (with_reducible exact spec_AppendChecksum.mono _ _)
      | (with_reducible exact spec_DrawParseInt.mono _ _)
      | (with_reducible exact spec_FormatInt.mono _ _)
      | (with_reducible exact spec_ParseInt.mono _ _)
      | (with_reducible exact LeO.refl _)
      | (with_reducible exact LeO.none _)
      | (with_reducible refine LeO.ite ?_ ?_)
      | (with_reducible refine LeO.bind ?_ (fun _ => ?_))
      | exact ih0 _ _ _ _ _ _ _ _
      | exact ih1 _ _ _ _ _
      | exact impl_AppendChecksum.mono _ _
      | exact impl_FormatInt.mono _ _
      | exact impl_ParseInt.mono _ _
      | exact impl_VerifyChecksum.mono _ _
      | exact spec_AppendChecksum.mono _ _
      | exact spec_DrawParseInt.mono _ _
      | exact spec_FormatInt.mono _ _
      | exact spec_ParseInt.mono _ _
      | exact LeO.none _
      | refine LeO.ite ?_ ?_
      | refine LeO.bind ?_ (fun _ => ?_)
def laws_FnStrings.T22 : Bool × List (List Nat × List Nat) := (true, [([], []), ([], []), ([], []), ([], []), ([2, 3], [2, 3]), ([4], [4]), ([], []), ([6], [6]), ([7], [7]), ([8], [8]), ([9], [9]), ([5, 10], [5, 10]), ([0, 1, 0, 1, 2, 3, 4, 5, 6, 7, 8, 9, 10, 11], [0, 1]), ([12, 11, 7, 0, 1, 2, 3, 4, 5, 6, 7, 8, 9, 10, 11], [11, 12])])
def laws_FnStrings.B22 : List Nat := [0, 0, 0, 0, 12, 28, 0, 64, 192, 448, 960, 2044, 4095, 8191]
theorem laws_FnStrings.tab22 : rtab .any (opsOf Tryd.f10 22) = laws_FnStrings.T22 := by kernel_rfl
theorem laws_FnStrings.bits22 : waitsOk laws_FnStrings.T22.2 laws_FnStrings.B22 = true := by kernel_rfl
set_option maxHeartbeats 8000000 in
set_option maxRecDepth 100000 in
theorem laws_FnStrings.calls (k : Nat) (A0 : Option Addr) (c0 : Nat) (l0 : List Int) (r : Bool) (w : World) (hr0 : Kd.C (Kd.int .u8) w A0 l0.length l0) (hc0 : l0.length ≤ c0) (hT : Tabs w) (h : laws_FnStrings.f k l0 = some r) :
    Calls Tryd.prog 10 #[.slice A0 l0.length c0] w fun e w' => e = .returned (.bool r) ∧ Below w.heap.size w w' := by
  have HT := Aside0.mk hT
  clear hT
  have HR0 := Aside0.mk hr0
  have HC0 := Aside0.mk hc0
  clear hr0 hc0
  have HB := Aside0.mk (Below.refl w.heap.size w)
  have H : ((laws_vBig.f l0).bind fun t187 => (if t187 = true then (some true) else ((spec_DrawFormatInt.f l0).bind fun t188 => ((impl_FormatInt.f k t188).bind fun bt189 => ((spec_FormatInt.f k t188).bind fun bt191 => ((spec_DrawParseInt.f k l0).bind fun t193 => ((impl_ParseInt.f k t193).bind fun bt194 => ((spec_ParseInt.f k t193).bind fun bt196 => ((spec_DrawAppendChecksum.f l0).bind fun t198 => ((impl_AppendChecksum.f k t198).bind fun bt199 => ((spec_AppendChecksum.f k t198).bind fun bt201 => (if bt189.1.toList = bt191.1.toList then (if (bt189.2 != bt191.2) = true then (laws_FnStrings.j0 k l0 t188 bt189.1 bt189.2 t198 bt199.1 bt199.2 true) else (if bt194.1 = bt196.1 then (if (bt194.2 != bt196.2) = true then (laws_FnStrings.j0 k l0 t188 bt189.1 bt189.2 t198 bt199.1 bt199.2 true) else (if bt199.1.toList = bt201.1.toList then (laws_FnStrings.j0 k l0 t188 bt189.1 bt189.2 t198 bt199.1 bt199.2 (bt199.2 != bt201.2)) else (laws_FnStrings.j0 k l0 t188 bt189.1 bt189.2 t198 bt199.1 bt199.2 true))) else (laws_FnStrings.j0 k l0 t188 bt189.1 bt189.2 t198 bt199.1 bt199.2 true))) else (laws_FnStrings.j0 k l0 t188 bt189.1 bt189.2 t198 bt199.1 bt199.2 true))))))))))))) = some r := h
  clear h
  replace H := Option.bind_eq_some_iff.mp H
  obtain ⟨t187, A20, H⟩ := H
  replace H : (if t187 = true then (some true) else ((spec_DrawFormatInt.f l0).bind fun t188 => ((impl_FormatInt.f k t188).bind fun bt189 => ((spec_FormatInt.f k t188).bind fun bt191 => ((spec_DrawParseInt.f k l0).bind fun t193 => ((impl_ParseInt.f k t193).bind fun bt194 => ((spec_ParseInt.f k t193).bind fun bt196 => ((spec_DrawAppendChecksum.f l0).bind fun t198 => ((impl_AppendChecksum.f k t198).bind fun bt199 => ((spec_AppendChecksum.f k t198).bind fun bt201 => (if bt189.1.toList = bt191.1.toList then (if (bt189.2 != bt191.2) = true then (laws_FnStrings.j0 k l0 t188 bt189.1 bt189.2 t198 bt199.1 bt199.2 true) else (if bt194.1 = bt196.1 then (if (bt194.2 != bt196.2) = true then (laws_FnStrings.j0 k l0 t188 bt189.1 bt189.2 t198 bt199.1 bt199.2 true) else (if bt199.1.toList = bt201.1.toList then (laws_FnStrings.j0 k l0 t188 bt189.1 bt189.2 t198 bt199.1 bt199.2 (bt199.2 != bt201.2)) else (laws_FnStrings.j0 k l0 t188 bt189.1 bt189.2 t198 bt199.1 bt199.2 true))) else (laws_FnStrings.j0 k l0 t188 bt189.1 bt189.2 t198 bt199.1 bt199.2 true))) else (laws_FnStrings.j0 k l0 t188 bt189.1 bt189.2 t198 bt199.1 bt199.2 true)))))))))))) = some r := H
  have A2 := Aside0.mk A20
  clear A20
  by_cases c3 : t187 = true
  · subst c3
    have H1 : (some true) = some r := by rw [if_pos rfl] at H; exact H
    clear H
    have H := H1
    clear H1
    obtain rfl := Option.some.inj H
    go_enter Tryd.func10, Tryd.ntmps10
    go_wp2_with (first | ((with_reducible refine gate_callee (f := 34) rfl ?_); refine goesL_ (some 27) rfl rfl Tryd.func34 (by kernel_rfl) rfl #[.slice A0 l0.length c0] rfl (by (try simp only [List.map_toArray, List.map_cons, List.map_nil]); first | done | rfl | (simp only [List.length_drop, List.length_take]; rfl)) ?_; (with_reducible refine (laws_vBig.calls _ _ l0 true _ ?side1 ?side2 A2.out).mono ?_); (case side1 => repeat (first | exact HR0.out | (with_reducible refine Kd.C_alloc ?_ _) | (with_reducible refine Kd.C_drewN ?_ _) | (with_reducible refine Kd.C_drew ?_))); (case side2 => exact HC0.out); rintro e w' ⟨rfl, ⟨nd, rfl⟩⟩; refine ⟨_, rfl, ?_⟩))
    go_ret
    exact ⟨by first | rfl | (simp [errW_none, errW_some] <;> rfl) | (simp [*, errW_none, errW_some] <;> rfl), by repeat (first | (with_reducible first | exact HB.out | apply below_alloc | apply pw_below_drewN | apply below_drew1) | exact HB.out | exact Below.refl _ _)⟩
  · replace c3 := Bool.eq_false_iff.mpr c3
    subst c3
    have H1 : ((spec_DrawFormatInt.f l0).bind fun t188 => ((impl_FormatInt.f k t188).bind fun bt189 => ((spec_FormatInt.f k t188).bind fun bt191 => ((spec_DrawParseInt.f k l0).bind fun t193 => ((impl_ParseInt.f k t193).bind fun bt194 => ((spec_ParseInt.f k t193).bind fun bt196 => ((spec_DrawAppendChecksum.f l0).bind fun t198 => ((impl_AppendChecksum.f k t198).bind fun bt199 => ((spec_AppendChecksum.f k t198).bind fun bt201 => (if bt189.1.toList = bt191.1.toList then (if (bt189.2 != bt191.2) = true then (laws_FnStrings.j0 k l0 t188 bt189.1 bt189.2 t198 bt199.1 bt199.2 true) else (if bt194.1 = bt196.1 then (if (bt194.2 != bt196.2) = true then (laws_FnStrings.j0 k l0 t188 bt189.1 bt189.2 t198 bt199.1 bt199.2 true) else (if bt199.1.toList = bt201.1.toList then (laws_FnStrings.j0 k l0 t188 bt189.1 bt189.2 t198 bt199.1 bt199.2 (bt199.2 != bt201.2)) else (laws_FnStrings.j0 k l0 t188 bt189.1 bt189.2 t198 bt199.1 bt199.2 true))) else (laws_FnStrings.j0 k l0 t188 bt189.1 bt189.2 t198 bt199.1 bt199.2 true))) else (laws_FnStrings.j0 k l0 t188 bt189.1 bt189.2 t198 bt199.1 bt199.2 true))))))))))) = some r := by rw [if_neg (show ¬ (false = true) by decide)] at H; exact H
    clear H
    have H := H1
    clear H1
    replace H := Option.bind_eq_some_iff.mp H
    obtain ⟨t188, A40, H⟩ := H
    replace H : ((impl_FormatInt.f k t188).bind fun bt189 => ((spec_FormatInt.f k t188).bind fun bt191 => ((spec_DrawParseInt.f k l0).bind fun t193 => ((impl_ParseInt.f k t193).bind fun bt194 => ((spec_ParseInt.f k t193).bind fun bt196 => ((spec_DrawAppendChecksum.f l0).bind fun t198 => ((impl_AppendChecksum.f k t198).bind fun bt199 => ((spec_AppendChecksum.f k t198).bind fun bt201 => (if bt189.1.toList = bt191.1.toList then (if (bt189.2 != bt191.2) = true then (laws_FnStrings.j0 k l0 t188 bt189.1 bt189.2 t198 bt199.1 bt199.2 true) else (if bt194.1 = bt196.1 then (if (bt194.2 != bt196.2) = true then (laws_FnStrings.j0 k l0 t188 bt189.1 bt189.2 t198 bt199.1 bt199.2 true) else (if bt199.1.toList = bt201.1.toList then (laws_FnStrings.j0 k l0 t188 bt189.1 bt189.2 t198 bt199.1 bt199.2 (bt199.2 != bt201.2)) else (laws_FnStrings.j0 k l0 t188 bt189.1 bt189.2 t198 bt199.1 bt199.2 true))) else (laws_FnStrings.j0 k l0 t188 bt189.1 bt189.2 t198 bt199.1 bt199.2 true))) else (laws_FnStrings.j0 k l0 t188 bt189.1 bt189.2 t198 bt199.1 bt199.2 true)))))))))) = some r := H
    have A4 := Aside0.mk A40
    clear A40
    replace H := Option.bind_eq_some_iff.mp H
    obtain ⟨⟨t189, t190⟩, A50, H⟩ := H
    replace H : ((spec_FormatInt.f k t188).bind fun bt191 => ((spec_DrawParseInt.f k l0).bind fun t193 => ((impl_ParseInt.f k t193).bind fun bt194 => ((spec_ParseInt.f k t193).bind fun bt196 => ((spec_DrawAppendChecksum.f l0).bind fun t198 => ((impl_AppendChecksum.f k t198).bind fun bt199 => ((spec_AppendChecksum.f k t198).bind fun bt201 => (if t189.toList = bt191.1.toList then (if (t190 != bt191.2) = true then (laws_FnStrings.j0 k l0 t188 t189 t190 t198 bt199.1 bt199.2 true) else (if bt194.1 = bt196.1 then (if (bt194.2 != bt196.2) = true then (laws_FnStrings.j0 k l0 t188 t189 t190 t198 bt199.1 bt199.2 true) else (if bt199.1.toList = bt201.1.toList then (laws_FnStrings.j0 k l0 t188 t189 t190 t198 bt199.1 bt199.2 (bt199.2 != bt201.2)) else (laws_FnStrings.j0 k l0 t188 t189 t190 t198 bt199.1 bt199.2 true))) else (laws_FnStrings.j0 k l0 t188 t189 t190 t198 bt199.1 bt199.2 true))) else (laws_FnStrings.j0 k l0 t188 t189 t190 t198 bt199.1 bt199.2 true))))))))) = some r := H
    have A5 := Aside0.mk A50
    clear A50
    replace H := Option.bind_eq_some_iff.mp H
    obtain ⟨⟨t191, t192⟩, A60, H⟩ := H
    replace H : ((spec_DrawParseInt.f k l0).bind fun t193 => ((impl_ParseInt.f k t193).bind fun bt194 => ((spec_ParseInt.f k t193).bind fun bt196 => ((spec_DrawAppendChecksum.f l0).bind fun t198 => ((impl_AppendChecksum.f k t198).bind fun bt199 => ((spec_AppendChecksum.f k t198).bind fun bt201 => (if t189.toList = t191.toList then (if (t190 != t192) = true then (laws_FnStrings.j0 k l0 t188 t189 t190 t198 bt199.1 bt199.2 true) else (if bt194.1 = bt196.1 then (if (bt194.2 != bt196.2) = true then (laws_FnStrings.j0 k l0 t188 t189 t190 t198 bt199.1 bt199.2 true) else (if bt199.1.toList = bt201.1.toList then (laws_FnStrings.j0 k l0 t188 t189 t190 t198 bt199.1 bt199.2 (bt199.2 != bt201.2)) else (laws_FnStrings.j0 k l0 t188 t189 t190 t198 bt199.1 bt199.2 true))) else (laws_FnStrings.j0 k l0 t188 t189 t190 t198 bt199.1 bt199.2 true))) else (laws_FnStrings.j0 k l0 t188 t189 t190 t198 bt199.1 bt199.2 true)))))))) = some r := H
    have A6 := Aside0.mk A60
    clear A60
    replace H := Option.bind_eq_some_iff.mp H
    obtain ⟨t193, A70, H⟩ := H
    replace H : ((impl_ParseInt.f k t193).bind fun bt194 => ((spec_ParseInt.f k t193).bind fun bt196 => ((spec_DrawAppendChecksum.f l0).bind fun t198 => ((impl_AppendChecksum.f k t198).bind fun bt199 => ((spec_AppendChecksum.f k t198).bind fun bt201 => (if t189.toList = t191.toList then (if (t190 != t192) = true then (laws_FnStrings.j0 k l0 t188 t189 t190 t198 bt199.1 bt199.2 true) else (if bt194.1 = bt196.1 then (if (bt194.2 != bt196.2) = true then (laws_FnStrings.j0 k l0 t188 t189 t190 t198 bt199.1 bt199.2 true) else (if bt199.1.toList = bt201.1.toList then (laws_FnStrings.j0 k l0 t188 t189 t190 t198 bt199.1 bt199.2 (bt199.2 != bt201.2)) else (laws_FnStrings.j0 k l0 t188 t189 t190 t198 bt199.1 bt199.2 true))) else (laws_FnStrings.j0 k l0 t188 t189 t190 t198 bt199.1 bt199.2 true))) else (laws_FnStrings.j0 k l0 t188 t189 t190 t198 bt199.1 bt199.2 true))))))) = some r := H
    have A7 := Aside0.mk A70
    clear A70
    replace H := Option.bind_eq_some_iff.mp H
    obtain ⟨⟨t194, t195⟩, A80, H⟩ := H
    replace H : ((spec_ParseInt.f k t193).bind fun bt196 => ((spec_DrawAppendChecksum.f l0).bind fun t198 => ((impl_AppendChecksum.f k t198).bind fun bt199 => ((spec_AppendChecksum.f k t198).bind fun bt201 => (if t189.toList = t191.toList then (if (t190 != t192) = true then (laws_FnStrings.j0 k l0 t188 t189 t190 t198 bt199.1 bt199.2 true) else (if t194 = bt196.1 then (if (t195 != bt196.2) = true then (laws_FnStrings.j0 k l0 t188 t189 t190 t198 bt199.1 bt199.2 true) else (if bt199.1.toList = bt201.1.toList then (laws_FnStrings.j0 k l0 t188 t189 t190 t198 bt199.1 bt199.2 (bt199.2 != bt201.2)) else (laws_FnStrings.j0 k l0 t188 t189 t190 t198 bt199.1 bt199.2 true))) else (laws_FnStrings.j0 k l0 t188 t189 t190 t198 bt199.1 bt199.2 true))) else (laws_FnStrings.j0 k l0 t188 t189 t190 t198 bt199.1 bt199.2 true)))))) = some r := H
    have A8 := Aside0.mk A80
    clear A80
    replace H := Option.bind_eq_some_iff.mp H
    obtain ⟨⟨t196, t197⟩, A90, H⟩ := H
    replace H : ((spec_DrawAppendChecksum.f l0).bind fun t198 => ((impl_AppendChecksum.f k t198).bind fun bt199 => ((spec_AppendChecksum.f k t198).bind fun bt201 => (if t189.toList = t191.toList then (if (t190 != t192) = true then (laws_FnStrings.j0 k l0 t188 t189 t190 t198 bt199.1 bt199.2 true) else (if t194 = t196 then (if (t195 != t197) = true then (laws_FnStrings.j0 k l0 t188 t189 t190 t198 bt199.1 bt199.2 true) else (if bt199.1.toList = bt201.1.toList then (laws_FnStrings.j0 k l0 t188 t189 t190 t198 bt199.1 bt199.2 (bt199.2 != bt201.2)) else (laws_FnStrings.j0 k l0 t188 t189 t190 t198 bt199.1 bt199.2 true))) else (laws_FnStrings.j0 k l0 t188 t189 t190 t198 bt199.1 bt199.2 true))) else (laws_FnStrings.j0 k l0 t188 t189 t190 t198 bt199.1 bt199.2 true))))) = some r := H
    have A9 := Aside0.mk A90
    clear A90
    replace H := Option.bind_eq_some_iff.mp H
    obtain ⟨t198, A100, H⟩ := H
    replace H : ((impl_AppendChecksum.f k t198).bind fun bt199 => ((spec_AppendChecksum.f k t198).bind fun bt201 => (if t189.toList = t191.toList then (if (t190 != t192) = true then (laws_FnStrings.j0 k l0 t188 t189 t190 t198 bt199.1 bt199.2 true) else (if t194 = t196 then (if (t195 != t197) = true then (laws_FnStrings.j0 k l0 t188 t189 t190 t198 bt199.1 bt199.2 true) else (if bt199.1.toList = bt201.1.toList then (laws_FnStrings.j0 k l0 t188 t189 t190 t198 bt199.1 bt199.2 (bt199.2 != bt201.2)) else (laws_FnStrings.j0 k l0 t188 t189 t190 t198 bt199.1 bt199.2 true))) else (laws_FnStrings.j0 k l0 t188 t189 t190 t198 bt199.1 bt199.2 true))) else (laws_FnStrings.j0 k l0 t188 t189 t190 t198 bt199.1 bt199.2 true)))) = some r := H
    have A10 := Aside0.mk A100
    clear A100
    replace H := Option.bind_eq_some_iff.mp H
    obtain ⟨⟨t199, t200⟩, A110, H⟩ := H
    replace H : ((spec_AppendChecksum.f k t198).bind fun bt201 => (if t189.toList = t191.toList then (if (t190 != t192) = true then (laws_FnStrings.j0 k l0 t188 t189 t190 t198 t199 t200 true) else (if t194 = t196 then (if (t195 != t197) = true then (laws_FnStrings.j0 k l0 t188 t189 t190 t198 t199 t200 true) else (if t199.toList = bt201.1.toList then (laws_FnStrings.j0 k l0 t188 t189 t190 t198 t199 t200 (t200 != bt201.2)) else (laws_FnStrings.j0 k l0 t188 t189 t190 t198 t199 t200 true))) else (laws_FnStrings.j0 k l0 t188 t189 t190 t198 t199 t200 true))) else (laws_FnStrings.j0 k l0 t188 t189 t190 t198 t199 t200 true))) = some r := H
    have A11 := Aside0.mk A110
    clear A110
    replace H := Option.bind_eq_some_iff.mp H
    obtain ⟨⟨t201, t202⟩, A120, H⟩ := H
    replace H : (if t189.toList = t191.toList then (if (t190 != t192) = true then (laws_FnStrings.j0 k l0 t188 t189 t190 t198 t199 t200 true) else (if t194 = t196 then (if (t195 != t197) = true then (laws_FnStrings.j0 k l0 t188 t189 t190 t198 t199 t200 true) else (if t199.toList = t201.toList then (laws_FnStrings.j0 k l0 t188 t189 t190 t198 t199 t200 (t200 != t202)) else (laws_FnStrings.j0 k l0 t188 t189 t190 t198 t199 t200 true))) else (laws_FnStrings.j0 k l0 t188 t189 t190 t198 t199 t200 true))) else (laws_FnStrings.j0 k l0 t188 t189 t190 t198 t199 t200 true)) = some r := H
    have A12 := Aside0.mk A120
    clear A120
    have HC13 := Aside0.mk H
    clear H
    go_enter Tryd.func10, Tryd.ntmps10
    go_upto_region 12 with (first | ((with_reducible refine gate_callee (f := 34) rfl ?_); refine goesL_ (some 27) rfl rfl Tryd.func34 (by kernel_rfl) rfl #[.slice A0 l0.length c0] rfl (by (try simp only [List.map_toArray, List.map_cons, List.map_nil]); first | done | rfl | (simp only [List.length_drop, List.length_take]; rfl)) ?_; (with_reducible refine (laws_vBig.calls _ _ l0 false _ ?side1 ?side2 A2.out).mono ?_); (case side1 => repeat (first | exact HR0.out | (with_reducible refine Kd.C_alloc ?_ _) | (with_reducible refine Kd.C_drewN ?_ _) | (with_reducible refine Kd.C_drew ?_))); (case side2 => exact HC0.out); rintro e w' ⟨rfl, ⟨nd, rfl⟩⟩; refine ⟨_, rfl, ?_⟩) | ((with_reducible refine gate_callee (f := 35) rfl ?_); refine goesL_ (some 29) rfl rfl Tryd.func35 (by kernel_rfl) rfl #[.slice A0 l0.length c0] rfl (by (try simp only [List.map_toArray, List.map_cons, List.map_nil]); first | done | rfl | (simp only [List.length_drop, List.length_take]; rfl)) ?_; (with_reducible refine (spec_DrawFormatInt.calls _ _ l0 t188 _ ?side1 ?side2 A4.out).mono ?_); (case side1 => repeat (first | exact HR0.out | (with_reducible refine Kd.C_alloc ?_ _) | (with_reducible refine Kd.C_drewN ?_ _) | (with_reducible refine Kd.C_drew ?_))); (case side2 => exact HC0.out); rintro e w14 ⟨rfl, hb⟩; refine ⟨_, rfl, ?_⟩; have n0_ := Aside0.mk (below_step (by repeat (first | (with_reducible first | exact HB.out | apply below_alloc | apply pw_below_drewN | apply below_drew1) | exact HB.out | exact Below.refl _ _)) hb); clear HB; have HB := n0_; clear n0_; (try clear hb); (try clear hb2); (try clear hk); (try clear hi)) | ((with_reducible refine gate_callee (f := 13) rfl ?_); refine goesL_ (some 32) rfl rfl Tryd.func13 (by kernel_rfl) rfl #[.int .i64 t188] rfl (by (try simp only [List.map_toArray, List.map_cons, List.map_nil]); first | done | rfl | (simp only [List.length_drop, List.length_take]; rfl)) ?_; (with_reducible refine (impl_FormatInt.calls k t188 t189 t190 _ ?side1 A5.out).mono ?_); (case side1 => exact Tabs.below HT.out (by repeat (first | (with_reducible first | exact HB.out | apply below_alloc | apply pw_below_drewN | apply below_drew1) | exact HB.out | exact Below.refl _ _))); rintro e w15 ⟨rfl, hb⟩; refine ⟨_, rfl, ?_⟩; have n0_ := Aside0.mk (below_step (by repeat (first | (with_reducible first | exact HB.out | apply below_alloc | apply pw_below_drewN | apply below_drew1) | exact HB.out | exact Below.refl _ _)) hb); clear HB; have HB := n0_; clear n0_; (try clear hb); (try clear hb2); (try clear hk); (try clear hi)) | ((with_reducible refine gate_callee (f := 12) rfl ?_); refine goesL_ (some 37) rfl rfl Tryd.func12 (by kernel_rfl) rfl #[.int .i64 t188] rfl (by (try simp only [List.map_toArray, List.map_cons, List.map_nil]); first | done | rfl | (simp only [List.length_drop, List.length_take]; rfl)) ?_; (with_reducible refine (spec_FormatInt.calls k t188 t191 t192 _ A6.out).mono ?_); rintro e w16 ⟨rfl, hb⟩; refine ⟨_, rfl, ?_⟩; have n0_ := Aside0.mk (below_step (by repeat (first | (with_reducible first | exact HB.out | apply below_alloc | apply pw_below_drewN | apply below_drew1) | exact HB.out | exact Below.refl _ _)) hb); clear HB; have HB := n0_; clear n0_; (try clear hb); (try clear hb2); (try clear hk); (try clear hi)) | ((with_reducible refine gate_callee (f := 36) rfl ?_); refine goesL_ (some 41) rfl rfl Tryd.func36 (by kernel_rfl) rfl #[.slice A0 l0.length c0] rfl (by (try simp only [List.map_toArray, List.map_cons, List.map_nil]); first | done | rfl | (simp only [List.length_drop, List.length_take]; rfl)) ?_; (with_reducible refine (spec_DrawParseInt.calls k _ _ l0 t193 _ ?side1 ?side2 A7.out).mono ?_); (case side1 => repeat (first | exact (Kd.C_below HR0.out HB.out) | (with_reducible refine Kd.C_alloc ?_ _) | (with_reducible refine Kd.C_drewN ?_ _) | (with_reducible refine Kd.C_drew ?_))); (case side2 => exact HC0.out); rintro e w17 ⟨rfl, hb⟩; refine ⟨_, rfl, ?_⟩; have n0_ := Aside0.mk (below_step (by repeat (first | (with_reducible first | exact HB.out | apply below_alloc | apply pw_below_drewN | apply below_drew1) | exact HB.out | exact Below.refl _ _)) hb); clear HB; have HB := n0_; clear n0_; (try clear hb); (try clear hb2); (try clear hk); (try clear hi)) | ((with_reducible refine gate_callee (f := 24) rfl ?_); refine goesL_ (some 44) rfl rfl Tryd.func24 (by kernel_rfl) rfl #[.string t193] rfl (by (try simp only [List.map_toArray, List.map_cons, List.map_nil]); first | done | rfl | (simp only [List.length_drop, List.length_take]; rfl)) ?_; (with_reducible refine (impl_ParseInt.calls k t193 t194 t195 _ ?side1 A8.out).mono ?_); (case side1 => exact Tabs.below HT.out (by repeat (first | (with_reducible first | exact HB.out | apply below_alloc | apply pw_below_drewN | apply below_drew1) | exact HB.out | exact Below.refl _ _))); rintro e w18 ⟨rfl, hb⟩; refine ⟨_, rfl, ?_⟩; have n0_ := Aside0.mk (below_step (by repeat (first | (with_reducible first | exact HB.out | apply below_alloc | apply pw_below_drewN | apply below_drew1) | exact HB.out | exact Below.refl _ _)) hb); clear HB; have HB := n0_; clear n0_; (try clear hb); (try clear hb2); (try clear hk); (try clear hi)) | ((with_reducible refine gate_callee (f := 23) rfl ?_); refine goesL_ (some 49) rfl rfl Tryd.func23 (by kernel_rfl) rfl #[.string t193] rfl (by (try simp only [List.map_toArray, List.map_cons, List.map_nil]); first | done | rfl | (simp only [List.length_drop, List.length_take]; rfl)) ?_; (with_reducible refine (spec_ParseInt.calls k t193 t196 t197 _ A9.out).mono ?_); rintro e w19 ⟨rfl, hb⟩; refine ⟨_, rfl, ?_⟩; have n0_ := Aside0.mk (below_step (by repeat (first | (with_reducible first | exact HB.out | apply below_alloc | apply pw_below_drewN | apply below_drew1) | exact HB.out | exact Below.refl _ _)) hb); clear HB; have HB := n0_; clear n0_; (try clear hb); (try clear hb2); (try clear hk); (try clear hi)) | ((with_reducible refine gate_callee (f := 37) rfl ?_); refine goesL_ (some 53) rfl rfl Tryd.func37 (by kernel_rfl) rfl #[.slice A0 l0.length c0] rfl (by (try simp only [List.map_toArray, List.map_cons, List.map_nil]); first | done | rfl | (simp only [List.length_drop, List.length_take]; rfl)) ?_; (with_reducible refine (spec_DrawAppendChecksum.calls _ _ l0 t198 _ ?side1 ?side2 A10.out).mono ?_); (case side1 => repeat (first | exact (Kd.C_below HR0.out HB.out) | (with_reducible refine Kd.C_alloc ?_ _) | (with_reducible refine Kd.C_drewN ?_ _) | (with_reducible refine Kd.C_drew ?_))); (case side2 => exact HC0.out); rintro e w20 ⟨rfl, hb⟩; refine ⟨_, rfl, ?_⟩; have n0_ := Aside0.mk (below_step (by repeat (first | (with_reducible first | exact HB.out | apply below_alloc | apply pw_below_drewN | apply below_drew1) | exact HB.out | exact Below.refl _ _)) hb); clear HB; have HB := n0_; clear n0_; (try clear hb); (try clear hb2); (try clear hk); (try clear hi)) | ((with_reducible refine gate_callee (f := 20) rfl ?_); refine goesL_ (some 56) rfl rfl Tryd.func20 (by kernel_rfl) rfl #[.string t198] rfl (by (try simp only [List.map_toArray, List.map_cons, List.map_nil]); first | done | rfl | (simp only [List.length_drop, List.length_take]; rfl)) ?_; (with_reducible refine (impl_AppendChecksum.calls k t198 t199 t200 _ ?side1 A11.out).mono ?_); (case side1 => exact Tabs.below HT.out (by repeat (first | (with_reducible first | exact HB.out | apply below_alloc | apply pw_below_drewN | apply below_drew1) | exact HB.out | exact Below.refl _ _))); rintro e w21 ⟨rfl, hb⟩; refine ⟨_, rfl, ?_⟩; have n0_ := Aside0.mk (below_step (by repeat (first | (with_reducible first | exact HB.out | apply below_alloc | apply pw_below_drewN | apply below_drew1) | exact HB.out | exact Below.refl _ _)) hb); clear HB; have HB := n0_; clear n0_; (try clear hb); (try clear hb2); (try clear hk); (try clear hi)) | ((with_reducible refine gate_callee (f := 19) rfl ?_); refine goesL_ (some 61) rfl rfl Tryd.func19 (by kernel_rfl) rfl #[.string t198] rfl (by (try simp only [List.map_toArray, List.map_cons, List.map_nil]); first | done | rfl | (simp only [List.length_drop, List.length_take]; rfl)) ?_; (with_reducible refine (spec_AppendChecksum.calls k t198 t201 t202 _ A12.out).mono ?_); rintro e w22 ⟨rfl, hb⟩; refine ⟨_, rfl, ?_⟩; have n0_ := Aside0.mk (below_step (by repeat (first | (with_reducible first | exact HB.out | apply below_alloc | apply pw_below_drewN | apply below_drew1) | exact HB.out | exact Below.refl _ _)) hb); clear HB; have HB := n0_; clear n0_; (try clear hb); (try clear hb2); (try clear hk); (try clear hi)))
    (try simp only [Act.put, List.setIfInBounds_toArray, List.set_cons_zero, List.set_cons_succ])
    go_cut [91] (fun v91 wc => ∃ (kq : Nat) (x91_12 : Bool), v91 = .bool x91_12 ∧ Aside0 (laws_FnStrings.j0 kq l0 t188 t189 t190 t198 t199 t200 x91_12 = some r) ∧ Aside0 (kq ≤ k) ∧ Aside0 (Below w.heap.size w wc))
    case first =>
      have H := HC13.out
      clear HC13
      by_cases c23 : t189.toList = t191.toList
      · rw [if_pos c23] at H
        have c23b0 : (t189.toList == t191.toList) = true := beq_iff_eq.mpr c23
        have c23b1 : (t189.toList != t191.toList) = false := bne_eq_false_iff_eq.mpr c23
        clear c23
        (first | rw [c23b0] | rw [c23b1] | (simp only [i64_w, i32_w]; rw [c23b0]) | skip)
        by_cases c24 : (t190 != t192) = true
        · rw [if_pos c24] at H
          have c24b0 : (t190 != t192) = true := c24
          (try (have c24b1 : decide (t190 = t192) = false := by simpa using c24))
          (try (have c24b2 : (t190 == t192) = false := by simpa using c24))
          (try (have c24b3 : ¬ (t190 = t192) := by simpa using c24))
          clear c24
          have H' := Aside0.mk H
          clear H
          go_wp2
          go_meet
          case rel => exact ⟨_, (true), (by first | rfl | (simp; done) | (simp [*]; done)), H', ⟨by first | omega | exact Nat.le_refl _⟩, ⟨by repeat (first | (with_reducible first | exact HB.out | apply below_alloc | apply pw_below_drewN | apply below_drew1) | exact HB.out | exact Below.refl _ _)⟩⟩
        · rw [if_neg c24] at H
          have c24b0 : (t190 != t192) = false := by simpa using c24
          (try (have c24b1 : decide (t190 = t192) = true := by simpa using c24))
          (try (have c24b2 : (t190 == t192) = true := by simpa using c24))
          clear c24
          by_cases c25 : t194 = t196
          · rw [if_pos c25] at H
            have c25b0 : (t194 == t196) = true := beq_iff_eq.mpr c25
            have c25b1 : (t194 != t196) = false := bne_eq_false_iff_eq.mpr c25
            clear c25
            by_cases c26 : (t195 != t197) = true
            · rw [if_pos c26] at H
              have c26b0 : (t195 != t197) = true := c26
              (try (have c26b1 : decide (t195 = t197) = false := by simpa using c26))
              (try (have c26b2 : (t195 == t197) = false := by simpa using c26))
              (try (have c26b3 : ¬ (t195 = t197) := by simpa using c26))
              clear c26
              have H' := Aside0.mk H
              clear H
              go_wp2
              go_meet
              case rel => exact ⟨_, (true), (by first | rfl | (simp; done) | (simp [*]; done)), H', ⟨by first | omega | exact Nat.le_refl _⟩, ⟨by repeat (first | (with_reducible first | exact HB.out | apply below_alloc | apply pw_below_drewN | apply below_drew1) | exact HB.out | exact Below.refl _ _)⟩⟩
            · rw [if_neg c26] at H
              have c26b0 : (t195 != t197) = false := by simpa using c26
              (try (have c26b1 : decide (t195 = t197) = true := by simpa using c26))
              (try (have c26b2 : (t195 == t197) = true := by simpa using c26))
              clear c26
              by_cases c27 : t199.toList = t201.toList
              · rw [if_pos c27] at H
                have c27b0 : (t199.toList == t201.toList) = true := beq_iff_eq.mpr c27
                have c27b1 : (t199.toList != t201.toList) = false := bne_eq_false_iff_eq.mpr c27
                clear c27
                have H' := Aside0.mk H
                clear H
                go_wp2
                go_meet
                case rel => exact ⟨_, ((t200 != t202)), (by first | rfl | (simp; done) | (simp [*]; done)), H', ⟨by first | omega | exact Nat.le_refl _⟩, ⟨by repeat (first | (with_reducible first | exact HB.out | apply below_alloc | apply pw_below_drewN | apply below_drew1) | exact HB.out | exact Below.refl _ _)⟩⟩
              · rw [if_neg c27] at H
                have c27b0 : (t199.toList == t201.toList) = false := beq_eq_false_iff_ne.mpr c27
                have c27b1 : (t199.toList != t201.toList) = true := bne_iff_ne.mpr c27
                have H' := Aside0.mk H
                clear H
                go_wp2
                go_meet
                case rel => exact ⟨_, (true), (by first | rfl | (simp; done) | (simp [*]; done)), H', ⟨by first | omega | exact Nat.le_refl _⟩, ⟨by repeat (first | (with_reducible first | exact HB.out | apply below_alloc | apply pw_below_drewN | apply below_drew1) | exact HB.out | exact Below.refl _ _)⟩⟩
          · rw [if_neg c25] at H
            have c25b0 : (t194 == t196) = false := beq_eq_false_iff_ne.mpr c25
            have c25b1 : (t194 != t196) = true := bne_iff_ne.mpr c25
            have H' := Aside0.mk H
            clear H
            go_wp2
            go_meet
            case rel => exact ⟨_, (true), (by first | rfl | (simp; done) | (simp [*]; done)), H', ⟨by first | omega | exact Nat.le_refl _⟩, ⟨by repeat (first | (with_reducible first | exact HB.out | apply below_alloc | apply pw_below_drewN | apply below_drew1) | exact HB.out | exact Below.refl _ _)⟩⟩
      · rw [if_neg c23] at H
        have c23b0 : (t189.toList == t191.toList) = false := beq_eq_false_iff_ne.mpr c23
        have c23b1 : (t189.toList != t191.toList) = true := bne_iff_ne.mpr c23
        (first | rw [c23b0] | rw [c23b1] | (simp only [i64_w, i32_w]; rw [c23b0]) | skip)
        have H' := Aside0.mk H
        clear H
        go_wp2
        go_meet
        case rel => exact ⟨_, (true), (by first | rfl | (simp; done) | (simp [*]; done)), H', ⟨by first | omega | exact Nat.le_refl _⟩, ⟨by repeat (first | (with_reducible first | exact HB.out | apply below_alloc | apply pw_below_drewN | apply below_drew1) | exact HB.out | exact Below.refl _ _)⟩⟩
    case rest =>
      clear HC13
      try clear c1
      try clear c2
      try clear p2
      try clear c3
      try clear c10
      try clear c12
      try clear c13
      try clear c19
      try clear c20
      try clear c23
      try clear c23b0
      try clear c23b1
      try clear c24
      try clear c24b0
      try clear c24b1
      try clear c24b2
      try clear c25
      try clear c25b0
      try clear c25b1
      try clear c26
      try clear c26b0
      try clear c26b1
      try clear c26b2
      try clear c27
      try clear c27b0
      try clear c27b1
      obtain ⟨kq, x91_12, rfl, HA, HJ12, HB⟩ := hcut
      cases kq with
      | zero => exact absurd HA.out (by simp [laws_FnStrings.j0])
      | succ kj12 =>
        have H := HA.out
        clear HA
        simp only [laws_FnStrings.j0] at H
        by_cases c28 : x91_12 = true
        · subst c28
          have H1 : (some false) = some r := by rw [if_pos rfl] at H; exact H
          clear H
          have H := H1
          clear H1
          obtain rfl := Option.some.inj H
          go_wp2
          go_ret
          exact ⟨by first | rfl | (simp [errW_none, errW_some] <;> rfl) | (simp [*, errW_none, errW_some] <;> rfl), by repeat (first | (with_reducible first | exact HB.out | apply below_alloc | apply pw_below_drewN | apply below_drew1) | exact HB.out | exact Below.refl _ _)⟩
        · replace c28 := Bool.eq_false_iff.mpr c28
          subst c28
          have H1 : ((impl_ParseInt.f kj12 t189).bind fun bt203 => (if t190 = true then (if bt203.2 = true then (laws_FnStrings.j1 kj12 l0 t198 t199 t200 (bt203.1 != t188)) else (laws_FnStrings.j1 kj12 l0 t198 t199 t200 true)) else (laws_FnStrings.j1 kj12 l0 t198 t199 t200 false))) = some r := by rw [if_neg (show ¬ (false = true) by decide)] at H; exact H
          clear H
          have H := H1
          clear H1
          replace H := Option.bind_eq_some_iff.mp H
          obtain ⟨⟨t203, t204⟩, A290, H⟩ := H
          replace H : (if t190 = true then (if t204 = true then (laws_FnStrings.j1 kj12 l0 t198 t199 t200 (t203 != t188)) else (laws_FnStrings.j1 kj12 l0 t198 t199 t200 true)) else (laws_FnStrings.j1 kj12 l0 t198 t199 t200 false)) = some r := H
          have A29 := Aside0.mk A290
          clear A290
          have HC30 := Aside0.mk H
          clear H
          go_upto_region 15 with (first | ((with_reducible refine gate_callee (f := 24) rfl ?_); refine goesL_ (some 94) rfl rfl Tryd.func24 (by kernel_rfl) rfl #[.string t189] rfl (by (try simp only [List.map_toArray, List.map_cons, List.map_nil]); first | done | rfl | (simp only [List.length_drop, List.length_take]; rfl)) ?_; (with_reducible refine (impl_ParseInt.calls kj12 t189 t203 t204 _ ?side1 A29.out).mono ?_); (case side1 => exact Tabs.below HT.out (by repeat (first | (with_reducible first | exact HB.out | apply below_alloc | apply pw_below_drewN | apply below_drew1) | exact HB.out | exact Below.refl _ _))); rintro e w31 ⟨rfl, hb⟩; refine ⟨_, rfl, ?_⟩; have n0_ := Aside0.mk (below_step (by repeat (first | (with_reducible first | exact HB.out | apply below_alloc | apply pw_below_drewN | apply below_drew1) | exact HB.out | exact Below.refl _ _)) hb); clear HB; have HB := n0_; clear n0_; (try clear hb); (try clear hb2); (try clear hk); (try clear hi)))
          (try simp only [Act.put, List.setIfInBounds_toArray, List.set_cons_zero, List.set_cons_succ])
          go_cut [106] (fun v106 wc => ∃ (kq : Nat) (x106_29 : Bool), v106 = .bool x106_29 ∧ Aside0 (laws_FnStrings.j1 kq l0 t198 t199 t200 x106_29 = some r) ∧ Aside0 (kq ≤ kj12) ∧ Aside0 (Below w.heap.size w wc))
          case first =>
            have H := HC30.out
            clear HC30
            by_cases c32 : t190 = true
            · subst c32
              have H1 : (if t204 = true then (laws_FnStrings.j1 kj12 l0 t198 t199 t200 (t203 != t188)) else (laws_FnStrings.j1 kj12 l0 t198 t199 t200 true)) = some r := by rw [if_pos rfl] at H; exact H
              clear H
              have H := H1
              clear H1
              by_cases c33 : t204 = true
              · subst c33
                have H1 : (laws_FnStrings.j1 kj12 l0 t198 t199 t200 (t203 != t188)) = some r := by rw [if_pos rfl] at H; exact H
                clear H
                have H := H1
                clear H1
                have H' := Aside0.mk H
                clear H
                go_wp2
                go_meet
                case rel => exact ⟨_, ((t203 != t188)), (by first | rfl | (simp; done) | (simp [*]; done)), H', ⟨by have := HJ12.out; first | omega | exact Nat.le_refl _⟩, ⟨by repeat (first | (with_reducible first | exact HB.out | apply below_alloc | apply pw_below_drewN | apply below_drew1) | exact HB.out | exact Below.refl _ _)⟩⟩
              · replace c33 := Bool.eq_false_iff.mpr c33
                subst c33
                have H1 : (laws_FnStrings.j1 kj12 l0 t198 t199 t200 true) = some r := by rw [if_neg (show ¬ (false = true) by decide)] at H; exact H
                clear H
                have H := H1
                clear H1
                have H' := Aside0.mk H
                clear H
                go_wp2
                go_meet
                case rel => exact ⟨_, (true), (by first | rfl | (simp; done) | (simp [*]; done)), H', ⟨by have := HJ12.out; first | omega | exact Nat.le_refl _⟩, ⟨by repeat (first | (with_reducible first | exact HB.out | apply below_alloc | apply pw_below_drewN | apply below_drew1) | exact HB.out | exact Below.refl _ _)⟩⟩
            · replace c32 := Bool.eq_false_iff.mpr c32
              subst c32
              have H1 : (laws_FnStrings.j1 kj12 l0 t198 t199 t200 false) = some r := by rw [if_neg (show ¬ (false = true) by decide)] at H; exact H
              clear H
              have H := H1
              clear H1
              have H' := Aside0.mk H
              clear H
              go_wp2
              go_meet
              case rel => exact ⟨_, (false), (by first | rfl | (simp; done) | (simp [*]; done)), H', ⟨by have := HJ12.out; first | omega | exact Nat.le_refl _⟩, ⟨by repeat (first | (with_reducible first | exact HB.out | apply below_alloc | apply pw_below_drewN | apply below_drew1) | exact HB.out | exact Below.refl _ _)⟩⟩
          case rest =>
            clear HC30
            try clear c1
            try clear c2
            try clear p2
            try clear c3
            try clear c10
            try clear c12
            try clear c13
            try clear c19
            try clear c20
            try clear c23
            try clear c23b0
            try clear c23b1
            try clear c24
            try clear c24b0
            try clear c24b1
            try clear c24b2
            try clear c25
            try clear c25b0
            try clear c25b1
            try clear c26
            try clear c26b0
            try clear c26b1
            try clear c26b2
            try clear c27
            try clear c27b0
            try clear c27b1
            try clear c28
            try clear c32
            try clear c33
            try clear p2
            obtain ⟨kq, x106_29, rfl, HA, HJ29, HB⟩ := hcut
            cases kq with
            | zero => exact absurd HA.out (by simp [laws_FnStrings.j1])
            | succ kj29 =>
              have H := HA.out
              clear HA
              simp only [laws_FnStrings.j1] at H
              by_cases c34 : x106_29 = true
              · subst c34
                have H1 : (some false) = some r := by rw [if_pos rfl] at H; exact H
                clear H
                have H := H1
                clear H1
                obtain rfl := Option.some.inj H
                go_wp2
                go_ret
                exact ⟨by first | rfl | (simp [errW_none, errW_some] <;> rfl) | (simp [*, errW_none, errW_some] <;> rfl), by repeat (first | (with_reducible first | exact HB.out | apply below_alloc | apply pw_below_drewN | apply below_drew1) | exact HB.out | exact Below.refl _ _)⟩
              · replace c34 := Bool.eq_false_iff.mpr c34
                subst c34
                have H1 : (if t200 = true then ((impl_VerifyChecksum.f kj29 t199).bind fun bt205 => (if t199.size ≤ 9223372036854775807 then ((some (BC.bytesL t199 : List Int)).bind fun y207 => ((laws_vAt.f l0 9).bind fun t210 => (if (y207.length : Int) = 0 then (none) else (if 0 ≤ (Int.tmod t210 (y207.length : Int)) then (if (Int.tmod t210 (y207.length : Int)) < (y207.length : Int) then ((laws_vAt.f l0 10).bind fun t212 => ((impl_VerifyChecksum.f kj29 (strOfNums (y207.set ((Int.tmod t210 (y207.length : Int)) : Int).toNat (Go.bits .xor .u8 (rd y207 (Int.tmod t210 (y207.length : Int))) ((wrap64 (1 + (Int.tmod t212 255))) % 256))))).bind fun bt214 => (if bt205.2 = true then (if bt205.1.toList = t198.toList then (some (!bt214.2)) else (some false)) else (some false)))) else (none)) else (none))))) else (none))) else (some (t199.toList == ([] : List UInt8)))) = some r := by rw [if_neg (show ¬ (false = true) by decide)] at H; exact H
                clear H
                have H := H1
                clear H1
                by_cases c35 : t200 = true
                · subst c35
                  have H1 : ((impl_VerifyChecksum.f kj29 t199).bind fun bt205 => (if t199.size ≤ 9223372036854775807 then ((some (BC.bytesL t199 : List Int)).bind fun y207 => ((laws_vAt.f l0 9).bind fun t210 => (if (y207.length : Int) = 0 then (none) else (if 0 ≤ (Int.tmod t210 (y207.length : Int)) then (if (Int.tmod t210 (y207.length : Int)) < (y207.length : Int) then ((laws_vAt.f l0 10).bind fun t212 => ((impl_VerifyChecksum.f kj29 (strOfNums (y207.set ((Int.tmod t210 (y207.length : Int)) : Int).toNat (Go.bits .xor .u8 (rd y207 (Int.tmod t210 (y207.length : Int))) ((wrap64 (1 + (Int.tmod t212 255))) % 256))))).bind fun bt214 => (if bt205.2 = true then (if bt205.1.toList = t198.toList then (some (!bt214.2)) else (some false)) else (some false)))) else (none)) else (none))))) else (none))) = some r := by rw [if_pos rfl] at H; exact H
                  clear H
                  have H := H1
                  clear H1
                  replace H := Option.bind_eq_some_iff.mp H
                  obtain ⟨⟨t205, t206⟩, A360, H⟩ := H
                  replace H : (if t199.size ≤ 9223372036854775807 then ((some (BC.bytesL t199 : List Int)).bind fun y207 => ((laws_vAt.f l0 9).bind fun t210 => (if (y207.length : Int) = 0 then (none) else (if 0 ≤ (Int.tmod t210 (y207.length : Int)) then (if (Int.tmod t210 (y207.length : Int)) < (y207.length : Int) then ((laws_vAt.f l0 10).bind fun t212 => ((impl_VerifyChecksum.f kj29 (strOfNums (y207.set ((Int.tmod t210 (y207.length : Int)) : Int).toNat (Go.bits .xor .u8 (rd y207 (Int.tmod t210 (y207.length : Int))) ((wrap64 (1 + (Int.tmod t212 255))) % 256))))).bind fun bt214 => (if t206 = true then (if t205.toList = t198.toList then (some (!bt214.2)) else (some false)) else (some false)))) else (none)) else (none))))) else (none)) = some r := H
                  have A36 := Aside0.mk A360
                  clear A360
                  by_cases c37 : t199.size ≤ 9223372036854775807
                  · rw [if_pos c37] at H
                    have c37b0 := eq_true c37
                    have c37b1 : decide (t199.size ≤ 9223372036854775807) = true := decide_eq_true c37
                    try have c37b2 : (9223372036854775807 < t199.size) = False := eq_false (Nat.not_lt.2 c37)
                    clear c37
                    obtain ⟨y207, hy207⟩ : ∃ y_ : List Int, y_ = (BC.bytesL t199) := ⟨_, rfl⟩
                    replace H : ((laws_vAt.f l0 9).bind fun t210 => (if (y207.length : Int) = 0 then (none) else (if 0 ≤ (Int.tmod t210 (y207.length : Int)) then (if (Int.tmod t210 (y207.length : Int)) < (y207.length : Int) then ((laws_vAt.f l0 10).bind fun t212 => ((impl_VerifyChecksum.f kj29 (strOfNums (y207.set ((Int.tmod t210 (y207.length : Int)) : Int).toNat (Go.bits .xor .u8 (rd y207 (Int.tmod t210 (y207.length : Int))) ((wrap64 (1 + (Int.tmod t212 255))) % 256))))).bind fun bt214 => (if t206 = true then (if t205.toList = t198.toList then (some (!bt214.2)) else (some false)) else (some false)))) else (none)) else (none)))) = some r := by first | (rw [hy207]; with_reducible exact H) | (have H2_ := (Option.bind_some _ _).symm.trans H; rw [hy207]; with_reducible exact H2_) | (have H2_ := (Option.bind_some _ _).symm.trans H; with_reducible exact H2_) | with_reducible exact H | (rw [hy207]; exact H) | exact H
                    have Ny207 := Aside0.mk hy207
                    clear hy207
                    replace H := Option.bind_eq_some_iff.mp H
                    obtain ⟨t210, A380, H⟩ := H
                    replace H : (if (y207.length : Int) = 0 then (none) else (if 0 ≤ (Int.tmod t210 (y207.length : Int)) then (if (Int.tmod t210 (y207.length : Int)) < (y207.length : Int) then ((laws_vAt.f l0 10).bind fun t212 => ((impl_VerifyChecksum.f kj29 (strOfNums (y207.set ((Int.tmod t210 (y207.length : Int)) : Int).toNat (Go.bits .xor .u8 (rd y207 (Int.tmod t210 (y207.length : Int))) ((wrap64 (1 + (Int.tmod t212 255))) % 256))))).bind fun bt214 => (if t206 = true then (if t205.toList = t198.toList then (some (!bt214.2)) else (some false)) else (some false)))) else (none)) else (none))) = some r := H
                    have A38 := Aside0.mk A380
                    clear A380
                    by_cases c39 : (y207.length : Int) = 0
                    · rw [if_pos c39] at H
                      exact absurd H (by simp)
                    · rw [if_neg c39] at H
                      have c39b0 : ((y207.length : Int) == 0) = false := beq_eq_false_iff_ne.mpr c39
                      have c39b1 : ((y207.length : Int) != 0) = true := bne_iff_ne.mpr c39
                      have c39b2 : ¬ (y207 = []) := fun h_ => c39 (by rw [h_]; rfl)
                      obtain ⟨ji40, hji40⟩ : ∃ j_ : Int, (Int.tmod t210 (y207.length : Int)) = j_ := ⟨_, rfl⟩
                      replace H : (if 0 ≤ (ji40) then (if (ji40) < (y207.length : Int) then ((laws_vAt.f l0 10).bind fun t212 => ((impl_VerifyChecksum.f kj29 (strOfNums (y207.set ((ji40) : Int).toNat (Go.bits .xor .u8 (rd y207 (ji40)) ((wrap64 (1 + (Int.tmod t212 255))) % 256))))).bind fun bt214 => (if t206 = true then (if t205.toList = t198.toList then (some (!bt214.2)) else (some false)) else (some false)))) else (none)) else (none)) = some r := by first | (rw [hji40] at H; exact H) | (simp only [hji40] at H ⊢; exact H)
                      (try rw [hji40] at A36)
                      (try rw [hji40] at A38)
                      by_cases c41 : 0 ≤ (ji40)
                      · rw [if_pos c41] at H
                        have c41b0 : decide (0 ≤ (ji40)) = true := decide_eq_true c41
                        clear c41
                        by_cases c42 : (ji40) < (y207.length : Int)
                        · rw [if_pos c42] at H
                          have c42b0 : decide ((ji40) < (y207.length : Int)) = true := decide_eq_true c42
                          clear c42
                          replace H := Option.bind_eq_some_iff.mp H
                          obtain ⟨t212, A430, H⟩ := H
                          replace H : ((impl_VerifyChecksum.f kj29 (strOfNums (y207.set ((ji40) : Int).toNat (Go.bits .xor .u8 (rd y207 (ji40)) ((wrap64 (1 + (Int.tmod t212 255))) % 256))))).bind fun bt214 => (if t206 = true then (if t205.toList = t198.toList then (some (!bt214.2)) else (some false)) else (some false))) = some r := H
                          have A43 := Aside0.mk A430
                          clear A430
                          obtain ⟨y213, hy213⟩ : ∃ y_ : List Int, y_ = (y207.set ((ji40) : Int).toNat (Go.bits .xor .u8 (rd y207 (ji40)) ((wrap64 (1 + (Int.tmod t212 255))) % 256))) := ⟨_, rfl⟩
                          replace H : ((impl_VerifyChecksum.f kj29 (strOfNums y213)).bind fun bt214 => (if t206 = true then (if t205.toList = t198.toList then (some (!bt214.2)) else (some false)) else (some false))) = some r := by first | (rw [hy213]; with_reducible exact H) | (have H2_ := (Option.bind_some _ _).symm.trans H; rw [hy213]; with_reducible exact H2_) | (have H2_ := (Option.bind_some _ _).symm.trans H; with_reducible exact H2_) | with_reducible exact H | (rw [hy213]; exact H) | exact H
                          have Ny213 := Aside0.mk hy213
                          clear hy213
                          replace H := Option.bind_eq_some_iff.mp H
                          obtain ⟨⟨t214, t215⟩, A450, H⟩ := H
                          replace H : (if t206 = true then (if t205.toList = t198.toList then (some (!t215)) else (some false)) else (some false)) = some r := H
                          have A45 := Aside0.mk A450
                          clear A450
                          by_cases c46 : t206 = true
                          · subst c46
                            have H1 : (if t205.toList = t198.toList then (some (!t215)) else (some false)) = some r := by rw [if_pos rfl] at H; exact H
                            clear H
                            have H := H1
                            clear H1
                            by_cases c47 : t205.toList = t198.toList
                            · rw [if_pos c47] at H
                              have c47b0 : (t205.toList == t198.toList) = true := beq_iff_eq.mpr c47
                              have c47b1 : (t205.toList != t198.toList) = false := bne_eq_false_iff_eq.mpr c47
                              clear c47
                              obtain rfl := Option.some.inj H
                              try go_wp2_with (first | ((with_reducible refine gate_callee (f := 22) rfl ?_); refine goesL_ (some 113) rfl rfl Tryd.func22 (by kernel_rfl) rfl #[.string t199] rfl (by (try simp only [List.map_toArray, List.map_cons, List.map_nil]); first | done | rfl | (simp only [List.length_drop, List.length_take]; rfl)) ?_; (with_reducible refine (impl_VerifyChecksum.calls kj29 t199 t205 true _ ?side1 A36.out).mono ?_); (case side1 => exact Tabs.below HT.out (by repeat (first | (with_reducible first | exact HB.out | apply below_alloc | apply pw_below_drewN | apply below_drew1) | exact HB.out | exact Below.refl _ _))); rintro e w48 ⟨rfl, hb⟩; refine ⟨_, rfl, ?_⟩; have n0_ := Aside0.mk (below_step (by repeat (first | (with_reducible first | exact HB.out | apply below_alloc | apply pw_below_drewN | apply below_drew1) | exact HB.out | exact Below.refl _ _)) hb); clear HB; have HB := n0_; clear n0_; (try clear hb); (try clear hb2); (try clear hk); (try clear hi)) | ((with_reducible refine gate_dst (N := 117) rfl ?_); refine BC.R_conv _ 5 rfl (N := 117) rfl 48 _ _ rfl t199 rfl Tryd.underlying9 Tryd.underlying48 Tryd.underlying5 (ok := fun _ => True) trivial (of_decide_eq_true (by first | (with_reducible assumption) | assumption)) (Below.refl _ _) (Nat.le_refl _) ?_; intro v208 w49 ho50 hb hg_ hnew_; clear hg_ hnew_; (first | rw [← Ny207.out] at ho50 | (simp only [Int.reduceToNat] at ho50; rw [← Ny207.out] at ho50)); have n0_ := Aside0.mk (BC.R_lower ho50 (below_size (by repeat (first | (with_reducible first | exact HB.out | apply below_alloc | apply pw_below_drewN | apply below_drew1) | exact HB.out | exact Below.refl _ _)))); have n1_ := Aside0.mk (below_step (by repeat (first | (with_reducible first | exact HB.out | apply below_alloc | apply pw_below_drewN | apply below_drew1) | exact HB.out | exact Below.refl _ _)) hb); clear HB; have HO209 := n0_; have HB := n1_; clear n0_ n1_; clear hb ho50) | ((with_reducible refine gate_callee (f := 38) rfl ?_); refine goesL_ (some 119) rfl rfl Tryd.func38 (by kernel_rfl) rfl #[.slice A0 l0.length c0, .int .i64 9] rfl (by (try simp only [List.map_toArray, List.map_cons, List.map_nil]); first | done | rfl | (simp only [List.length_drop, List.length_take]; rfl)) ?_; (with_reducible refine (laws_vAt.calls _ _ l0 9 t210 _ ?side1 ?side2 A38.out).mono ?_); (case side1 => repeat (first | exact (Kd.C_below HR0.out HB.out) | (with_reducible refine Kd.C_alloc ?_ _) | (with_reducible refine Kd.C_drewN ?_ _) | (with_reducible refine Kd.C_drew ?_))); (case side2 => exact HC0.out); rintro e w' ⟨rfl, ⟨nd, rfl⟩⟩; refine ⟨_, rfl, ?_⟩; (try (rw [drewN_self w49]; generalize hq_ : World.drewN w49 _ = w49; have n0_ : Aside0 (BC.R 5 w49 w.heap.size (fun _ => True) v208 y207) := ⟨by rw [← hq_]; exact (by (with_reducible repeat (first | apply BC.R_alloc | apply BC.R_drewN | apply BC.R_drew)); exact HO209.out)⟩; have n1_ : Aside0 (Below w.heap.size w w49) := ⟨by rw [← hq_]; exact (by repeat (first | (with_reducible first | exact HB.out | apply below_alloc | apply pw_below_drewN | apply below_drew1) | exact HB.out | exact Below.refl _ _))⟩; clear HO209 HB hq_; have HO209 := n0_; have HB := n1_; clear n0_ n1_)); obtain ⟨Ao51, co51, eo51⟩ := BC.R_slice HO209.out; subst eo51))
                              have n0_ := Aside0.mk (BC.R_drew HO209.out)
                              have n1_ := Aside0.mk (below_drew1 HB.out)
                              clear HO209
                              clear HB
                              have HO209 := n0_
                              have HB := n1_
                              clear n0_ n1_
                              have p211 : 0 ≤ ((ji40) : Int) := of_decide_eq_true (by first | (with_reducible assumption) | assumption)
                              have q211 : (ji40) < (y207.length : Int) := of_decide_eq_true (by first | (with_reducible assumption) | assumption)
                              obtain ⟨ad211, e211, hx211_0⟩ := Kd.at_int (BC.R_reads' HO209.out).2.2 (ji40) p211 q211
                              cases e211
                              replace p211 := eq_true p211
                              replace q211 := eq_true q211
                              refine start_ (n := 14) (S := fun w' => w'.cell? (ad211.add ((ji40)).toNat) = some (.int .u8 (rd y207 (ji40)))) (ds := [13]) #[false, false, false, false, false, false, false, false, false, false, false, false, false, false] (by kernel_rfl) rfl rfl (hx211_0) (fun hHeld => ?_); refine with_tabW laws_FnStrings.tab22 laws_FnStrings.bits22 (fun HT_ HW_ => ?_)
                              generalize w49.drew = w52 at HO209 HB hx211_0 hHeld ⊢
                              refine pure_ (i := 0) (N := some 123) (v := ?_) (a' := ?_) #[true, false, false, false, false, false, false, false, false, false, false, false, false, false] rfl rfl (any_of HT_.out (by kernel_rfl)) (fun _ _ _ h => h) (Or.inl ⟨by rfl, ?_⟩) ?_ ?_
                              rotate_left
                              · intro w'
                                go_simp
                                with_reducible rfl
                              rotate_left
                              · simp only [Act.put, List.setIfInBounds_toArray, List.set_cons_zero, List.set_cons_succ, i64_w, i32_w]
                                rfl
                              refine pure_ (i := 1) (N := some 124) (v := ?_) (a' := ?_) #[true, true, false, false, false, false, false, false, false, false, false, false, false, false] rfl rfl (any_of HT_.out (by kernel_rfl)) (fun _ _ _ h => h) (Or.inl ⟨by rfl, ?_⟩) ?_ ?_
                              rotate_left
                              · intro w'
                                go_simp
                                with_reducible rfl
                              rotate_left
                              · simp only [Act.put, List.setIfInBounds_toArray, List.set_cons_zero, List.set_cons_succ, i64_w, i32_w]
                                rfl
                              refine pure_ (i := 2) (N := some 125) (v := ?_) (a' := ?_) #[true, true, true, false, false, false, false, false, false, false, false, false, false, false] rfl rfl (any_of HT_.out (by kernel_rfl)) (fun _ _ _ h => h) (Or.inl ⟨by rfl, ?_⟩) ?_ ?_
                              rotate_left
                              · intro w'
                                go_simp
                                with_reducible rfl
                              rotate_left
                              · simp only [Act.put, List.setIfInBounds_toArray, List.set_cons_zero, List.set_cons_succ, i64_w, i32_w]
                                rfl
                              refine pure_ (i := 3) (N := some 126) (v := ?_) (a' := ?_) #[true, true, true, true, false, false, false, false, false, false, false, false, false, false] rfl rfl (any_of HT_.out (by kernel_rfl)) (fun _ _ _ h => h) (Or.inl ⟨by rfl, ?_⟩) ?_ ?_
                              rotate_left
                              · intro w'
                                go_simp
                                with_reducible rfl
                              rotate_left
                              · simp only [Act.put, List.setIfInBounds_toArray, List.set_cons_zero, List.set_cons_succ, i64_w, i32_w]
                                rfl
                              refine pure_ (i := 4) (N := some 127) (v := ?_) (a' := ?_) #[true, true, true, true, true, false, false, false, false, false, false, false, false, false] rfl rfl (any_of HT_.out (by kernel_rfl)) (fun _ _ _ h => h) (Or.inl ⟨by rfl, ?_⟩) ?_ ?_
                              rotate_left
                              · intro w'
                                go_simp
                                with_reducible rfl
                              rotate_left
                              · simp only [Act.put, List.setIfInBounds_toArray, List.set_cons_zero, List.set_cons_succ, i64_w, i32_w]
                                rfl
                              refine pure_ (i := 6) (N := some 129) (v := ?_) (a' := ?_) #[true, true, true, true, true, false, true, false, false, false, false, false, false, false] rfl rfl (any_of HT_.out (by kernel_rfl)) (fun _ _ _ h => h) (Or.inl ⟨by rfl, ?_⟩) ?_ ?_
                              rotate_left
                              · intro w'
                                go_simp
                                with_reducible rfl
                              rotate_left
                              · simp only [Act.put, List.setIfInBounds_toArray, List.set_cons_zero, List.set_cons_succ, i64_w, i32_w]
                                rfl
                              refine take_ (i := 5) (N := some 128) (v := ?_) (a' := ?_) #[true, true, true, true, true, true, true, false, false, false, false, false, false, false] rfl rfl (take_ofW HT_.out HW_.out (by kernel_rfl)) (fun _ _ _ h => h) (Or.inl ⟨by rfl, ?_⟩) hHeld ?_ ?_
                              rotate_left
                              · intro w' s0
                                go_simp
                                with_reducible rfl
                              rotate_left
                              · simp only [Act.put, List.setIfInBounds_toArray, List.set_cons_zero, List.set_cons_succ, i64_w, i32_w]
                                rfl
                              refine one_ (i := 7) (N := some 130) #[true, true, true, true, true, true, true, true, false, false, false, false, false, false] rfl rfl (one_of HT_.out (by kernel_rfl)) (by decide) (fun K hK => ?_)
                              refine goes_ Tryd.func38 (by kernel_rfl) rfl #[.slice A0 l0.length c0, .int .i64 10] (by rfl) rfl rfl (by (try simp only [List.map_toArray, List.map_cons, List.map_nil]); first | done | rfl | (simp only [List.length_drop, List.length_take]; rfl)) ?_
                              with_reducible refine (laws_vAt.calls _ _ l0 10 t212 _ ?side1 ?side2 A43.out).mono ?_
                              (case side1 => repeat (first | exact (Kd.C_below HR0.out HB.out) | (with_reducible refine Kd.C_alloc ?_ _) | (with_reducible refine Kd.C_drewN ?_ _) | (with_reducible refine Kd.C_drew ?_)))
                              (case side2 => exact HC0.out)
                              rintro e w' ⟨rfl, ⟨nd, rfl⟩⟩
                              refine ⟨_, rfl, ?_⟩
                              have p44 : 0 ≤ ((ji40) : Int) := of_decide_eq_true (by first | (with_reducible assumption) | assumption)
                              have q44 : ((ji40) : Int) < ((y207.length : Int) : Int) := of_decide_eq_true (by first | (with_reducible assumption) | assumption)
                              obtain ⟨go44, co44, eo44, gb44, gl44, cl44, HG44⟩ := BC.R_form HO209.out (by omega)
                              (first | cases eo44 | (injection eo44 with ea_ en_ ec_; (first | subst ea_ | (injection ea_ with ea_; subst ea_)); subst ec_; clear en_))
                              have GB44 := Aside0.mk gb44
                              have GG44 := Aside0.mk HG44
                              clear gb44 gl44 HG44
                              (first | simp only [add_plain] at hx211_0 | skip)
                              obtain ⟨hx44_0, hf44_0⟩ := BC.R_celln 0 HO209.out ((ji40) : Int) p44 q44
                              replace p44 := eq_true p44
                              replace q44 := eq_true q44
                              have HP53 := BC.R_putn HO209.out ((ji40) : Int) (Go.bits .xor .u8 (rd y207 (ji40)) ((wrap64 (1 + (Int.tmod t212 255))) % 256))
                              rw [← Ny213.out] at HP53
                              have HQ53 := Aside0.mk HP53
                              clear HP53
                              refine hK.out _ _ (hHeld) (fun hHeld => ?_)
                              clear hK K
                              refine norm_ (a' := ?_) ?_ ?_
                              rotate_left
                              · show Act.put _ (some 130) _ = _
                                simp only [Act.put, List.setIfInBounds_toArray, List.set_cons_zero, List.set_cons_succ, i64_w, i32_w]
                                rfl
                              refine pure_ (i := 8) (N := some 131) (v := ?_) (a' := ?_) #[true, true, true, true, true, true, true, true, true, false, false, false, false, false] rfl rfl (any_of HT_.out (by kernel_rfl)) (fun _ _ _ h => h) (Or.inl ⟨by rfl, ?_⟩) ?_ ?_
                              rotate_left
                              · intro w'
                                go_simp
                                with_reducible rfl
                              rotate_left
                              · simp only [Act.put, List.setIfInBounds_toArray, List.set_cons_zero, List.set_cons_succ, i64_w, i32_w]
                                rfl
                              refine pure_ (i := 9) (N := some 132) (v := ?_) (a' := ?_) #[true, true, true, true, true, true, true, true, true, true, false, false, false, false] rfl rfl (any_of HT_.out (by kernel_rfl)) (fun _ _ _ h => h) (Or.inl ⟨by rfl, ?_⟩) ?_ ?_
                              rotate_left
                              · intro w'
                                go_simp
                                with_reducible rfl
                              rotate_left
                              · simp only [Act.put, List.setIfInBounds_toArray, List.set_cons_zero, List.set_cons_succ, i64_w, i32_w]
                                rfl
                              refine pure_ (i := 10) (N := some 133) (v := ?_) (a' := ?_) #[true, true, true, true, true, true, true, true, true, true, true, false, false, false] rfl rfl (any_of HT_.out (by kernel_rfl)) (fun _ _ _ h => h) (Or.inl ⟨by rfl, ?_⟩) ?_ ?_
                              rotate_left
                              · intro w'
                                go_simp
                                with_reducible rfl
                              rotate_left
                              · simp only [Act.put, List.setIfInBounds_toArray, List.set_cons_zero, List.set_cons_succ, i64_w, i32_w]
                                rfl
                              refine pure_ (i := 11) (N := some 134) (v := ?_) (a' := ?_) #[true, true, true, true, true, true, true, true, true, true, true, true, false, false] rfl rfl (any_of HT_.out (by kernel_rfl)) (fun _ _ _ h => h) (Or.inl ⟨by rfl, ?_⟩) ?_ ?_
                              rotate_left
                              · intro w'
                                go_simp
                                with_reducible rfl
                              rotate_left
                              · simp only [Act.put, List.setIfInBounds_toArray, List.set_cons_zero, List.set_cons_succ, i64_w, i32_w]
                                rfl
                              refine pure_ (i := 12) (N := some 135) (v := ?_) (a' := ?_) #[true, true, true, true, true, true, true, true, true, true, true, true, true, false] rfl rfl (any_of HT_.out (by kernel_rfl)) (fun _ _ _ h => h) (Or.inl ⟨by rfl, ?_⟩) ?_ ?_
                              rotate_left
                              · intro w'
                                go_simp
                                with_reducible rfl
                              rotate_left
                              · simp only [Act.put, List.setIfInBounds_toArray, List.set_cons_zero, List.set_cons_succ, i64_w, i32_w]
                                rfl
                              refine last_ (i := 13) (N := none) #[true, true, true, true, true, true, true, true, true, true, true, true, true, true] rfl rfl (one_of HT_.out (by kernel_rfl)) (by decide) (fun K hK => ?_)
                              refine skip_ (w1 := ?_) (by rfl) rfl ?_ ?_
                              rotate_left
                              · go_simp
                                rfl
                              refine hK.out _ _ ?_
                              clear hK K
                              refine done_ (done_of HT_.out (by kernel_rfl)) ?_
                              (try clear hHeld)
                              (try clear hHeld)
                              have hcv54 := fun (m_ : Nat) => BC.own_string (P := Tryd.prog) Tryd.underlying48 Tryd.underlying5 Tryd.underlying9 (BC.R_putn (BC.R_drewN HO209.out m_) ((ji40) : Int) (Go.bits .xor .u8 (rd y207 (ji40)) ((wrap64 (1 + (Int.tmod t212 255))) % 256)))
                              rw [← Ny213.out] at hcv54
                              replace hcv54 := hcv54 nd
                              try go_wp2_with (first | ((with_reducible refine gate_callee (f := 22) rfl ?_); refine goesL_ (some 139) rfl rfl Tryd.func22 (by kernel_rfl) rfl #[.string (strOfNums y213)] rfl (by (try simp only [List.map_toArray, List.map_cons, List.map_nil]); first | done | rfl | (simp only [List.length_drop, List.length_take]; rfl)) ?_; (with_reducible refine (impl_VerifyChecksum.calls kj29 (strOfNums y213) t214 t215 _ ?side1 A45.out).mono ?_); (case side1 => exact Tabs.below HT.out (by repeat (first | (with_reducible first | exact HB.out | apply below_alloc | apply pw_below_drewN | apply below_drew1 | refine below_set ?_ GB44.out) | exact HB.out))); rintro e w55 ⟨rfl, hb⟩; refine ⟨_, rfl, ?_⟩; have n0_ := Aside0.mk (BC.R_below (by (with_reducible repeat (first | apply BC.R_alloc | apply BC.R_drewN | apply BC.R_drew)); exact HQ53.out) hb); have n1_ := Aside0.mk (below_step (by repeat (first | (with_reducible first | exact HB.out | apply below_alloc | apply pw_below_drewN | apply below_drew1 | refine below_set ?_ GB44.out) | exact HB.out)) hb); clear HO209; clear HB; have HO209 := n0_; have HB := n1_; clear n0_ n1_; (try clear hb); (try clear hb2); (try clear hk); (try clear hi)))
                              try (go_simp; go_wp2_with (first | ((with_reducible refine gate_callee (f := 22) rfl ?_); refine goesL_ (some 139) rfl rfl Tryd.func22 (by kernel_rfl) rfl #[.string (strOfNums y213)] rfl (by (try simp only [List.map_toArray, List.map_cons, List.map_nil]); first | done | rfl | (simp only [List.length_drop, List.length_take]; rfl)) ?_; (with_reducible refine (impl_VerifyChecksum.calls kj29 (strOfNums y213) t214 t215 _ ?side1 A45.out).mono ?_); (case side1 => exact Tabs.below HT.out (by repeat (first | (with_reducible first | exact HB.out | apply below_alloc | apply pw_below_drewN | apply below_drew1 | refine below_set ?_ GB44.out) | exact HB.out))); rintro e w55 ⟨rfl, hb⟩; refine ⟨_, rfl, ?_⟩; have n0_ := Aside0.mk (BC.R_below (by (with_reducible repeat (first | apply BC.R_alloc | apply BC.R_drewN | apply BC.R_drew)); exact HQ53.out) hb); have n1_ := Aside0.mk (below_step (by repeat (first | (with_reducible first | exact HB.out | apply below_alloc | apply pw_below_drewN | apply below_drew1 | refine below_set ?_ GB44.out) | exact HB.out)) hb); clear HO209; clear HB; have HO209 := n0_; have HB := n1_; clear n0_ n1_; (try clear hb); (try clear hb2); (try clear hk); (try clear hi))))
                              go_ret
                              exact ⟨by first | rfl | (simp [errW_none, errW_some] <;> rfl) | (simp only [← hji40]; first | rfl | (simp [errW_none, errW_some] <;> rfl)) | (simp [*, errW_none, errW_some] <;> rfl), by repeat (first | (with_reducible first | exact HB.out | apply below_alloc | apply pw_below_drewN | apply below_drew1) | exact HB.out | exact Below.refl _ _)⟩
                            · rw [if_neg c47] at H
                              have c47b0 : (t205.toList == t198.toList) = false := beq_eq_false_iff_ne.mpr c47
                              have c47b1 : (t205.toList != t198.toList) = true := bne_iff_ne.mpr c47
                              obtain rfl := Option.some.inj H
                              try go_wp2_with (first | ((with_reducible refine gate_callee (f := 22) rfl ?_); refine goesL_ (some 113) rfl rfl Tryd.func22 (by kernel_rfl) rfl #[.string t199] rfl (by (try simp only [List.map_toArray, List.map_cons, List.map_nil]); first | done | rfl | (simp only [List.length_drop, List.length_take]; rfl)) ?_; (with_reducible refine (impl_VerifyChecksum.calls kj29 t199 t205 true _ ?side1 A36.out).mono ?_); (case side1 => exact Tabs.below HT.out (by repeat (first | (with_reducible first | exact HB.out | apply below_alloc | apply pw_below_drewN | apply below_drew1) | exact HB.out | exact Below.refl _ _))); rintro e w56 ⟨rfl, hb⟩; refine ⟨_, rfl, ?_⟩; have n0_ := Aside0.mk (below_step (by repeat (first | (with_reducible first | exact HB.out | apply below_alloc | apply pw_below_drewN | apply below_drew1) | exact HB.out | exact Below.refl _ _)) hb); clear HB; have HB := n0_; clear n0_; (try clear hb); (try clear hb2); (try clear hk); (try clear hi)) | ((with_reducible refine gate_dst (N := 117) rfl ?_); refine BC.R_conv _ 5 rfl (N := 117) rfl 48 _ _ rfl t199 rfl Tryd.underlying9 Tryd.underlying48 Tryd.underlying5 (ok := fun _ => True) trivial (of_decide_eq_true (by first | (with_reducible assumption) | assumption)) (Below.refl _ _) (Nat.le_refl _) ?_; intro v208 w57 ho58 hb hg_ hnew_; clear hg_ hnew_; (first | rw [← Ny207.out] at ho58 | (simp only [Int.reduceToNat] at ho58; rw [← Ny207.out] at ho58)); have n0_ := Aside0.mk (BC.R_lower ho58 (below_size (by repeat (first | (with_reducible first | exact HB.out | apply below_alloc | apply pw_below_drewN | apply below_drew1) | exact HB.out | exact Below.refl _ _)))); have n1_ := Aside0.mk (below_step (by repeat (first | (with_reducible first | exact HB.out | apply below_alloc | apply pw_below_drewN | apply below_drew1) | exact HB.out | exact Below.refl _ _)) hb); clear HB; have HO209 := n0_; have HB := n1_; clear n0_ n1_; clear hb ho58) | ((with_reducible refine gate_callee (f := 38) rfl ?_); refine goesL_ (some 119) rfl rfl Tryd.func38 (by kernel_rfl) rfl #[.slice A0 l0.length c0, .int .i64 9] rfl (by (try simp only [List.map_toArray, List.map_cons, List.map_nil]); first | done | rfl | (simp only [List.length_drop, List.length_take]; rfl)) ?_; (with_reducible refine (laws_vAt.calls _ _ l0 9 t210 _ ?side1 ?side2 A38.out).mono ?_); (case side1 => repeat (first | exact (Kd.C_below HR0.out HB.out) | (with_reducible refine Kd.C_alloc ?_ _) | (with_reducible refine Kd.C_drewN ?_ _) | (with_reducible refine Kd.C_drew ?_))); (case side2 => exact HC0.out); rintro e w' ⟨rfl, ⟨nd, rfl⟩⟩; refine ⟨_, rfl, ?_⟩; (try (rw [drewN_self w57]; generalize hq_ : World.drewN w57 _ = w57; have n0_ : Aside0 (BC.R 5 w57 w.heap.size (fun _ => True) v208 y207) := ⟨by rw [← hq_]; exact (by (with_reducible repeat (first | apply BC.R_alloc | apply BC.R_drewN | apply BC.R_drew)); exact HO209.out)⟩; have n1_ : Aside0 (Below w.heap.size w w57) := ⟨by rw [← hq_]; exact (by repeat (first | (with_reducible first | exact HB.out | apply below_alloc | apply pw_below_drewN | apply below_drew1) | exact HB.out | exact Below.refl _ _))⟩; clear HO209 HB hq_; have HO209 := n0_; have HB := n1_; clear n0_ n1_)); obtain ⟨Ao59, co59, eo59⟩ := BC.R_slice HO209.out; subst eo59))
                              have n0_ := Aside0.mk (BC.R_drew HO209.out)
                              have n1_ := Aside0.mk (below_drew1 HB.out)
                              clear HO209
                              clear HB
                              have HO209 := n0_
                              have HB := n1_
                              clear n0_ n1_
                              have p211 : 0 ≤ ((ji40) : Int) := of_decide_eq_true (by first | (with_reducible assumption) | assumption)
                              have q211 : (ji40) < (y207.length : Int) := of_decide_eq_true (by first | (with_reducible assumption) | assumption)
                              obtain ⟨ad211, e211, hx211_0⟩ := Kd.at_int (BC.R_reads' HO209.out).2.2 (ji40) p211 q211
                              cases e211
                              replace p211 := eq_true p211
                              replace q211 := eq_true q211
                              refine start_ (n := 14) (S := fun w' => w'.cell? (ad211.add ((ji40)).toNat) = some (.int .u8 (rd y207 (ji40)))) (ds := [13]) #[false, false, false, false, false, false, false, false, false, false, false, false, false, false] (by kernel_rfl) rfl rfl (hx211_0) (fun hHeld => ?_); refine with_tabW laws_FnStrings.tab22 laws_FnStrings.bits22 (fun HT_ HW_ => ?_)
                              generalize w57.drew = w60 at HO209 HB hx211_0 hHeld ⊢
                              refine pure_ (i := 0) (N := some 123) (v := ?_) (a' := ?_) #[true, false, false, false, false, false, false, false, false, false, false, false, false, false] rfl rfl (any_of HT_.out (by kernel_rfl)) (fun _ _ _ h => h) (Or.inl ⟨by rfl, ?_⟩) ?_ ?_
                              rotate_left
                              · intro w'
                                go_simp
                                with_reducible rfl
                              rotate_left
                              · simp only [Act.put, List.setIfInBounds_toArray, List.set_cons_zero, List.set_cons_succ, i64_w, i32_w]
                                rfl
                              refine pure_ (i := 1) (N := some 124) (v := ?_) (a' := ?_) #[true, true, false, false, false, false, false, false, false, false, false, false, false, false] rfl rfl (any_of HT_.out (by kernel_rfl)) (fun _ _ _ h => h) (Or.inl ⟨by rfl, ?_⟩) ?_ ?_
                              rotate_left
                              · intro w'
                                go_simp
                                with_reducible rfl
                              rotate_left
                              · simp only [Act.put, List.setIfInBounds_toArray, List.set_cons_zero, List.set_cons_succ, i64_w, i32_w]
                                rfl
                              refine pure_ (i := 2) (N := some 125) (v := ?_) (a' := ?_) #[true, true, true, false, false, false, false, false, false, false, false, false, false, false] rfl rfl (any_of HT_.out (by kernel_rfl)) (fun _ _ _ h => h) (Or.inl ⟨by rfl, ?_⟩) ?_ ?_
                              rotate_left
                              · intro w'
                                go_simp
                                with_reducible rfl
                              rotate_left
                              · simp only [Act.put, List.setIfInBounds_toArray, List.set_cons_zero, List.set_cons_succ, i64_w, i32_w]
                                rfl
                              refine pure_ (i := 3) (N := some 126) (v := ?_) (a' := ?_) #[true, true, true, true, false, false, false, false, false, false, false, false, false, false] rfl rfl (any_of HT_.out (by kernel_rfl)) (fun _ _ _ h => h) (Or.inl ⟨by rfl, ?_⟩) ?_ ?_
                              rotate_left
                              · intro w'
                                go_simp
                                with_reducible rfl
                              rotate_left
                              · simp only [Act.put, List.setIfInBounds_toArray, List.set_cons_zero, List.set_cons_succ, i64_w, i32_w]
                                rfl
                              refine pure_ (i := 4) (N := some 127) (v := ?_) (a' := ?_) #[true, true, true, true, true, false, false, false, false, false, false, false, false, false] rfl rfl (any_of HT_.out (by kernel_rfl)) (fun _ _ _ h => h) (Or.inl ⟨by rfl, ?_⟩) ?_ ?_
                              rotate_left
                              · intro w'
                                go_simp
                                with_reducible rfl
                              rotate_left
                              · simp only [Act.put, List.setIfInBounds_toArray, List.set_cons_zero, List.set_cons_succ, i64_w, i32_w]
                                rfl
                              refine pure_ (i := 6) (N := some 129) (v := ?_) (a' := ?_) #[true, true, true, true, true, false, true, false, false, false, false, false, false, false] rfl rfl (any_of HT_.out (by kernel_rfl)) (fun _ _ _ h => h) (Or.inl ⟨by rfl, ?_⟩) ?_ ?_
                              rotate_left
                              · intro w'
                                go_simp
                                with_reducible rfl
                              rotate_left
                              · simp only [Act.put, List.setIfInBounds_toArray, List.set_cons_zero, List.set_cons_succ, i64_w, i32_w]
                                rfl
                              refine take_ (i := 5) (N := some 128) (v := ?_) (a' := ?_) #[true, true, true, true, true, true, true, false, false, false, false, false, false, false] rfl rfl (take_ofW HT_.out HW_.out (by kernel_rfl)) (fun _ _ _ h => h) (Or.inl ⟨by rfl, ?_⟩) hHeld ?_ ?_
                              rotate_left
                              · intro w' s0
                                go_simp
                                with_reducible rfl
                              rotate_left
                              · simp only [Act.put, List.setIfInBounds_toArray, List.set_cons_zero, List.set_cons_succ, i64_w, i32_w]
                                rfl
                              refine one_ (i := 7) (N := some 130) #[true, true, true, true, true, true, true, true, false, false, false, false, false, false] rfl rfl (one_of HT_.out (by kernel_rfl)) (by decide) (fun K hK => ?_)
                              refine goes_ Tryd.func38 (by kernel_rfl) rfl #[.slice A0 l0.length c0, .int .i64 10] (by rfl) rfl rfl (by (try simp only [List.map_toArray, List.map_cons, List.map_nil]); first | done | rfl | (simp only [List.length_drop, List.length_take]; rfl)) ?_
                              with_reducible refine (laws_vAt.calls _ _ l0 10 t212 _ ?side1 ?side2 A43.out).mono ?_
                              (case side1 => repeat (first | exact (Kd.C_below HR0.out HB.out) | (with_reducible refine Kd.C_alloc ?_ _) | (with_reducible refine Kd.C_drewN ?_ _) | (with_reducible refine Kd.C_drew ?_)))
                              (case side2 => exact HC0.out)
                              rintro e w' ⟨rfl, ⟨nd, rfl⟩⟩
                              refine ⟨_, rfl, ?_⟩
                              have p44 : 0 ≤ ((ji40) : Int) := of_decide_eq_true (by first | (with_reducible assumption) | assumption)
                              have q44 : ((ji40) : Int) < ((y207.length : Int) : Int) := of_decide_eq_true (by first | (with_reducible assumption) | assumption)
                              obtain ⟨go44, co44, eo44, gb44, gl44, cl44, HG44⟩ := BC.R_form HO209.out (by omega)
                              (first | cases eo44 | (injection eo44 with ea_ en_ ec_; (first | subst ea_ | (injection ea_ with ea_; subst ea_)); subst ec_; clear en_))
                              have GB44 := Aside0.mk gb44
                              have GG44 := Aside0.mk HG44
                              clear gb44 gl44 HG44
                              (first | simp only [add_plain] at hx211_0 | skip)
                              obtain ⟨hx44_0, hf44_0⟩ := BC.R_celln 0 HO209.out ((ji40) : Int) p44 q44
                              replace p44 := eq_true p44
                              replace q44 := eq_true q44
                              have HP61 := BC.R_putn HO209.out ((ji40) : Int) (Go.bits .xor .u8 (rd y207 (ji40)) ((wrap64 (1 + (Int.tmod t212 255))) % 256))
                              rw [← Ny213.out] at HP61
                              have HQ61 := Aside0.mk HP61
                              clear HP61
                              refine hK.out _ _ (hHeld) (fun hHeld => ?_)
                              clear hK K
                              refine norm_ (a' := ?_) ?_ ?_
                              rotate_left
                              · show Act.put _ (some 130) _ = _
                                simp only [Act.put, List.setIfInBounds_toArray, List.set_cons_zero, List.set_cons_succ, i64_w, i32_w]
                                rfl
                              refine pure_ (i := 8) (N := some 131) (v := ?_) (a' := ?_) #[true, true, true, true, true, true, true, true, true, false, false, false, false, false] rfl rfl (any_of HT_.out (by kernel_rfl)) (fun _ _ _ h => h) (Or.inl ⟨by rfl, ?_⟩) ?_ ?_
                              rotate_left
                              · intro w'
                                go_simp
                                with_reducible rfl
                              rotate_left
                              · simp only [Act.put, List.setIfInBounds_toArray, List.set_cons_zero, List.set_cons_succ, i64_w, i32_w]
                                rfl
                              refine pure_ (i := 9) (N := some 132) (v := ?_) (a' := ?_) #[true, true, true, true, true, true, true, true, true, true, false, false, false, false] rfl rfl (any_of HT_.out (by kernel_rfl)) (fun _ _ _ h => h) (Or.inl ⟨by rfl, ?_⟩) ?_ ?_
                              rotate_left
                              · intro w'
                                go_simp
                                with_reducible rfl
                              rotate_left
                              · simp only [Act.put, List.setIfInBounds_toArray, List.set_cons_zero, List.set_cons_succ, i64_w, i32_w]
                                rfl
                              refine pure_ (i := 10) (N := some 133) (v := ?_) (a' := ?_) #[true, true, true, true, true, true, true, true, true, true, true, false, false, false] rfl rfl (any_of HT_.out (by kernel_rfl)) (fun _ _ _ h => h) (Or.inl ⟨by rfl, ?_⟩) ?_ ?_
                              rotate_left
                              · intro w'
                                go_simp
                                with_reducible rfl
                              rotate_left
                              · simp only [Act.put, List.setIfInBounds_toArray, List.set_cons_zero, List.set_cons_succ, i64_w, i32_w]
                                rfl
                              refine pure_ (i := 11) (N := some 134) (v := ?_) (a' := ?_) #[true, true, true, true, true, true, true, true, true, true, true, true, false, false] rfl rfl (any_of HT_.out (by kernel_rfl)) (fun _ _ _ h => h) (Or.inl ⟨by rfl, ?_⟩) ?_ ?_
                              rotate_left
                              · intro w'
                                go_simp
                                with_reducible rfl
                              rotate_left
                              · simp only [Act.put, List.setIfInBounds_toArray, List.set_cons_zero, List.set_cons_succ, i64_w, i32_w]
                                rfl
                              refine pure_ (i := 12) (N := some 135) (v := ?_) (a' := ?_) #[true, true, true, true, true, true, true, true, true, true, true, true, true, false] rfl rfl (any_of HT_.out (by kernel_rfl)) (fun _ _ _ h => h) (Or.inl ⟨by rfl, ?_⟩) ?_ ?_
                              rotate_left
                              · intro w'
                                go_simp
                                with_reducible rfl
                              rotate_left
                              · simp only [Act.put, List.setIfInBounds_toArray, List.set_cons_zero, List.set_cons_succ, i64_w, i32_w]
                                rfl
                              refine last_ (i := 13) (N := none) #[true, true, true, true, true, true, true, true, true, true, true, true, true, true] rfl rfl (one_of HT_.out (by kernel_rfl)) (by decide) (fun K hK => ?_)
                              refine skip_ (w1 := ?_) (by rfl) rfl ?_ ?_
                              rotate_left
                              · go_simp
                                rfl
                              refine hK.out _ _ ?_
                              clear hK K
                              refine done_ (done_of HT_.out (by kernel_rfl)) ?_
                              (try clear hHeld)
                              (try clear hHeld)
                              have hcv62 := fun (m_ : Nat) => BC.own_string (P := Tryd.prog) Tryd.underlying48 Tryd.underlying5 Tryd.underlying9 (BC.R_putn (BC.R_drewN HO209.out m_) ((ji40) : Int) (Go.bits .xor .u8 (rd y207 (ji40)) ((wrap64 (1 + (Int.tmod t212 255))) % 256)))
                              rw [← Ny213.out] at hcv62
                              replace hcv62 := hcv62 nd
                              try go_wp2_with (first | ((with_reducible refine gate_callee (f := 22) rfl ?_); refine goesL_ (some 139) rfl rfl Tryd.func22 (by kernel_rfl) rfl #[.string (strOfNums y213)] rfl (by (try simp only [List.map_toArray, List.map_cons, List.map_nil]); first | done | rfl | (simp only [List.length_drop, List.length_take]; rfl)) ?_; (with_reducible refine (impl_VerifyChecksum.calls kj29 (strOfNums y213) t214 t215 _ ?side1 A45.out).mono ?_); (case side1 => exact Tabs.below HT.out (by repeat (first | (with_reducible first | exact HB.out | apply below_alloc | apply pw_below_drewN | apply below_drew1 | refine below_set ?_ GB44.out) | exact HB.out))); rintro e w63 ⟨rfl, hb⟩; refine ⟨_, rfl, ?_⟩; have n0_ := Aside0.mk (BC.R_below (by (with_reducible repeat (first | apply BC.R_alloc | apply BC.R_drewN | apply BC.R_drew)); exact HQ61.out) hb); have n1_ := Aside0.mk (below_step (by repeat (first | (with_reducible first | exact HB.out | apply below_alloc | apply pw_below_drewN | apply below_drew1 | refine below_set ?_ GB44.out) | exact HB.out)) hb); clear HO209; clear HB; have HO209 := n0_; have HB := n1_; clear n0_ n1_; (try clear hb); (try clear hb2); (try clear hk); (try clear hi)))
                              try (go_simp; go_wp2_with (first | ((with_reducible refine gate_callee (f := 22) rfl ?_); refine goesL_ (some 139) rfl rfl Tryd.func22 (by kernel_rfl) rfl #[.string (strOfNums y213)] rfl (by (try simp only [List.map_toArray, List.map_cons, List.map_nil]); first | done | rfl | (simp only [List.length_drop, List.length_take]; rfl)) ?_; (with_reducible refine (impl_VerifyChecksum.calls kj29 (strOfNums y213) t214 t215 _ ?side1 A45.out).mono ?_); (case side1 => exact Tabs.below HT.out (by repeat (first | (with_reducible first | exact HB.out | apply below_alloc | apply pw_below_drewN | apply below_drew1 | refine below_set ?_ GB44.out) | exact HB.out))); rintro e w63 ⟨rfl, hb⟩; refine ⟨_, rfl, ?_⟩; have n0_ := Aside0.mk (BC.R_below (by (with_reducible repeat (first | apply BC.R_alloc | apply BC.R_drewN | apply BC.R_drew)); exact HQ61.out) hb); have n1_ := Aside0.mk (below_step (by repeat (first | (with_reducible first | exact HB.out | apply below_alloc | apply pw_below_drewN | apply below_drew1 | refine below_set ?_ GB44.out) | exact HB.out)) hb); clear HO209; clear HB; have HO209 := n0_; have HB := n1_; clear n0_ n1_; (try clear hb); (try clear hb2); (try clear hk); (try clear hi))))
                              go_ret
                              exact ⟨by first | rfl | (simp [errW_none, errW_some] <;> rfl) | (simp only [← hji40]; first | rfl | (simp [errW_none, errW_some] <;> rfl)) | (simp [*, errW_none, errW_some] <;> rfl), by repeat (first | (with_reducible first | exact HB.out | apply below_alloc | apply pw_below_drewN | apply below_drew1) | exact HB.out | exact Below.refl _ _)⟩
                          · replace c46 := Bool.eq_false_iff.mpr c46
                            subst c46
                            have H1 : (some false) = some r := by rw [if_neg (show ¬ (false = true) by decide)] at H; exact H
                            clear H
                            have H := H1
                            clear H1
                            obtain rfl := Option.some.inj H
                            try go_wp2_with (first | ((with_reducible refine gate_callee (f := 22) rfl ?_); refine goesL_ (some 113) rfl rfl Tryd.func22 (by kernel_rfl) rfl #[.string t199] rfl (by (try simp only [List.map_toArray, List.map_cons, List.map_nil]); first | done | rfl | (simp only [List.length_drop, List.length_take]; rfl)) ?_; (with_reducible refine (impl_VerifyChecksum.calls kj29 t199 t205 false _ ?side1 A36.out).mono ?_); (case side1 => exact Tabs.below HT.out (by repeat (first | (with_reducible first | exact HB.out | apply below_alloc | apply pw_below_drewN | apply below_drew1) | exact HB.out | exact Below.refl _ _))); rintro e w64 ⟨rfl, hb⟩; refine ⟨_, rfl, ?_⟩; have n0_ := Aside0.mk (below_step (by repeat (first | (with_reducible first | exact HB.out | apply below_alloc | apply pw_below_drewN | apply below_drew1) | exact HB.out | exact Below.refl _ _)) hb); clear HB; have HB := n0_; clear n0_; (try clear hb); (try clear hb2); (try clear hk); (try clear hi)) | ((with_reducible refine gate_dst (N := 117) rfl ?_); refine BC.R_conv _ 5 rfl (N := 117) rfl 48 _ _ rfl t199 rfl Tryd.underlying9 Tryd.underlying48 Tryd.underlying5 (ok := fun _ => True) trivial (of_decide_eq_true (by first | (with_reducible assumption) | assumption)) (Below.refl _ _) (Nat.le_refl _) ?_; intro v208 w65 ho66 hb hg_ hnew_; clear hg_ hnew_; (first | rw [← Ny207.out] at ho66 | (simp only [Int.reduceToNat] at ho66; rw [← Ny207.out] at ho66)); have n0_ := Aside0.mk (BC.R_lower ho66 (below_size (by repeat (first | (with_reducible first | exact HB.out | apply below_alloc | apply pw_below_drewN | apply below_drew1) | exact HB.out | exact Below.refl _ _)))); have n1_ := Aside0.mk (below_step (by repeat (first | (with_reducible first | exact HB.out | apply below_alloc | apply pw_below_drewN | apply below_drew1) | exact HB.out | exact Below.refl _ _)) hb); clear HB; have HO209 := n0_; have HB := n1_; clear n0_ n1_; clear hb ho66) | ((with_reducible refine gate_callee (f := 38) rfl ?_); refine goesL_ (some 119) rfl rfl Tryd.func38 (by kernel_rfl) rfl #[.slice A0 l0.length c0, .int .i64 9] rfl (by (try simp only [List.map_toArray, List.map_cons, List.map_nil]); first | done | rfl | (simp only [List.length_drop, List.length_take]; rfl)) ?_; (with_reducible refine (laws_vAt.calls _ _ l0 9 t210 _ ?side1 ?side2 A38.out).mono ?_); (case side1 => repeat (first | exact (Kd.C_below HR0.out HB.out) | (with_reducible refine Kd.C_alloc ?_ _) | (with_reducible refine Kd.C_drewN ?_ _) | (with_reducible refine Kd.C_drew ?_))); (case side2 => exact HC0.out); rintro e w' ⟨rfl, ⟨nd, rfl⟩⟩; refine ⟨_, rfl, ?_⟩; (try (rw [drewN_self w65]; generalize hq_ : World.drewN w65 _ = w65; have n0_ : Aside0 (BC.R 5 w65 w.heap.size (fun _ => True) v208 y207) := ⟨by rw [← hq_]; exact (by (with_reducible repeat (first | apply BC.R_alloc | apply BC.R_drewN | apply BC.R_drew)); exact HO209.out)⟩; have n1_ : Aside0 (Below w.heap.size w w65) := ⟨by rw [← hq_]; exact (by repeat (first | (with_reducible first | exact HB.out | apply below_alloc | apply pw_below_drewN | apply below_drew1) | exact HB.out | exact Below.refl _ _))⟩; clear HO209 HB hq_; have HO209 := n0_; have HB := n1_; clear n0_ n1_)); obtain ⟨Ao67, co67, eo67⟩ := BC.R_slice HO209.out; subst eo67))
                            have n0_ := Aside0.mk (BC.R_drew HO209.out)
                            have n1_ := Aside0.mk (below_drew1 HB.out)
                            clear HO209
                            clear HB
                            have HO209 := n0_
                            have HB := n1_
                            clear n0_ n1_
                            have p211 : 0 ≤ ((ji40) : Int) := of_decide_eq_true (by first | (with_reducible assumption) | assumption)
                            have q211 : (ji40) < (y207.length : Int) := of_decide_eq_true (by first | (with_reducible assumption) | assumption)
                            obtain ⟨ad211, e211, hx211_0⟩ := Kd.at_int (BC.R_reads' HO209.out).2.2 (ji40) p211 q211
                            cases e211
                            replace p211 := eq_true p211
                            replace q211 := eq_true q211
                            refine start_ (n := 14) (S := fun w' => w'.cell? (ad211.add ((ji40)).toNat) = some (.int .u8 (rd y207 (ji40)))) (ds := [13]) #[false, false, false, false, false, false, false, false, false, false, false, false, false, false] (by kernel_rfl) rfl rfl (hx211_0) (fun hHeld => ?_); refine with_tabW laws_FnStrings.tab22 laws_FnStrings.bits22 (fun HT_ HW_ => ?_)
                            generalize w65.drew = w68 at HO209 HB hx211_0 hHeld ⊢
                            refine pure_ (i := 0) (N := some 123) (v := ?_) (a' := ?_) #[true, false, false, false, false, false, false, false, false, false, false, false, false, false] rfl rfl (any_of HT_.out (by kernel_rfl)) (fun _ _ _ h => h) (Or.inl ⟨by rfl, ?_⟩) ?_ ?_
                            rotate_left
                            · intro w'
                              go_simp
                              with_reducible rfl
                            rotate_left
                            · simp only [Act.put, List.setIfInBounds_toArray, List.set_cons_zero, List.set_cons_succ, i64_w, i32_w]
                              rfl
                            refine pure_ (i := 1) (N := some 124) (v := ?_) (a' := ?_) #[true, true, false, false, false, false, false, false, false, false, false, false, false, false] rfl rfl (any_of HT_.out (by kernel_rfl)) (fun _ _ _ h => h) (Or.inl ⟨by rfl, ?_⟩) ?_ ?_
                            rotate_left
                            · intro w'
                              go_simp
                              with_reducible rfl
                            rotate_left
                            · simp only [Act.put, List.setIfInBounds_toArray, List.set_cons_zero, List.set_cons_succ, i64_w, i32_w]
                              rfl
                            refine pure_ (i := 2) (N := some 125) (v := ?_) (a' := ?_) #[true, true, true, false, false, false, false, false, false, false, false, false, false, false] rfl rfl (any_of HT_.out (by kernel_rfl)) (fun _ _ _ h => h) (Or.inl ⟨by rfl, ?_⟩) ?_ ?_
                            rotate_left
                            · intro w'
                              go_simp
                              with_reducible rfl
                            rotate_left
                            · simp only [Act.put, List.setIfInBounds_toArray, List.set_cons_zero, List.set_cons_succ, i64_w, i32_w]
                              rfl
                            refine pure_ (i := 3) (N := some 126) (v := ?_) (a' := ?_) #[true, true, true, true, false, false, false, false, false, false, false, false, false, false] rfl rfl (any_of HT_.out (by kernel_rfl)) (fun _ _ _ h => h) (Or.inl ⟨by rfl, ?_⟩) ?_ ?_
                            rotate_left
                            · intro w'
                              go_simp
                              with_reducible rfl
                            rotate_left
                            · simp only [Act.put, List.setIfInBounds_toArray, List.set_cons_zero, List.set_cons_succ, i64_w, i32_w]
                              rfl
                            refine pure_ (i := 4) (N := some 127) (v := ?_) (a' := ?_) #[true, true, true, true, true, false, false, false, false, false, false, false, false, false] rfl rfl (any_of HT_.out (by kernel_rfl)) (fun _ _ _ h => h) (Or.inl ⟨by rfl, ?_⟩) ?_ ?_
                            rotate_left
                            · intro w'
                              go_simp
                              with_reducible rfl
                            rotate_left
                            · simp only [Act.put, List.setIfInBounds_toArray, List.set_cons_zero, List.set_cons_succ, i64_w, i32_w]
                              rfl
                            refine pure_ (i := 6) (N := some 129) (v := ?_) (a' := ?_) #[true, true, true, true, true, false, true, false, false, false, false, false, false, false] rfl rfl (any_of HT_.out (by kernel_rfl)) (fun _ _ _ h => h) (Or.inl ⟨by rfl, ?_⟩) ?_ ?_
                            rotate_left
                            · intro w'
                              go_simp
                              with_reducible rfl
                            rotate_left
                            · simp only [Act.put, List.setIfInBounds_toArray, List.set_cons_zero, List.set_cons_succ, i64_w, i32_w]
                              rfl
                            refine take_ (i := 5) (N := some 128) (v := ?_) (a' := ?_) #[true, true, true, true, true, true, true, false, false, false, false, false, false, false] rfl rfl (take_ofW HT_.out HW_.out (by kernel_rfl)) (fun _ _ _ h => h) (Or.inl ⟨by rfl, ?_⟩) hHeld ?_ ?_
                            rotate_left
                            · intro w' s0
                              go_simp
                              with_reducible rfl
                            rotate_left
                            · simp only [Act.put, List.setIfInBounds_toArray, List.set_cons_zero, List.set_cons_succ, i64_w, i32_w]
                              rfl
                            refine one_ (i := 7) (N := some 130) #[true, true, true, true, true, true, true, true, false, false, false, false, false, false] rfl rfl (one_of HT_.out (by kernel_rfl)) (by decide) (fun K hK => ?_)
                            refine goes_ Tryd.func38 (by kernel_rfl) rfl #[.slice A0 l0.length c0, .int .i64 10] (by rfl) rfl rfl (by (try simp only [List.map_toArray, List.map_cons, List.map_nil]); first | done | rfl | (simp only [List.length_drop, List.length_take]; rfl)) ?_
                            with_reducible refine (laws_vAt.calls _ _ l0 10 t212 _ ?side1 ?side2 A43.out).mono ?_
                            (case side1 => repeat (first | exact (Kd.C_below HR0.out HB.out) | (with_reducible refine Kd.C_alloc ?_ _) | (with_reducible refine Kd.C_drewN ?_ _) | (with_reducible refine Kd.C_drew ?_)))
                            (case side2 => exact HC0.out)
                            rintro e w' ⟨rfl, ⟨nd, rfl⟩⟩
                            refine ⟨_, rfl, ?_⟩
                            have p44 : 0 ≤ ((ji40) : Int) := of_decide_eq_true (by first | (with_reducible assumption) | assumption)
                            have q44 : ((ji40) : Int) < ((y207.length : Int) : Int) := of_decide_eq_true (by first | (with_reducible assumption) | assumption)
                            obtain ⟨go44, co44, eo44, gb44, gl44, cl44, HG44⟩ := BC.R_form HO209.out (by omega)
                            (first | cases eo44 | (injection eo44 with ea_ en_ ec_; (first | subst ea_ | (injection ea_ with ea_; subst ea_)); subst ec_; clear en_))
                            have GB44 := Aside0.mk gb44
                            have GG44 := Aside0.mk HG44
                            clear gb44 gl44 HG44
                            (first | simp only [add_plain] at hx211_0 | skip)
                            obtain ⟨hx44_0, hf44_0⟩ := BC.R_celln 0 HO209.out ((ji40) : Int) p44 q44
                            replace p44 := eq_true p44
                            replace q44 := eq_true q44
                            have HP69 := BC.R_putn HO209.out ((ji40) : Int) (Go.bits .xor .u8 (rd y207 (ji40)) ((wrap64 (1 + (Int.tmod t212 255))) % 256))
                            rw [← Ny213.out] at HP69
                            have HQ69 := Aside0.mk HP69
                            clear HP69
                            refine hK.out _ _ (hHeld) (fun hHeld => ?_)
                            clear hK K
                            refine norm_ (a' := ?_) ?_ ?_
                            rotate_left
                            · show Act.put _ (some 130) _ = _
                              simp only [Act.put, List.setIfInBounds_toArray, List.set_cons_zero, List.set_cons_succ, i64_w, i32_w]
                              rfl
                            refine pure_ (i := 8) (N := some 131) (v := ?_) (a' := ?_) #[true, true, true, true, true, true, true, true, true, false, false, false, false, false] rfl rfl (any_of HT_.out (by kernel_rfl)) (fun _ _ _ h => h) (Or.inl ⟨by rfl, ?_⟩) ?_ ?_
                            rotate_left
                            · intro w'
                              go_simp
                              with_reducible rfl
                            rotate_left
                            · simp only [Act.put, List.setIfInBounds_toArray, List.set_cons_zero, List.set_cons_succ, i64_w, i32_w]
                              rfl
                            refine pure_ (i := 9) (N := some 132) (v := ?_) (a' := ?_) #[true, true, true, true, true, true, true, true, true, true, false, false, false, false] rfl rfl (any_of HT_.out (by kernel_rfl)) (fun _ _ _ h => h) (Or.inl ⟨by rfl, ?_⟩) ?_ ?_
                            rotate_left
                            · intro w'
                              go_simp
                              with_reducible rfl
                            rotate_left
                            · simp only [Act.put, List.setIfInBounds_toArray, List.set_cons_zero, List.set_cons_succ, i64_w, i32_w]
                              rfl
                            refine pure_ (i := 10) (N := some 133) (v := ?_) (a' := ?_) #[true, true, true, true, true, true, true, true, true, true, true, false, false, false] rfl rfl (any_of HT_.out (by kernel_rfl)) (fun _ _ _ h => h) (Or.inl ⟨by rfl, ?_⟩) ?_ ?_
                            rotate_left
                            · intro w'
                              go_simp
                              with_reducible rfl
                            rotate_left
                            · simp only [Act.put, List.setIfInBounds_toArray, List.set_cons_zero, List.set_cons_succ, i64_w, i32_w]
                              rfl
                            refine pure_ (i := 11) (N := some 134) (v := ?_) (a' := ?_) #[true, true, true, true, true, true, true, true, true, true, true, true, false, false] rfl rfl (any_of HT_.out (by kernel_rfl)) (fun _ _ _ h => h) (Or.inl ⟨by rfl, ?_⟩) ?_ ?_
                            rotate_left
                            · intro w'
                              go_simp
                              with_reducible rfl
                            rotate_left
                            · simp only [Act.put, List.setIfInBounds_toArray, List.set_cons_zero, List.set_cons_succ, i64_w, i32_w]
                              rfl
                            refine pure_ (i := 12) (N := some 135) (v := ?_) (a' := ?_) #[true, true, true, true, true, true, true, true, true, true, true, true, true, false] rfl rfl (any_of HT_.out (by kernel_rfl)) (fun _ _ _ h => h) (Or.inl ⟨by rfl, ?_⟩) ?_ ?_
                            rotate_left
                            · intro w'
                              go_simp
                              with_reducible rfl
                            rotate_left
                            · simp only [Act.put, List.setIfInBounds_toArray, List.set_cons_zero, List.set_cons_succ, i64_w, i32_w]
                              rfl
                            refine last_ (i := 13) (N := none) #[true, true, true, true, true, true, true, true, true, true, true, true, true, true] rfl rfl (one_of HT_.out (by kernel_rfl)) (by decide) (fun K hK => ?_)
                            refine skip_ (w1 := ?_) (by rfl) rfl ?_ ?_
                            rotate_left
                            · go_simp
                              rfl
                            refine hK.out _ _ ?_
                            clear hK K
                            refine done_ (done_of HT_.out (by kernel_rfl)) ?_
                            (try clear hHeld)
                            (try clear hHeld)
                            have hcv70 := fun (m_ : Nat) => BC.own_string (P := Tryd.prog) Tryd.underlying48 Tryd.underlying5 Tryd.underlying9 (BC.R_putn (BC.R_drewN HO209.out m_) ((ji40) : Int) (Go.bits .xor .u8 (rd y207 (ji40)) ((wrap64 (1 + (Int.tmod t212 255))) % 256)))
                            rw [← Ny213.out] at hcv70
                            replace hcv70 := hcv70 nd
                            try go_wp2_with (first | ((with_reducible refine gate_callee (f := 22) rfl ?_); refine goesL_ (some 139) rfl rfl Tryd.func22 (by kernel_rfl) rfl #[.string (strOfNums y213)] rfl (by (try simp only [List.map_toArray, List.map_cons, List.map_nil]); first | done | rfl | (simp only [List.length_drop, List.length_take]; rfl)) ?_; (with_reducible refine (impl_VerifyChecksum.calls kj29 (strOfNums y213) t214 t215 _ ?side1 A45.out).mono ?_); (case side1 => exact Tabs.below HT.out (by repeat (first | (with_reducible first | exact HB.out | apply below_alloc | apply pw_below_drewN | apply below_drew1 | refine below_set ?_ GB44.out) | exact HB.out))); rintro e w71 ⟨rfl, hb⟩; refine ⟨_, rfl, ?_⟩; have n0_ := Aside0.mk (BC.R_below (by (with_reducible repeat (first | apply BC.R_alloc | apply BC.R_drewN | apply BC.R_drew)); exact HQ69.out) hb); have n1_ := Aside0.mk (below_step (by repeat (first | (with_reducible first | exact HB.out | apply below_alloc | apply pw_below_drewN | apply below_drew1 | refine below_set ?_ GB44.out) | exact HB.out)) hb); clear HO209; clear HB; have HO209 := n0_; have HB := n1_; clear n0_ n1_; (try clear hb); (try clear hb2); (try clear hk); (try clear hi)))
                            try (go_simp; go_wp2_with (first | ((with_reducible refine gate_callee (f := 22) rfl ?_); refine goesL_ (some 139) rfl rfl Tryd.func22 (by kernel_rfl) rfl #[.string (strOfNums y213)] rfl (by (try simp only [List.map_toArray, List.map_cons, List.map_nil]); first | done | rfl | (simp only [List.length_drop, List.length_take]; rfl)) ?_; (with_reducible refine (impl_VerifyChecksum.calls kj29 (strOfNums y213) t214 t215 _ ?side1 A45.out).mono ?_); (case side1 => exact Tabs.below HT.out (by repeat (first | (with_reducible first | exact HB.out | apply below_alloc | apply pw_below_drewN | apply below_drew1 | refine below_set ?_ GB44.out) | exact HB.out))); rintro e w71 ⟨rfl, hb⟩; refine ⟨_, rfl, ?_⟩; have n0_ := Aside0.mk (BC.R_below (by (with_reducible repeat (first | apply BC.R_alloc | apply BC.R_drewN | apply BC.R_drew)); exact HQ69.out) hb); have n1_ := Aside0.mk (below_step (by repeat (first | (with_reducible first | exact HB.out | apply below_alloc | apply pw_below_drewN | apply below_drew1 | refine below_set ?_ GB44.out) | exact HB.out)) hb); clear HO209; clear HB; have HO209 := n0_; have HB := n1_; clear n0_ n1_; (try clear hb); (try clear hb2); (try clear hk); (try clear hi))))
                            go_ret
                            exact ⟨by first | rfl | (simp [errW_none, errW_some] <;> rfl) | (simp only [← hji40]; first | rfl | (simp [errW_none, errW_some] <;> rfl)) | (simp [*, errW_none, errW_some] <;> rfl), by repeat (first | (with_reducible first | exact HB.out | apply below_alloc | apply pw_below_drewN | apply below_drew1) | exact HB.out | exact Below.refl _ _)⟩
                        · rw [if_neg c42] at H
                          exact absurd H (by simp)
                      · rw [if_neg c41] at H
                        exact absurd H (by simp)
                  · rw [if_neg c37] at H
                    exact absurd H (by simp)
                · replace c35 := Bool.eq_false_iff.mpr c35
                  subst c35
                  have H1 : (some (t199.toList == ([] : List UInt8))) = some r := by rw [if_neg (show ¬ (false = true) by decide)] at H; exact H
                  clear H
                  have H := H1
                  clear H1
                  obtain rfl := Option.some.inj H
                  go_wp2
                  go_ret
                  exact ⟨by first | rfl | (simp [errW_none, errW_some] <;> rfl) | (simp [*, errW_none, errW_some] <;> rfl), by repeat (first | (with_reducible first | exact HB.out | apply below_alloc | apply pw_below_drewN | apply below_drew1) | exact HB.out | exact Below.refl _ _)⟩

/-- THE ONE PURE STATEMENT of laws_FnStrings: yours. -/
def laws_FnStrings.Pure : Prop := ∀ (l0 : List Int), l0.length ≤ maxLen → l0.length * 1 ≤ 140737488351232 → (∀ x ∈ l0, (Lit.int .u8 x).wf = true) → ∃ k, laws_FnStrings.f k l0 = some true
theorem laws_FnStrings.walk (P : laws_FnStrings.Pure) (a0 : Option Addr) (len0 cap0 : Nat) (z0 : List Int) (w : World) (w0 : (a0 = none ∧ len0 = 0 ∧ cap0 = 0 ∧ z0 = []) ∨ ∃ x, a0 = some x ∧ len0 ≤ cap0 ∧ cap0 ≤ maxLen ∧ z0.length = cap0 ∧ (∀ i, i < z0.length → w.cell? (x.add i) = some (.int .u8 (z0.getD i 0))) ∧ ∀ n ∈ z0, (Lit.int .u8 n).wf = true) (y0 : len0 * 1 ≤ 140737488351232) (hT : Tabs w) :
    Calls Tryd.prog 10 #[.slice a0 len0 cap0] w fun e w' => e = .returned (.bool true) ∧ Below w.heap.size w w' := by
  obtain ⟨l0, rfl, hr0, hm0, hw0, hc0⟩ := ReadsInt.ofRowC w0
  obtain ⟨k, h⟩ := P l0 hm0 y0 hw0
  refine (laws_FnStrings.calls k _ _ l0 true w (Kd.C_of_reads (d := (0 : Int)) (h1 := fun _ => rfl) hr0) hc0 hT h).mono ?_
  rintro e w' ⟨rfl, hd⟩
  exact ⟨rfl, hd⟩

end Go.Proofs.YtkgjacacldcacaaDoor.QFnStrings
