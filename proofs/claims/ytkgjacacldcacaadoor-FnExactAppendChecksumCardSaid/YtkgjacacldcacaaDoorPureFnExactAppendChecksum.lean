/- Proved: the law FnExactAppendChecksum answers true for every text; no condition. -/
import Derived.Test.YtkgjacacldcacaaDoorQFnExactAppendChecksumx2
import Derived.Lib.ItoaLen
import Derived.Lib.IndexAny
import Derived.Test.YtkgjacacldcacaaDoorBase
set_option linter.unusedVariables false
set_option linter.unusedSimpArgs false
namespace Go.Proofs.YtkgjacacldcacaaDoor.Pure
open Go.RowKit Go.Proofs.YtkgjacacldcacaaDoor.QFnExactAppendChecksum Go.Proofs.YtkgjacacldcacaaDoorW.PrintWords Go.Proofs.YtkgjacacldcacaaDoorW.PrintLast Go.Proofs.YtkgjacacldcacaaDoorW.PrintMore Go.Proofs.YtkgjacacldcacaaDoor.Base

theorem spec_l1Sum_some (s : ByteArray) (hs : s.size ≤ 1048576) : ∀ (k i : Nat) (h : Int), i ≤ s.size → s.size < i + k → ∃ r, spec_l1Sum.l0 k s h (i : Int) = some r
  | 0, i, h, _, hk => by omega
  | k + 1, i, h, hi, hk => by
    simp only [spec_l1Sum.l0]
    by_cases e : i < s.size
    · rw [if_pos (by omega), if_pos (by omega), w64_nat (by omega)]
      exact spec_l1Sum_some s hs k (i + 1) _ (by omega) (by omega)
    · rw [if_neg (by omega)]
      exact ⟨_, rfl⟩
theorem impl_checksum_same (s : ByteArray) : ∀ (k : Nat) (h i : Int), impl_checksum.l0 k s h (s.size : Int) i = spec_l1Sum.l0 k s h i
  | 0, h, i => rfl
  | k + 1, h, i => by
    simp only [impl_checksum.l0, spec_l1Sum.l0]
    by_cases e : i < (s.size : Int)
    · rw [if_pos e, if_pos e, if_pos e, impl_checksum_same s k]
    · rw [if_neg e, if_neg e]
theorem ev_of {α : Type} {g : Nat → Option α} {r : α} (B : Nat) (h : ∀ k, B < k → g k = some r) : Ev g r := ⟨B + 1, fun k hk => h k (by omega)⟩
theorem ev_const {α : Type} (r : α) : Ev (fun _ => some r) r := Ev.now r
theorem ev_if_pos {α : Type} {c : Prop} [Decidable c] {f g : Nat → Option α} {r : α} (h : c) (k : Ev f r) : Ev (fun n => if c then f n else g n) r := Ev.congr (fun n => if_pos h) k
theorem ev_if_neg {α : Type} {c : Prop} [Decidable c] {f g : Nat → Option α} {r : α} (h : ¬ c) (k : Ev g r) : Ev (fun n => if c then f n else g n) r := Ev.congr (fun n => if_neg h) k
/-- the numeral of a number -/
def numB (n : Int) : ByteArray := ⟨(Go.Lib.itoa n).toArray⟩
theorem dig_is : ∀ (u : Nat), u < 10 → (⟨#[48, 49, 50, 51, 52, 53, 54, 55, 56, 57]⟩ : ByteArray).extract u (u + 1) = ⟨[UInt8.ofNat (48 + u)].toArray⟩
  | 0, _ => rfl
  | 1, _ => rfl
  | 2, _ => rfl
  | 3, _ => rfl
  | 4, _ => rfl
  | 5, _ => rfl
  | 6, _ => rfl
  | 7, _ => rfl
  | 8, _ => rfl
  | 9, _ => rfl
  | n + 10, h => by omega
theorem decDigits_le (u : Nat) : (Go.Lib.decDigits u).length ≤ u + 1 := by
  induction u using Nat.strongRecOn with
  | _ u ih =>
    rw [Go.Lib.decDigits]
    split
    · simp
    · have := ih (u / 10) (by omega)
      rw [List.length_append]
      simp only [List.length_singleton]
      omega
theorem bytes_app (a b : List UInt8) : (⟨a.toArray⟩ ++ ⟨b.toArray⟩ : ByteArray) = ⟨(a ++ b).toArray⟩ := by
  apply ByteArray.ext
  simp [ByteArray.data_append]
theorem bytes_size (a : List UInt8) : (⟨a.toArray⟩ : ByteArray).size = a.length := by
  show a.toArray.size = _
  simp
theorem l1Num_nat (u : Nat) (hu : u ≤ 4611686018427387904) : Ev (fun k => spec_l1Num.f k (u : Int)) (⟨(Go.Lib.decDigits u).toArray⟩ : ByteArray) := by
  induction u using Nat.strongRecOn with
  | _ u ih =>
    by_cases c : u < 10
    · rw [Go.Lib.decDigits, dif_pos c, ← dig_is u c]
      have e1 : wrap64 ((u : Int) + 1) = ((u + 1 : Nat) : Int) := w64_nat (by omega)
      refine Ev.step (f := fun _ => some ((⟨#[48, 49, 50, 51, 52, 53, 54, 55, 56, 57]⟩ : ByteArray).extract u (u + 1))) (fun k => ?_) (ev_const _)
      rw [spec_l1Num.f, if_neg (by omega), if_pos (by omega), if_pos (by omega), e1, if_pos (by omega), if_pos (by omega)]
      rfl
    · have ih2 := ih (u / 10) (by omega) (by omega)
      have ed : wrap64 (Int.tdiv (u : Int) 10) = ((u / 10 : Nat) : Int) := by
        rw [show Int.tdiv (u : Int) 10 = ((u / 10 : Nat) : Int) from rfl]
        exact w64 (by omega) (by omega)
      have em : Int.tmod (u : Int) 10 = ((u % 10 : Nat) : Int) := rfl
      have e1 : wrap64 (((u % 10 : Nat) : Int) + 1) = ((u % 10 + 1 : Nat) : Int) := w64_nat (by omega)
      have hx := dig_is (u % 10) (Nat.mod_lt _ (by omega))
      have hl := decDigits_le (u / 10)
      rw [Go.Lib.decDigits, dif_neg c]
      refine Ev.step (f := fun k => (spec_l1Num.f k ((u / 10 : Nat) : Int)).bind fun t => if t.size + 1 ≤ 9223372036854775807 then some (t ++ ⟨[UInt8.ofNat (48 + u % 10)].toArray⟩) else none) (fun k => ?_) (Ev.bind ih2 (ev_if_pos ?_ ?_))
      · rw [spec_l1Num.f, if_neg (by omega), if_neg (by omega), ed, em, e1]
        congr 1
        funext t
        rw [if_pos (by omega), if_pos (by omega), if_pos (by omega), Int.toNat_natCast, Int.toNat_natCast, hx, bytes_size]
        rfl
      · rw [bytes_size]
        omega
      · rw [bytes_app]
        exact ev_const _
theorem l1Num_ev (n : Int) (h : -4611686018427387904 ≤ n ∧ n ≤ 4611686018427387904) : Ev (fun k => spec_l1Num.f k n) (numB n) := by
  unfold numB Go.Lib.itoa
  by_cases c : n < 0
  · rw [if_pos c]
    obtain ⟨u, rfl⟩ : ∃ u : Nat, n = -(u : Int) := ⟨n.natAbs, by omega⟩
    have hx := l1Num_nat u (by omega)
    have hl := decDigits_le u
    rw [show (-(u : Int)).natAbs = u by omega]
    refine Ev.step (f := fun k => (spec_l1Num.f k (u : Int)).bind fun t => if 1 + t.size ≤ 9223372036854775807 then some ((⟨#[45]⟩ : ByteArray) ++ t) else none) (fun k => ?_) (Ev.bind hx (ev_if_pos ?_ ?_))
    · rw [spec_l1Num.f, if_pos c, Int.neg_neg, w64 (x := (u : Int)) (by omega) (by omega)]
    · rw [bytes_size]
      omega
    · rw [show (⟨#[45]⟩ : ByteArray) = ⟨([45] : List UInt8).toArray⟩ from rfl, bytes_app]
      exact ev_const _
  · rw [if_neg c]
    obtain ⟨u, rfl⟩ := Int.eq_ofNat_of_zero_le (show 0 ≤ n by omega)
    exact l1Num_nat u (by omega)
theorem bt_get (s : ByteArray) (i : Nat) (h : i < s.size) : bt s (i : Int) = (((s.data.toList[i]'h).toNat : Nat) : Int) := by
  rw [← bt_at s (i : Int) h]
  rfl
theorem u8_ne {a b : UInt8} (h : a ≠ b) : ¬ ((a.toNat : Nat) : Int) = ((b.toNat : Nat) : Int) := fun e => h (UInt8.toNat_inj.1 (by omega))
theorem bsize (s : ByteArray) : s.data.toList.length = s.size := rfl
/-- a byte that stands in a text -/
theorem stands_l (s : ByteArray) (c : UInt8) (hs : s.size ≤ 1048576) : ∀ (j i : Nat), i + j = s.size → Ev (fun k => spec_l1Stands.l0 k s ((c.toNat : Nat) : Int) (i : Int)) ((s.data.toList.drop i).contains c)
  | 0, i, hj => by
    rw [List.drop_of_length_le (by rw [bsize]; omega)]
    refine Ev.step (f := fun _ => some false) (fun k => ?_) (ev_const _)
    rw [spec_l1Stands.l0, if_neg (by omega)]
  | j + 1, i, hj => by
    have hi : i < s.data.toList.length := by rw [bsize]; omega
    have e := bt_get s i hi
    rw [List.drop_eq_getElem_cons hi, List.contains_cons]
    by_cases c1 : s.data.toList[i] = c
    · refine Ev.step (f := fun _ => some true) (fun k => ?_) ?_
      · rw [spec_l1Stands.l0, if_pos (by omega), if_pos (by omega), e, if_pos (by rw [c1])]
      · rw [c1]
        simp only [BEq.rfl, Bool.true_or]
        exact ev_const _
    · have ih := stands_l s c hs j (i + 1) (by omega)
      refine Ev.step (fun k => ?_) (f := fun k => spec_l1Stands.l0 k s ((c.toNat : Nat) : Int) ((i + 1 : Nat) : Int)) ?_
      · rw [spec_l1Stands.l0, if_pos (by omega), if_pos (by omega), e, if_neg (u8_ne c1), w64_nat (by omega)]
      · have : (c == s.data.toList[i]) = false := beq_eq_false_iff_ne.2 (Ne.symm c1)
        rw [this, Bool.false_or]
        exact ih
theorem stands_ev (s : ByteArray) (c : UInt8) (hs : s.size ≤ 1048576) : Ev (fun k => spec_l1Stands.f k s ((c.toNat : Nat) : Int)) (s.data.toList.contains c) := by
  have := stands_l s c hs s.size 0 (by omega)
  rw [List.drop_zero] at this
  exact this
/-- the checksum, from h on -/
def ckL : List UInt8 → Int → Int
  | [], h => h
  | b :: l, h => ckL l ((41 * h + ((b.toNat : Nat) : Int) + 1) % 999979)
theorem ck_range : ∀ (l : List UInt8) (h : Int), 0 ≤ h → h < 999979 → 0 ≤ ckL l h ∧ ckL l h < 999979
  | [], h, h0, h1 => ⟨h0, h1⟩
  | b :: l, h, h0, h1 => by
    rw [ckL]
    exact ck_range l _ (by omega) (by omega)
theorem ck_l (s : ByteArray) (hs : s.size ≤ 1048576) : ∀ (j i : Nat) (h : Int), i + j = s.size → 0 ≤ h → h < 999979 → Ev (fun k => spec_l1Sum.l0 k s h (i : Int)) (ckL (s.data.toList.drop i) h)
  | 0, i, h, hj, h0, h1 => by
    rw [List.drop_of_length_le (by rw [bsize]; omega)]
    refine Ev.step (f := fun _ => some h) (fun k => ?_) (ev_const _)
    rw [spec_l1Sum.l0, if_neg (by omega)]
  | j + 1, i, h, hj, h0, h1 => by
    have hi : i < s.data.toList.length := by rw [bsize]; omega
    have e := bt_get s i hi
    have hb := s.data.toList[i].toNat_lt
    rw [List.drop_eq_getElem_cons hi, ckL]
    have ih := ck_l s hs j (i + 1) ((41 * h + ((s.data.toList[i].toNat : Nat) : Int) + 1) % 999979) (by omega) (by omega) (by omega)
    refine Ev.step (fun k => ?_) ih
    rw [spec_l1Sum.l0, if_pos (by omega), if_pos (by omega), e, w64_nat (by omega), w64 (x := 41 * h) (by omega) (by omega), w64 (x := ((s.data.toList[i].toNat : Nat) : Int)) (by omega) (by omega), w64 (x := 41 * h + ((s.data.toList[i].toNat : Nat) : Int)) (by omega) (by omega), w64 (x := 41 * h + ((s.data.toList[i].toNat : Nat) : Int) + 1) (by omega) (by omega), Int.tmod_eq_emod_of_nonneg (by omega)]
def ckB (s : ByteArray) : Int := ckL s.data.toList 7
theorem ckB_range (s : ByteArray) : 0 ≤ ckB s ∧ ckB s < 999979 := ck_range _ 7 (by omega) (by omega)
theorem l1Sum_ev (s : ByteArray) (hs : s.size ≤ 1048576) : Ev (fun k => spec_l1Sum.f k s) (ckB s) := by
  have := ck_l s hs s.size 0 7 (by omega) (by omega) (by omega)
  rw [List.drop_zero] at this
  exact this
theorem checksum_ev (s : ByteArray) (hs : s.size ≤ 1048576) : Ev (fun k => impl_checksum.f k s) (ckB s) := by
  refine Ev.congr (fun k => ?_) (l1Sum_ev s hs)
  unfold impl_checksum.f spec_l1Sum.f
  exact impl_checksum_same s k 7 0
/-- a text with its checksum -/
def sealB (s : ByteArray) : ByteArray := (s ++ (⟨#[35]⟩ : ByteArray)) ++ numB (ckB s)
theorem numB_size (n : Int) (h : -9223372036854775808 ≤ n ∧ n ≤ 9223372036854775807) : (numB n).size ≤ 21 := by
  unfold numB
  rw [bytes_size]
  exact Go.Lib.itoa_length_le n h.1 h.2
theorem size_one (s : ByteArray) : (s ++ (⟨#[35]⟩ : ByteArray)).size = s.size + 1 := by
  rw [ByteArray.size_append]
  rfl
theorem itoa_ev (n : Int) (h : -9223372036854775808 ≤ n ∧ n ≤ 9223372036854775807) : Ev (fun k => strconv_Itoa.f k n) (numB n) := by
  unfold strconv_Itoa.f
  exact ev_if_pos h.1 (ev_if_pos h.2 (ev_const _))
theorem l1Seal_ev (s : ByteArray) (hs : s.size ≤ 1048576) : Ev (fun k => spec_l1Seal.f k s) (sealB s) := by
  have r := ckB_range s
  have z := numB_size (ckB s) (by omega)
  unfold spec_l1Seal.f
  refine ev_if_pos (by omega) (Ev.bind (l1Sum_ev s hs) (Ev.bind (l1Num_ev (ckB s) (by omega)) (ev_if_pos ?_ (ev_const _))))
  rw [size_one]
  omega
/-- what AppendChecksum tells -/
def apc (s : ByteArray) : ByteArray × Bool := if (s.size : Int) > 4000 then (⟨#[]⟩, false) else if s.data.toList.contains 35 = true then (⟨#[]⟩, false) else if ((sealB s).size : Int) > 4000 then (⟨#[]⟩, false) else (sealB s, true)
theorem impl_append_ev (s : ByteArray) (hs : s.size ≤ 1048576) : Ev (fun k => impl_AppendChecksum.f k s) (apc s) := by
  have r := ckB_range s
  have z := numB_size (ckB s) (by omega)
  unfold impl_AppendChecksum.f apc
  by_cases c1 : (s.size : Int) > 4000
  · rw [if_pos c1]
    refine ev_if_pos c1 (Ev.step (f := fun _ => some (⟨#[]⟩, false)) (fun k => ?_) (ev_const _))
    rw [impl_AppendChecksum.j0, if_pos rfl]
  · rw [if_neg c1]
    have ct : Ev (fun k => strings_Contains.f k s (⟨#[35]⟩ : ByteArray)) (s.data.toList.contains 35) := by
      rw [Go.Lib.contains_iff_indexByte]
      exact ev_const _
    refine ev_if_neg c1 (Ev.bind ct ?_)
    by_cases c2 : s.data.toList.contains 35 = true
    · rw [if_pos c2, c2]
      refine Ev.step (f := fun _ => some (⟨#[]⟩, false)) (fun k => ?_) (ev_const _)
      rw [impl_AppendChecksum.j0, if_pos rfl]
    · rw [if_neg c2, Bool.eq_false_iff.2 c2]
      have hz : (s ++ (⟨#[35]⟩ : ByteArray)).size + (numB (ckB s)).size ≤ 9223372036854775807 := by rw [size_one]; omega
      refine Ev.step (f := fun k => (impl_checksum.f k s).bind fun t => (strconv_Itoa.f k t).bind fun u => if (s ++ (⟨#[35]⟩ : ByteArray)).size + u.size ≤ 9223372036854775807 then (if (((s ++ (⟨#[35]⟩ : ByteArray)) ++ u).size : Int) > 4000 then some ((⟨#[]⟩ : ByteArray), false) else some ((s ++ (⟨#[35]⟩ : ByteArray)) ++ u, true)) else none) (fun k => by rw [impl_AppendChecksum.j0, if_neg (by simp), if_pos (by omega)]) (Ev.bind (checksum_ev s hs) (Ev.bind (itoa_ev (ckB s) (by omega)) (ev_if_pos hz ?_)))
      show Ev (fun _ => if ((sealB s).size : Int) > 4000 then some ((⟨#[]⟩ : ByteArray), false) else some (sealB s, true)) _
      by_cases c3 : ((sealB s).size : Int) > 4000
      · rw [if_pos c3, if_pos c3]
        exact ev_const _
      · rw [if_neg c3, if_neg c3]
        exact ev_const _
theorem spec_append_ev (s : ByteArray) (hs : s.size ≤ 1048576) : Ev (fun k => spec_AppendChecksum.f k s) (apc s) := by
  unfold spec_AppendChecksum.f apc
  by_cases c1 : (s.size : Int) > 4000
  · rw [if_pos c1]
    exact ev_if_pos c1 (ev_const _)
  · rw [if_neg c1]
    refine ev_if_neg c1 (Ev.bind (stands_ev s 35 hs) ?_)
    by_cases c2 : s.data.toList.contains 35 = true
    · rw [if_pos c2]
      exact ev_if_pos c2 (ev_const _)
    · rw [if_neg c2]
      refine ev_if_neg c2 (Ev.bind (l1Seal_ev s hs) ?_)
      by_cases c3 : ((sealB s).size : Int) > 4000
      · rw [if_pos c3]
        exact ev_if_pos c3 (ev_const _)
      · rw [if_neg c3]
        exact ev_if_neg c3 (Ev.bind (l1Seal_ev s hs) (ev_const _))
theorem FnExactAppendChecksum : ∀ (a0 : ByteArray), a0.size ≤ maxLen → ∃ k, laws_FnExactAppendChecksum.f k a0 = some true := by
  intro s _
  refine Ev.rounds (g := fun k => laws_FnExactAppendChecksum.f k s) ?_
  unfold laws_FnExactAppendChecksum.f
  by_cases c : (s.size : Int) > 1048576
  · exact ev_if_pos c (ev_const _)
  · refine ev_if_neg c (Ev.bind (spec_append_ev s (by omega)) (Ev.bind (impl_append_ev s (by omega)) (ev_if_pos rfl (ev_if_neg (by simp) (ev_const _)))))

end Go.Proofs.YtkgjacacldcacaaDoor.Pure
