/- Proved: the law FnStrings answers true for every code: numerals are read back, sealed texts are opened again, a sealed text with one byte changed is refused, and all answer as the reference does on what is drawn; no condition. -/
import Derived.Test.YtkgjacacldcacaaDoorQFnStringsx4
import Derived.Lib.ItoaLen
import Derived.Lib.IndexAny
import Derived.Lib.SplitLaws
import Derived.Lib.IndexBytes
import Derived.Lib.IndexLaws
import Derived.Lib.Atoi
import Derived.Lib.ItoaNum
import Derived.Laws.Bits64b
import Derived.IntWalk
import Derived.Laws.BitsAllLaws
import Derived.Test.YtkgjacacldcacaaDoorBase
set_option linter.unusedVariables false
set_option linter.unusedSimpArgs false
namespace Go.Proofs.YtkgjacacldcacaaDoor.Pure
open Go.RowKit Go.Proofs.YtkgjacacldcacaaDoor.QFnStrings Go.Proofs.YtkgjacacldcacaaDoorW.PrintWords Go.Proofs.YtkgjacacldcacaaDoorW.PrintLast Go.Proofs.YtkgjacacldcacaaDoorW.PrintMore Go.Proofs.YtkgjacacldcacaaDoor.Base

theorem spec_l1In_is (a lo hi : Int) : spec_l1In.f a lo hi = some (inB lo hi a) := by
  unfold spec_l1In.f
  exact within_is a lo hi
theorem impl_within_is (a lo hi : Int) : impl_within.f a lo hi = some (inB lo hi a) := by
  unfold impl_within.f
  exact within_is a lo hi
theorem spec_l1Sum_some (s : ByteArray) (hs : s.size ≤ 1048576) : ∀ (k i : Nat) (h : Int), i ≤ s.size → s.size < i + k → ∃ r, spec_l1Sum.l0 k s h (i : Int) = some r
  | 0, i, h, _, hk => by omega
  | k + 1, i, h, hi, hk => by
    simp only [spec_l1Sum.l0]
    by_cases e : i < s.size
    · rw [if_pos (by omega), if_pos (by omega), w64_nat (by omega)]
      exact spec_l1Sum_some s hs k (i + 1) _ (by omega) (by omega)
    · rw [if_neg (by omega)]
      exact ⟨_, rfl⟩
theorem impl_checksum_same (s : ByteArray) : ∀ (k : Nat) (h i : Int), impl_checksum.l0 k s h (s.size : Int) i = spec_l1Sum.l0 k s h i
  | 0, h, i => rfl
  | k + 1, h, i => by
    simp only [impl_checksum.l0, spec_l1Sum.l0]
    by_cases e : i < (s.size : Int)
    · rw [if_pos e, if_pos e, if_pos e, impl_checksum_same s k]
    · rw [if_neg e, if_neg e]
theorem ev_of {α : Type} {g : Nat → Option α} {r : α} (B : Nat) (h : ∀ k, B < k → g k = some r) : Ev g r := ⟨B + 1, fun k hk => h k (by omega)⟩
theorem ev_const {α : Type} (r : α) : Ev (fun _ => some r) r := Ev.now r
theorem ev_if_pos {α : Type} {c : Prop} [Decidable c] {f g : Nat → Option α} {r : α} (h : c) (k : Ev f r) : Ev (fun n => if c then f n else g n) r := Ev.congr (fun n => if_pos h) k
theorem ev_if_neg {α : Type} {c : Prop} [Decidable c] {f g : Nat → Option α} {r : α} (h : ¬ c) (k : Ev g r) : Ev (fun n => if c then f n else g n) r := Ev.congr (fun n => if_neg h) k
/-- the numeral of a number -/
def numB (n : Int) : ByteArray := ⟨(Go.Lib.itoa n).toArray⟩
theorem dig_is : ∀ (u : Nat), u < 10 → (⟨#[48, 49, 50, 51, 52, 53, 54, 55, 56, 57]⟩ : ByteArray).extract u (u + 1) = ⟨[UInt8.ofNat (48 + u)].toArray⟩
  | 0, _ => rfl
  | 1, _ => rfl
  | 2, _ => rfl
  | 3, _ => rfl
  | 4, _ => rfl
  | 5, _ => rfl
  | 6, _ => rfl
  | 7, _ => rfl
  | 8, _ => rfl
  | 9, _ => rfl
  | n + 10, h => by omega
theorem decDigits_le (u : Nat) : (Go.Lib.decDigits u).length ≤ u + 1 := by
  induction u using Nat.strongRecOn with
  | _ u ih =>
    rw [Go.Lib.decDigits]
    split
    · simp
    · have := ih (u / 10) (by omega)
      rw [List.length_append]
      simp only [List.length_singleton]
      omega
theorem bytes_app (a b : List UInt8) : (⟨a.toArray⟩ ++ ⟨b.toArray⟩ : ByteArray) = ⟨(a ++ b).toArray⟩ := by
  apply ByteArray.ext
  simp [ByteArray.data_append]
theorem bytes_size (a : List UInt8) : (⟨a.toArray⟩ : ByteArray).size = a.length := by
  show a.toArray.size = _
  simp
theorem l1Num_nat (u : Nat) (hu : u ≤ 4611686018427387904) : Ev (fun k => spec_l1Num.f k (u : Int)) (⟨(Go.Lib.decDigits u).toArray⟩ : ByteArray) := by
  induction u using Nat.strongRecOn with
  | _ u ih =>
    by_cases c : u < 10
    · rw [Go.Lib.decDigits, dif_pos c, ← dig_is u c]
      have e1 : wrap64 ((u : Int) + 1) = ((u + 1 : Nat) : Int) := w64_nat (by omega)
      refine Ev.step (f := fun _ => some ((⟨#[48, 49, 50, 51, 52, 53, 54, 55, 56, 57]⟩ : ByteArray).extract u (u + 1))) (fun k => ?_) (ev_const _)
      rw [spec_l1Num.f, if_neg (by omega), if_pos (by omega), if_pos (by omega), e1, if_pos (by omega), if_pos (by omega)]
      rfl
    · have ih2 := ih (u / 10) (by omega) (by omega)
      have ed : wrap64 (Int.tdiv (u : Int) 10) = ((u / 10 : Nat) : Int) := by
        rw [show Int.tdiv (u : Int) 10 = ((u / 10 : Nat) : Int) from rfl]
        exact w64 (by omega) (by omega)
      have em : Int.tmod (u : Int) 10 = ((u % 10 : Nat) : Int) := rfl
      have e1 : wrap64 (((u % 10 : Nat) : Int) + 1) = ((u % 10 + 1 : Nat) : Int) := w64_nat (by omega)
      have hx := dig_is (u % 10) (Nat.mod_lt _ (by omega))
      have hl := decDigits_le (u / 10)
      rw [Go.Lib.decDigits, dif_neg c]
      refine Ev.step (f := fun k => (spec_l1Num.f k ((u / 10 : Nat) : Int)).bind fun t => if t.size + 1 ≤ 9223372036854775807 then some (t ++ ⟨[UInt8.ofNat (48 + u % 10)].toArray⟩) else none) (fun k => ?_) (Ev.bind ih2 (ev_if_pos ?_ ?_))
      · rw [spec_l1Num.f, if_neg (by omega), if_neg (by omega), ed, em, e1]
        congr 1
        funext t
        rw [if_pos (by omega), if_pos (by omega), if_pos (by omega), Int.toNat_natCast, Int.toNat_natCast, hx, bytes_size]
        rfl
      · rw [bytes_size]
        omega
      · rw [bytes_app]
        exact ev_const _
theorem l1Num_ev (n : Int) (h : -4611686018427387904 ≤ n ∧ n ≤ 4611686018427387904) : Ev (fun k => spec_l1Num.f k n) (numB n) := by
  unfold numB Go.Lib.itoa
  by_cases c : n < 0
  · rw [if_pos c]
    obtain ⟨u, rfl⟩ : ∃ u : Nat, n = -(u : Int) := ⟨n.natAbs, by omega⟩
    have hx := l1Num_nat u (by omega)
    have hl := decDigits_le u
    rw [show (-(u : Int)).natAbs = u by omega]
    refine Ev.step (f := fun k => (spec_l1Num.f k (u : Int)).bind fun t => if 1 + t.size ≤ 9223372036854775807 then some ((⟨#[45]⟩ : ByteArray) ++ t) else none) (fun k => ?_) (Ev.bind hx (ev_if_pos ?_ ?_))
    · rw [spec_l1Num.f, if_pos c, Int.neg_neg, w64 (x := (u : Int)) (by omega) (by omega)]
    · rw [bytes_size]
      omega
    · rw [show (⟨#[45]⟩ : ByteArray) = ⟨([45] : List UInt8).toArray⟩ from rfl, bytes_app]
      exact ev_const _
  · rw [if_neg c]
    obtain ⟨u, rfl⟩ := Int.eq_ofNat_of_zero_le (show 0 ≤ n by omega)
    exact l1Num_nat u (by omega)
theorem bt_get (s : ByteArray) (i : Nat) (h : i < s.size) : bt s (i : Int) = (((s.data.toList[i]'h).toNat : Nat) : Int) := by
  rw [← bt_at s (i : Int) h]
  rfl
theorem u8_ne {a b : UInt8} (h : a ≠ b) : ¬ ((a.toNat : Nat) : Int) = ((b.toNat : Nat) : Int) := fun e => h (UInt8.toNat_inj.1 (by omega))
theorem bsize (s : ByteArray) : s.data.toList.length = s.size := rfl
/-- a byte that stands in a text -/
theorem stands_l (s : ByteArray) (c : UInt8) (hs : s.size ≤ 1048576) : ∀ (j i : Nat), i + j = s.size → Ev (fun k => spec_l1Stands.l0 k s ((c.toNat : Nat) : Int) (i : Int)) ((s.data.toList.drop i).contains c)
  | 0, i, hj => by
    rw [List.drop_of_length_le (by rw [bsize]; omega)]
    refine Ev.step (f := fun _ => some false) (fun k => ?_) (ev_const _)
    rw [spec_l1Stands.l0, if_neg (by omega)]
  | j + 1, i, hj => by
    have hi : i < s.data.toList.length := by rw [bsize]; omega
    have e := bt_get s i hi
    rw [List.drop_eq_getElem_cons hi, List.contains_cons]
    by_cases c1 : s.data.toList[i] = c
    · refine Ev.step (f := fun _ => some true) (fun k => ?_) ?_
      · rw [spec_l1Stands.l0, if_pos (by omega), if_pos (by omega), e, if_pos (by rw [c1])]
      · rw [c1]
        simp only [BEq.rfl, Bool.true_or]
        exact ev_const _
    · have ih := stands_l s c hs j (i + 1) (by omega)
      refine Ev.step (fun k => ?_) (f := fun k => spec_l1Stands.l0 k s ((c.toNat : Nat) : Int) ((i + 1 : Nat) : Int)) ?_
      · rw [spec_l1Stands.l0, if_pos (by omega), if_pos (by omega), e, if_neg (u8_ne c1), w64_nat (by omega)]
      · have : (c == s.data.toList[i]) = false := beq_eq_false_iff_ne.2 (Ne.symm c1)
        rw [this, Bool.false_or]
        exact ih
theorem stands_ev (s : ByteArray) (c : UInt8) (hs : s.size ≤ 1048576) : Ev (fun k => spec_l1Stands.f k s ((c.toNat : Nat) : Int)) (s.data.toList.contains c) := by
  have := stands_l s c hs s.size 0 (by omega)
  rw [List.drop_zero] at this
  exact this
theorem numB_size (n : Int) (h : -9223372036854775808 ≤ n ∧ n ≤ 9223372036854775807) : (numB n).size ≤ 21 := by
  unfold numB
  rw [bytes_size]
  exact Go.Lib.itoa_length_le n h.1 h.2
theorem itoa_ev (n : Int) (h : -9223372036854775808 ≤ n ∧ n ≤ 9223372036854775807) : Ev (fun k => strconv_Itoa.f k n) (numB n) := by
  unfold strconv_Itoa.f
  exact ev_if_pos h.1 (ev_if_pos h.2 (ev_const _))
/-- the checksum, from h on -/
def ckL : List UInt8 → Int → Int
  | [], h => h
  | b :: l, h => ckL l ((41 * h + ((b.toNat : Nat) : Int) + 1) % 999979)
theorem ck_range : ∀ (l : List UInt8) (h : Int), 0 ≤ h → h < 999979 → 0 ≤ ckL l h ∧ ckL l h < 999979
  | [], h, h0, h1 => ⟨h0, h1⟩
  | b :: l, h, h0, h1 => by
    rw [ckL]
    exact ck_range l _ (by omega) (by omega)
theorem ck_l (s : ByteArray) (hs : s.size ≤ 1048576) : ∀ (j i : Nat) (h : Int), i + j = s.size → 0 ≤ h → h < 999979 → Ev (fun k => spec_l1Sum.l0 k s h (i : Int)) (ckL (s.data.toList.drop i) h)
  | 0, i, h, hj, h0, h1 => by
    rw [List.drop_of_length_le (by rw [bsize]; omega)]
    refine Ev.step (f := fun _ => some h) (fun k => ?_) (ev_const _)
    rw [spec_l1Sum.l0, if_neg (by omega)]
  | j + 1, i, h, hj, h0, h1 => by
    have hi : i < s.data.toList.length := by rw [bsize]; omega
    have e := bt_get s i hi
    have hb := s.data.toList[i].toNat_lt
    rw [List.drop_eq_getElem_cons hi, ckL]
    have ih := ck_l s hs j (i + 1) ((41 * h + ((s.data.toList[i].toNat : Nat) : Int) + 1) % 999979) (by omega) (by omega) (by omega)
    refine Ev.step (fun k => ?_) ih
    rw [spec_l1Sum.l0, if_pos (by omega), if_pos (by omega), e, w64_nat (by omega), w64 (x := 41 * h) (by omega) (by omega), w64 (x := ((s.data.toList[i].toNat : Nat) : Int)) (by omega) (by omega), w64 (x := 41 * h + ((s.data.toList[i].toNat : Nat) : Int)) (by omega) (by omega), w64 (x := 41 * h + ((s.data.toList[i].toNat : Nat) : Int) + 1) (by omega) (by omega), Int.tmod_eq_emod_of_nonneg (by omega)]
def ckB (s : ByteArray) : Int := ckL s.data.toList 7
theorem ckB_range (s : ByteArray) : 0 ≤ ckB s ∧ ckB s < 999979 := ck_range _ 7 (by omega) (by omega)
theorem l1Sum_ev (s : ByteArray) (hs : s.size ≤ 1048576) : Ev (fun k => spec_l1Sum.f k s) (ckB s) := by
  have := ck_l s hs s.size 0 7 (by omega) (by omega) (by omega)
  rw [List.drop_zero] at this
  exact this
theorem checksum_ev (s : ByteArray) (hs : s.size ≤ 1048576) : Ev (fun k => impl_checksum.f k s) (ckB s) := by
  refine Ev.congr (fun k => ?_) (l1Sum_ev s hs)
  unfold impl_checksum.f spec_l1Sum.f
  exact impl_checksum_same s k 7 0
/-- a text with its checksum -/
def sealB (s : ByteArray) : ByteArray := (s ++ (⟨#[35]⟩ : ByteArray)) ++ numB (ckB s)
theorem size_one (s : ByteArray) : (s ++ (⟨#[35]⟩ : ByteArray)).size = s.size + 1 := by
  rw [ByteArray.size_append]
  rfl
theorem l1Seal_ev (s : ByteArray) (hs : s.size ≤ 1048576) : Ev (fun k => spec_l1Seal.f k s) (sealB s) := by
  have r := ckB_range s
  have z := numB_size (ckB s) (by omega)
  unfold spec_l1Seal.f
  refine ev_if_pos (by omega) (Ev.bind (l1Sum_ev s hs) (Ev.bind (l1Num_ev (ckB s) (by omega)) (ev_if_pos ?_ (ev_const _))))
  rw [size_one]
  omega
/-- what AppendChecksum tells -/
def apc (s : ByteArray) : ByteArray × Bool := if (s.size : Int) > 4000 then (⟨#[]⟩, false) else if s.data.toList.contains 35 = true then (⟨#[]⟩, false) else if ((sealB s).size : Int) > 4000 then (⟨#[]⟩, false) else (sealB s, true)
theorem impl_append_ev (s : ByteArray) (hs : s.size ≤ 1048576) : Ev (fun k => impl_AppendChecksum.f k s) (apc s) := by
  have r := ckB_range s
  have z := numB_size (ckB s) (by omega)
  unfold impl_AppendChecksum.f apc
  by_cases c1 : (s.size : Int) > 4000
  · rw [if_pos c1]
    refine ev_if_pos c1 (Ev.step (f := fun _ => some (⟨#[]⟩, false)) (fun k => ?_) (ev_const _))
    rw [impl_AppendChecksum.j0, if_pos rfl]
  · rw [if_neg c1]
    have ct : Ev (fun k => strings_Contains.f k s (⟨#[35]⟩ : ByteArray)) (s.data.toList.contains 35) := by
      rw [Go.Lib.contains_iff_indexByte]
      exact ev_const _
    refine ev_if_neg c1 (Ev.bind ct ?_)
    by_cases c2 : s.data.toList.contains 35 = true
    · rw [if_pos c2, c2]
      refine Ev.step (f := fun _ => some (⟨#[]⟩, false)) (fun k => ?_) (ev_const _)
      rw [impl_AppendChecksum.j0, if_pos rfl]
    · rw [if_neg c2, Bool.eq_false_iff.2 c2]
      have hz : (s ++ (⟨#[35]⟩ : ByteArray)).size + (numB (ckB s)).size ≤ 9223372036854775807 := by rw [size_one]; omega
      refine Ev.step (f := fun k => (impl_checksum.f k s).bind fun t => (strconv_Itoa.f k t).bind fun u => if (s ++ (⟨#[35]⟩ : ByteArray)).size + u.size ≤ 9223372036854775807 then (if (((s ++ (⟨#[35]⟩ : ByteArray)) ++ u).size : Int) > 4000 then some ((⟨#[]⟩ : ByteArray), false) else some ((s ++ (⟨#[35]⟩ : ByteArray)) ++ u, true)) else none) (fun k => by rw [impl_AppendChecksum.j0, if_neg (by simp), if_pos (by omega)]) (Ev.bind (checksum_ev s hs) (Ev.bind (itoa_ev (ckB s) (by omega)) (ev_if_pos hz ?_)))
      show Ev (fun _ => if ((sealB s).size : Int) > 4000 then some ((⟨#[]⟩ : ByteArray), false) else some (sealB s, true)) _
      by_cases c3 : ((sealB s).size : Int) > 4000
      · rw [if_pos c3, if_pos c3]
        exact ev_const _
      · rw [if_neg c3, if_neg c3]
        exact ev_const _
def bsOf (l : List UInt8) : ByteArray := ⟨l.toArray⟩
theorem bsOf_data (s : ByteArray) : bsOf s.data.toList = s := by
  unfold bsOf
  rw [Array.toArray_toList]
theorem ext_list (s : ByteArray) (i j : Nat) : s.extract i j = bsOf ((s.data.toList.take j).drop i) := by
  apply ByteArray.ext
  rw [ByteArray.data_extract]
  unfold bsOf
  apply Array.toList_inj.1
  simp [List.drop_take]
/-- the parts of a text between bytes c -/
def splL (c : UInt8) : List UInt8 → List (List UInt8)
  | [] => [[]]
  | b :: l => if b = c then [] :: splL c l else match splL c l with
    | [] => [[b]]
    | p :: ps => (b :: p) :: ps
def glue (p : List UInt8) : List (List UInt8) → List (List UInt8)
  | [] => [p]
  | q :: qs => (p ++ q) :: qs
theorem spl_ne (c : UInt8) : ∀ l, splL c l ≠ []
  | [] => by simp [splL]
  | b :: l => by
    rw [splL]
    split
    · simp
    · split <;> simp
theorem glue_nil : ∀ l, l ≠ [] → glue [] l = l
  | [], h => absurd rfl h
  | q :: qs, _ => rfl
theorem glue_cons (c b : UInt8) (h : b ≠ c) (p : List UInt8) (l : List UInt8) : glue p (splL c (b :: l)) = glue (p ++ [b]) (splL c l) := by
  rw [splL, if_neg h]
  cases e : splL c l with
  | nil => exact absurd e (spl_ne c l)
  | cons q qs => simp [glue]
theorem spl_length_le (c : UInt8) : ∀ l, (splL c l).length ≤ l.length + 1
  | [] => by simp [splL]
  | b :: l => by
    have := spl_length_le c l
    rw [splL]
    split
    · simp; omega
    · split
      · simp
      · rename_i e; rw [e] at this; simp at this ⊢; omega
/-- the first part of a text -/
theorem spl_head (c : UInt8) : ∀ l, ∃ ps, splL c l = (l.takeWhile (fun b => b != c)) :: ps
  | [] => ⟨[], rfl⟩
  | b :: l => by
    obtain ⟨ps, e⟩ := spl_head c l
    rw [splL]
    by_cases h : b = c
    · rw [if_pos h]
      exact ⟨splL c l, by simp [h]⟩
    · rw [if_neg h, e]
      exact ⟨ps, by simp [h]⟩
theorem take_index (c : UInt8) : ∀ l, (if 0 ≤ Go.Lib.indexByte l c then l.take (Go.Lib.indexByte l c).toNat else l) = l.takeWhile (fun b => b != c)
  | [] => by simp [Go.Lib.indexByte]
  | b :: l => by
    have ih := take_index c l
    have g := Go.Lib.indexByte_ge l c
    unfold Go.Lib.indexByte
    by_cases h : b = c
    · simp [h]
    · have hb : (b == c) = false := beq_eq_false_iff_ne.2 h
      rw [hb]
      simp only [Bool.false_eq_true, if_false]
      by_cases k : Go.Lib.indexByte l c = -1
      · rw [k] at ih ⊢
        simp only [BEq.rfl, if_true]
        rw [if_neg (by omega)] at ih ⊢
        rw [List.takeWhile_cons, if_pos (by simp [h]), ← ih]
      · have hk : (Go.Lib.indexByte l c == -1) = false := beq_eq_false_iff_ne.2 k
        rw [hk]
        simp only [Bool.false_eq_true, if_false]
        rw [if_pos (by omega)] at ih ⊢
        rw [List.takeWhile_cons, if_pos (by simp [h]), ← ih, show (Go.Lib.indexByte l c + 1).toNat = (Go.Lib.indexByte l c).toNat + 1 by omega, List.take_succ_cons]
def headB (s : ByteArray) : ByteArray := bsOf (s.data.toList.takeWhile (fun b => b != 35))
theorem headB_size (s : ByteArray) : (headB s).size ≤ s.size := by
  unfold headB bsOf
  rw [bytes_size]
  exact (List.takeWhile_sublist _).length_le
theorem headB_free (s : ByteArray) : (headB s).data.toList.contains 35 = false := by
  unfold headB bsOf
  simp only [Bool.eq_false_iff, ne_eq, List.contains_iff_mem]
  intro h
  have := List.all_eq_true.1 (List.all_takeWhile (p := fun b => b != (35 : UInt8)) (l := s.data.toList)) 35 (by simpa using h)
  simp at this
/-- what VerifyChecksum tells -/
def vec (s : ByteArray) : ByteArray × Bool := if (s.size : Int) > 4000 then (⟨#[]⟩, false) else if (sealB (headB s)).toList = s.toList then (headB s, true) else (⟨#[]⟩, false)
theorem size_of_list {a b : ByteArray} (h : a.toList = b.toList) : a.size = b.size := by
  have e1 : ∀ s : ByteArray, s.toList.length = s.size := fun s => by
    rw [ByteArray.toList_eq]
    rfl
  rw [← e1 a, ← e1 b, h]
theorem impl_verify_ev (s : ByteArray) (hs : s.size ≤ 1048576) : Ev (fun k => impl_VerifyChecksum.f k s) (vec s) := by
  have hz := headB_size s
  have ec : Ev (fun k => strings_Cut.f k s (⟨#[35]⟩ : ByteArray)) (headB s, ⟨(Go.Lib.cut s.data.toList [35]).2.1.toArray⟩, (Go.Lib.cut s.data.toList [35]).2.2) := by
    unfold strings_Cut.f
    refine ev_if_pos (by omega) ?_
    have : (⟨(Go.Lib.cut s.data.toList [35]).1.toArray⟩ : ByteArray) = headB s := by
      unfold headB bsOf Go.Lib.cut
      congr 2
      rw [← take_index, Go.Lib.index_one]
      split <;> rfl
    show Ev (fun _ => some ((⟨(Go.Lib.cut s.data.toList [35]).1.toArray⟩ : ByteArray), _, _)) _
    rw [this]
    exact ev_const _
  unfold impl_VerifyChecksum.f
  have key : (if (apc (headB s)).2 = true then (if (apc (headB s)).1.toList = s.toList then some (headB s, true) else some ((⟨#[]⟩ : ByteArray), false)) else some ((⟨#[]⟩ : ByteArray), false)) = some (vec s) := by
    unfold vec apc
    rw [headB_free]
    by_cases d1 : ((headB s).size : Int) > 4000
    · have c1 : (s.size : Int) > 4000 := by omega
      simp [d1, c1]
    · by_cases d2 : ((sealB (headB s)).size : Int) > 4000
      · by_cases c1 : (s.size : Int) > 4000
        · simp [d1, d2, c1]
        · have hn : ¬ (sealB (headB s)).toList = s.toList := fun h => by have := size_of_list h; omega
          simp [d1, d2, c1, hn]
      · by_cases c1 : (s.size : Int) > 4000
        · have hn : ¬ (sealB (headB s)).toList = s.toList := fun h => by have := size_of_list h; omega
          simp [d1, d2, c1, hn]
        · by_cases c2 : (sealB (headB s)).toList = s.toList
          · simp [d1, d2, c1, c2]
          · simp [d1, d2, c1, c2]
  exact Ev.bind ec (Ev.bind (impl_append_ev (headB s) (by omega)) (Ev.congr (fun _ => key) (ev_const _)))
/-- what a text without a sign tells: its number, where it is that number's numeral -/
def rdN (s : ByteArray) (neg : Bool) : Option Nat → Int × Bool
  | none => (0, false)
  | some v => if (numB (if neg then -(v : Int) else (v : Int))).toList = s.toList then ((if neg then -(v : Int) else (v : Int)), true) else (0, false)
theorem digit_lt {b : UInt8} (h : ((b.toNat : Nat) : Int) < 48) : Go.Lib.digitVal b = none := by
  unfold Go.Lib.digitVal
  rw [if_neg (by omega)]
theorem digit_gt {b : UInt8} (h : ((b.toNat : Nat) : Int) > 57) : Go.Lib.digitVal b = none := by
  unfold Go.Lib.digitVal
  rw [if_neg (by omega)]
theorem digit_in {b : UInt8} (h : ¬ ((b.toNat : Nat) : Int) < 48) (h2 : ¬ ((b.toNat : Nat) : Int) > 57) : Go.Lib.digitVal b = some (b.toNat - 48) := by
  unfold Go.Lib.digitVal
  rw [if_pos (by omega)]
theorem read_l (s t : ByteArray) (neg : Bool) (h6 : t.size ≤ 6) (hn : neg = decide ((t.size : Int) < (s.size : Int))) : ∀ (j i v : Nat), i + j = t.size → v < 10 ^ i → Ev (fun k => spec_l1Read.l0 k s t (v : Int) (i : Int)) (rdN s neg (Go.Lib.decFrom v (t.data.toList.drop i)))
  | 0, i, v, hj, hv => by
    rw [List.drop_of_length_le (by rw [bsize]; omega), Go.Lib.decFrom]
    have hb : 10 ^ i ≤ 10 ^ 6 := Nat.pow_le_pow_right (by omega) (by omega)
    have hv6 : v < 1000000 := Nat.lt_of_lt_of_le hv hb
    by_cases c : (t.size : Int) < (s.size : Int)
    · obtain rfl : neg = true := by rw [hn]; exact decide_eq_true c
      refine Ev.step (f := fun k => (spec_l1Num.f k (-(v : Int))).bind fun u => if u.toList = s.toList then some (-(v : Int), true) else some (0, false)) (fun k => ?_) (Ev.bind (l1Num_ev (-(v : Int)) (by omega)) (Ev.congr (f := fun _ => some (rdN s true (some v))) (fun _ => ?_) (ev_const _)))
      · rw [spec_l1Read.l0, if_neg (by omega), if_pos c, w64 (x := -(v : Int)) (by omega) (by omega)]
      · simp only [rdN, if_true]
        by_cases e : (numB (-(v : Int))).toList = s.toList <;> simp [e]
    · obtain rfl : neg = false := by rw [hn]; exact decide_eq_false c
      refine Ev.step (f := fun k => (spec_l1Num.f k (v : Int)).bind fun u => if u.toList = s.toList then some ((v : Int), true) else some (0, false)) (fun k => ?_) (Ev.bind (l1Num_ev (v : Int) (by omega)) (Ev.congr (f := fun _ => some (rdN s false (some v))) (fun _ => ?_) (ev_const _)))
      · rw [spec_l1Read.l0, if_neg (by omega), if_neg c]
      · simp only [rdN, Bool.false_eq_true, if_false]
        by_cases e : (numB (v : Int)).toList = s.toList <;> simp [e]
  | j + 1, i, v, hj, hv => by
    have hi : i < t.data.toList.length := by rw [bsize]; omega
    have e := bt_get t i hi
    have hb : 10 ^ (i + 1) ≤ 10 ^ 6 := Nat.pow_le_pow_right (by omega) (by omega)
    rw [List.drop_eq_getElem_cons hi, Go.Lib.decFrom]
    by_cases c1 : ((t.data.toList[i].toNat : Nat) : Int) < 48
    · rw [digit_lt c1]
      refine Ev.step (f := fun _ => some (0, false)) (fun k => ?_) (ev_const _)
      rw [spec_l1Read.l0, if_pos (by omega), if_pos (by omega), e, if_pos c1]
    · by_cases c2 : ((t.data.toList[i].toNat : Nat) : Int) > 57
      · rw [digit_gt c2]
        refine Ev.step (f := fun _ => some (0, false)) (fun k => ?_) (ev_const _)
        rw [spec_l1Read.l0, if_pos (by omega), if_pos (by omega), e, if_neg c1, if_pos c2]
      · rw [digit_in c1 c2]
        have h10 : v * 10 + (t.data.toList[i].toNat - 48) < 10 ^ (i + 1) := by rw [Nat.pow_succ]; omega
        have ih := read_l s t neg h6 hn j (i + 1) (v * 10 + (t.data.toList[i].toNat - 48)) (by omega) h10
        refine Ev.step (fun k => ?_) ih
        rw [spec_l1Read.l0, if_pos (by omega), if_pos (by omega), e, if_neg c1, if_neg c2, w64_nat (by omega), show (((t.data.toList[i].toNat : Nat) : Int) - 48) % 256 = ((t.data.toList[i].toNat - 48 : Nat) : Int) by omega, w64 (x := 10 * (v : Int)) (by omega) (by omega), w64 (x := 10 * (v : Int) + ((t.data.toList[i].toNat - 48 : Nat) : Int)) (by omega) (by omega), show 10 * (v : Int) + ((t.data.toList[i].toNat - 48 : Nat) : Int) = ((v * 10 + (t.data.toList[i].toNat - 48) : Nat) : Int) by omega]
/-- what the reference reads -/
def rdS (s : ByteArray) (t : ByteArray) : Int × Bool := if 1 ≤ t.size ∧ t.size ≤ 6 then rdN s (decide ((t.size : Int) < (s.size : Int))) (Go.Lib.decFrom 0 t.data.toList) else (0, false)
def unsign (s : ByteArray) : ByteArray := if (s.size : Int) > 1 ∧ (bt s 0) = 45 then s.extract 1 s.size else s
theorem l1Read_ev (s : ByteArray) (hs : s.size ≤ 1048576) : Ev (fun k => spec_l1Read.f k s) (rdS s (unsign s)) := by
  have tail : ∀ t : ByteArray, t.size ≤ s.size → Ev (fun k => spec_l1Read.j1 k s t) (rdS s t) := fun t ht => by
    unfold rdS
    refine Ev.step (f := fun k => if inB 1 6 (t.size : Int) = true then spec_l1Read.l0 k s t 0 0 else some (0, false)) (fun k => by rw [spec_l1Read.j1, spec_l1In_is]; rfl) ?_
    by_cases c : inB 1 6 (t.size : Int) = true
    · have q := inB_iff.1 c
      rw [if_pos (by omega)]
      have := read_l s t _ (by omega) rfl t.size 0 0 (by omega) (by simp)
      rw [List.drop_zero] at this
      exact ev_if_pos c this
    · have q : ¬ (1 ≤ t.size ∧ t.size ≤ 6) := fun q => c (inB_iff.2 ⟨by omega, by omega⟩)
      rw [if_neg q]
      exact ev_if_neg c (ev_const _)
  unfold spec_l1Read.f unsign
  by_cases c1 : (s.size : Int) > 1
  · refine ev_if_pos c1 (ev_if_pos (by omega) ?_)
    by_cases c2 : bt s 0 = 45
    · rw [if_pos ⟨c1, c2⟩]
      refine Ev.step (f := fun k => spec_l1Read.j1 k s (s.extract 1 s.size)) (fun k => ?_) (tail _ (by rw [ByteArray.size_extract]; omega))
      rw [spec_l1Read.j0, if_pos (by rw [c2]; rfl), if_pos (by omega)]
    · rw [if_neg (fun h => c2 h.2)]
      refine Ev.step (f := fun k => spec_l1Read.j1 k s s) (fun k => ?_) (tail _ (Nat.le_refl _))
      rw [spec_l1Read.j0, if_neg (by simpa using c2)]
  · rw [if_neg (fun h => c1 h.1)]
    refine ev_if_neg c1 (Ev.step (f := fun k => spec_l1Read.j1 k s s) (fun k => ?_) (tail _ (Nat.le_refl _)))
    rw [spec_l1Read.j0, if_neg (by simp)]
theorem toList_data (s : ByteArray) : s.toList = s.data.toList := ByteArray.toList_eq s
theorem dec_digit : ∀ (u : Nat), ∀ b ∈ Go.Lib.decDigits u, 48 ≤ b.toNat ∧ b.toNat ≤ 57 := fun u => by
  induction u using Nat.strongRecOn with
  | _ u ih =>
    intro b hb
    have small : ∀ d : Nat, d < 10 → 48 ≤ (UInt8.ofNat (48 + d)).toNat ∧ (UInt8.ofNat (48 + d)).toNat ≤ 57 := fun d hd => by
      rw [UInt8.toNat_ofNat']
      omega
    rw [Go.Lib.decDigits] at hb
    split at hb
    · rw [List.mem_singleton.1 hb]
      exact small u (by omega)
    · rcases List.mem_append.1 hb with hb | hb
      · exact ih (u / 10) (by omega) b hb
      · rw [List.mem_singleton.1 hb]
        exact small (u % 10) (Nat.mod_lt _ (by omega))
theorem dec_short : ∀ (k u : Nat), u < 10 ^ (k + 1) → (Go.Lib.decDigits u).length ≤ k + 1
  | 0, u, h => by
    rw [Go.Lib.decDigits, dif_pos (by simpa using h)]
    simp
  | k + 1, u, h => by
    rw [Go.Lib.decDigits]
    split
    · simp
    · have := dec_short k (u / 10) (by rw [Nat.pow_succ] at h; omega)
      rw [List.length_append, List.length_singleton]
      omega
theorem numB_list (n : Int) : (numB n).toList = Go.Lib.itoa n := by
  rw [toList_data]
  unfold numB
  simp
/-- what the program reads is what the reference reads -/
def rdI (s : ByteArray) : Int × Bool := if (s.size : Int) > 7 then (0, false) else match Go.Lib.atoi s.data.toList with
  | none => (0, false)
  | some n => if inB (-999999) 999999 n = true then (if (numB n).toList = s.toList then (n, true) else (0, false)) else (0, false)
theorem impl_parse_ev (s : ByteArray) : Ev (fun k => impl_ParseInt.f k s) (rdI s) := by
  unfold impl_ParseInt.f rdI
  by_cases c : (s.size : Int) > 7
  · rw [if_pos c]
    exact ev_if_pos c (ev_const _)
  · rw [if_neg c]
    refine ev_if_neg c ?_
    cases ha : Go.Lib.atoi s.data.toList with
    | none => exact ev_const _
    | some n =>
      simp only []
      rw [impl_within_is]
      refine Ev.bind (ev_const _) ?_
      by_cases d : inB (-999999) 999999 n = true
      · have q := inB_iff.1 d
        rw [if_pos d]
        refine ev_if_pos d (Ev.bind (itoa_ev n (by omega)) (Ev.congr (f := fun _ => some (if (numB n).toList = s.toList then (n, true) else (0, false))) (fun _ => by by_cases e : (numB n).toList = s.toList <;> simp [e]) (ev_const _)))
      · rw [if_neg d]
        exact ev_if_neg d (ev_const _)
theorem dec_lt6 {l : List UInt8} {v : Nat} (h : Go.Lib.decFrom 0 l = some v) (hl : l.length ≤ 6) : v ≤ 999999 := by
  have := Go.Lib.decFrom_lt l 0 v h
  have hp : 10 ^ l.length ≤ 10 ^ 6 := Nat.pow_le_pow_right (by omega) hl
  omega
theorem rd_same (s : ByteArray) : rdI s = rdS s (unsign s) := by
  obtain ⟨l, hl⟩ : ∃ l, s.data.toList = l := ⟨_, rfl⟩
  have hz : s.size = l.length := by rw [← hl]; rfl
  have hs : s.toList = l := by rw [toList_data, hl]
  unfold rdI
  rw [hl, hs]
  match l, hl, hz, hs with
  | [], hl, hz, hs =>
    have hu : unsign s = s := by unfold unsign; rw [if_neg (fun h => by have := h.1; rw [hz] at this; simp at this)]
    rw [hu]
    unfold rdS
    rw [if_neg (by rw [hz]; simp), if_neg (by rw [hz]; simp)]
    rfl
  | b :: r, hl, hz, hs =>
    have h0 : bt s 0 = ((b.toNat : Nat) : Int) := by
      have := bt_get s 0 (by rw [hz]; simp)
      rw [show ((0 : Nat) : Int) = 0 from rfl] at this
      rw [this]
      simp [hl]
    have hlen : s.size = r.length + 1 := by rw [hz]; rfl
    by_cases cb : b = 45
    · subst cb
      have ea : Go.Lib.atoi (45 :: r) = (Go.Lib.decNat r).map fun (m : Nat) => -(m : Int) := rfl
      rw [ea]
      cases r with
      | nil =>
        have hu : unsign s = s := by unfold unsign; rw [if_neg (fun h => by have := h.1; rw [hz] at this; simp at this)]
        rw [hu]
        unfold rdS
        rw [if_neg (by rw [hz]; simp), if_pos (by rw [hz]; simp), hl]
        rfl
      | cons d r' =>
        have hu : unsign s = bsOf (d :: r') := by
          unfold unsign
          rw [if_pos ⟨by rw [hz]; simp; omega, by rw [h0]; rfl⟩, ext_list, hl, hz, List.take_of_length_le (by simp)]
          rfl
        have hus : (bsOf (d :: r')).size = r'.length + 1 := by unfold bsOf; rw [bytes_size]; rfl
        have hud : (bsOf (d :: r')).data.toList = d :: r' := by unfold bsOf; simp
        rw [hu]
        unfold rdS
        rw [hus, hud, show Go.Lib.decNat (d :: r') = Go.Lib.decFrom 0 (d :: r') from rfl, hlen]
        simp only [List.length_cons]
        by_cases c6 : r'.length + 1 ≤ 6
        · rw [if_neg (by omega), if_pos ⟨by omega, c6⟩, decide_eq_true (by omega)]
          cases hd : Go.Lib.decFrom 0 (d :: r') with
          | none => rfl
          | some v =>
            have hv := dec_lt6 hd (by simpa using c6)
            simp only [Option.map_some, rdN, if_true, hs]
            rw [if_pos (inB_iff.2 ⟨by omega, by omega⟩)]
        · rw [if_pos (by omega), if_neg (fun h => c6 h.2)]
    · have hu : unsign s = s := by
        unfold unsign
        rw [if_neg (fun h => u8_ne cb (by rw [← h0, h.2]; rfl))]
      have nz : (b == (45 : UInt8)) = false := beq_eq_false_iff_ne.2 cb
      rw [hu]
      unfold rdS
      rw [hl, hlen, decide_eq_false (by omega)]
      by_cases cp : b = 43
      · subst cp
        have ed : Go.Lib.decFrom 0 (43 :: r) = none := rfl
        have ea : Go.Lib.atoi (43 :: r) = (Go.Lib.decNat r).map fun (m : Nat) => (m : Int) := rfl
        rw [ed, ea]
        have e2 : (if 1 ≤ r.length + 1 ∧ r.length + 1 ≤ 6 then rdN s false none else ((0 : Int), false)) = (0, false) := by split <;> rfl
        rw [e2]
        by_cases c7 : ((r.length + 1 : Nat) : Int) > 7
        · rw [if_pos c7]
        · rw [if_neg c7]
          cases Go.Lib.decNat r with
          | none => rfl
          | some v =>
            simp only [Option.map_some]
            have hn : ¬ (numB (v : Int)).toList = 43 :: r := fun e => by
              rw [numB_list] at e
              have := dec_digit v 43 (by
                have : Go.Lib.itoa (v : Int) = Go.Lib.decDigits v := by unfold Go.Lib.itoa; rw [if_neg (by omega)]; simp
                rw [← this, e]
                exact List.mem_cons_self ..)
              revert this
              decide
            rw [if_neg hn]
            split <;> rfl
      · have np : (b == (43 : UInt8)) = false := beq_eq_false_iff_ne.2 cp
        have ea : Go.Lib.atoi (b :: r) = (Go.Lib.decFrom 0 (b :: r)).map fun (m : Nat) => (m : Int) := by
          show (if (b == 45) = true then _ else if (b == 43) = true then _ else _) = _
          rw [nz, np]
          rfl
        rw [ea]
        by_cases c6 : r.length + 1 ≤ 6
        · rw [if_neg (by omega), if_pos ⟨by omega, c6⟩]
          cases hd : Go.Lib.decFrom 0 (b :: r) with
          | none => rfl
          | some v =>
            have hv := dec_lt6 hd (by simpa using c6)
            simp only [Option.map_some, rdN, Bool.false_eq_true, if_false, hs]
            rw [if_pos (inB_iff.2 ⟨by omega, by omega⟩)]
        · rw [if_neg (show ¬ (1 ≤ r.length + 1 ∧ r.length + 1 ≤ 6) from fun h => c6 h.2)]
          by_cases c7 : ((r.length + 1 : Nat) : Int) > 7
          · rw [if_pos c7]
          · rw [if_neg c7]
            cases hd : Go.Lib.decFrom 0 (b :: r) with
            | none => rfl
            | some v =>
              simp only [Option.map_some]
              by_cases q : inB (-999999) 999999 (v : Int) = true
              · have q2 := inB_iff.1 q
                have hn : ¬ (numB (v : Int)).toList = b :: r := fun e => by
                  rw [numB_list] at e
                  have e3 : Go.Lib.itoa (v : Int) = Go.Lib.decDigits v := by unfold Go.Lib.itoa; rw [if_neg (by omega)]; simp
                  have := dec_short 5 v (by omega)
                  rw [← e3, e, List.length_cons] at this
                  omega
                rw [if_neg hn]
                split <;> rfl
              · rw [if_neg q]
/-- the bytes that draws read -/
def byt (l : List Int) : Prop := ∀ x ∈ l, 0 ≤ x ∧ x ≤ 255
theorem byt_wf {l : List Int} (h : ∀ x ∈ l, (Lit.int .u8 x).wf = true) : byt l := fun x hx => by
  have h := h x hx
  have e1 : IntKind.u8.min = 0 := by decide
  have e2 : IntKind.u8.max = 255 := by decide
  simp only [Lit.wf, Bool.and_eq_true, decide_eq_true_eq] at h
  omega
theorem low8 (x : Int) : 0 ≤ wrap64 (Go.bits .and .u64 (IntKind.u64.wrap x / 1099511627776) 255) ∧ wrap64 (Go.bits .and .u64 (IntKind.u64.wrap x / 1099511627776) 255) ≤ 255 := by
  have h : 0 ≤ IntKind.u64.wrap x ∧ IntKind.u64.wrap x ≤ 18446744073709551615 := by rw [IntKind.wrap_u64]; omega
  obtain ⟨n, hn⟩ := Int.eq_ofNat_of_zero_le (show 0 ≤ IntKind.u64.wrap x / 1099511627776 by omega)
  have e : Go.bits .and .u64 (IntKind.u64.wrap x / 1099511627776) 255 = ((n &&& 255 : Nat) : Int) := by
    rw [hn]
    exact bits_and_u64_nat n 255 (by omega) (by omega)
  rw [e]
  have := Nat.and_le_right (n := n) (m := 255)
  rw [w64 (by omega) (by omega)]
  omega
theorem next_tells (l : List Int) (a sd : Int) (hb : byt l) (h0 : 0 ≤ a) (h1 : a ≤ 4611686018427387904) : ∃ v sd', spec_l1Cur_next.f l a sd = some (v, a + 1, sd') ∧ 0 ≤ v ∧ v ≤ 255 := by
  unfold spec_l1Cur_next.f
  rw [w64 (x := a + 1) (by omega) (by omega)]
  by_cases c1 : a < (l.length : Int)
  · obtain ⟨i, rfl⟩ := Int.eq_ofNat_of_zero_le h0
    have hi : i < l.length := by omega
    have hx := hb l[i] (List.getElem_mem hi)
    rw [if_pos c1, if_pos h0, if_pos (by omega)]
    refine ⟨_, _, rfl, ?_⟩
    rw [rd_nat l i hi, w64 (by omega) (by omega)]
    exact hx
  · rw [if_neg c1]
    by_cases c2 : a + 1 ≤ (l.length : Int)
    · rw [if_pos c2]
      exact ⟨_, _, rfl, by omega, by omega⟩
    · rw [if_neg c2]
      exact ⟨_, _, rfl, low8 _⟩
theorem pick_tells (l : List Int) (a sd n : Int) (hb : byt l) (h0 : 0 ≤ a) (h1 : a ≤ 4000000000) : ∃ v a' sd', spec_l1Cur_pick.f l a sd n = some (v, a', sd') ∧ 0 ≤ v ∧ (v < n ∨ v = 0 ∧ n ≤ 1) ∧ a ≤ a' ∧ a' ≤ a + 2 := by
  unfold spec_l1Cur_pick.f
  by_cases c1 : n ≤ 1
  · rw [if_pos c1]
    exact ⟨_, _, _, rfl, by omega, .inr ⟨rfl, c1⟩, by omega, by omega⟩
  · rw [if_neg c1]
    obtain ⟨v, s1, e1, hv⟩ := next_tells l a sd hb h0 (by omega)
    rw [e1]
    simp only [Option.bind_some]
    by_cases c2 : n > 200
    · rw [if_pos c2]
      obtain ⟨v2, s2, e2, hv2⟩ := next_tells l (a + 1) s1 hb (by omega) (by omega)
      rw [e2]
      simp only [Option.bind_some]
      rw [if_neg (by omega), w64 (x := v * 256) (by omega) (by omega), w64 (x := v * 256 + v2) (by omega) (by omega), Int.tmod_eq_emod_of_nonneg (by omega)]
      exact ⟨_, _, _, rfl, Int.emod_nonneg _ (by omega), .inl (Int.emod_lt_of_pos _ (by omega)), by omega, by omega⟩
    · rw [if_neg c2, if_neg (by omega), Int.tmod_eq_emod_of_nonneg (by omega)]
      exact ⟨_, _, _, rfl, Int.emod_nonneg _ (by omega), .inl (Int.emod_lt_of_pos _ (by omega)), by omega, by omega⟩
theorem of_tells (l : List Int) (a sd : Int) (xs : List ByteArray) (hb : byt l) (h0 : 0 ≤ a) (h1 : a ≤ 4000000000) (hx : 0 < xs.length) : ∃ v a' sd', spec_l1Cur_of.f l a sd xs = some (v, a', sd') ∧ v ∈ xs ∧ a ≤ a' ∧ a' ≤ a + 2 := by
  unfold spec_l1Cur_of.f
  obtain ⟨v, a', s', e, g0, g1, g2, g3⟩ := pick_tells l a sd (xs.length : Int) hb h0 h1
  rw [e]
  simp only [Option.bind_some]
  obtain ⟨i, rfl⟩ := Int.eq_ofNat_of_zero_le g0
  have hi : i < xs.length := by omega
  rw [if_pos (by omega), if_pos (by omega)]
  refine ⟨_, _, _, rfl, ?_, g2, g3⟩
  have : rdOf ByteArray.empty xs (i : Int) = xs[i] := by
    unfold rdOf
    rw [Int.toNat_natCast, List.getD_eq_getElem?_getD, List.getElem?_eq_getElem hi]
    rfl
  rw [this]
  exact List.getElem_mem hi
/-- what any1 draws from -/
def anyL : List ByteArray := [(⟨#[]⟩ : ByteArray), (⟨#[97]⟩ : ByteArray), (⟨#[97, 44, 98]⟩ : ByteArray), (⟨#[115, 111, 109, 101, 32, 119, 111, 114, 100, 115]⟩ : ByteArray), (⟨#[120, 35, 121]⟩ : ByteArray), (⟨#[45, 49, 50]⟩ : ByteArray), (⟨#[0, 255]⟩ : ByteArray), (⟨#[44, 44]⟩ : ByteArray), (⟨#[48]⟩ : ByteArray)]
theorem anyL_size : ∀ s ∈ anyL, s.size ≤ 10 := by
  intro s hs
  simp only [anyL, List.mem_cons, List.not_mem_nil, or_false] at hs
  rcases hs with rfl | rfl | rfl | rfl | rfl | rfl | rfl | rfl | rfl <;> decide
theorem any1_tells (l : List Int) (a sd : Int) (hb : byt l) (h0 : 0 ≤ a) (h1 : a ≤ 4000000000) : ∃ v a' sd', spec_l1Cur_any1.f l a sd = some (v, a', sd') ∧ v.size ≤ 10 ∧ a ≤ a' ∧ a' ≤ a + 2 := by
  unfold spec_l1Cur_any1.f
  obtain ⟨v, a', s', e, g0, g1, g2⟩ := of_tells l a sd anyL hb h0 h1 (by decide)
  unfold anyL at e
  rw [e]
  exact ⟨_, _, _, rfl, anyL_size v g0, g1, g2⟩
theorem one_tells (l : List Int) (a sd n : Int) (hb : byt l) (h0 : 0 ≤ a) (h1 : a ≤ 4000000000) : ∃ v a' sd', spec_l1Cur_one.f l a sd n = some (v, a', sd') ∧ a ≤ a' ∧ a' ≤ a + 2 := by
  unfold spec_l1Cur_one.f
  obtain ⟨v, a', s', e, _, _, g2, g3⟩ := pick_tells l a sd n hb h0 h1
  rw [e]
  exact ⟨_, _, _, rfl, g2, g3⟩
theorem zeros_size (n : Nat) : (strOfNums (List.replicate n 0)).size = n := by
  unfold strOfNums
  show Array.size _ = n
  simp
theorem among_tells (l : List Int) (a sd : Int) (xs : List Int) (hb : byt l) (h0 : 0 ≤ a) (h1 : a ≤ 4000000000) (hx : 0 < xs.length) : ∃ v a' sd', spec_l1Cur_among.f l a sd xs = some (v, a', sd') ∧ v ∈ xs ∧ a ≤ a' ∧ a' ≤ a + 2 := by
  unfold spec_l1Cur_among.f
  obtain ⟨v, a', s', e, g0, g1, g2, g3⟩ := pick_tells l a sd (xs.length : Int) hb h0 h1
  rw [e]
  simp only [Option.bind_some]
  obtain ⟨i, rfl⟩ := Int.eq_ofNat_of_zero_le g0
  have hi : i < xs.length := by omega
  rw [if_pos (by omega), if_pos (by omega), rd_nat xs i hi]
  exact ⟨_, _, _, rfl, List.getElem_mem hi, g2, g3⟩
theorem oneI_tells (l : List Int) (a sd n : Int) (hb : byt l) (h0 : 0 ≤ a) (h1 : a ≤ 4000000000) : ∃ v a' sd', spec_l1Cur_one.f l a sd n = some (v, a', sd') ∧ a ≤ a' ∧ a' ≤ a + 2 := by
  unfold spec_l1Cur_one.f
  obtain ⟨v, a', s', e, _, _, g2, g3⟩ := pick_tells l a sd n hb h0 h1
  rw [e]
  exact ⟨_, _, _, rfl, g2, g3⟩
/-! a numeral is read back; a changed byte is found -/
theorem decFrom_app : ∀ (a b : List UInt8) (v : Nat), Go.Lib.decFrom v (a ++ b) = (Go.Lib.decFrom v a).bind fun x => Go.Lib.decFrom x b
  | [], b, v => rfl
  | c :: a, b, v => by
    rw [List.cons_append, Go.Lib.decFrom, Go.Lib.decFrom]
    cases h : Go.Lib.digitVal c with
    | none => rfl
    | some d =>
      simp only []
      exact decFrom_app a b _
theorem digit_of (d : Nat) (hd : d < 10) : Go.Lib.digitVal (UInt8.ofNat (48 + d)) = some d := by
  have h : (UInt8.ofNat (48 + d)).toNat = 48 + d := by
    rw [UInt8.toNat_ofNat']
    omega
  rw [digit_in (by omega) (by omega), h]
  congr 1
  omega
theorem dec_back (u : Nat) : Go.Lib.decFrom 0 (Go.Lib.decDigits u) = some u := by
  induction u using Nat.strongRecOn with
  | _ u ih =>
    rw [Go.Lib.decDigits]
    split
    · rename_i h
      rw [Go.Lib.decFrom, digit_of u h]
      simp only [Go.Lib.decFrom]
      congr 1
      omega
    · rw [decFrom_app, ih (u / 10) (by omega)]
      simp only [Option.bind_some]
      rw [Go.Lib.decFrom, digit_of (u % 10) (Nat.mod_lt _ (by omega))]
      simp only [Go.Lib.decFrom]
      congr 1
      omega
theorem dec_ne (u : Nat) : Go.Lib.decDigits u ≠ [] := by
  rw [Go.Lib.decDigits]
  split <;> simp
theorem itoa_nat (u : Nat) : Go.Lib.itoa (u : Int) = Go.Lib.decDigits u := by
  unfold Go.Lib.itoa
  rw [if_neg (by omega)]
  rfl
theorem dec_nat (u : Nat) : Go.Lib.decNat (Go.Lib.decDigits u) = some u := by
  have h := dec_ne u
  have b := dec_back u
  cases e : Go.Lib.decDigits u with
  | nil => exact absurd e h
  | cons c r =>
    rw [e] at b
    exact b
theorem atoi_back (n : Int) : Go.Lib.atoi (Go.Lib.itoa n) = some n := by
  by_cases c : n < 0
  · obtain ⟨u, rfl⟩ : ∃ u : Nat, n = -(u : Int) := ⟨n.natAbs, by omega⟩
    have e : Go.Lib.itoa (-(u : Int)) = 45 :: Go.Lib.decDigits u := by
      unfold Go.Lib.itoa
      rw [if_pos c, show (-(u : Int)).natAbs = u by omega]
    rw [e]
    show (Go.Lib.decNat (Go.Lib.decDigits u)).map (fun (m : Nat) => -(m : Int)) = _
    rw [dec_nat]
    rfl
  · obtain ⟨u, rfl⟩ := Int.eq_ofNat_of_zero_le (show 0 ≤ n by omega)
    have hd := dec_digit u
    have hn := dec_nat u
    rw [itoa_nat]
    cases e : Go.Lib.decDigits u with
    | nil => exact absurd e (dec_ne u)
    | cons b r =>
      rw [e] at hd hn
      have hb := hd b (List.mem_cons_self ..)
      have n1 : (b == (45 : UInt8)) = false := beq_eq_false_iff_ne.2 fun q => by rw [q] at hb; revert hb; decide
      have n2 : (b == (43 : UInt8)) = false := beq_eq_false_iff_ne.2 fun q => by rw [q] at hb; revert hb; decide
      show (if (b == 45) = true then (Go.Lib.decNat r).map (fun (m : Nat) => -(m : Int)) else if (b == 43) = true then (Go.Lib.decNat r).map (fun (m : Nat) => (m : Int)) else (Go.Lib.decNat (b :: r)).map fun (m : Nat) => (m : Int)) = _
      rw [n1, n2, if_neg (by simp), if_neg (by simp), hn]
      rfl
theorem numB_size7 (n : Int) (h : -999999 ≤ n ∧ n ≤ 999999) : (numB n).size ≤ 7 := by
  unfold numB
  rw [bytes_size]
  by_cases c : n < 0
  · obtain ⟨u, rfl⟩ : ∃ u : Nat, n = -(u : Int) := ⟨n.natAbs, by omega⟩
    have e : Go.Lib.itoa (-(u : Int)) = 45 :: Go.Lib.decDigits u := by
      unfold Go.Lib.itoa
      rw [if_pos c, show (-(u : Int)).natAbs = u by omega]
    have := dec_short 5 u (by omega)
    rw [e, List.length_cons]
    omega
  · obtain ⟨u, rfl⟩ := Int.eq_ofNat_of_zero_le (show 0 ≤ n by omega)
    have := dec_short 5 u (by omega)
    rw [itoa_nat]
    omega
theorem rdI_back (n : Int) (h : -999999 ≤ n ∧ n ≤ 999999) : rdI (numB n) = (n, true) := by
  have hz := numB_size7 n h
  have ed : (numB n).data.toList = Go.Lib.itoa n := by unfold numB; simp
  unfold rdI
  rw [if_neg (by omega), ed, atoi_back]
  simp only []
  rw [if_pos (inB_iff.2 ⟨by omega, by omega⟩)]
  simp
theorem ck_inj : ∀ (l : List UInt8) (h1 h2 : Int), 0 ≤ h1 → h1 < 999979 → 0 ≤ h2 → h2 < 999979 → h1 ≠ h2 → ckL l h1 ≠ ckL l h2
  | [], h1, h2, _, _, _, _, h => h
  | b :: l, h1, h2, a1, a2, b1, b2, h => by
    rw [ckL, ckL]
    exact ck_inj l _ _ (by omega) (by omega) (by omega) (by omega) (by omega)
theorem ck_set : ∀ (l : List UInt8) (k : Nat) (c : UInt8) (hk : k < l.length) (h : Int), 0 ≤ h → h < 999979 → c ≠ l[k] → ckL (l.set k c) h ≠ ckL l h
  | [], k, c, hk, _, _, _, _ => by simp at hk
  | b :: l, 0, c, hk, h, h0, h1, hc => by
    simp only [List.getElem_cons_zero] at hc
    rw [List.set_cons_zero, ckL, ckL]
    have e1 := c.toNat_lt
    have e2 := b.toNat_lt
    have e3 : c.toNat ≠ b.toNat := fun q => hc (UInt8.toNat_inj.1 q)
    exact ck_inj l _ _ (by omega) (by omega) (by omega) (by omega) (by omega)
  | b :: l, k + 1, c, hk, h, h0, h1, hc => by
    simp only [List.getElem_cons_succ] at hc
    rw [List.set_cons_succ, ckL, ckL]
    exact ck_set l k c (by simpa using hk) _ (by omega) (by omega) hc
/-- the part ahead of the first sign -/
def cutP (l : List UInt8) : List UInt8 := l.takeWhile (fun b => b != 35)
theorem cutP_app (a b : List UInt8) (h : (35 : UInt8) ∉ a) : cutP (a ++ 35 :: b) = a := by
  unfold cutP
  rw [List.takeWhile_append_of_pos]
  · simp
  · intro x hx
    have : x ≠ 35 := fun q => h (q ▸ hx)
    simpa using this
theorem cutP_all : ∀ (a : List UInt8), (35 : UInt8) ∉ a → cutP a = a
  | [], _ => rfl
  | b :: a, h => by
    have hb : b ≠ 35 := fun q => h (q ▸ List.mem_cons_self ..)
    have ih := cutP_all a fun q => h (List.mem_cons_of_mem _ q)
    unfold cutP at ih ⊢
    rw [List.takeWhile_cons, if_pos (by simpa using hb), ih]
theorem itoa_free (u : Nat) : (35 : UInt8) ∉ Go.Lib.decDigits u := fun h => by
  have := dec_digit u 35 h
  revert this
  decide
/-- sealed text, as bytes -/
def sealL (x : List UInt8) : List UInt8 := x ++ 35 :: Go.Lib.decDigits (ckL x 7).toNat
theorem sealB_list (s : ByteArray) : (sealB s).data.toList = sealL s.data.toList := by
  have r := ckB_range s
  unfold sealB sealL
  have e : Go.Lib.itoa (ckB s) = Go.Lib.decDigits (ckL s.data.toList 7).toNat := by
    unfold ckB at r ⊢
    rw [← itoa_nat, Int.toNat_of_nonneg r.1]
  unfold numB
  rw [e]
  simp [ByteArray.data_append]
theorem seal_inj {x : List UInt8} {u : Nat} (h : x ++ 35 :: Go.Lib.decDigits u = sealL x) : (u : Int) = ckL x 7 := by
  unfold sealL at h
  have h2 := List.append_cancel_left h
  simp only [List.cons.injEq, true_and] at h2
  have r := ck_range x 7 (by omega) (by omega)
  have a := dec_back u
  have b := dec_back (ckL x 7).toNat
  rw [h2, b] at a
  have := Option.some.inj a
  omega
/-- a sealed text with one byte changed is not sealed -/
theorem changed (x : List UInt8) (hx : (35 : UInt8) ∉ x) (k : Nat) (c : UInt8) (hk : k < (sealL x).length) (hc : c ≠ (sealL x)[k]) : sealL (cutP ((sealL x).set k c)) ≠ (sealL x).set k c := by
  intro he
  have r := ck_range x 7 (by omega) (by omega)
  rcases Nat.lt_trichotomy k x.length with q | q | q
  · have es : (sealL x).set k c = x.set k c ++ 35 :: Go.Lib.decDigits (ckL x 7).toNat := by
      unfold sealL
      rw [List.set_append_left _ _ q]
    have eg : (sealL x)[k] = x[k] := List.getElem_append_left (bs := 35 :: Go.Lib.decDigits (ckL x 7).toNat) q
    rw [eg] at hc
    by_cases d : c = 35
    · subst d
      have e1 : x.set k 35 = x.take k ++ 35 :: x.drop (k + 1) := by rw [List.set_eq_take_append_cons_drop, if_pos q]
      have ht : (35 : UInt8) ∉ x.take k := fun h => hx (List.mem_of_mem_take h)
      rw [es, e1, List.append_assoc, List.cons_append, cutP_app _ _ ht] at he
      unfold sealL at he
      have h2 := List.append_cancel_left he
      simp only [List.cons.injEq, true_and] at h2
      exact itoa_free _ (h2 ▸ List.mem_append.2 (.inr (List.mem_cons_self ..)))
    · have hx' : (35 : UInt8) ∉ x.set k c := fun h => by
        rcases List.mem_or_eq_of_mem_set h with h | h
        · exact hx h
        · exact d h.symm
      rw [es, cutP_app _ _ hx'] at he
      have := seal_inj he.symm
      exact ck_set x k c q 7 (by omega) (by omega) hc (by omega)
  · have eg : (sealL x)[k] = 35 := by
      have h_ : (sealL x)[k]? = some 35 := by
        unfold sealL
        rw [List.getElem?_append_right (by omega), q, Nat.sub_self]
        rfl
      rw [List.getElem?_eq_getElem hk] at h_
      exact Option.some.inj h_
    rw [eg] at hc
    have es : (sealL x).set k c = x ++ c :: Go.Lib.decDigits (ckL x 7).toNat := by
      unfold sealL
      rw [List.set_append_right _ _ (by omega), q, Nat.sub_self, List.set_cons_zero]
    have hf : (35 : UInt8) ∉ (sealL x).set k c := by
      rw [es]
      intro h
      rcases List.mem_append.1 h with h | h
      · exact hx h
      · rcases List.mem_cons.1 h with h | h
        · exact hc h.symm
        · exact itoa_free _ h
    rw [cutP_all _ hf] at he
    have hl := congrArg List.length he
    have : (sealL ((sealL x).set k c)).length = ((sealL x).set k c).length + 1 + (Go.Lib.decDigits (ckL ((sealL x).set k c) 7).toNat).length := by
      unfold sealL
      simp only [List.length_append, List.length_cons]
      omega
    omega
  · obtain ⟨j, rfl⟩ : ∃ j, k = x.length + 1 + j := ⟨k - x.length - 1, by omega⟩
    have es : (sealL x).set (x.length + 1 + j) c = x ++ 35 :: (Go.Lib.decDigits (ckL x 7).toNat).set j c := by
      unfold sealL
      rw [List.set_append_right _ _ (by omega), show x.length + 1 + j - x.length = j + 1 by omega, List.set_cons_succ]
    have hj : j < (Go.Lib.decDigits (ckL x 7).toNat).length := by
      unfold sealL at hk
      simp only [List.length_append, List.length_cons] at hk
      omega
    have eg : (sealL x)[x.length + 1 + j] = (Go.Lib.decDigits (ckL x 7).toNat)[j] := by
      have h_ : (sealL x)[x.length + 1 + j]? = (Go.Lib.decDigits (ckL x 7).toNat)[j]? := by
        unfold sealL
        rw [List.getElem?_append_right (by omega), show x.length + 1 + j - x.length = j + 1 by omega, List.getElem?_cons_succ]
      rw [List.getElem?_eq_getElem hk, List.getElem?_eq_getElem hj] at h_
      exact Option.some.inj h_
    rw [eg] at hc
    rw [es, cutP_app _ _ hx] at he
    unfold sealL at he
    have h2 := List.append_cancel_left he
    simp only [List.cons.injEq, true_and] at h2
    refine hc ?_
    have h3 : (Go.Lib.decDigits (ckL x 7).toNat)[j]? = ((Go.Lib.decDigits (ckL x 7).toNat).set j c)[j]? := congrArg (fun l => l[j]?) h2
    rw [List.getElem?_set_self hj, List.getElem?_eq_getElem hj] at h3
    exact (Option.some.inj h3).symm
theorem headB_list (s : ByteArray) : (headB s).data.toList = cutP s.data.toList := by
  unfold headB bsOf cutP
  simp
theorem list_eq_iff (a b : ByteArray) : a.toList = b.toList ↔ a.data.toList = b.data.toList := by
  rw [ByteArray.toList_eq, ByteArray.toList_eq]
theorem vec_sealed (x : ByteArray) (hx : x.data.toList.contains 35 = false) (hz : ¬ ((sealB x).size : Int) > 4000) : vec (sealB x) = (x, true) := by
  have hx' : (35 : UInt8) ∉ x.data.toList := by
    intro h
    have := List.contains_iff_mem.2 h
    rw [hx] at this
    cases this
  have hh : headB (sealB x) = x := by
    have : (headB (sealB x)).data.toList = x.data.toList := by
      rw [headB_list, sealB_list]
      unfold sealL
      rw [cutP_app _ _ hx']
    apply ByteArray.ext
    exact Array.toList_inj.1 this
  unfold vec
  rw [if_neg hz, hh, if_pos rfl]
theorem vec_changed (x : ByteArray) (hx : x.data.toList.contains 35 = false) (y' : ByteArray) (k : Nat) (c : UInt8) (hk : k < (sealL x.data.toList).length) (hc : c ≠ (sealL x.data.toList)[k]) (hy : y'.data.toList = (sealL x.data.toList).set k c) : (vec y').2 = false := by
  have hx' : (35 : UInt8) ∉ x.data.toList := by
    intro h
    have := List.contains_iff_mem.2 h
    rw [hx] at this
    cases this
  unfold vec
  split
  · rfl
  · rw [if_neg]
    intro h
    rw [list_eq_iff, sealB_list, headB_list, hy] at h
    exact changed _ hx' k c hk hc h
theorem spec_append_ev (s : ByteArray) (hs : s.size ≤ 1048576) : Ev (fun k => spec_AppendChecksum.f k s) (apc s) := by
  unfold spec_AppendChecksum.f apc
  by_cases c1 : (s.size : Int) > 4000
  · rw [if_pos c1]
    exact ev_if_pos c1 (ev_const _)
  · rw [if_neg c1]
    refine ev_if_neg c1 (Ev.bind (stands_ev s 35 hs) ?_)
    by_cases c2 : s.data.toList.contains 35 = true
    · rw [if_pos c2]
      exact ev_if_pos c2 (ev_const _)
    · rw [if_neg c2]
      refine ev_if_neg c2 (Ev.bind (l1Seal_ev s hs) ?_)
      by_cases c3 : ((sealB s).size : Int) > 4000
      · rw [if_pos c3]
        exact ev_if_pos c3 (ev_const _)
      · rw [if_neg c3]
        exact ev_if_neg c3 (Ev.bind (l1Seal_ev s hs) (ev_const _))
/-- what FormatInt tells -/
def fmt (n : Int) : ByteArray × Bool := if inB (-999999) 999999 n = true then (numB n, true) else ((⟨#[]⟩ : ByteArray), false)
theorem spec_fmt_ev (n : Int) : Ev (fun k => spec_FormatInt.f k n) (fmt n) := by
  unfold spec_FormatInt.f fmt
  rw [spec_l1In_is]
  refine Ev.bind (ev_const _) ?_
  by_cases c : inB (-999999) 999999 n = true
  · have q := inB_iff.1 c
    rw [if_pos c]
    exact ev_if_pos c (Ev.bind (l1Num_ev n (by omega)) (ev_const _))
  · rw [if_neg c]
    exact ev_if_neg c (ev_const _)
theorem impl_fmt_ev (n : Int) : Ev (fun k => impl_FormatInt.f k n) (fmt n) := by
  unfold impl_FormatInt.f fmt
  rw [impl_within_is]
  refine Ev.bind (ev_const _) ?_
  by_cases c : inB (-999999) 999999 n = true
  · have q := inB_iff.1 c
    rw [if_pos c]
    exact ev_if_pos c (Ev.bind (itoa_ev n (by omega)) (ev_const _))
  · rw [if_neg c]
    exact ev_if_neg c (ev_const _)
theorem draw_fmt (l : List Int) (hb : byt l) : ∃ n, spec_DrawFormatInt.f l = some n := by
  unfold spec_DrawFormatInt.f
  obtain ⟨v, a1, s1, e1, _, _, g2, g3⟩ := pick_tells l 0 0 1000 hb (by omega) (by omega)
  rw [e1, Option.bind_some]
  obtain ⟨x, a2, s2, e2, _, _, _⟩ := among_tells l a1 s1 [0, 1, (-1), 10, 999999, (-999999), 1000000, (-1000000), wrap64 (v - 500)] hb (by omega) (by omega) (by simp)
  rw [e2, Option.bind_some]
  exact ⟨_, rfl⟩
def parseL : List ByteArray := [(⟨#[]⟩ : ByteArray), (⟨#[45]⟩ : ByteArray), (⟨#[45, 48]⟩ : ByteArray), (⟨#[48, 48]⟩ : ByteArray), (⟨#[48, 49]⟩ : ByteArray), (⟨#[45, 45, 49]⟩ : ByteArray), (⟨#[49, 120]⟩ : ByteArray), (⟨#[57, 57, 57, 57, 57, 57]⟩ : ByteArray), (⟨#[49, 48, 48, 48, 48, 48, 48]⟩ : ByteArray), (⟨#[45, 57, 57, 57, 57, 57, 57]⟩ : ByteArray), (⟨#[49, 56, 52, 52, 54, 55, 52, 52, 48, 55, 51, 55, 48, 57, 53, 53, 49, 54, 49, 55]⟩ : ByteArray)]
theorem parseL_size : ∀ s ∈ parseL, s.size ≤ 30 := by
  intro s hs
  simp only [parseL, List.mem_cons, List.not_mem_nil, or_false] at hs
  rcases hs with rfl | rfl | rfl | rfl | rfl | rfl | rfl | rfl | rfl | rfl | rfl <;> decide
theorem draw_parse (l : List Int) (hb : byt l) : ∃ t, Ev (fun k => spec_DrawParseInt.f k l) t ∧ t.size ≤ 30 := by
  obtain ⟨b, a1, s1, e1, g2, g3⟩ := oneI_tells l 0 0 2 hb (by omega) (by omega)
  by_cases c : b = true
  · obtain ⟨t, a2, s2, e2, ht, _, _⟩ := of_tells l a1 s1 parseL hb (by omega) (by omega) (by decide)
    unfold parseL at e2
    refine ⟨t, ?_, parseL_size t ht⟩
    unfold spec_DrawParseInt.f
    exact Ev.bind (ev_of 0 fun k _ => e1) (ev_if_pos c (Ev.bind (ev_of 0 fun k _ => e2) (ev_const _)))
  · obtain ⟨v, a2, s2, e2, h0, h1, _, _⟩ := pick_tells l a1 s1 2000 hb (by omega) (by omega)
    have w : wrap64 (v - 1000) = v - 1000 := w64 (by omega) (by omega)
    have hn := l1Num_ev (v - 1000) (by omega)
    have hz := numB_size (v - 1000) (by omega)
    refine ⟨numB (v - 1000), ?_, by omega⟩
    unfold spec_DrawParseInt.f
    refine Ev.bind (ev_of 0 fun k _ => e1) (ev_if_neg c (Ev.bind (ev_of 0 fun k _ => e2) ?_))
    show Ev (fun k => (spec_l1Num.f k (wrap64 (v - 1000))).bind fun t => some t) _
    rw [w]
    exact Ev.bind hn (ev_const _)
theorem draw_app (l : List Int) (hb : byt l) : ∃ x, spec_DrawAppendChecksum.f l = some x ∧ x.size ≤ 4010 := by
  unfold spec_DrawAppendChecksum.f
  obtain ⟨b, a1, s1, e1, g2, g3⟩ := oneI_tells l 0 0 20 hb (by omega) (by omega)
  rw [e1, Option.bind_some]
  by_cases c : b = true
  · rw [if_pos c]
    obtain ⟨v, a2, s2, e2, h0, h1, _, _⟩ := pick_tells l a1 s1 10 hb (by omega) (by omega)
    rw [e2, Option.bind_some]
    rw [w64 (x := 3990 + v) (by omega) (by omega), if_pos (by omega), if_pos (by omega)]
    exact ⟨_, rfl, by rw [zeros_size]; omega⟩
  · rw [if_neg c]
    obtain ⟨s, a2, s2, e2, h1, _, _⟩ := any1_tells l a1 s1 hb (by omega) (by omega)
    rw [e2, Option.bind_some]
    exact ⟨_, rfl, by show s.size ≤ 4010; omega⟩
theorem vAt_ev (l : List Int) (hb : byt l) (hl : l.length ≤ 100000) (i : Nat) (hi : i ≤ 100) : ∃ v, laws_vAt.f l (i : Int) = some v ∧ 0 ≤ v ∧ v ≤ 255 := by
  unfold laws_vAt.f
  by_cases c : (i : Int) < (l.length : Int)
  · have h : i < l.length := by omega
    have := hb l[i] (List.getElem_mem h)
    rw [if_pos c, if_pos (by omega), rd_nat l i h, w64 (by omega) (by omega)]
    exact ⟨_, rfl, this⟩
  · rw [if_neg c, w64 (x := (i : Int) * 7) (by omega) (by omega), w64 (x := (i : Int) * 7 + (l.length : Int)) (by omega) (by omega), Int.tmod_eq_emod_of_nonneg (by omega)]
    exact ⟨_, rfl, by omega, by omega⟩
theorem bytes_rd (y : ByteArray) (i : Nat) (h : i < y.data.toList.length) : rd (BC.bytesL y) (i : Int) = ((y.data.toList[i].toNat : Nat) : Int) := by
  rw [rd_nat _ i (by rw [BC.bytesL_length]; exact h)]
  unfold BC.bytesL
  simp
theorem back_bytes (y : ByteArray) (i : Nat) (v : Int) : (strOfNums ((BC.bytesL y).set i v)).data.toList = y.data.toList.set i (UInt8.ofNat v.toNat) := by
  rw [strOfNums_data, List.map_set]
  congr 1
  unfold BC.bytesL
  rw [List.map_map]
  conv => rhs; rw [← List.map_id y.data.toList]
  refine List.map_congr_left fun b _ => ?_
  show UInt8.ofNat ((b.toNat : Int)).toNat = b
  rw [Int.toNat_natCast]
  exact UInt8.ofNat_toNat
theorem FnStrings : ∀ (l0 : List Int), l0.length ≤ maxLen → (∀ x ∈ l0, (Lit.int .u8 x).wf = true) → ∃ k, laws_FnStrings.f k l0 = some true := by
  intro l hl hw
  have hb := byt_wf hw
  refine Ev.rounds (g := fun k => laws_FnStrings.f k l) ?_
  unfold laws_FnStrings.f laws_vBig.f
  refine Ev.bind (ev_const _) ?_
  by_cases c : decide ((l.length : Int) > 65536) = true
  · exact ev_if_pos c (ev_const _)
  refine ev_if_neg c ?_
  have hl2 : l.length ≤ 65536 := by
    have : ¬ ((l.length : Int) > 65536) := fun h => c (decide_eq_true h)
    omega
  obtain ⟨n, d1⟩ := draw_fmt l hb
  obtain ⟨t, d2, ht⟩ := draw_parse l hb
  obtain ⟨x, d3, hx⟩ := draw_app l hb
  have p2 : Ev (fun k => spec_ParseInt.f k t) (rdI t) := by
    unfold spec_ParseInt.f
    rw [rd_same]
    exact Ev.bind (l1Read_ev t (by omega)) (ev_const _)
  have q1 := impl_append_ev x (by omega)
  have q2 := spec_append_ev x (by omega)
  have J1 : Ev (fun k => laws_FnStrings.j1 k l x (apc x).1 (apc x).2 false) true := by
    by_cases g : (apc x).2 = true
    · have hcase : x.data.toList.contains 35 = false ∧ ¬ ((sealB x).size : Int) > 4000 ∧ apc x = (sealB x, true) := by
        unfold apc at g ⊢
        by_cases c1 : (x.size : Int) > 4000
        · rw [if_pos c1] at g
          simp at g
        · rw [if_neg c1] at g ⊢
          by_cases c2 : x.data.toList.contains 35 = true
          · rw [if_pos c2] at g
            simp at g
          · rw [if_neg c2] at g ⊢
            by_cases c3 : ((sealB x).size : Int) > 4000
            · rw [if_pos c3] at g
              simp at g
            · rw [if_neg c3]
              exact ⟨Bool.eq_false_iff.2 c2, c3, rfl⟩
      obtain ⟨hf, h4, ea⟩ := hcase
      rw [ea]
      have hsz : (sealB x).size ≤ 4000 := by omega
      have hlen : (sealB x).data.toList.length = (sealB x).size := rfl
      have v1 := impl_verify_ev (sealB x) (by omega)
      rw [vec_sealed x hf h4] at v1
      obtain ⟨i9, e9, r9, r9'⟩ := vAt_ev l hb (by omega) 9 (by omega)
      obtain ⟨i10, e10, r10, r10'⟩ := vAt_ev l hb (by omega) 10 (by omega)
      have bl := BC.bytesL_length (sealB x)
      have hpos : 0 < (sealB x).size := by
        rw [← hlen, sealB_list]
        unfold sealL
        rw [List.length_append, List.length_cons]
        omega
      obtain ⟨k, hk⟩ : ∃ k : Nat, Int.tmod i9 ((BC.bytesL (sealB x)).length : Int) = (k : Int) ∧ k < (sealB x).size := by
        rw [bl, Int.tmod_eq_emod_of_nonneg r9]
        have h1 := Int.emod_nonneg i9 (show ((sealB x).size : Int) ≠ 0 by omega)
        have h2 := Int.emod_lt_of_pos i9 (show (0 : Int) < ((sealB x).size : Int) by omega)
        exact ⟨(i9 % ((sealB x).size : Int)).toNat, by omega, by omega⟩
      obtain ⟨ek, hk⟩ := hk
      have m1 : Int.tmod i10 255 = i10 % 255 := Int.tmod_eq_emod_of_nonneg r10
      have m2 : (wrap64 (1 + Int.tmod i10 255)) % 256 = 1 + i10 % 255 := by
        rw [m1, w64 (x := 1 + i10 % 255) (by omega) (by omega)]
        omega
      have hkl : k < (sealB x).data.toList.length := hk
      have er := bytes_rd (sealB x) k hkl
      obtain ⟨Y, hY⟩ : ∃ Y, strOfNums ((BC.bytesL (sealB x)).set (Int.tmod i9 ((BC.bytesL (sealB x)).length : Int)).toNat (Go.bits .xor .u8 (rd (BC.bytesL (sealB x)) (Int.tmod i9 ((BC.bytesL (sealB x)).length : Int))) ((wrap64 (1 + (Int.tmod i10 255))) % 256))) = Y := ⟨_, rfl⟩
      have eY : ∃ c : UInt8, c ≠ (sealB x).data.toList[k] ∧ Y.data.toList = (sealB x).data.toList.set k c := by
        have b1 := ((sealB x).data.toList[k]).toNat_lt
        rw [ek, er, m2, Int.toNat_natCast, u8_xor _ _ (by omega) (by omega) (by omega) (by omega), Int.toNat_natCast] at hY
        refine ⟨UInt8.ofNat (((sealB x).data.toList[k].toNat ^^^ (1 + i10 % 255).toNat : Nat) : Int).toNat, ?_, ?_⟩
        · rw [Int.toNat_natCast]
          intro q
          have q2 := congrArg UInt8.toNat q
          rw [UInt8.toNat_ofNat'] at q2
          have lt : (sealB x).data.toList[k].toNat ^^^ (1 + i10 % 255).toNat < 2 ^ 8 := Nat.xor_lt_two_pow (by omega) (by omega)
          rw [Nat.mod_eq_of_lt lt] at q2
          have q3 := congrArg (fun z => (sealB x).data.toList[k].toNat ^^^ z) q2
          simp only [← Nat.xor_assoc, Nat.xor_self, Nat.zero_xor] at q3
          omega
        · rw [← hY, back_bytes]
      obtain ⟨c, hc1, hc2⟩ := eY
      have hYz : Y.size = (sealB x).size := by
        have := congrArg List.length hc2
        rw [List.length_set] at this
        exact this
      have v2 := impl_verify_ev Y (by omega)
      have bad : (vec Y).2 = false := vec_changed x hf Y k c (by rw [← sealB_list]; exact hkl) (by simp only [← sealB_list]; exact hc1) (by rw [hc2, sealB_list])
      refine Ev.step (f := fun k => (impl_VerifyChecksum.f k (sealB x)).bind fun bt205 => if (sealB x).size ≤ 9223372036854775807 then ((some (BC.bytesL (sealB x) : List Int)).bind fun y207 => ((laws_vAt.f l 9).bind fun t210 => (if (y207.length : Int) = 0 then (none) else (if 0 ≤ (Int.tmod t210 (y207.length : Int)) then (if (Int.tmod t210 (y207.length : Int)) < (y207.length : Int) then ((laws_vAt.f l 10).bind fun t212 => ((impl_VerifyChecksum.f k (strOfNums (y207.set ((Int.tmod t210 (y207.length : Int)) : Int).toNat (Go.bits .xor .u8 (rd y207 (Int.tmod t210 (y207.length : Int))) ((wrap64 (1 + (Int.tmod t212 255))) % 256))))).bind fun bt214 => (if bt205.2 = true then (if bt205.1.toList = x.toList then (some (!bt214.2)) else (some false)) else (some false)))) else (none)) else (none))))) else none) (fun k => by rw [laws_FnStrings.j1, if_neg (by simp), if_pos rfl]) ?_
      refine Ev.bind v1 (ev_if_pos (by omega) (Ev.bind (ev_const _) (Ev.bind (ev_of 0 fun k _ => e9) (ev_if_neg (by omega) (ev_if_pos (by omega) (ev_if_pos (by omega) (Ev.bind (ev_of 0 fun k _ => e10) ?_)))))))
      rw [hY]
      refine Ev.bind v2 (ev_if_pos rfl (ev_if_pos rfl ?_))
      rw [bad]
      exact ev_const _
    · have ea : (apc x).1 = (⟨#[]⟩ : ByteArray) := by
        unfold apc at g ⊢
        by_cases c1 : (x.size : Int) > 4000
        · rw [if_pos c1]
        · rw [if_neg c1] at g ⊢
          by_cases c2 : x.data.toList.contains 35 = true
          · rw [if_pos c2]
          · rw [if_neg c2] at g ⊢
            by_cases c3 : ((sealB x).size : Int) > 4000
            · rw [if_pos c3]
            · rw [if_neg c3] at g
              exact absurd rfl g
      rw [ea]
      refine Ev.step (f := fun _ => some ((⟨#[]⟩ : ByteArray).toList == ([] : List UInt8))) (fun k => by rw [laws_FnStrings.j1, if_neg (by simp), if_neg g]) ?_
      rw [show ((⟨#[]⟩ : ByteArray).toList == ([] : List UInt8)) = true by rw [ByteArray.toList_eq]; rfl]
      exact ev_const _
  have J0 : Ev (fun k => laws_FnStrings.j0 k l n (fmt n).1 (fmt n).2 x (apc x).1 (apc x).2 false) true := by
    have p := impl_parse_ev (fmt n).1
    by_cases c : inB (-999999) 999999 n = true
    · have e : fmt n = (numB n, true) := by unfold fmt; rw [if_pos c]
      rw [e] at p ⊢
      rw [rdI_back n (inB_iff.1 c)] at p
      refine Ev.step (f := fun k => (impl_ParseInt.f k (numB n)).bind fun bt => if bt.2 = true then laws_FnStrings.j1 k l x (apc x).1 (apc x).2 (bt.1 != n) else laws_FnStrings.j1 k l x (apc x).1 (apc x).2 true) (fun k => by rw [laws_FnStrings.j0, if_neg (by simp)]; simp only [if_true]) (Ev.bind p (ev_if_pos rfl ?_))
      rw [show ((n, true).1 != n) = false by simp]
      exact J1
    · have e : fmt n = ((⟨#[]⟩ : ByteArray), false) := by unfold fmt; rw [if_neg c]
      rw [e] at p ⊢
      exact Ev.step (f := fun k => (impl_ParseInt.f k (⟨#[]⟩ : ByteArray)).bind fun _ => laws_FnStrings.j1 k l x (apc x).1 (apc x).2 false) (fun k => by rw [laws_FnStrings.j0, if_neg (by simp)]; simp only [Bool.false_eq_true, if_false]) (Ev.bind p J1)
  refine Ev.bind (ev_of 0 fun k _ => d1) (Ev.bind (impl_fmt_ev n) (Ev.bind (spec_fmt_ev n) (Ev.bind d2 (Ev.bind (impl_parse_ev t) (Ev.bind p2 (Ev.bind (ev_of 0 fun k _ => d3) (Ev.bind q1 (Ev.bind q2 ?_))))))))
  refine ev_if_pos rfl (ev_if_neg (by simp) (ev_if_pos rfl (ev_if_neg (by simp) (ev_if_pos rfl ?_))))
  rw [show ((apc x).2 != (apc x).2) = false by simp]
  exact J0

end Go.Proofs.YtkgjacacldcacaaDoor.Pure
