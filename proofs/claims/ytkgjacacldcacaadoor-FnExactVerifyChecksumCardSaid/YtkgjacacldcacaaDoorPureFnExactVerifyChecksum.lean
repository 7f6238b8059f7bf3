/- Proved: the law FnExactVerifyChecksum answers true for every text; no condition. -/
import Derived.Test.YtkgjacacldcacaaDoorQFnExactVerifyChecksumx2
import Derived.Lib.ItoaLen
import Derived.Lib.IndexAny
import Derived.Lib.SplitLaws
import Derived.Lib.IndexBytes
import Derived.Lib.IndexLaws
import Derived.Test.YtkgjacacldcacaaDoorBase
set_option linter.unusedVariables false
set_option linter.unusedSimpArgs false
namespace Go.Proofs.YtkgjacacldcacaaDoor.Pure
open Go.RowKit Go.Proofs.YtkgjacacldcacaaDoor.QFnExactVerifyChecksum Go.Proofs.YtkgjacacldcacaaDoorW.PrintWords Go.Proofs.YtkgjacacldcacaaDoorW.PrintLast Go.Proofs.YtkgjacacldcacaaDoorW.PrintMore Go.Proofs.YtkgjacacldcacaaDoor.Base

theorem spec_l1Sum_some (s : ByteArray) (hs : s.size ≤ 1048576) : ∀ (k i : Nat) (h : Int), i ≤ s.size → s.size < i + k → ∃ r, spec_l1Sum.l0 k s h (i : Int) = some r
  | 0, i, h, _, hk => by omega
  | k + 1, i, h, hi, hk => by
    simp only [spec_l1Sum.l0]
    by_cases e : i < s.size
    · rw [if_pos (by omega), if_pos (by omega), w64_nat (by omega)]
      exact spec_l1Sum_some s hs k (i + 1) _ (by omega) (by omega)
    · rw [if_neg (by omega)]
      exact ⟨_, rfl⟩
theorem impl_checksum_same (s : ByteArray) : ∀ (k : Nat) (h i : Int), impl_checksum.l0 k s h (s.size : Int) i = spec_l1Sum.l0 k s h i
  | 0, h, i => rfl
  | k + 1, h, i => by
    simp only [impl_checksum.l0, spec_l1Sum.l0]
    by_cases e : i < (s.size : Int)
    · rw [if_pos e, if_pos e, if_pos e, impl_checksum_same s k]
    · rw [if_neg e, if_neg e]
theorem ev_of {α : Type} {g : Nat → Option α} {r : α} (B : Nat) (h : ∀ k, B < k → g k = some r) : Ev g r := ⟨B + 1, fun k hk => h k (by omega)⟩
theorem ev_const {α : Type} (r : α) : Ev (fun _ => some r) r := Ev.now r
theorem ev_if_pos {α : Type} {c : Prop} [Decidable c] {f g : Nat → Option α} {r : α} (h : c) (k : Ev f r) : Ev (fun n => if c then f n else g n) r := Ev.congr (fun n => if_pos h) k
theorem ev_if_neg {α : Type} {c : Prop} [Decidable c] {f g : Nat → Option α} {r : α} (h : ¬ c) (k : Ev g r) : Ev (fun n => if c then f n else g n) r := Ev.congr (fun n => if_neg h) k
/-- the numeral of a number -/
def numB (n : Int) : ByteArray := ⟨(Go.Lib.itoa n).toArray⟩
theorem dig_is : ∀ (u : Nat), u < 10 → (⟨#[48, 49, 50, 51, 52, 53, 54, 55, 56, 57]⟩ : ByteArray).extract u (u + 1) = ⟨[UInt8.ofNat (48 + u)].toArray⟩
  | 0, _ => rfl
  | 1, _ => rfl
  | 2, _ => rfl
  | 3, _ => rfl
  | 4, _ => rfl
  | 5, _ => rfl
  | 6, _ => rfl
  | 7, _ => rfl
  | 8, _ => rfl
  | 9, _ => rfl
  | n + 10, h => by omega
theorem decDigits_le (u : Nat) : (Go.Lib.decDigits u).length ≤ u + 1 := by
  induction u using Nat.strongRecOn with
  | _ u ih =>
    rw [Go.Lib.decDigits]
    split
    · simp
    · have := ih (u / 10) (by omega)
      rw [List.length_append]
      simp only [List.length_singleton]
      omega
theorem bytes_app (a b : List UInt8) : (⟨a.toArray⟩ ++ ⟨b.toArray⟩ : ByteArray) = ⟨(a ++ b).toArray⟩ := by
  apply ByteArray.ext
  simp [ByteArray.data_append]
theorem bytes_size (a : List UInt8) : (⟨a.toArray⟩ : ByteArray).size = a.length := by
  show a.toArray.size = _
  simp
theorem l1Num_nat (u : Nat) (hu : u ≤ 4611686018427387904) : Ev (fun k => spec_l1Num.f k (u : Int)) (⟨(Go.Lib.decDigits u).toArray⟩ : ByteArray) := by
  induction u using Nat.strongRecOn with
  | _ u ih =>
    by_cases c : u < 10
    · rw [Go.Lib.decDigits, dif_pos c, ← dig_is u c]
      have e1 : wrap64 ((u : Int) + 1) = ((u + 1 : Nat) : Int) := w64_nat (by omega)
      refine Ev.step (f := fun _ => some ((⟨#[48, 49, 50, 51, 52, 53, 54, 55, 56, 57]⟩ : ByteArray).extract u (u + 1))) (fun k => ?_) (ev_const _)
      rw [spec_l1Num.f, if_neg (by omega), if_pos (by omega), if_pos (by omega), e1, if_pos (by omega), if_pos (by omega)]
      rfl
    · have ih2 := ih (u / 10) (by omega) (by omega)
      have ed : wrap64 (Int.tdiv (u : Int) 10) = ((u / 10 : Nat) : Int) := by
        rw [show Int.tdiv (u : Int) 10 = ((u / 10 : Nat) : Int) from rfl]
        exact w64 (by omega) (by omega)
      have em : Int.tmod (u : Int) 10 = ((u % 10 : Nat) : Int) := rfl
      have e1 : wrap64 (((u % 10 : Nat) : Int) + 1) = ((u % 10 + 1 : Nat) : Int) := w64_nat (by omega)
      have hx := dig_is (u % 10) (Nat.mod_lt _ (by omega))
      have hl := decDigits_le (u / 10)
      rw [Go.Lib.decDigits, dif_neg c]
      refine Ev.step (f := fun k => (spec_l1Num.f k ((u / 10 : Nat) : Int)).bind fun t => if t.size + 1 ≤ 9223372036854775807 then some (t ++ ⟨[UInt8.ofNat (48 + u % 10)].toArray⟩) else none) (fun k => ?_) (Ev.bind ih2 (ev_if_pos ?_ ?_))
      · rw [spec_l1Num.f, if_neg (by omega), if_neg (by omega), ed, em, e1]
        congr 1
        funext t
        rw [if_pos (by omega), if_pos (by omega), if_pos (by omega), Int.toNat_natCast, Int.toNat_natCast, hx, bytes_size]
        rfl
      · rw [bytes_size]
        omega
      · rw [bytes_app]
        exact ev_const _
theorem l1Num_ev (n : Int) (h : -4611686018427387904 ≤ n ∧ n ≤ 4611686018427387904) : Ev (fun k => spec_l1Num.f k n) (numB n) := by
  unfold numB Go.Lib.itoa
  by_cases c : n < 0
  · rw [if_pos c]
    obtain ⟨u, rfl⟩ : ∃ u : Nat, n = -(u : Int) := ⟨n.natAbs, by omega⟩
    have hx := l1Num_nat u (by omega)
    have hl := decDigits_le u
    rw [show (-(u : Int)).natAbs = u by omega]
    refine Ev.step (f := fun k => (spec_l1Num.f k (u : Int)).bind fun t => if 1 + t.size ≤ 9223372036854775807 then some ((⟨#[45]⟩ : ByteArray) ++ t) else none) (fun k => ?_) (Ev.bind hx (ev_if_pos ?_ ?_))
    · rw [spec_l1Num.f, if_pos c, Int.neg_neg, w64 (x := (u : Int)) (by omega) (by omega)]
    · rw [bytes_size]
      omega
    · rw [show (⟨#[45]⟩ : ByteArray) = ⟨([45] : List UInt8).toArray⟩ from rfl, bytes_app]
      exact ev_const _
  · rw [if_neg c]
    obtain ⟨u, rfl⟩ := Int.eq_ofNat_of_zero_le (show 0 ≤ n by omega)
    exact l1Num_nat u (by omega)
theorem bt_get (s : ByteArray) (i : Nat) (h : i < s.size) : bt s (i : Int) = (((s.data.toList[i]'h).toNat : Nat) : Int) := by
  rw [← bt_at s (i : Int) h]
  rfl
theorem u8_ne {a b : UInt8} (h : a ≠ b) : ¬ ((a.toNat : Nat) : Int) = ((b.toNat : Nat) : Int) := fun e => h (UInt8.toNat_inj.1 (by omega))
theorem bsize (s : ByteArray) : s.data.toList.length = s.size := rfl
theorem numB_size (n : Int) (h : -9223372036854775808 ≤ n ∧ n ≤ 9223372036854775807) : (numB n).size ≤ 21 := by
  unfold numB
  rw [bytes_size]
  exact Go.Lib.itoa_length_le n h.1 h.2
theorem itoa_ev (n : Int) (h : -9223372036854775808 ≤ n ∧ n ≤ 9223372036854775807) : Ev (fun k => strconv_Itoa.f k n) (numB n) := by
  unfold strconv_Itoa.f
  exact ev_if_pos h.1 (ev_if_pos h.2 (ev_const _))
/-- the checksum, from h on -/
def ckL : List UInt8 → Int → Int
  | [], h => h
  | b :: l, h => ckL l ((41 * h + ((b.toNat : Nat) : Int) + 1) % 999979)
theorem ck_range : ∀ (l : List UInt8) (h : Int), 0 ≤ h → h < 999979 → 0 ≤ ckL l h ∧ ckL l h < 999979
  | [], h, h0, h1 => ⟨h0, h1⟩
  | b :: l, h, h0, h1 => by
    rw [ckL]
    exact ck_range l _ (by omega) (by omega)
theorem ck_l (s : ByteArray) (hs : s.size ≤ 1048576) : ∀ (j i : Nat) (h : Int), i + j = s.size → 0 ≤ h → h < 999979 → Ev (fun k => spec_l1Sum.l0 k s h (i : Int)) (ckL (s.data.toList.drop i) h)
  | 0, i, h, hj, h0, h1 => by
    rw [List.drop_of_length_le (by rw [bsize]; omega)]
    refine Ev.step (f := fun _ => some h) (fun k => ?_) (ev_const _)
    rw [spec_l1Sum.l0, if_neg (by omega)]
  | j + 1, i, h, hj, h0, h1 => by
    have hi : i < s.data.toList.length := by rw [bsize]; omega
    have e := bt_get s i hi
    have hb := s.data.toList[i].toNat_lt
    rw [List.drop_eq_getElem_cons hi, ckL]
    have ih := ck_l s hs j (i + 1) ((41 * h + ((s.data.toList[i].toNat : Nat) : Int) + 1) % 999979) (by omega) (by omega) (by omega)
    refine Ev.step (fun k => ?_) ih
    rw [spec_l1Sum.l0, if_pos (by omega), if_pos (by omega), e, w64_nat (by omega), w64 (x := 41 * h) (by omega) (by omega), w64 (x := ((s.data.toList[i].toNat : Nat) : Int)) (by omega) (by omega), w64 (x := 41 * h + ((s.data.toList[i].toNat : Nat) : Int)) (by omega) (by omega), w64 (x := 41 * h + ((s.data.toList[i].toNat : Nat) : Int) + 1) (by omega) (by omega), Int.tmod_eq_emod_of_nonneg (by omega)]
def ckB (s : ByteArray) : Int := ckL s.data.toList 7
theorem ckB_range (s : ByteArray) : 0 ≤ ckB s ∧ ckB s < 999979 := ck_range _ 7 (by omega) (by omega)
theorem l1Sum_ev (s : ByteArray) (hs : s.size ≤ 1048576) : Ev (fun k => spec_l1Sum.f k s) (ckB s) := by
  have := ck_l s hs s.size 0 7 (by omega) (by omega) (by omega)
  rw [List.drop_zero] at this
  exact this
theorem checksum_ev (s : ByteArray) (hs : s.size ≤ 1048576) : Ev (fun k => impl_checksum.f k s) (ckB s) := by
  refine Ev.congr (fun k => ?_) (l1Sum_ev s hs)
  unfold impl_checksum.f spec_l1Sum.f
  exact impl_checksum_same s k 7 0
/-- a text with its checksum -/
def sealB (s : ByteArray) : ByteArray := (s ++ (⟨#[35]⟩ : ByteArray)) ++ numB (ckB s)
theorem size_one (s : ByteArray) : (s ++ (⟨#[35]⟩ : ByteArray)).size = s.size + 1 := by
  rw [ByteArray.size_append]
  rfl
theorem l1Seal_ev (s : ByteArray) (hs : s.size ≤ 1048576) : Ev (fun k => spec_l1Seal.f k s) (sealB s) := by
  have r := ckB_range s
  have z := numB_size (ckB s) (by omega)
  unfold spec_l1Seal.f
  refine ev_if_pos (by omega) (Ev.bind (l1Sum_ev s hs) (Ev.bind (l1Num_ev (ckB s) (by omega)) (ev_if_pos ?_ (ev_const _))))
  rw [size_one]
  omega
/-- what AppendChecksum tells -/
def apc (s : ByteArray) : ByteArray × Bool := if (s.size : Int) > 4000 then (⟨#[]⟩, false) else if s.data.toList.contains 35 = true then (⟨#[]⟩, false) else if ((sealB s).size : Int) > 4000 then (⟨#[]⟩, false) else (sealB s, true)
theorem impl_append_ev (s : ByteArray) (hs : s.size ≤ 1048576) : Ev (fun k => impl_AppendChecksum.f k s) (apc s) := by
  have r := ckB_range s
  have z := numB_size (ckB s) (by omega)
  unfold impl_AppendChecksum.f apc
  by_cases c1 : (s.size : Int) > 4000
  · rw [if_pos c1]
    refine ev_if_pos c1 (Ev.step (f := fun _ => some (⟨#[]⟩, false)) (fun k => ?_) (ev_const _))
    rw [impl_AppendChecksum.j0, if_pos rfl]
  · rw [if_neg c1]
    have ct : Ev (fun k => strings_Contains.f k s (⟨#[35]⟩ : ByteArray)) (s.data.toList.contains 35) := by
      rw [Go.Lib.contains_iff_indexByte]
      exact ev_const _
    refine ev_if_neg c1 (Ev.bind ct ?_)
    by_cases c2 : s.data.toList.contains 35 = true
    · rw [if_pos c2, c2]
      refine Ev.step (f := fun _ => some (⟨#[]⟩, false)) (fun k => ?_) (ev_const _)
      rw [impl_AppendChecksum.j0, if_pos rfl]
    · rw [if_neg c2, Bool.eq_false_iff.2 c2]
      have hz : (s ++ (⟨#[35]⟩ : ByteArray)).size + (numB (ckB s)).size ≤ 9223372036854775807 := by rw [size_one]; omega
      refine Ev.step (f := fun k => (impl_checksum.f k s).bind fun t => (strconv_Itoa.f k t).bind fun u => if (s ++ (⟨#[35]⟩ : ByteArray)).size + u.size ≤ 9223372036854775807 then (if (((s ++ (⟨#[35]⟩ : ByteArray)) ++ u).size : Int) > 4000 then some ((⟨#[]⟩ : ByteArray), false) else some ((s ++ (⟨#[35]⟩ : ByteArray)) ++ u, true)) else none) (fun k => by rw [impl_AppendChecksum.j0, if_neg (by simp), if_pos (by omega)]) (Ev.bind (checksum_ev s hs) (Ev.bind (itoa_ev (ckB s) (by omega)) (ev_if_pos hz ?_)))
      show Ev (fun _ => if ((sealB s).size : Int) > 4000 then some ((⟨#[]⟩ : ByteArray), false) else some (sealB s, true)) _
      by_cases c3 : ((sealB s).size : Int) > 4000
      · rw [if_pos c3, if_pos c3]
        exact ev_const _
      · rw [if_neg c3, if_neg c3]
        exact ev_const _
def bsOf (l : List UInt8) : ByteArray := ⟨l.toArray⟩
theorem bsOf_data (s : ByteArray) : bsOf s.data.toList = s := by
  unfold bsOf
  rw [Array.toArray_toList]
theorem ext_list (s : ByteArray) (i j : Nat) : s.extract i j = bsOf ((s.data.toList.take j).drop i) := by
  apply ByteArray.ext
  rw [ByteArray.data_extract]
  unfold bsOf
  apply Array.toList_inj.1
  simp [List.drop_take]
/-- the parts of a text between bytes c -/
def splL (c : UInt8) : List UInt8 → List (List UInt8)
  | [] => [[]]
  | b :: l => if b = c then [] :: splL c l else match splL c l with
    | [] => [[b]]
    | p :: ps => (b :: p) :: ps
def glue (p : List UInt8) : List (List UInt8) → List (List UInt8)
  | [] => [p]
  | q :: qs => (p ++ q) :: qs
theorem spl_ne (c : UInt8) : ∀ l, splL c l ≠ []
  | [] => by simp [splL]
  | b :: l => by
    rw [splL]
    split
    · simp
    · split <;> simp
theorem glue_nil : ∀ l, l ≠ [] → glue [] l = l
  | [], h => absurd rfl h
  | q :: qs, _ => rfl
theorem glue_cons (c b : UInt8) (h : b ≠ c) (p : List UInt8) (l : List UInt8) : glue p (splL c (b :: l)) = glue (p ++ [b]) (splL c l) := by
  rw [splL, if_neg h]
  cases e : splL c l with
  | nil => exact absurd e (spl_ne c l)
  | cons q qs => simp [glue]
theorem spl_length_le (c : UInt8) : ∀ l, (splL c l).length ≤ l.length + 1
  | [] => by simp [splL]
  | b :: l => by
    have := spl_length_le c l
    rw [splL]
    split
    · simp; omega
    · split
      · simp
      · rename_i e; rw [e] at this; simp at this ⊢; omega
theorem split_l (s : ByteArray) (c : UInt8) (hs : s.size ≤ 1048576) : ∀ (j i m : Nat) (out : List ByteArray), i + j = s.size → m ≤ i → out.length ≤ i → Ev (fun k => spec_l1Split.l0 k s ((c.toNat : Nat) : Int) out (m : Int) (i : Int)) (out ++ (glue ((s.data.toList.take i).drop m) (splL c (s.data.toList.drop i))).map bsOf)
  | 0, i, m, out, hj, hm, ho => by
    rw [show s.data.toList.drop i = [] from List.drop_of_length_le (by rw [bsize]; omega)]
    refine Ev.step (f := fun _ => some (out ++ [s.extract m s.size])) (fun k => ?_) ?_
    · rw [spec_l1Split.l0, if_neg (by omega), if_pos (by omega), if_pos (by omega), if_pos (by omega), Int.toNat_natCast]
    · rw [ext_list, show s.size = i by omega]
      simp only [splL, glue, List.append_nil, List.map_cons, List.map_nil]
      exact ev_const _
  | j + 1, i, m, out, hj, hm, ho => by
    have hi : i < s.data.toList.length := by rw [bsize]; omega
    have e := bt_get s i hi
    rw [List.drop_eq_getElem_cons hi]
    by_cases c1 : s.data.toList[i] = c
    · have ih := split_l s c hs j (i + 1) (i + 1) (out ++ [s.extract m i]) (by omega) (by omega) (by rw [List.length_append, List.length_singleton]; omega)
      refine Ev.step (f := fun k => spec_l1Split.l0 k s ((c.toNat : Nat) : Int) (out ++ [s.extract m i]) ((i + 1 : Nat) : Int) ((i + 1 : Nat) : Int)) (fun k => ?_) ?_
      · rw [spec_l1Split.l0, if_pos (by omega), if_pos (by omega), e, if_pos (by rw [c1]), if_pos (by omega), if_pos (by omega), if_pos (by omega), if_pos (by omega), Int.toNat_natCast, Int.toNat_natCast, w64_nat (by omega)]
      · rw [splL, if_pos c1]
        rw [show (s.data.toList.take (i + 1)).drop (i + 1) = [] from List.drop_of_length_le (by rw [List.length_take]; omega), glue_nil _ (spl_ne c _)] at ih
        simp only [glue, List.append_nil, List.map_cons]
        rw [← ext_list]
        rw [List.append_assoc, List.singleton_append] at ih
        exact ih
    · have ih := split_l s c hs j (i + 1) m out (by omega) (by omega) (by omega)
      refine Ev.step (f := fun k => spec_l1Split.l0 k s ((c.toNat : Nat) : Int) out (m : Int) ((i + 1 : Nat) : Int)) (fun k => ?_) ?_
      · rw [spec_l1Split.l0, if_pos (by omega), if_pos (by omega), e, if_neg (u8_ne c1), w64_nat (by omega)]
      · rw [glue_cons c _ c1]
        rw [List.take_succ_eq_append_getElem hi, List.drop_append_of_le_length (by rw [List.length_take]; omega)] at ih
        exact ih
theorem split_ev (s : ByteArray) (c : UInt8) (hs : s.size ≤ 1048576) : Ev (fun k => spec_l1Split.f k s ((c.toNat : Nat) : Int)) ((splL c s.data.toList).map bsOf) := by
  have := split_l s c hs s.size 0 0 [] (by omega) (by omega) (by simp)
  rw [List.drop_zero, List.take_zero, List.drop_zero, glue_nil _ (spl_ne c _), List.nil_append] at this
  exact this
/-- the first part of a text -/
theorem spl_head (c : UInt8) : ∀ l, ∃ ps, splL c l = (l.takeWhile (fun b => b != c)) :: ps
  | [] => ⟨[], rfl⟩
  | b :: l => by
    obtain ⟨ps, e⟩ := spl_head c l
    rw [splL]
    by_cases h : b = c
    · rw [if_pos h]
      exact ⟨splL c l, by simp [h]⟩
    · rw [if_neg h, e]
      exact ⟨ps, by simp [h]⟩
theorem take_index (c : UInt8) : ∀ l, (if 0 ≤ Go.Lib.indexByte l c then l.take (Go.Lib.indexByte l c).toNat else l) = l.takeWhile (fun b => b != c)
  | [] => by simp [Go.Lib.indexByte]
  | b :: l => by
    have ih := take_index c l
    have g := Go.Lib.indexByte_ge l c
    unfold Go.Lib.indexByte
    by_cases h : b = c
    · simp [h]
    · have hb : (b == c) = false := beq_eq_false_iff_ne.2 h
      rw [hb]
      simp only [Bool.false_eq_true, if_false]
      by_cases k : Go.Lib.indexByte l c = -1
      · rw [k] at ih ⊢
        simp only [BEq.rfl, if_true]
        rw [if_neg (by omega)] at ih ⊢
        rw [List.takeWhile_cons, if_pos (by simp [h]), ← ih]
      · have hk : (Go.Lib.indexByte l c == -1) = false := beq_eq_false_iff_ne.2 k
        rw [hk]
        simp only [Bool.false_eq_true, if_false]
        rw [if_pos (by omega)] at ih ⊢
        rw [List.takeWhile_cons, if_pos (by simp [h]), ← ih, show (Go.Lib.indexByte l c + 1).toNat = (Go.Lib.indexByte l c).toNat + 1 by omega, List.take_succ_cons]
def headB (s : ByteArray) : ByteArray := bsOf (s.data.toList.takeWhile (fun b => b != 35))
theorem headB_size (s : ByteArray) : (headB s).size ≤ s.size := by
  unfold headB bsOf
  rw [bytes_size]
  exact (List.takeWhile_sublist _).length_le
theorem headB_free (s : ByteArray) : (headB s).data.toList.contains 35 = false := by
  unfold headB bsOf
  simp only [Bool.eq_false_iff, ne_eq, List.contains_iff_mem]
  intro h
  have := List.all_eq_true.1 (List.all_takeWhile (p := fun b => b != (35 : UInt8)) (l := s.data.toList)) 35 (by simpa using h)
  simp at this
/-- what VerifyChecksum tells -/
def vec (s : ByteArray) : ByteArray × Bool := if (s.size : Int) > 4000 then (⟨#[]⟩, false) else if (sealB (headB s)).toList = s.toList then (headB s, true) else (⟨#[]⟩, false)
theorem spec_verify_ev (s : ByteArray) (hs : s.size ≤ 1048576) : Ev (fun k => spec_VerifyChecksum.f k s) (vec s) := by
  unfold spec_VerifyChecksum.f vec
  by_cases c1 : (s.size : Int) > 4000
  · rw [if_pos c1]
    exact ev_if_pos c1 (ev_const _)
  · rw [if_neg c1]
    obtain ⟨ps, e⟩ := spl_head 35 s.data.toList
    have sp := split_ev s 35 hs
    rw [e, List.map_cons] at sp
    have hz := headB_size s
    refine ev_if_neg c1 (Ev.bind sp (ev_if_pos (by simp) ?_))
    have e0 : rdOf ByteArray.empty (bsOf (s.data.toList.takeWhile (fun b => b != 35)) :: ps.map bsOf) 0 = headB s := rfl
    rw [e0]
    exact Ev.bind (l1Seal_ev (headB s) (by omega)) (Ev.congr (f := fun _ => some (if (sealB (headB s)).toList = s.toList then (headB s, true) else ((⟨#[]⟩ : ByteArray), false))) (fun _ => by by_cases c2 : (sealB (headB s)).toList = s.toList <;> simp [c2]) (ev_const _))
theorem size_of_list {a b : ByteArray} (h : a.toList = b.toList) : a.size = b.size := by
  have e1 : ∀ s : ByteArray, s.toList.length = s.size := fun s => by
    rw [ByteArray.toList_eq]
    rfl
  rw [← e1 a, ← e1 b, h]
theorem impl_verify_ev (s : ByteArray) (hs : s.size ≤ 1048576) : Ev (fun k => impl_VerifyChecksum.f k s) (vec s) := by
  have hz := headB_size s
  have ec : Ev (fun k => strings_Cut.f k s (⟨#[35]⟩ : ByteArray)) (headB s, ⟨(Go.Lib.cut s.data.toList [35]).2.1.toArray⟩, (Go.Lib.cut s.data.toList [35]).2.2) := by
    unfold strings_Cut.f
    refine ev_if_pos (by omega) ?_
    have : (⟨(Go.Lib.cut s.data.toList [35]).1.toArray⟩ : ByteArray) = headB s := by
      unfold headB bsOf Go.Lib.cut
      congr 2
      rw [← take_index, Go.Lib.index_one]
      split <;> rfl
    show Ev (fun _ => some ((⟨(Go.Lib.cut s.data.toList [35]).1.toArray⟩ : ByteArray), _, _)) _
    rw [this]
    exact ev_const _
  unfold impl_VerifyChecksum.f
  have key : (if (apc (headB s)).2 = true then (if (apc (headB s)).1.toList = s.toList then some (headB s, true) else some ((⟨#[]⟩ : ByteArray), false)) else some ((⟨#[]⟩ : ByteArray), false)) = some (vec s) := by
    unfold vec apc
    rw [headB_free]
    by_cases d1 : ((headB s).size : Int) > 4000
    · have c1 : (s.size : Int) > 4000 := by omega
      simp [d1, c1]
    · by_cases d2 : ((sealB (headB s)).size : Int) > 4000
      · by_cases c1 : (s.size : Int) > 4000
        · simp [d1, d2, c1]
        · have hn : ¬ (sealB (headB s)).toList = s.toList := fun h => by have := size_of_list h; omega
          simp [d1, d2, c1, hn]
      · by_cases c1 : (s.size : Int) > 4000
        · have hn : ¬ (sealB (headB s)).toList = s.toList := fun h => by have := size_of_list h; omega
          simp [d1, d2, c1, hn]
        · by_cases c2 : (sealB (headB s)).toList = s.toList
          · simp [d1, d2, c1, c2]
          · simp [d1, d2, c1, c2]
  exact Ev.bind ec (Ev.bind (impl_append_ev (headB s) (by omega)) (Ev.congr (fun _ => key) (ev_const _)))
theorem FnExactVerifyChecksum : ∀ (a0 : ByteArray), a0.size ≤ maxLen → ∃ k, laws_FnExactVerifyChecksum.f k a0 = some true := by
  intro s _
  refine Ev.rounds (g := fun k => laws_FnExactVerifyChecksum.f k s) ?_
  unfold laws_FnExactVerifyChecksum.f
  by_cases c : (s.size : Int) > 1048576
  · exact ev_if_pos c (ev_const _)
  · exact ev_if_neg c (Ev.bind (spec_verify_ev s (by omega)) (Ev.bind (impl_verify_ev s (by omega)) (ev_if_pos rfl (ev_if_neg (by simp) (ev_const _)))))

end Go.Proofs.YtkgjacacldcacaaDoor.Pure
