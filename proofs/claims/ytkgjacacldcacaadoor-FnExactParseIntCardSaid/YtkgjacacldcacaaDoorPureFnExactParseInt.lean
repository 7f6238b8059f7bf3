/- Proved: the law FnExactParseInt answers true for every text; no condition. -/
import Derived.Test.YtkgjacacldcacaaDoorQFnExactParseIntx2
import Derived.Lib.ItoaLen
import Derived.Lib.Atoi
import Derived.Lib.ItoaNum
import Derived.Test.YtkgjacacldcacaaDoorBase
set_option linter.unusedVariables false
set_option linter.unusedSimpArgs false
namespace Go.Proofs.YtkgjacacldcacaaDoor.Pure
open Go.RowKit Go.Proofs.YtkgjacacldcacaaDoor.QFnExactParseInt Go.Proofs.YtkgjacacldcacaaDoorW.PrintWords Go.Proofs.YtkgjacacldcacaaDoorW.PrintLast Go.Proofs.YtkgjacacldcacaaDoorW.PrintMore Go.Proofs.YtkgjacacldcacaaDoor.Base

theorem spec_l1In_is (a lo hi : Int) : spec_l1In.f a lo hi = some (inB lo hi a) := by
  unfold spec_l1In.f
  exact within_is a lo hi
theorem impl_within_is (a lo hi : Int) : impl_within.f a lo hi = some (inB lo hi a) := by
  unfold impl_within.f
  exact within_is a lo hi
theorem ev_of {α : Type} {g : Nat → Option α} {r : α} (B : Nat) (h : ∀ k, B < k → g k = some r) : Ev g r := ⟨B + 1, fun k hk => h k (by omega)⟩
theorem ev_const {α : Type} (r : α) : Ev (fun _ => some r) r := Ev.now r
theorem ev_if_pos {α : Type} {c : Prop} [Decidable c] {f g : Nat → Option α} {r : α} (h : c) (k : Ev f r) : Ev (fun n => if c then f n else g n) r := Ev.congr (fun n => if_pos h) k
theorem ev_if_neg {α : Type} {c : Prop} [Decidable c] {f g : Nat → Option α} {r : α} (h : ¬ c) (k : Ev g r) : Ev (fun n => if c then f n else g n) r := Ev.congr (fun n => if_neg h) k
/-- the numeral of a number -/
def numB (n : Int) : ByteArray := ⟨(Go.Lib.itoa n).toArray⟩
theorem dig_is : ∀ (u : Nat), u < 10 → (⟨#[48, 49, 50, 51, 52, 53, 54, 55, 56, 57]⟩ : ByteArray).extract u (u + 1) = ⟨[UInt8.ofNat (48 + u)].toArray⟩
  | 0, _ => rfl
  | 1, _ => rfl
  | 2, _ => rfl
  | 3, _ => rfl
  | 4, _ => rfl
  | 5, _ => rfl
  | 6, _ => rfl
  | 7, _ => rfl
  | 8, _ => rfl
  | 9, _ => rfl
  | n + 10, h => by omega
theorem decDigits_le (u : Nat) : (Go.Lib.decDigits u).length ≤ u + 1 := by
  induction u using Nat.strongRecOn with
  | _ u ih =>
    rw [Go.Lib.decDigits]
    split
    · simp
    · have := ih (u / 10) (by omega)
      rw [List.length_append]
      simp only [List.length_singleton]
      omega
theorem bytes_app (a b : List UInt8) : (⟨a.toArray⟩ ++ ⟨b.toArray⟩ : ByteArray) = ⟨(a ++ b).toArray⟩ := by
  apply ByteArray.ext
  simp [ByteArray.data_append]
theorem bytes_size (a : List UInt8) : (⟨a.toArray⟩ : ByteArray).size = a.length := by
  show a.toArray.size = _
  simp
theorem l1Num_nat (u : Nat) (hu : u ≤ 4611686018427387904) : Ev (fun k => spec_l1Num.f k (u : Int)) (⟨(Go.Lib.decDigits u).toArray⟩ : ByteArray) := by
  induction u using Nat.strongRecOn with
  | _ u ih =>
    by_cases c : u < 10
    · rw [Go.Lib.decDigits, dif_pos c, ← dig_is u c]
      have e1 : wrap64 ((u : Int) + 1) = ((u + 1 : Nat) : Int) := w64_nat (by omega)
      refine Ev.step (f := fun _ => some ((⟨#[48, 49, 50, 51, 52, 53, 54, 55, 56, 57]⟩ : ByteArray).extract u (u + 1))) (fun k => ?_) (ev_const _)
      rw [spec_l1Num.f, if_neg (by omega), if_pos (by omega), if_pos (by omega), e1, if_pos (by omega), if_pos (by omega)]
      rfl
    · have ih2 := ih (u / 10) (by omega) (by omega)
      have ed : wrap64 (Int.tdiv (u : Int) 10) = ((u / 10 : Nat) : Int) := by
        rw [show Int.tdiv (u : Int) 10 = ((u / 10 : Nat) : Int) from rfl]
        exact w64 (by omega) (by omega)
      have em : Int.tmod (u : Int) 10 = ((u % 10 : Nat) : Int) := rfl
      have e1 : wrap64 (((u % 10 : Nat) : Int) + 1) = ((u % 10 + 1 : Nat) : Int) := w64_nat (by omega)
      have hx := dig_is (u % 10) (Nat.mod_lt _ (by omega))
      have hl := decDigits_le (u / 10)
      rw [Go.Lib.decDigits, dif_neg c]
      refine Ev.step (f := fun k => (spec_l1Num.f k ((u / 10 : Nat) : Int)).bind fun t => if t.size + 1 ≤ 9223372036854775807 then some (t ++ ⟨[UInt8.ofNat (48 + u % 10)].toArray⟩) else none) (fun k => ?_) (Ev.bind ih2 (ev_if_pos ?_ ?_))
      · rw [spec_l1Num.f, if_neg (by omega), if_neg (by omega), ed, em, e1]
        congr 1
        funext t
        rw [if_pos (by omega), if_pos (by omega), if_pos (by omega), Int.toNat_natCast, Int.toNat_natCast, hx, bytes_size]
        rfl
      · rw [bytes_size]
        omega
      · rw [bytes_app]
        exact ev_const _
theorem l1Num_ev (n : Int) (h : -4611686018427387904 ≤ n ∧ n ≤ 4611686018427387904) : Ev (fun k => spec_l1Num.f k n) (numB n) := by
  unfold numB Go.Lib.itoa
  by_cases c : n < 0
  · rw [if_pos c]
    obtain ⟨u, rfl⟩ : ∃ u : Nat, n = -(u : Int) := ⟨n.natAbs, by omega⟩
    have hx := l1Num_nat u (by omega)
    have hl := decDigits_le u
    rw [show (-(u : Int)).natAbs = u by omega]
    refine Ev.step (f := fun k => (spec_l1Num.f k (u : Int)).bind fun t => if 1 + t.size ≤ 9223372036854775807 then some ((⟨#[45]⟩ : ByteArray) ++ t) else none) (fun k => ?_) (Ev.bind hx (ev_if_pos ?_ ?_))
    · rw [spec_l1Num.f, if_pos c, Int.neg_neg, w64 (x := (u : Int)) (by omega) (by omega)]
    · rw [bytes_size]
      omega
    · rw [show (⟨#[45]⟩ : ByteArray) = ⟨([45] : List UInt8).toArray⟩ from rfl, bytes_app]
      exact ev_const _
  · rw [if_neg c]
    obtain ⟨u, rfl⟩ := Int.eq_ofNat_of_zero_le (show 0 ≤ n by omega)
    exact l1Num_nat u (by omega)
theorem bt_get (s : ByteArray) (i : Nat) (h : i < s.size) : bt s (i : Int) = (((s.data.toList[i]'h).toNat : Nat) : Int) := by
  rw [← bt_at s (i : Int) h]
  rfl
theorem u8_ne {a b : UInt8} (h : a ≠ b) : ¬ ((a.toNat : Nat) : Int) = ((b.toNat : Nat) : Int) := fun e => h (UInt8.toNat_inj.1 (by omega))
theorem bsize (s : ByteArray) : s.data.toList.length = s.size := rfl
theorem numB_size (n : Int) (h : -9223372036854775808 ≤ n ∧ n ≤ 9223372036854775807) : (numB n).size ≤ 21 := by
  unfold numB
  rw [bytes_size]
  exact Go.Lib.itoa_length_le n h.1 h.2
theorem itoa_ev (n : Int) (h : -9223372036854775808 ≤ n ∧ n ≤ 9223372036854775807) : Ev (fun k => strconv_Itoa.f k n) (numB n) := by
  unfold strconv_Itoa.f
  exact ev_if_pos h.1 (ev_if_pos h.2 (ev_const _))
def bsOf (l : List UInt8) : ByteArray := ⟨l.toArray⟩
theorem bsOf_data (s : ByteArray) : bsOf s.data.toList = s := by
  unfold bsOf
  rw [Array.toArray_toList]
theorem ext_list (s : ByteArray) (i j : Nat) : s.extract i j = bsOf ((s.data.toList.take j).drop i) := by
  apply ByteArray.ext
  rw [ByteArray.data_extract]
  unfold bsOf
  apply Array.toList_inj.1
  simp [List.drop_take]
/-- what a text without a sign tells: its number, where it is that number's numeral -/
def rdN (s : ByteArray) (neg : Bool) : Option Nat → Int × Bool
  | none => (0, false)
  | some v => if (numB (if neg then -(v : Int) else (v : Int))).toList = s.toList then ((if neg then -(v : Int) else (v : Int)), true) else (0, false)
theorem digit_lt {b : UInt8} (h : ((b.toNat : Nat) : Int) < 48) : Go.Lib.digitVal b = none := by
  unfold Go.Lib.digitVal
  rw [if_neg (by omega)]
theorem digit_gt {b : UInt8} (h : ((b.toNat : Nat) : Int) > 57) : Go.Lib.digitVal b = none := by
  unfold Go.Lib.digitVal
  rw [if_neg (by omega)]
theorem digit_in {b : UInt8} (h : ¬ ((b.toNat : Nat) : Int) < 48) (h2 : ¬ ((b.toNat : Nat) : Int) > 57) : Go.Lib.digitVal b = some (b.toNat - 48) := by
  unfold Go.Lib.digitVal
  rw [if_pos (by omega)]
theorem read_l (s t : ByteArray) (neg : Bool) (h6 : t.size ≤ 6) (hn : neg = decide ((t.size : Int) < (s.size : Int))) : ∀ (j i v : Nat), i + j = t.size → v < 10 ^ i → Ev (fun k => spec_l1Read.l0 k s t (v : Int) (i : Int)) (rdN s neg (Go.Lib.decFrom v (t.data.toList.drop i)))
  | 0, i, v, hj, hv => by
    rw [List.drop_of_length_le (by rw [bsize]; omega), Go.Lib.decFrom]
    have hb : 10 ^ i ≤ 10 ^ 6 := Nat.pow_le_pow_right (by omega) (by omega)
    have hv6 : v < 1000000 := Nat.lt_of_lt_of_le hv hb
    by_cases c : (t.size : Int) < (s.size : Int)
    · obtain rfl : neg = true := by rw [hn]; exact decide_eq_true c
      refine Ev.step (f := fun k => (spec_l1Num.f k (-(v : Int))).bind fun u => if u.toList = s.toList then some (-(v : Int), true) else some (0, false)) (fun k => ?_) (Ev.bind (l1Num_ev (-(v : Int)) (by omega)) (Ev.congr (f := fun _ => some (rdN s true (some v))) (fun _ => ?_) (ev_const _)))
      · rw [spec_l1Read.l0, if_neg (by omega), if_pos c, w64 (x := -(v : Int)) (by omega) (by omega)]
      · simp only [rdN, if_true]
        by_cases e : (numB (-(v : Int))).toList = s.toList <;> simp [e]
    · obtain rfl : neg = false := by rw [hn]; exact decide_eq_false c
      refine Ev.step (f := fun k => (spec_l1Num.f k (v : Int)).bind fun u => if u.toList = s.toList then some ((v : Int), true) else some (0, false)) (fun k => ?_) (Ev.bind (l1Num_ev (v : Int) (by omega)) (Ev.congr (f := fun _ => some (rdN s false (some v))) (fun _ => ?_) (ev_const _)))
      · rw [spec_l1Read.l0, if_neg (by omega), if_neg c]
      · simp only [rdN, Bool.false_eq_true, if_false]
        by_cases e : (numB (v : Int)).toList = s.toList <;> simp [e]
  | j + 1, i, v, hj, hv => by
    have hi : i < t.data.toList.length := by rw [bsize]; omega
    have e := bt_get t i hi
    have hb : 10 ^ (i + 1) ≤ 10 ^ 6 := Nat.pow_le_pow_right (by omega) (by omega)
    rw [List.drop_eq_getElem_cons hi, Go.Lib.decFrom]
    by_cases c1 : ((t.data.toList[i].toNat : Nat) : Int) < 48
    · rw [digit_lt c1]
      refine Ev.step (f := fun _ => some (0, false)) (fun k => ?_) (ev_const _)
      rw [spec_l1Read.l0, if_pos (by omega), if_pos (by omega), e, if_pos c1]
    · by_cases c2 : ((t.data.toList[i].toNat : Nat) : Int) > 57
      · rw [digit_gt c2]
        refine Ev.step (f := fun _ => some (0, false)) (fun k => ?_) (ev_const _)
        rw [spec_l1Read.l0, if_pos (by omega), if_pos (by omega), e, if_neg c1, if_pos c2]
      · rw [digit_in c1 c2]
        have h10 : v * 10 + (t.data.toList[i].toNat - 48) < 10 ^ (i + 1) := by rw [Nat.pow_succ]; omega
        have ih := read_l s t neg h6 hn j (i + 1) (v * 10 + (t.data.toList[i].toNat - 48)) (by omega) h10
        refine Ev.step (fun k => ?_) ih
        rw [spec_l1Read.l0, if_pos (by omega), if_pos (by omega), e, if_neg c1, if_neg c2, w64_nat (by omega), show (((t.data.toList[i].toNat : Nat) : Int) - 48) % 256 = ((t.data.toList[i].toNat - 48 : Nat) : Int) by omega, w64 (x := 10 * (v : Int)) (by omega) (by omega), w64 (x := 10 * (v : Int) + ((t.data.toList[i].toNat - 48 : Nat) : Int)) (by omega) (by omega), show 10 * (v : Int) + ((t.data.toList[i].toNat - 48 : Nat) : Int) = ((v * 10 + (t.data.toList[i].toNat - 48) : Nat) : Int) by omega]
/-- what the reference reads -/
def rdS (s : ByteArray) (t : ByteArray) : Int × Bool := if 1 ≤ t.size ∧ t.size ≤ 6 then rdN s (decide ((t.size : Int) < (s.size : Int))) (Go.Lib.decFrom 0 t.data.toList) else (0, false)
def unsign (s : ByteArray) : ByteArray := if (s.size : Int) > 1 ∧ (bt s 0) = 45 then s.extract 1 s.size else s
theorem l1Read_ev (s : ByteArray) (hs : s.size ≤ 1048576) : Ev (fun k => spec_l1Read.f k s) (rdS s (unsign s)) := by
  have tail : ∀ t : ByteArray, t.size ≤ s.size → Ev (fun k => spec_l1Read.j1 k s t) (rdS s t) := fun t ht => by
    unfold rdS
    refine Ev.step (f := fun k => if inB 1 6 (t.size : Int) = true then spec_l1Read.l0 k s t 0 0 else some (0, false)) (fun k => by rw [spec_l1Read.j1, spec_l1In_is]; rfl) ?_
    by_cases c : inB 1 6 (t.size : Int) = true
    · have q := inB_iff.1 c
      rw [if_pos (by omega)]
      have := read_l s t _ (by omega) rfl t.size 0 0 (by omega) (by simp)
      rw [List.drop_zero] at this
      exact ev_if_pos c this
    · have q : ¬ (1 ≤ t.size ∧ t.size ≤ 6) := fun q => c (inB_iff.2 ⟨by omega, by omega⟩)
      rw [if_neg q]
      exact ev_if_neg c (ev_const _)
  unfold spec_l1Read.f unsign
  by_cases c1 : (s.size : Int) > 1
  · refine ev_if_pos c1 (ev_if_pos (by omega) ?_)
    by_cases c2 : bt s 0 = 45
    · rw [if_pos ⟨c1, c2⟩]
      refine Ev.step (f := fun k => spec_l1Read.j1 k s (s.extract 1 s.size)) (fun k => ?_) (tail _ (by rw [ByteArray.size_extract]; omega))
      rw [spec_l1Read.j0, if_pos (by rw [c2]; rfl), if_pos (by omega)]
    · rw [if_neg (fun h => c2 h.2)]
      refine Ev.step (f := fun k => spec_l1Read.j1 k s s) (fun k => ?_) (tail _ (Nat.le_refl _))
      rw [spec_l1Read.j0, if_neg (by simpa using c2)]
  · rw [if_neg (fun h => c1 h.1)]
    refine ev_if_neg c1 (Ev.step (f := fun k => spec_l1Read.j1 k s s) (fun k => ?_) (tail _ (Nat.le_refl _)))
    rw [spec_l1Read.j0, if_neg (by simp)]
theorem toList_data (s : ByteArray) : s.toList = s.data.toList := ByteArray.toList_eq s
theorem dec_digit : ∀ (u : Nat), ∀ b ∈ Go.Lib.decDigits u, 48 ≤ b.toNat ∧ b.toNat ≤ 57 := fun u => by
  induction u using Nat.strongRecOn with
  | _ u ih =>
    intro b hb
    have small : ∀ d : Nat, d < 10 → 48 ≤ (UInt8.ofNat (48 + d)).toNat ∧ (UInt8.ofNat (48 + d)).toNat ≤ 57 := fun d hd => by
      rw [UInt8.toNat_ofNat']
      omega
    rw [Go.Lib.decDigits] at hb
    split at hb
    · rw [List.mem_singleton.1 hb]
      exact small u (by omega)
    · rcases List.mem_append.1 hb with hb | hb
      · exact ih (u / 10) (by omega) b hb
      · rw [List.mem_singleton.1 hb]
        exact small (u % 10) (Nat.mod_lt _ (by omega))
theorem dec_short : ∀ (k u : Nat), u < 10 ^ (k + 1) → (Go.Lib.decDigits u).length ≤ k + 1
  | 0, u, h => by
    rw [Go.Lib.decDigits, dif_pos (by simpa using h)]
    simp
  | k + 1, u, h => by
    rw [Go.Lib.decDigits]
    split
    · simp
    · have := dec_short k (u / 10) (by rw [Nat.pow_succ] at h; omega)
      rw [List.length_append, List.length_singleton]
      omega
theorem numB_list (n : Int) : (numB n).toList = Go.Lib.itoa n := by
  rw [toList_data]
  unfold numB
  simp
/-- what the program reads is what the reference reads -/
def rdI (s : ByteArray) : Int × Bool := if (s.size : Int) > 7 then (0, false) else match Go.Lib.atoi s.data.toList with
  | none => (0, false)
  | some n => if inB (-999999) 999999 n = true then (if (numB n).toList = s.toList then (n, true) else (0, false)) else (0, false)
theorem impl_parse_ev (s : ByteArray) : Ev (fun k => impl_ParseInt.f k s) (rdI s) := by
  unfold impl_ParseInt.f rdI
  by_cases c : (s.size : Int) > 7
  · rw [if_pos c]
    exact ev_if_pos c (ev_const _)
  · rw [if_neg c]
    refine ev_if_neg c ?_
    cases ha : Go.Lib.atoi s.data.toList with
    | none => exact ev_const _
    | some n =>
      simp only []
      rw [impl_within_is]
      refine Ev.bind (ev_const _) ?_
      by_cases d : inB (-999999) 999999 n = true
      · have q := inB_iff.1 d
        rw [if_pos d]
        refine ev_if_pos d (Ev.bind (itoa_ev n (by omega)) (Ev.congr (f := fun _ => some (if (numB n).toList = s.toList then (n, true) else (0, false))) (fun _ => by by_cases e : (numB n).toList = s.toList <;> simp [e]) (ev_const _)))
      · rw [if_neg d]
        exact ev_if_neg d (ev_const _)
theorem dec_lt6 {l : List UInt8} {v : Nat} (h : Go.Lib.decFrom 0 l = some v) (hl : l.length ≤ 6) : v ≤ 999999 := by
  have := Go.Lib.decFrom_lt l 0 v h
  have hp : 10 ^ l.length ≤ 10 ^ 6 := Nat.pow_le_pow_right (by omega) hl
  omega
theorem rd_same (s : ByteArray) : rdI s = rdS s (unsign s) := by
  obtain ⟨l, hl⟩ : ∃ l, s.data.toList = l := ⟨_, rfl⟩
  have hz : s.size = l.length := by rw [← hl]; rfl
  have hs : s.toList = l := by rw [toList_data, hl]
  unfold rdI
  rw [hl, hs]
  match l, hl, hz, hs with
  | [], hl, hz, hs =>
    have hu : unsign s = s := by unfold unsign; rw [if_neg (fun h => by have := h.1; rw [hz] at this; simp at this)]
    rw [hu]
    unfold rdS
    rw [if_neg (by rw [hz]; simp), if_neg (by rw [hz]; simp)]
    rfl
  | b :: r, hl, hz, hs =>
    have h0 : bt s 0 = ((b.toNat : Nat) : Int) := by
      have := bt_get s 0 (by rw [hz]; simp)
      rw [show ((0 : Nat) : Int) = 0 from rfl] at this
      rw [this]
      simp [hl]
    have hlen : s.size = r.length + 1 := by rw [hz]; rfl
    by_cases cb : b = 45
    · subst cb
      have ea : Go.Lib.atoi (45 :: r) = (Go.Lib.decNat r).map fun (m : Nat) => -(m : Int) := rfl
      rw [ea]
      cases r with
      | nil =>
        have hu : unsign s = s := by unfold unsign; rw [if_neg (fun h => by have := h.1; rw [hz] at this; simp at this)]
        rw [hu]
        unfold rdS
        rw [if_neg (by rw [hz]; simp), if_pos (by rw [hz]; simp), hl]
        rfl
      | cons d r' =>
        have hu : unsign s = bsOf (d :: r') := by
          unfold unsign
          rw [if_pos ⟨by rw [hz]; simp; omega, by rw [h0]; rfl⟩, ext_list, hl, hz, List.take_of_length_le (by simp)]
          rfl
        have hus : (bsOf (d :: r')).size = r'.length + 1 := by unfold bsOf; rw [bytes_size]; rfl
        have hud : (bsOf (d :: r')).data.toList = d :: r' := by unfold bsOf; simp
        rw [hu]
        unfold rdS
        rw [hus, hud, show Go.Lib.decNat (d :: r') = Go.Lib.decFrom 0 (d :: r') from rfl, hlen]
        simp only [List.length_cons]
        by_cases c6 : r'.length + 1 ≤ 6
        · rw [if_neg (by omega), if_pos ⟨by omega, c6⟩, decide_eq_true (by omega)]
          cases hd : Go.Lib.decFrom 0 (d :: r') with
          | none => rfl
          | some v =>
            have hv := dec_lt6 hd (by simpa using c6)
            simp only [Option.map_some, rdN, if_true, hs]
            rw [if_pos (inB_iff.2 ⟨by omega, by omega⟩)]
        · rw [if_pos (by omega), if_neg (fun h => c6 h.2)]
    · have hu : unsign s = s := by
        unfold unsign
        rw [if_neg (fun h => u8_ne cb (by rw [← h0, h.2]; rfl))]
      have nz : (b == (45 : UInt8)) = false := beq_eq_false_iff_ne.2 cb
      rw [hu]
      unfold rdS
      rw [hl, hlen, decide_eq_false (by omega)]
      by_cases cp : b = 43
      · subst cp
        have ed : Go.Lib.decFrom 0 (43 :: r) = none := rfl
        have ea : Go.Lib.atoi (43 :: r) = (Go.Lib.decNat r).map fun (m : Nat) => (m : Int) := rfl
        rw [ed, ea]
        have e2 : (if 1 ≤ r.length + 1 ∧ r.length + 1 ≤ 6 then rdN s false none else ((0 : Int), false)) = (0, false) := by split <;> rfl
        rw [e2]
        by_cases c7 : ((r.length + 1 : Nat) : Int) > 7
        · rw [if_pos c7]
        · rw [if_neg c7]
          cases Go.Lib.decNat r with
          | none => rfl
          | some v =>
            simp only [Option.map_some]
            have hn : ¬ (numB (v : Int)).toList = 43 :: r := fun e => by
              rw [numB_list] at e
              have := dec_digit v 43 (by
                have : Go.Lib.itoa (v : Int) = Go.Lib.decDigits v := by unfold Go.Lib.itoa; rw [if_neg (by omega)]; simp
                rw [← this, e]
                exact List.mem_cons_self ..)
              revert this
              decide
            rw [if_neg hn]
            split <;> rfl
      · have np : (b == (43 : UInt8)) = false := beq_eq_false_iff_ne.2 cp
        have ea : Go.Lib.atoi (b :: r) = (Go.Lib.decFrom 0 (b :: r)).map fun (m : Nat) => (m : Int) := by
          show (if (b == 45) = true then _ else if (b == 43) = true then _ else _) = _
          rw [nz, np]
          rfl
        rw [ea]
        by_cases c6 : r.length + 1 ≤ 6
        · rw [if_neg (by omega), if_pos ⟨by omega, c6⟩]
          cases hd : Go.Lib.decFrom 0 (b :: r) with
          | none => rfl
          | some v =>
            have hv := dec_lt6 hd (by simpa using c6)
            simp only [Option.map_some, rdN, Bool.false_eq_true, if_false, hs]
            rw [if_pos (inB_iff.2 ⟨by omega, by omega⟩)]
        · rw [if_neg (show ¬ (1 ≤ r.length + 1 ∧ r.length + 1 ≤ 6) from fun h => c6 h.2)]
          by_cases c7 : ((r.length + 1 : Nat) : Int) > 7
          · rw [if_pos c7]
          · rw [if_neg c7]
            cases hd : Go.Lib.decFrom 0 (b :: r) with
            | none => rfl
            | some v =>
              simp only [Option.map_some]
              by_cases q : inB (-999999) 999999 (v : Int) = true
              · have q2 := inB_iff.1 q
                have hn : ¬ (numB (v : Int)).toList = b :: r := fun e => by
                  rw [numB_list] at e
                  have e3 : Go.Lib.itoa (v : Int) = Go.Lib.decDigits v := by unfold Go.Lib.itoa; rw [if_neg (by omega)]; simp
                  have := dec_short 5 v (by omega)
                  rw [← e3, e, List.length_cons] at this
                  omega
                rw [if_neg hn]
                split <;> rfl
              · rw [if_neg q]
theorem FnExactParseInt : ∀ (a0 : ByteArray), a0.size ≤ maxLen → ∃ k, laws_FnExactParseInt.f k a0 = some true := by
  intro s _
  refine Ev.rounds (g := fun k => laws_FnExactParseInt.f k s) ?_
  unfold laws_FnExactParseInt.f
  by_cases c : (s.size : Int) > 1048576
  · exact ev_if_pos c (ev_const _)
  · refine ev_if_neg c (Ev.bind (a := rdI s) ?_ (Ev.bind (impl_parse_ev s) (ev_if_pos rfl (ev_if_neg (by simp) (ev_const _)))))
    unfold spec_ParseInt.f
    rw [rd_same]
    exact Ev.bind (l1Read_ev s (by omega)) (ev_const _)

end Go.Proofs.YtkgjacacldcacaaDoor.Pure
