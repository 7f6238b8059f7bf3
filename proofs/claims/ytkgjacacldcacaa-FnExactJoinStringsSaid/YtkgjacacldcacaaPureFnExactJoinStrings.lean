/- Proved: the law FnExactJoinStrings answers true for every list of texts and separator; no condition. -/
import Derived.Test.YtkgjacacldcacaaQFnExactJoinStringsx2
import Derived.Lib.Join
import Derived.Lib.IndexAny
import Derived.Test.YtkgjacacldcacaaBase
set_option linter.unusedVariables false
set_option linter.unusedSimpArgs false
namespace Go.Proofs.Ytkgjacacldcacaa.Pure
open Go.RowKit Go.Proofs.Ytkgjacacldcacaa.QFnExactJoinStrings Go.Proofs.YtkgjacacldcacaaW.PrintWords Go.Proofs.YtkgjacacldcacaaW.PrintLast Go.Proofs.YtkgjacacldcacaaW.PrintMore Go.Proofs.Ytkgjacacldcacaa.Base

theorem ev_of {α : Type} {g : Nat → Option α} {r : α} (B : Nat) (h : ∀ k, B < k → g k = some r) : Ev g r := ⟨B + 1, fun k hk => h k (by omega)⟩
theorem ev_const {α : Type} (r : α) : Ev (fun _ => some r) r := Ev.now r
theorem ev_if_pos {α : Type} {c : Prop} [Decidable c] {f g : Nat → Option α} {r : α} (h : c) (k : Ev f r) : Ev (fun n => if c then f n else g n) r := Ev.congr (fun n => if_pos h) k
theorem ev_if_neg {α : Type} {c : Prop} [Decidable c] {f g : Nat → Option α} {r : α} (h : ¬ c) (k : Ev g r) : Ev (fun n => if c then f n else g n) r := Ev.congr (fun n => if_neg h) k
theorem bt_get (s : ByteArray) (i : Nat) (h : i < s.size) : bt s (i : Int) = (((s.data.toList[i]'h).toNat : Nat) : Int) := by
  rw [← bt_at s (i : Int) h]
  rfl
theorem u8_ne {a b : UInt8} (h : a ≠ b) : ¬ ((a.toNat : Nat) : Int) = ((b.toNat : Nat) : Int) := fun e => h (UInt8.toNat_inj.1 (by omega))
theorem bsize (s : ByteArray) : s.data.toList.length = s.size := rfl
/-- a byte that stands in a text -/
theorem stands_l (s : ByteArray) (c : UInt8) (hs : s.size ≤ 1048576) : ∀ (j i : Nat), i + j = s.size → Ev (fun k => spec_l1Stands.l0 k s ((c.toNat : Nat) : Int) (i : Int)) ((s.data.toList.drop i).contains c)
  | 0, i, hj => by
    rw [List.drop_of_length_le (by rw [bsize]; omega)]
    refine Ev.step (f := fun _ => some false) (fun k => ?_) (ev_const _)
    rw [spec_l1Stands.l0, if_neg (by omega)]
  | j + 1, i, hj => by
    have hi : i < s.data.toList.length := by rw [bsize]; omega
    have e := bt_get s i hi
    rw [List.drop_eq_getElem_cons hi, List.contains_cons]
    by_cases c1 : s.data.toList[i] = c
    · refine Ev.step (f := fun _ => some true) (fun k => ?_) ?_
      · rw [spec_l1Stands.l0, if_pos (by omega), if_pos (by omega), e, if_pos (by rw [c1])]
      · rw [c1]
        simp only [BEq.rfl, Bool.true_or]
        exact ev_const _
    · have ih := stands_l s c hs j (i + 1) (by omega)
      refine Ev.step (fun k => ?_) (f := fun k => spec_l1Stands.l0 k s ((c.toNat : Nat) : Int) ((i + 1 : Nat) : Int)) ?_
      · rw [spec_l1Stands.l0, if_pos (by omega), if_pos (by omega), e, if_neg (u8_ne c1), w64_nat (by omega)]
      · have : (c == s.data.toList[i]) = false := beq_eq_false_iff_ne.2 (Ne.symm c1)
        rw [this, Bool.false_or]
        exact ih
theorem stands_ev (s : ByteArray) (c : UInt8) (hs : s.size ≤ 1048576) : Ev (fun k => spec_l1Stands.f k s ((c.toNat : Nat) : Int)) (s.data.toList.contains c) := by
  have := stands_l s c hs s.size 0 (by omega)
  rw [List.drop_zero] at this
  exact this
def bsOf (l : List UInt8) : ByteArray := ⟨l.toArray⟩
theorem bsOf_data (s : ByteArray) : bsOf s.data.toList = s := by
  unfold bsOf
  rw [Array.toArray_toList]
theorem ext_list (s : ByteArray) (i j : Nat) : s.extract i j = bsOf ((s.data.toList.take j).drop i) := by
  apply ByteArray.ext
  rw [ByteArray.data_extract]
  unfold bsOf
  apply Array.toList_inj.1
  simp [List.drop_take]
theorem rdO (l : List ByteArray) (i : Nat) (h : i < l.length) : rdOf ByteArray.empty l (i : Int) = l[i] := by
  unfold rdOf
  rw [Int.toNat_natCast, List.getD_eq_getElem?_getD, List.getElem?_eq_getElem h]
  rfl
theorem szS_l : ∀ (j i : Nat) (x : List ByteArray) (a : Int), i + j = x.length → 0 ≤ a → a ≤ 1048576 → x.length ≤ 1048576 → (∀ r ∈ x, r.size ≤ 9223372036854775807) → ∃ v, Ev (fun k => laws_szStringS.l0 k x a (i : Int)) v ∧ (v < 0 ∨ (0 ≤ v ∧ v ≤ a ∧ ∀ r ∈ x.drop i, r.size ≤ 1048576))
  | 0, i, x, a, hj, h0, h1, hn, hr => by
    refine ⟨a, Ev.step (f := fun _ => some a) (fun k => ?_) (ev_const _), .inr ⟨h0, Int.le_refl _, fun r hr' => ?_⟩⟩
    · rw [laws_szStringS.l0, if_neg (by omega)]
    · rw [List.drop_of_length_le (by omega)] at hr'
      simp at hr'
  | j + 1, i, x, a, hj, h0, h1, hn, hr => by
    have h : i < x.length := by omega
    have hx := hr x[i] (List.getElem_mem h)
    have e := rdO x i h
    by_cases c : (x[i].size : Int) ≤ a
    · obtain ⟨v, hv, hc⟩ := szS_l j (i + 1) x (a - x[i].size) (by omega) (by omega) (by omega) hn hr
      refine ⟨v, Ev.step (fun k => ?_) hv, ?_⟩
      · rw [laws_szStringS.l0, if_pos (by omega), if_pos (by omega), e, w64 (x := a - (x[i].size : Int)) (by omega) (by omega), if_neg (by omega), w64_nat (by omega)]
      · rcases hc with hc | ⟨a1, a2, a3⟩
        · exact .inl hc
        · refine .inr ⟨a1, by omega, fun r hr' => ?_⟩
          rw [List.drop_eq_getElem_cons h] at hr'
          rcases List.mem_cons.1 hr' with rfl | hr'
          · omega
          · exact a3 r hr'
    · refine ⟨-1, Ev.step (f := fun _ => some (-1)) (fun k => ?_) (ev_const _), .inl (by omega)⟩
      rw [laws_szStringS.l0, if_pos (by omega), if_pos (by omega), e, w64 (x := a - (x[i].size : Int)) (by omega) (by omega), if_pos (by omega)]
theorem szS_ev (x : List ByteArray) (hn : x.length ≤ 9223372036854775807) (hr : ∀ r ∈ x, r.size ≤ 9223372036854775807) : ∃ v, Ev (fun k => laws_szStringS.f k x 1048576) v ∧ (v < 0 ∨ (0 ≤ v ∧ x.length ≤ 1048576 ∧ ∀ r ∈ x, r.size ≤ 1048576)) := by
  unfold laws_szStringS.f
  rw [w64 (x := 1048576 - (x.length : Int)) (by omega) (by omega)]
  by_cases c : (x.length : Int) ≤ 1048576
  · obtain ⟨v, hv, hc⟩ := szS_l x.length 0 x (1048576 - x.length) (by omega) (by omega) (by omega) (by omega) hr
    refine ⟨v, ev_if_neg (by omega) hv, ?_⟩
    rcases hc with hc | ⟨a1, a2, a3⟩
    · exact .inl hc
    · exact .inr ⟨a1, by omega, by simpa using a3⟩
  · exact ⟨-1, ev_if_pos (by omega) (ev_const _), .inl (by omega)⟩
theorem toS_l (l : List ByteArray) (hn : l.length ≤ 1048576) : ∀ (j i : Nat) (acc : List ByteArray), i + j = l.length → acc.length = l.length → (∀ q, q < i → acc[q]? = l[q]?) → Ev (fun k => laws_toStringS.l0 k l acc (i : Int)) l
  | 0, i, acc, hj, hl, hq => by
    have : acc = l := List.ext_getElem? fun q => by
      by_cases e : q < i
      · exact hq q e
      · rw [List.getElem?_eq_none (by omega), List.getElem?_eq_none (by omega)]
    refine Ev.step (f := fun _ => some l) (fun k => ?_) (ev_const _)
    rw [laws_toStringS.l0, if_neg (by omega), this]
  | j + 1, i, acc, hj, hl, hq => by
    have h : i < l.length := by omega
    have ih := toS_l l hn j (i + 1) (acc.set i l[i]) (by omega) (by simp [hl]) fun q hq' => by
      rw [List.getElem?_set]
      by_cases e : i = q
      · subst e
        simp [h, hl]
      · rw [if_neg e]
        exact hq q (by omega)
    refine Ev.step (fun k => ?_) ih
    rw [laws_toStringS.l0, if_pos (by omega), if_pos (by omega), if_pos (by omega), rdO l i h, Int.toNat_natCast, w64_nat (by omega)]
theorem toS_ev (l : List ByteArray) (hn : l.length ≤ 1048576) : Ev (fun k => laws_toStringS.f k l) l := by
  unfold laws_toStringS.f
  exact ev_if_pos (by omega) (ev_if_pos (by omega) (toS_l l hn l.length 0 _ (by omega) (by simp) fun q hq => by omega))
theorem eqS_l (l : List ByteArray) (hn : l.length ≤ 1048577) : ∀ (j i : Nat), i + j = l.length → Ev (fun k => laws_eqStringS.l0 k l l (i : Int)) true
  | 0, i, hj => by
    refine Ev.step (f := fun _ => some true) (fun k => ?_) (ev_const _)
    rw [laws_eqStringS.l0, if_neg (by omega)]
  | j + 1, i, hj => by
    refine Ev.step (fun k => ?_) (eqS_l l hn j (i + 1) (by omega))
    rw [laws_eqStringS.l0, if_pos (by omega), if_pos (by omega), if_pos (by omega), if_pos rfl, w64_nat (by omega)]
theorem eqS_ev (l : List ByteArray) (hn : l.length ≤ 1048577) : Ev (fun k => laws_eqStringS.f k l l) true := by
  unfold laws_eqStringS.f
  exact ev_if_pos rfl (eqS_l l hn l.length 0 (by omega))
theorem bsOf_app (a b : List UInt8) : bsOf a ++ bsOf b = bsOf (a ++ b) := by
  unfold bsOf
  apply ByteArray.ext
  simp [ByteArray.data_append]
theorem bsOf_size (a : List UInt8) : (bsOf a).size = a.length := by
  show a.toArray.size = _
  simp
theorem app_bs (a : List UInt8) (s : ByteArray) : bsOf a ++ s = bsOf (a ++ s.data.toList) := by
  conv => lhs; rw [← bsOf_data s]
  exact bsOf_app _ _
/-- the parts' texts -/
def dL (xs : List ByteArray) : List (List UInt8) := xs.map (·.data.toList)
def free (c : UInt8) (xs : List ByteArray) : Bool := xs.all fun s => !s.data.toList.contains c
/-- what is joined, where it is -/
def joinR (c : UInt8) (o : List UInt8) (xs : List ByteArray) : ByteArray × Bool := if free c xs = true ∧ (o ++ Go.Lib.joinTail [c] (dL xs)).length ≤ 4000 then (bsOf (o ++ Go.Lib.joinTail [c] (dL xs)), true) else ((⟨#[]⟩ : ByteArray), false)
theorem tail_cons (c : UInt8) (o : List UInt8) (s : ByteArray) (xs : List ByteArray) : o ++ Go.Lib.joinTail [c] (dL (s :: xs)) = (o ++ [c] ++ s.data.toList) ++ Go.Lib.joinTail [c] (dL xs) := by
  simp [Go.Lib.joinTail, dL, List.append_assoc]
theorem joinR_bad {c : UInt8} {o : List UInt8} {s : ByteArray} {xs : List ByteArray} (h : s.data.toList.contains c = true) : joinR c o (s :: xs) = ((⟨#[]⟩ : ByteArray), false) := by
  unfold joinR
  rw [if_neg]
  intro q
  have := q.1
  unfold free at this
  rw [List.all_cons, h] at this
  simp at this
theorem joinR_step {c : UInt8} {o : List UInt8} {s : ByteArray} {xs : List ByteArray} (h : s.data.toList.contains c = false) : joinR c o (s :: xs) = joinR c (o ++ [c] ++ s.data.toList) xs := by
  unfold joinR
  rw [tail_cons, show free c (s :: xs) = free c xs by unfold free; rw [List.all_cons, h]; simp]
theorem joinR_long {c : UInt8} {o : List UInt8} {xs : List ByteArray} (h : 4000 < o.length) : joinR c o xs = ((⟨#[]⟩ : ByteArray), false) := by
  unfold joinR
  rw [if_neg]
  intro q
  have := q.2
  rw [List.length_append] at this
  omega
theorem contains_ev (s : ByteArray) (c : UInt8) : Ev (fun k => strings_Contains.f k s (⟨#[c]⟩ : ByteArray)) (s.data.toList.contains c) := by
  rw [Go.Lib.contains_iff_indexByte]
  exact ev_const _
theorem spec_join_l (xs : List ByteArray) (c : UInt8) (hn : xs.length ≤ 1048576) (hr : ∀ r ∈ xs, r.size ≤ 1048576) : ∀ (j i : Nat) (o : List UInt8), i + j = xs.length → 1 ≤ i → o.length ≤ 4000 → Ev (fun k => spec_JoinStrings.l0 k xs (⟨#[c]⟩ : ByteArray) (bsOf o) (i : Int)) (joinR c o (xs.drop i))
  | 0, i, o, hj, h1, ho => by
    rw [List.drop_of_length_le (by omega)]
    have e : joinR c o [] = (bsOf o, true) := by
      unfold joinR
      simp only [Go.Lib.joinTail, dL, List.map_nil, List.flatten_nil, List.append_nil]
      rw [if_pos ⟨rfl, ho⟩]
    rw [e]
    refine Ev.step (f := fun _ => some (bsOf o, true)) (fun k => ?_) (ev_const _)
    rw [spec_JoinStrings.l0, if_neg (by omega)]
  | j + 1, i, o, hj, h1, ho => by
    have hi : i < xs.length := by omega
    have hz := hr xs[i] (List.getElem_mem hi)
    have eb : bt (⟨#[c]⟩ : ByteArray) 0 = ((c.toNat : Nat) : Int) := bt_get (⟨#[c]⟩ : ByteArray) 0 (by show 0 < 1; omega)
    have e1 : bsOf o ++ (⟨#[c]⟩ : ByteArray) = bsOf (o ++ [c]) := bsOf_app o [c]
    have sc : (⟨#[c]⟩ : ByteArray).size = 1 := rfl
    have s1 : (bsOf (o ++ [c])).size = o.length + 1 := by rw [bsOf_size, List.length_append]; rfl
    have e2 : bsOf (o ++ [c]) ++ xs[i] = bsOf (o ++ [c] ++ xs[i].data.toList) := app_bs _ _
    have s2 : (bsOf (o ++ [c] ++ xs[i].data.toList)).size = (o ++ [c] ++ xs[i].data.toList).length := bsOf_size _
    have l2 : (o ++ [c] ++ xs[i].data.toList).length = o.length + 1 + xs[i].size := by rw [List.length_append, List.length_append]; rfl
    rw [List.drop_eq_getElem_cons hi]
    refine Ev.step (f := fun k => (spec_l1Stands.f k xs[i] ((c.toNat : Nat) : Int)).bind fun t => if t = true then some ((⟨#[]⟩ : ByteArray), false) else if ((bsOf (o ++ [c] ++ xs[i].data.toList)).size : Int) > 4000 then some ((⟨#[]⟩ : ByteArray), false) else spec_JoinStrings.l0 k xs (⟨#[c]⟩ : ByteArray) (bsOf (o ++ [c] ++ xs[i].data.toList)) ((i + 1 : Nat) : Int)) (fun k => ?_) (Ev.bind (stands_ev xs[i] c hz) ?_)
    · rw [spec_JoinStrings.l0, if_pos (by omega), if_pos (by omega), if_pos (by rw [sc]; omega), rdO xs i hi, eb]
      congr 1
      funext t
      split
      · rfl
      · rw [if_pos (by omega), if_pos (by rw [bsOf_size, sc]; omega), e1, if_pos (by rw [s1]; omega), e2, w64_nat (by omega)]
    · by_cases d : xs[i].data.toList.contains c = true
      · rw [joinR_bad d]
        exact ev_if_pos d (ev_const _)
      · rw [joinR_step (Bool.eq_false_iff.2 d)]
        refine ev_if_neg d ?_
        by_cases g : ((bsOf (o ++ [c] ++ xs[i].data.toList)).size : Int) > 4000
        · rw [joinR_long (by omega)]
          exact ev_if_pos g (ev_const _)
        · exact ev_if_neg g (spec_join_l xs c hn hr j (i + 1) _ (by omega) (by omega) (by omega))
/-- what both tell -/
def joinT (xs : List ByteArray) (sep : ByteArray) : ByteArray × Bool := match sep.data.toList, xs with
  | [c], s :: t => if s.data.toList.contains c = true then ((⟨#[]⟩ : ByteArray), false) else joinR c s.data.toList t
  | _, _ => ((⟨#[]⟩ : ByteArray), false)
theorem spec_join_ev (xs : List ByteArray) (sep : ByteArray) (hn : xs.length ≤ 1048576) (hr : ∀ r ∈ xs, r.size ≤ 1048576) : Ev (fun k => spec_JoinStrings.f k xs sep) (joinT xs sep) := by
  obtain ⟨⟨l⟩⟩ := sep
  unfold spec_JoinStrings.f joinT
  have no : ∀ b : Bool, b = true → Ev (fun k => spec_JoinStrings.j0 k xs (⟨⟨l⟩⟩ : ByteArray) b) ((⟨#[]⟩ : ByteArray), false) := fun b hb => by
    subst hb
    refine Ev.step (f := fun _ => some ((⟨#[]⟩ : ByteArray), false)) (fun k => ?_) (ev_const _)
    rw [spec_JoinStrings.j0, if_pos rfl]
  match l, xs, hn, hr, no with
  | [], xs, hn, hr, no => exact ev_if_neg (by decide) (no true rfl)
  | a :: b :: l, xs, hn, hr, no => exact ev_if_neg (by show ¬ (((a :: b :: l).length : Nat) : Int) = 1; simp; omega) (no true rfl)
  | [c], [], hn, hr, no => exact ev_if_pos rfl (no _ rfl)
  | [c], s :: t, hn, hr, no =>
    have hz := hr s (List.mem_cons_self ..)
    have eb : bt (⟨#[c]⟩ : ByteArray) 0 = ((c.toNat : Nat) : Int) := bt_get (⟨#[c]⟩ : ByteArray) 0 (by show 0 < 1; omega)
    have e0 : rdOf ByteArray.empty (s :: t) 0 = s := rfl
    have e2 : (⟨#[]⟩ : ByteArray) ++ s = bsOf s.data.toList := app_bs [] s
    have s2 : (bsOf s.data.toList).size = s.size := by rw [bsOf_size]; rfl
    have hls : s.data.toList.length = s.size := rfl
    have sc : (⟨#[c]⟩ : ByteArray).size = 1 := rfl
    have s0 : (⟨#[]⟩ : ByteArray).size = 0 := rfl
    refine ev_if_pos rfl (Ev.step (f := fun k => spec_JoinStrings.l0 k (s :: t) (⟨#[c]⟩ : ByteArray) (⟨#[]⟩ : ByteArray) 0) (fun k => by rw [spec_JoinStrings.j0, if_neg (by first | (simp; done) | (simp; omega) | omega)]) ?_)
    refine Ev.step (f := fun k => (spec_l1Stands.f k s ((c.toNat : Nat) : Int)).bind fun t' => if t' = true then some ((⟨#[]⟩ : ByteArray), false) else if ((bsOf s.data.toList).size : Int) > 4000 then some ((⟨#[]⟩ : ByteArray), false) else spec_JoinStrings.l0 k (s :: t) (⟨#[c]⟩ : ByteArray) (bsOf s.data.toList) ((1 : Nat) : Int)) (fun k => ?_) (Ev.bind (stands_ev s c hz) ?_)
    · rw [spec_JoinStrings.l0, if_pos (by first | (simp; done) | (simp; omega) | omega), if_pos (by omega), if_pos (by rw [sc]; omega), e0, eb]
      congr 1
      funext t'
      split
      · rfl
      · rw [if_neg (by omega), if_pos (by rw [s0]; omega), e2, w64 (x := 0 + 1) (by omega) (by omega)]
        rfl
    · show Ev _ (if s.data.toList.contains c = true then ((⟨#[]⟩ : ByteArray), false) else joinR c s.data.toList t)
      by_cases d : s.data.toList.contains c = true
      · rw [show (if s.data.toList.contains c = true then ((⟨#[]⟩ : ByteArray), false) else joinR c s.data.toList t) = ((⟨#[]⟩ : ByteArray), false) from if_pos d]
        exact ev_if_pos d (ev_const _)
      · rw [show (if s.data.toList.contains c = true then ((⟨#[]⟩ : ByteArray), false) else joinR c s.data.toList t) = joinR c s.data.toList t from if_neg d]
        refine ev_if_neg d ?_
        by_cases g : ((bsOf s.data.toList).size : Int) > 4000
        · rw [joinR_long (by omega)]
          exact ev_if_pos g (ev_const _)
        · have := spec_join_l (s :: t) c hn hr t.length 1 s.data.toList (by first | (simp; done) | (simp; omega) | omega) (by omega) (by omega)
          exact ev_if_neg g this
theorem dL_get (xs : List ByteArray) (i : Nat) (hi : i < xs.length) : dL (xs.drop i) = xs[i].data.toList :: dL (xs.drop (i + 1)) := by
  rw [List.drop_eq_getElem_cons hi]
  rfl
theorem lens_cons (x : List UInt8) (l : List (List UInt8)) : Go.Lib.lens (x :: l) = x.length + Go.Lib.lens l := by simp [Go.Lib.lens]
theorem join_len (sep : List UInt8) (B : Nat) : ∀ (xs : List (List UInt8)), (∀ x ∈ xs, x.length ≤ B) → (Go.Lib.join xs sep).length ≤ (B + sep.length) * xs.length
  | [], _ => by simp [Go.Lib.join_nil]
  | x :: xs, h => by
    rw [Go.Lib.join_cons, List.length_append, Go.Lib.joinTail_length]
    have h1 := h x (List.mem_cons_self ..)
    have h2 : Go.Lib.lens xs ≤ B * xs.length := by
      have : ∀ l : List (List UInt8), (∀ x ∈ l, x.length ≤ B) → Go.Lib.lens l ≤ B * l.length := fun l hl => by
        induction l with
        | nil => simp [Go.Lib.lens]
        | cons y l ih =>
          have := hl y (List.mem_cons_self ..)
          have := ih fun x hx => hl x (List.mem_cons_of_mem _ hx)
          simp only [Go.Lib.lens, List.map_cons, List.sum_cons, List.length_cons, Nat.mul_succ] at this ⊢
          omega
      exact this xs fun x hx => h x (List.mem_cons_of_mem _ hx)
    rw [List.length_cons, Nat.mul_succ, Nat.add_mul]
    omega
/-- the program's loop: n bytes are counted so far -/
theorem impl_join_l (xs : List ByteArray) (c : UInt8) (hn : xs.length ≤ 1048576) (hr : ∀ r ∈ xs, r.size ≤ 1048576) : ∀ (j i : Nat) (n : Nat), i + j = xs.length → n ≤ 2000000 →
    Ev (fun k => impl_JoinStrings.l0 k xs (⟨#[c]⟩ : ByteArray) (n : Int) xs (xs.length : Int) (i : Int)) (if free c (xs.drop i) = true ∧ (j = 0 ∨ n + Go.Lib.lens (dL (xs.drop i)) ≤ 4000) then (bsOf (Go.Lib.join (dL xs) [c]), true) else ((⟨#[]⟩ : ByteArray), false))
  | 0, i, n, hj, hb => by
    have ed : xs.drop i = [] := List.drop_of_length_le (by omega)
    rw [if_pos ⟨by rw [ed]; rfl, .inl rfl⟩]
    have jl := join_len [c] 1048576 (dL xs) (fun x hx => by
      obtain ⟨s, hs, rfl⟩ := List.mem_map.1 hx
      exact hr s hs)
    have ld : (dL xs).length = xs.length := by unfold dL; simp
    have je : Ev (fun k => strings_Join.f k xs (⟨#[c]⟩ : ByteArray)) (bsOf (Go.Lib.join (dL xs) [c])) := by
      unfold strings_Join.f
      refine ev_if_pos (by omega) (ev_if_pos ?_ (ev_const _))
      show (Go.Lib.join (dL xs) [c]).length ≤ _
      have : (1048576 + [c].length) * (dL xs).length ≤ 1048577 * 1048576 := Nat.mul_le_mul (by simp) (by omega)
      omega
    refine Ev.step (f := fun k => (strings_Join.f k xs (⟨#[c]⟩ : ByteArray)).bind fun t => some (t, true)) (fun k => ?_) (Ev.bind je (ev_const _))
    rw [impl_JoinStrings.l0, if_neg (by omega)]
  | j + 1, i, n, hj, hb => by
    have hi : i < xs.length := by omega
    have hz := hr xs[i] (List.getElem_mem hi)
    have el : Go.Lib.lens (dL (xs.drop i)) = xs[i].size + Go.Lib.lens (dL (xs.drop (i + 1))) := by
      rw [dL_get xs i hi, lens_cons]
      rfl
    have ef : free c (xs.drop i) = ((!xs[i].data.toList.contains c) && free c (xs.drop (i + 1))) := by
      rw [List.drop_eq_getElem_cons hi]
      rfl
    by_cases g : ((n + xs[i].size : Nat) : Int) > 4000
    · rw [if_neg (fun q => by rcases q.2 with q | q; exact absurd q (by omega); omega)]
      refine Ev.step (f := fun _ => some ((⟨#[]⟩ : ByteArray), false)) (fun k => ?_) (ev_const _)
      rw [impl_JoinStrings.l0, if_pos (by omega), if_pos (by omega), if_pos (by omega), rdO xs i hi, w64 (x := (n : Int) + (xs[i].size : Int)) (by omega) (by omega), if_pos (by omega)]
    · refine Ev.step (f := fun k => (strings_Contains.f k xs[i] (⟨#[c]⟩ : ByteArray)).bind fun t => if t = true then some ((⟨#[]⟩ : ByteArray), false) else impl_JoinStrings.l0 k xs (⟨#[c]⟩ : ByteArray) ((n + xs[i].size : Nat) : Int) xs (xs.length : Int) ((i + 1 : Nat) : Int)) (fun k => ?_) (Ev.bind (contains_ev xs[i] c) ?_)
      · rw [impl_JoinStrings.l0, if_pos (by omega), if_pos (by omega), if_pos (by omega), rdO xs i hi, w64 (x := (n : Int) + (xs[i].size : Int)) (by omega) (by omega), if_neg (by omega), w64_nat (by omega), show (n : Int) + (xs[i].size : Int) = ((n + xs[i].size : Nat) : Int) by omega]
      · by_cases d : xs[i].data.toList.contains c = true
        · rw [if_neg (fun q => by have := q.1; rw [ef, d] at this; simp at this)]
          exact ev_if_pos d (ev_const _)
        · refine ev_if_neg d ?_
          have ih := impl_join_l xs c hn hr j (i + 1) (n + xs[i].size) (by omega) (by omega)
          have same : (free c (xs.drop (i + 1)) = true ∧ (j = 0 ∨ n + xs[i].size + Go.Lib.lens (dL (xs.drop (i + 1))) ≤ 4000)) ↔ (free c (xs.drop i) = true ∧ (j + 1 = 0 ∨ n + Go.Lib.lens (dL (xs.drop i)) ≤ 4000)) := by
            rw [ef, Bool.eq_false_iff.2 d, el]
            simp only [Bool.not_false, Bool.true_and]
            constructor
            · rintro ⟨a, b⟩
              refine ⟨a, .inr ?_⟩
              rcases b with b | b
              · have : xs.drop (i + 1) = [] := List.drop_of_length_le (by omega)
                rw [this]
                simp only [dL, List.map_nil, Go.Lib.lens, List.sum_nil]
                omega
              · omega
            · rintro ⟨a, b⟩
              refine ⟨a, .inr ?_⟩
              rcases b with b | b
              · omega
              · omega
          simp only [same] at ih
          exact ih
theorem impl_join_ev (xs : List ByteArray) (sep : ByteArray) (hn : xs.length ≤ 1048576) (hr : ∀ r ∈ xs, r.size ≤ 1048576) : Ev (fun k => impl_JoinStrings.f k xs sep) (joinT xs sep) := by
  obtain ⟨⟨l⟩⟩ := sep
  unfold impl_JoinStrings.f joinT
  have no : ∀ b : Bool, b = true → Ev (fun k => impl_JoinStrings.j0 k xs (⟨⟨l⟩⟩ : ByteArray) b) ((⟨#[]⟩ : ByteArray), false) := fun b hb => by
    subst hb
    refine Ev.step (f := fun _ => some ((⟨#[]⟩ : ByteArray), false)) (fun k => ?_) (ev_const _)
    rw [impl_JoinStrings.j0, if_pos rfl]
  match l, xs, hn, hr, no with
  | [], [], hn, hr, no => exact ev_if_pos rfl (no true rfl)
  | [c], [], hn, hr, no => exact ev_if_pos rfl (no true rfl)
  | a :: b :: l, [], hn, hr, no => exact ev_if_pos rfl (no true rfl)
  | [], s :: t, hn, hr, no => exact ev_if_neg (by first | (simp; done) | (simp; omega) | omega) (no _ rfl)
  | a :: b :: l, s :: t, hn, hr, no => exact ev_if_neg (by first | (simp; done) | (simp; omega) | omega) (no _ (by show ((((a :: b :: l).length : Nat) : Int) != 1) = true; simp; omega))
  | [c], s :: t, hn, hr, no =>
    have e1 : wrap64 ((((s :: t).length : Nat) : Int) - 1) = ((t.length : Nat) : Int) := by
      simp only [List.length_cons] at hn ⊢
      rw [w64 (by omega) (by omega)]
      omega
    have hl : t.length ≤ 2000000 := by simp only [List.length_cons] at hn; omega
    have l0 := impl_join_l (s :: t) c hn hr (t.length + 1) 0 t.length (by simp) hl
    refine ev_if_neg (by first | (simp; done) | (simp; omega) | omega) (Ev.step (f := fun k => impl_JoinStrings.l0 k (s :: t) (⟨#[c]⟩ : ByteArray) ((t.length : Nat) : Int) (s :: t) (((s :: t).length : Nat) : Int) ((0 : Nat) : Int)) (fun k => ?_) ?_)
    · rw [impl_JoinStrings.j0, if_neg (by show ¬ ((((1 : Nat) : Int) != 1) = true); simp), e1]
      rfl
    · rw [List.drop_zero] at l0
      have hls : s.data.toList.length = s.size := rfl
      have key : (if free c (s :: t) = true ∧ (t.length + 1 = 0 ∨ t.length + Go.Lib.lens (dL (s :: t)) ≤ 4000) then (bsOf (Go.Lib.join (dL (s :: t)) [c]), true) else ((⟨#[]⟩ : ByteArray), false)) = (if s.data.toList.contains c = true then ((⟨#[]⟩ : ByteArray), false) else joinR c s.data.toList t) := by
        have ej : Go.Lib.join (dL (s :: t)) [c] = s.data.toList ++ Go.Lib.joinTail [c] (dL t) := Go.Lib.join_cons _ _ _
        have en : (s.data.toList ++ Go.Lib.joinTail [c] (dL t)).length = t.length + Go.Lib.lens (dL (s :: t)) := by
          rw [List.length_append, Go.Lib.joinTail_length]
          have : Go.Lib.lens (dL (s :: t)) = s.data.toList.length + Go.Lib.lens (dL t) := lens_cons _ _
          rw [this]
          have : (dL t).length = t.length := by unfold dL; simp
          rw [this]
          simp only [List.length_singleton]
          omega
        have ef : free c (s :: t) = ((!s.data.toList.contains c) && free c t) := rfl
        by_cases d : s.data.toList.contains c = true
        · rw [if_pos d, if_neg (fun q => by have := q.1; rw [ef, d] at this; simp at this)]
        · rw [if_neg d]
          unfold joinR
          rw [ef, Bool.eq_false_iff.2 d, ej, en]
          simp
      show Ev _ (if s.data.toList.contains c = true then ((⟨#[]⟩ : ByteArray), false) else joinR c s.data.toList t)
      rw [← key]
      exact l0
theorem FnExactJoinStrings : ∀ (l0 : List ByteArray) (a1 : ByteArray), l0.length ≤ maxLen → (∀ x ∈ l0, x.size ≤ maxLen) → a1.size ≤ maxLen → ∃ k, laws_FnExactJoinStrings.f k l0 a1 = some true := by
  intro l sep hl hr hs
  unfold maxLen at hl hr hs
  refine Ev.rounds (g := fun k => laws_FnExactJoinStrings.f k l sep) ?_
  unfold laws_FnExactJoinStrings.f
  by_cases c : (sep.size : Int) > 1048576
  · exact ev_if_pos c (ev_const _)
  refine ev_if_neg c ?_
  obtain ⟨v, hv, hc⟩ := szS_ev l (by omega) (fun r h => by have := hr r h; omega)
  refine Ev.bind hv ?_
  rcases hc with hc | ⟨a1, a2, a3⟩
  · exact ev_if_pos hc (ev_const _)
  · have ts := toS_ev l a2
    have es := eqS_ev l (by omega)
    refine ev_if_neg (by omega) (Ev.bind ts (Ev.bind (spec_join_ev l sep a2 a3) (Ev.bind ts (Ev.bind (impl_join_ev l sep a2 a3) (ev_if_pos rfl ?_)))))
    exact Ev.step (fun k => by rw [laws_FnExactJoinStrings.j0, if_neg (by simp)]) (Ev.bind ts (Ev.bind es (ev_if_pos rfl (ev_const _))))

end Go.Proofs.Ytkgjacacldcacaa.Pure
