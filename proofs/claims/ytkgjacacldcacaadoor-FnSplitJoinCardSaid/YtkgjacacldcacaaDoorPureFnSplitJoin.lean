/- Proved: the law FnSplitJoin answers true for every code: SplitString and JoinStrings are inverse on what is drawn, LessString is asymmetric, and both answer as the reference does; no condition. -/
import Derived.Test.YtkgjacacldcacaaDoorQFnSplitJoinx3
import Derived.Lib.SplitLaws
import Derived.Lib.IndexBytes
import Derived.Lib.IndexLaws
import Derived.Lib.Join
import Derived.Lib.IndexAny
import Derived.Laws.Bits64b
import Derived.IntWalk
import Derived.Test.YtkgjacacldcacaaDoorBase
set_option linter.unusedVariables false
set_option linter.unusedSimpArgs false
namespace Go.Proofs.YtkgjacacldcacaaDoor.Pure
open Go.RowKit Go.Proofs.YtkgjacacldcacaaDoor.QFnSplitJoin Go.Proofs.YtkgjacacldcacaaDoorW.PrintWords Go.Proofs.YtkgjacacldcacaaDoorW.PrintLast Go.Proofs.YtkgjacacldcacaaDoorW.PrintMore Go.Proofs.YtkgjacacldcacaaDoor.Base

theorem ev_of {α : Type} {g : Nat → Option α} {r : α} (B : Nat) (h : ∀ k, B < k → g k = some r) : Ev g r := ⟨B + 1, fun k hk => h k (by omega)⟩
theorem ev_const {α : Type} (r : α) : Ev (fun _ => some r) r := Ev.now r
theorem ev_if_pos {α : Type} {c : Prop} [Decidable c] {f g : Nat → Option α} {r : α} (h : c) (k : Ev f r) : Ev (fun n => if c then f n else g n) r := Ev.congr (fun n => if_pos h) k
theorem ev_if_neg {α : Type} {c : Prop} [Decidable c] {f g : Nat → Option α} {r : α} (h : ¬ c) (k : Ev g r) : Ev (fun n => if c then f n else g n) r := Ev.congr (fun n => if_neg h) k
theorem bt_get (s : ByteArray) (i : Nat) (h : i < s.size) : bt s (i : Int) = (((s.data.toList[i]'h).toNat : Nat) : Int) := by
  rw [← bt_at s (i : Int) h]
  rfl
theorem u8_ne {a b : UInt8} (h : a ≠ b) : ¬ ((a.toNat : Nat) : Int) = ((b.toNat : Nat) : Int) := fun e => h (UInt8.toNat_inj.1 (by omega))
theorem bsize (s : ByteArray) : s.data.toList.length = s.size := rfl
/-- a byte that stands in a text -/
theorem stands_l (s : ByteArray) (c : UInt8) (hs : s.size ≤ 1048576) : ∀ (j i : Nat), i + j = s.size → Ev (fun k => spec_l1Stands.l0 k s ((c.toNat : Nat) : Int) (i : Int)) ((s.data.toList.drop i).contains c)
  | 0, i, hj => by
    rw [List.drop_of_length_le (by rw [bsize]; omega)]
    refine Ev.step (f := fun _ => some false) (fun k => ?_) (ev_const _)
    rw [spec_l1Stands.l0, if_neg (by omega)]
  | j + 1, i, hj => by
    have hi : i < s.data.toList.length := by rw [bsize]; omega
    have e := bt_get s i hi
    rw [List.drop_eq_getElem_cons hi, List.contains_cons]
    by_cases c1 : s.data.toList[i] = c
    · refine Ev.step (f := fun _ => some true) (fun k => ?_) ?_
      · rw [spec_l1Stands.l0, if_pos (by omega), if_pos (by omega), e, if_pos (by rw [c1])]
      · rw [c1]
        simp only [BEq.rfl, Bool.true_or]
        exact ev_const _
    · have ih := stands_l s c hs j (i + 1) (by omega)
      refine Ev.step (fun k => ?_) (f := fun k => spec_l1Stands.l0 k s ((c.toNat : Nat) : Int) ((i + 1 : Nat) : Int)) ?_
      · rw [spec_l1Stands.l0, if_pos (by omega), if_pos (by omega), e, if_neg (u8_ne c1), w64_nat (by omega)]
      · have : (c == s.data.toList[i]) = false := beq_eq_false_iff_ne.2 (Ne.symm c1)
        rw [this, Bool.false_or]
        exact ih
theorem stands_ev (s : ByteArray) (c : UInt8) (hs : s.size ≤ 1048576) : Ev (fun k => spec_l1Stands.f k s ((c.toNat : Nat) : Int)) (s.data.toList.contains c) := by
  have := stands_l s c hs s.size 0 (by omega)
  rw [List.drop_zero] at this
  exact this
def bsOf (l : List UInt8) : ByteArray := ⟨l.toArray⟩
theorem bsOf_data (s : ByteArray) : bsOf s.data.toList = s := by
  unfold bsOf
  rw [Array.toArray_toList]
theorem ext_list (s : ByteArray) (i j : Nat) : s.extract i j = bsOf ((s.data.toList.take j).drop i) := by
  apply ByteArray.ext
  rw [ByteArray.data_extract]
  unfold bsOf
  apply Array.toList_inj.1
  simp [List.drop_take]
/-- the parts of a text between bytes c -/
def splL (c : UInt8) : List UInt8 → List (List UInt8)
  | [] => [[]]
  | b :: l => if b = c then [] :: splL c l else match splL c l with
    | [] => [[b]]
    | p :: ps => (b :: p) :: ps
def glue (p : List UInt8) : List (List UInt8) → List (List UInt8)
  | [] => [p]
  | q :: qs => (p ++ q) :: qs
theorem spl_ne (c : UInt8) : ∀ l, splL c l ≠ []
  | [] => by simp [splL]
  | b :: l => by
    rw [splL]
    split
    · simp
    · split <;> simp
theorem glue_nil : ∀ l, l ≠ [] → glue [] l = l
  | [], h => absurd rfl h
  | q :: qs, _ => rfl
theorem glue_cons (c b : UInt8) (h : b ≠ c) (p : List UInt8) (l : List UInt8) : glue p (splL c (b :: l)) = glue (p ++ [b]) (splL c l) := by
  rw [splL, if_neg h]
  cases e : splL c l with
  | nil => exact absurd e (spl_ne c l)
  | cons q qs => simp [glue]
theorem spl_length_le (c : UInt8) : ∀ l, (splL c l).length ≤ l.length + 1
  | [] => by simp [splL]
  | b :: l => by
    have := spl_length_le c l
    rw [splL]
    split
    · simp; omega
    · split
      · simp
      · rename_i e; rw [e] at this; simp at this ⊢; omega
theorem rdO (l : List ByteArray) (i : Nat) (h : i < l.length) : rdOf ByteArray.empty l (i : Int) = l[i] := by
  unfold rdOf
  rw [Int.toNat_natCast, List.getD_eq_getElem?_getD, List.getElem?_eq_getElem h]
  rfl
theorem bsOf_app (a b : List UInt8) : bsOf a ++ bsOf b = bsOf (a ++ b) := by
  unfold bsOf
  apply ByteArray.ext
  simp [ByteArray.data_append]
theorem bsOf_size (a : List UInt8) : (bsOf a).size = a.length := by
  show a.toArray.size = _
  simp
theorem app_bs (a : List UInt8) (s : ByteArray) : bsOf a ++ s = bsOf (a ++ s.data.toList) := by
  conv => lhs; rw [← bsOf_data s]
  exact bsOf_app _ _
/-- the parts' texts -/
def dL (xs : List ByteArray) : List (List UInt8) := xs.map (·.data.toList)
def free (c : UInt8) (xs : List ByteArray) : Bool := xs.all fun s => !s.data.toList.contains c
/-- what is joined, where it is -/
def joinR (c : UInt8) (o : List UInt8) (xs : List ByteArray) : ByteArray × Bool := if free c xs = true ∧ (o ++ Go.Lib.joinTail [c] (dL xs)).length ≤ 4000 then (bsOf (o ++ Go.Lib.joinTail [c] (dL xs)), true) else ((⟨#[]⟩ : ByteArray), false)
theorem tail_cons (c : UInt8) (o : List UInt8) (s : ByteArray) (xs : List ByteArray) : o ++ Go.Lib.joinTail [c] (dL (s :: xs)) = (o ++ [c] ++ s.data.toList) ++ Go.Lib.joinTail [c] (dL xs) := by
  simp [Go.Lib.joinTail, dL, List.append_assoc]
theorem joinR_bad {c : UInt8} {o : List UInt8} {s : ByteArray} {xs : List ByteArray} (h : s.data.toList.contains c = true) : joinR c o (s :: xs) = ((⟨#[]⟩ : ByteArray), false) := by
  unfold joinR
  rw [if_neg]
  intro q
  have := q.1
  unfold free at this
  rw [List.all_cons, h] at this
  simp at this
theorem joinR_step {c : UInt8} {o : List UInt8} {s : ByteArray} {xs : List ByteArray} (h : s.data.toList.contains c = false) : joinR c o (s :: xs) = joinR c (o ++ [c] ++ s.data.toList) xs := by
  unfold joinR
  rw [tail_cons, show free c (s :: xs) = free c xs by unfold free; rw [List.all_cons, h]; simp]
theorem joinR_long {c : UInt8} {o : List UInt8} {xs : List ByteArray} (h : 4000 < o.length) : joinR c o xs = ((⟨#[]⟩ : ByteArray), false) := by
  unfold joinR
  rw [if_neg]
  intro q
  have := q.2
  rw [List.length_append] at this
  omega
theorem contains_ev (s : ByteArray) (c : UInt8) : Ev (fun k => strings_Contains.f k s (⟨#[c]⟩ : ByteArray)) (s.data.toList.contains c) := by
  rw [Go.Lib.contains_iff_indexByte]
  exact ev_const _
theorem spec_join_l (xs : List ByteArray) (c : UInt8) (hn : xs.length ≤ 1048576) (hr : ∀ r ∈ xs, r.size ≤ 1048576) : ∀ (j i : Nat) (o : List UInt8), i + j = xs.length → 1 ≤ i → o.length ≤ 4000 → Ev (fun k => spec_JoinStrings.l0 k xs (⟨#[c]⟩ : ByteArray) (bsOf o) (i : Int)) (joinR c o (xs.drop i))
  | 0, i, o, hj, h1, ho => by
    rw [List.drop_of_length_le (by omega)]
    have e : joinR c o [] = (bsOf o, true) := by
      unfold joinR
      simp only [Go.Lib.joinTail, dL, List.map_nil, List.flatten_nil, List.append_nil]
      rw [if_pos ⟨rfl, ho⟩]
    rw [e]
    refine Ev.step (f := fun _ => some (bsOf o, true)) (fun k => ?_) (ev_const _)
    rw [spec_JoinStrings.l0, if_neg (by omega)]
  | j + 1, i, o, hj, h1, ho => by
    have hi : i < xs.length := by omega
    have hz := hr xs[i] (List.getElem_mem hi)
    have eb : bt (⟨#[c]⟩ : ByteArray) 0 = ((c.toNat : Nat) : Int) := bt_get (⟨#[c]⟩ : ByteArray) 0 (by show 0 < 1; omega)
    have e1 : bsOf o ++ (⟨#[c]⟩ : ByteArray) = bsOf (o ++ [c]) := bsOf_app o [c]
    have sc : (⟨#[c]⟩ : ByteArray).size = 1 := rfl
    have s1 : (bsOf (o ++ [c])).size = o.length + 1 := by rw [bsOf_size, List.length_append]; rfl
    have e2 : bsOf (o ++ [c]) ++ xs[i] = bsOf (o ++ [c] ++ xs[i].data.toList) := app_bs _ _
    have s2 : (bsOf (o ++ [c] ++ xs[i].data.toList)).size = (o ++ [c] ++ xs[i].data.toList).length := bsOf_size _
    have l2 : (o ++ [c] ++ xs[i].data.toList).length = o.length + 1 + xs[i].size := by rw [List.length_append, List.length_append]; rfl
    rw [List.drop_eq_getElem_cons hi]
    refine Ev.step (f := fun k => (spec_l1Stands.f k xs[i] ((c.toNat : Nat) : Int)).bind fun t => if t = true then some ((⟨#[]⟩ : ByteArray), false) else if ((bsOf (o ++ [c] ++ xs[i].data.toList)).size : Int) > 4000 then some ((⟨#[]⟩ : ByteArray), false) else spec_JoinStrings.l0 k xs (⟨#[c]⟩ : ByteArray) (bsOf (o ++ [c] ++ xs[i].data.toList)) ((i + 1 : Nat) : Int)) (fun k => ?_) (Ev.bind (stands_ev xs[i] c hz) ?_)
    · rw [spec_JoinStrings.l0, if_pos (by omega), if_pos (by omega), if_pos (by rw [sc]; omega), rdO xs i hi, eb]
      congr 1
      funext t
      split
      · rfl
      · rw [if_pos (by omega), if_pos (by rw [bsOf_size, sc]; omega), e1, if_pos (by rw [s1]; omega), e2, w64_nat (by omega)]
    · by_cases d : xs[i].data.toList.contains c = true
      · rw [joinR_bad d]
        exact ev_if_pos d (ev_const _)
      · rw [joinR_step (Bool.eq_false_iff.2 d)]
        refine ev_if_neg d ?_
        by_cases g : ((bsOf (o ++ [c] ++ xs[i].data.toList)).size : Int) > 4000
        · rw [joinR_long (by omega)]
          exact ev_if_pos g (ev_const _)
        · exact ev_if_neg g (spec_join_l xs c hn hr j (i + 1) _ (by omega) (by omega) (by omega))
/-- what both tell -/
def joinT (xs : List ByteArray) (sep : ByteArray) : ByteArray × Bool := match sep.data.toList, xs with
  | [c], s :: t => if s.data.toList.contains c = true then ((⟨#[]⟩ : ByteArray), false) else joinR c s.data.toList t
  | _, _ => ((⟨#[]⟩ : ByteArray), false)
theorem spec_join_ev (xs : List ByteArray) (sep : ByteArray) (hn : xs.length ≤ 1048576) (hr : ∀ r ∈ xs, r.size ≤ 1048576) : Ev (fun k => spec_JoinStrings.f k xs sep) (joinT xs sep) := by
  obtain ⟨⟨l⟩⟩ := sep
  unfold spec_JoinStrings.f joinT
  have no : ∀ b : Bool, b = true → Ev (fun k => spec_JoinStrings.j0 k xs (⟨⟨l⟩⟩ : ByteArray) b) ((⟨#[]⟩ : ByteArray), false) := fun b hb => by
    subst hb
    refine Ev.step (f := fun _ => some ((⟨#[]⟩ : ByteArray), false)) (fun k => ?_) (ev_const _)
    rw [spec_JoinStrings.j0, if_pos rfl]
  match l, xs, hn, hr, no with
  | [], xs, hn, hr, no => exact ev_if_neg (by decide) (no true rfl)
  | a :: b :: l, xs, hn, hr, no => exact ev_if_neg (by show ¬ (((a :: b :: l).length : Nat) : Int) = 1; simp; omega) (no true rfl)
  | [c], [], hn, hr, no => exact ev_if_pos rfl (no _ rfl)
  | [c], s :: t, hn, hr, no =>
    have hz := hr s (List.mem_cons_self ..)
    have eb : bt (⟨#[c]⟩ : ByteArray) 0 = ((c.toNat : Nat) : Int) := bt_get (⟨#[c]⟩ : ByteArray) 0 (by show 0 < 1; omega)
    have e0 : rdOf ByteArray.empty (s :: t) 0 = s := rfl
    have e2 : (⟨#[]⟩ : ByteArray) ++ s = bsOf s.data.toList := app_bs [] s
    have s2 : (bsOf s.data.toList).size = s.size := by rw [bsOf_size]; rfl
    have hls : s.data.toList.length = s.size := rfl
    have sc : (⟨#[c]⟩ : ByteArray).size = 1 := rfl
    have s0 : (⟨#[]⟩ : ByteArray).size = 0 := rfl
    refine ev_if_pos rfl (Ev.step (f := fun k => spec_JoinStrings.l0 k (s :: t) (⟨#[c]⟩ : ByteArray) (⟨#[]⟩ : ByteArray) 0) (fun k => by rw [spec_JoinStrings.j0, if_neg (by first | (simp; done) | (simp; omega) | omega)]) ?_)
    refine Ev.step (f := fun k => (spec_l1Stands.f k s ((c.toNat : Nat) : Int)).bind fun t' => if t' = true then some ((⟨#[]⟩ : ByteArray), false) else if ((bsOf s.data.toList).size : Int) > 4000 then some ((⟨#[]⟩ : ByteArray), false) else spec_JoinStrings.l0 k (s :: t) (⟨#[c]⟩ : ByteArray) (bsOf s.data.toList) ((1 : Nat) : Int)) (fun k => ?_) (Ev.bind (stands_ev s c hz) ?_)
    · rw [spec_JoinStrings.l0, if_pos (by first | (simp; done) | (simp; omega) | omega), if_pos (by omega), if_pos (by rw [sc]; omega), e0, eb]
      congr 1
      funext t'
      split
      · rfl
      · rw [if_neg (by omega), if_pos (by rw [s0]; omega), e2, w64 (x := 0 + 1) (by omega) (by omega)]
        rfl
    · show Ev _ (if s.data.toList.contains c = true then ((⟨#[]⟩ : ByteArray), false) else joinR c s.data.toList t)
      by_cases d : s.data.toList.contains c = true
      · rw [show (if s.data.toList.contains c = true then ((⟨#[]⟩ : ByteArray), false) else joinR c s.data.toList t) = ((⟨#[]⟩ : ByteArray), false) from if_pos d]
        exact ev_if_pos d (ev_const _)
      · rw [show (if s.data.toList.contains c = true then ((⟨#[]⟩ : ByteArray), false) else joinR c s.data.toList t) = joinR c s.data.toList t from if_neg d]
        refine ev_if_neg d ?_
        by_cases g : ((bsOf s.data.toList).size : Int) > 4000
        · rw [joinR_long (by omega)]
          exact ev_if_pos g (ev_const _)
        · have := spec_join_l (s :: t) c hn hr t.length 1 s.data.toList (by first | (simp; done) | (simp; omega) | omega) (by omega) (by omega)
          exact ev_if_neg g this
theorem dL_get (xs : List ByteArray) (i : Nat) (hi : i < xs.length) : dL (xs.drop i) = xs[i].data.toList :: dL (xs.drop (i + 1)) := by
  rw [List.drop_eq_getElem_cons hi]
  rfl
theorem lens_cons (x : List UInt8) (l : List (List UInt8)) : Go.Lib.lens (x :: l) = x.length + Go.Lib.lens l := by simp [Go.Lib.lens]
theorem join_len (sep : List UInt8) (B : Nat) : ∀ (xs : List (List UInt8)), (∀ x ∈ xs, x.length ≤ B) → (Go.Lib.join xs sep).length ≤ (B + sep.length) * xs.length
  | [], _ => by simp [Go.Lib.join_nil]
  | x :: xs, h => by
    rw [Go.Lib.join_cons, List.length_append, Go.Lib.joinTail_length]
    have h1 := h x (List.mem_cons_self ..)
    have h2 : Go.Lib.lens xs ≤ B * xs.length := by
      have : ∀ l : List (List UInt8), (∀ x ∈ l, x.length ≤ B) → Go.Lib.lens l ≤ B * l.length := fun l hl => by
        induction l with
        | nil => simp [Go.Lib.lens]
        | cons y l ih =>
          have := hl y (List.mem_cons_self ..)
          have := ih fun x hx => hl x (List.mem_cons_of_mem _ hx)
          simp only [Go.Lib.lens, List.map_cons, List.sum_cons, List.length_cons, Nat.mul_succ] at this ⊢
          omega
      exact this xs fun x hx => h x (List.mem_cons_of_mem _ hx)
    rw [List.length_cons, Nat.mul_succ, Nat.add_mul]
    omega
/-- the program's loop: n bytes are counted so far -/
theorem impl_join_l (xs : List ByteArray) (c : UInt8) (hn : xs.length ≤ 1048576) (hr : ∀ r ∈ xs, r.size ≤ 1048576) : ∀ (j i : Nat) (n : Nat), i + j = xs.length → n ≤ 2000000 →
    Ev (fun k => impl_JoinStrings.l0 k xs (⟨#[c]⟩ : ByteArray) (n : Int) xs (xs.length : Int) (i : Int)) (if free c (xs.drop i) = true ∧ (j = 0 ∨ n + Go.Lib.lens (dL (xs.drop i)) ≤ 4000) then (bsOf (Go.Lib.join (dL xs) [c]), true) else ((⟨#[]⟩ : ByteArray), false))
  | 0, i, n, hj, hb => by
    have ed : xs.drop i = [] := List.drop_of_length_le (by omega)
    rw [if_pos ⟨by rw [ed]; rfl, .inl rfl⟩]
    have jl := join_len [c] 1048576 (dL xs) (fun x hx => by
      obtain ⟨s, hs, rfl⟩ := List.mem_map.1 hx
      exact hr s hs)
    have ld : (dL xs).length = xs.length := by unfold dL; simp
    have je : Ev (fun k => strings_Join.f k xs (⟨#[c]⟩ : ByteArray)) (bsOf (Go.Lib.join (dL xs) [c])) := by
      unfold strings_Join.f
      refine ev_if_pos (by omega) (ev_if_pos ?_ (ev_const _))
      show (Go.Lib.join (dL xs) [c]).length ≤ _
      have : (1048576 + [c].length) * (dL xs).length ≤ 1048577 * 1048576 := Nat.mul_le_mul (by simp) (by omega)
      omega
    refine Ev.step (f := fun k => (strings_Join.f k xs (⟨#[c]⟩ : ByteArray)).bind fun t => some (t, true)) (fun k => ?_) (Ev.bind je (ev_const _))
    rw [impl_JoinStrings.l0, if_neg (by omega)]
  | j + 1, i, n, hj, hb => by
    have hi : i < xs.length := by omega
    have hz := hr xs[i] (List.getElem_mem hi)
    have el : Go.Lib.lens (dL (xs.drop i)) = xs[i].size + Go.Lib.lens (dL (xs.drop (i + 1))) := by
      rw [dL_get xs i hi, lens_cons]
      rfl
    have ef : free c (xs.drop i) = ((!xs[i].data.toList.contains c) && free c (xs.drop (i + 1))) := by
      rw [List.drop_eq_getElem_cons hi]
      rfl
    by_cases g : ((n + xs[i].size : Nat) : Int) > 4000
    · rw [if_neg (fun q => by rcases q.2 with q | q; exact absurd q (by omega); omega)]
      refine Ev.step (f := fun _ => some ((⟨#[]⟩ : ByteArray), false)) (fun k => ?_) (ev_const _)
      rw [impl_JoinStrings.l0, if_pos (by omega), if_pos (by omega), if_pos (by omega), rdO xs i hi, w64 (x := (n : Int) + (xs[i].size : Int)) (by omega) (by omega), if_pos (by omega)]
    · refine Ev.step (f := fun k => (strings_Contains.f k xs[i] (⟨#[c]⟩ : ByteArray)).bind fun t => if t = true then some ((⟨#[]⟩ : ByteArray), false) else impl_JoinStrings.l0 k xs (⟨#[c]⟩ : ByteArray) ((n + xs[i].size : Nat) : Int) xs (xs.length : Int) ((i + 1 : Nat) : Int)) (fun k => ?_) (Ev.bind (contains_ev xs[i] c) ?_)
      · rw [impl_JoinStrings.l0, if_pos (by omega), if_pos (by omega), if_pos (by omega), rdO xs i hi, w64 (x := (n : Int) + (xs[i].size : Int)) (by omega) (by omega), if_neg (by omega), w64_nat (by omega), show (n : Int) + (xs[i].size : Int) = ((n + xs[i].size : Nat) : Int) by omega]
      · by_cases d : xs[i].data.toList.contains c = true
        · rw [if_neg (fun q => by have := q.1; rw [ef, d] at this; simp at this)]
          exact ev_if_pos d (ev_const _)
        · refine ev_if_neg d ?_
          have ih := impl_join_l xs c hn hr j (i + 1) (n + xs[i].size) (by omega) (by omega)
          have same : (free c (xs.drop (i + 1)) = true ∧ (j = 0 ∨ n + xs[i].size + Go.Lib.lens (dL (xs.drop (i + 1))) ≤ 4000)) ↔ (free c (xs.drop i) = true ∧ (j + 1 = 0 ∨ n + Go.Lib.lens (dL (xs.drop i)) ≤ 4000)) := by
            rw [ef, Bool.eq_false_iff.2 d, el]
            simp only [Bool.not_false, Bool.true_and]
            constructor
            · rintro ⟨a, b⟩
              refine ⟨a, .inr ?_⟩
              rcases b with b | b
              · have : xs.drop (i + 1) = [] := List.drop_of_length_le (by omega)
                rw [this]
                simp only [dL, List.map_nil, Go.Lib.lens, List.sum_nil]
                omega
              · omega
            · rintro ⟨a, b⟩
              refine ⟨a, .inr ?_⟩
              rcases b with b | b
              · omega
              · omega
          simp only [same] at ih
          exact ih
theorem impl_join_ev (xs : List ByteArray) (sep : ByteArray) (hn : xs.length ≤ 1048576) (hr : ∀ r ∈ xs, r.size ≤ 1048576) : Ev (fun k => impl_JoinStrings.f k xs sep) (joinT xs sep) := by
  obtain ⟨⟨l⟩⟩ := sep
  unfold impl_JoinStrings.f joinT
  have no : ∀ b : Bool, b = true → Ev (fun k => impl_JoinStrings.j0 k xs (⟨⟨l⟩⟩ : ByteArray) b) ((⟨#[]⟩ : ByteArray), false) := fun b hb => by
    subst hb
    refine Ev.step (f := fun _ => some ((⟨#[]⟩ : ByteArray), false)) (fun k => ?_) (ev_const _)
    rw [impl_JoinStrings.j0, if_pos rfl]
  match l, xs, hn, hr, no with
  | [], [], hn, hr, no => exact ev_if_pos rfl (no true rfl)
  | [c], [], hn, hr, no => exact ev_if_pos rfl (no true rfl)
  | a :: b :: l, [], hn, hr, no => exact ev_if_pos rfl (no true rfl)
  | [], s :: t, hn, hr, no => exact ev_if_neg (by first | (simp; done) | (simp; omega) | omega) (no _ rfl)
  | a :: b :: l, s :: t, hn, hr, no => exact ev_if_neg (by first | (simp; done) | (simp; omega) | omega) (no _ (by show ((((a :: b :: l).length : Nat) : Int) != 1) = true; simp; omega))
  | [c], s :: t, hn, hr, no =>
    have e1 : wrap64 ((((s :: t).length : Nat) : Int) - 1) = ((t.length : Nat) : Int) := by
      simp only [List.length_cons] at hn ⊢
      rw [w64 (by omega) (by omega)]
      omega
    have hl : t.length ≤ 2000000 := by simp only [List.length_cons] at hn; omega
    have l0 := impl_join_l (s :: t) c hn hr (t.length + 1) 0 t.length (by simp) hl
    refine ev_if_neg (by first | (simp; done) | (simp; omega) | omega) (Ev.step (f := fun k => impl_JoinStrings.l0 k (s :: t) (⟨#[c]⟩ : ByteArray) ((t.length : Nat) : Int) (s :: t) (((s :: t).length : Nat) : Int) ((0 : Nat) : Int)) (fun k => ?_) ?_)
    · rw [impl_JoinStrings.j0, if_neg (by show ¬ ((((1 : Nat) : Int) != 1) = true); simp), e1]
      rfl
    · rw [List.drop_zero] at l0
      have hls : s.data.toList.length = s.size := rfl
      have key : (if free c (s :: t) = true ∧ (t.length + 1 = 0 ∨ t.length + Go.Lib.lens (dL (s :: t)) ≤ 4000) then (bsOf (Go.Lib.join (dL (s :: t)) [c]), true) else ((⟨#[]⟩ : ByteArray), false)) = (if s.data.toList.contains c = true then ((⟨#[]⟩ : ByteArray), false) else joinR c s.data.toList t) := by
        have ej : Go.Lib.join (dL (s :: t)) [c] = s.data.toList ++ Go.Lib.joinTail [c] (dL t) := Go.Lib.join_cons _ _ _
        have en : (s.data.toList ++ Go.Lib.joinTail [c] (dL t)).length = t.length + Go.Lib.lens (dL (s :: t)) := by
          rw [List.length_append, Go.Lib.joinTail_length]
          have : Go.Lib.lens (dL (s :: t)) = s.data.toList.length + Go.Lib.lens (dL t) := lens_cons _ _
          rw [this]
          have : (dL t).length = t.length := by unfold dL; simp
          rw [this]
          simp only [List.length_singleton]
          omega
        have ef : free c (s :: t) = ((!s.data.toList.contains c) && free c t) := rfl
        by_cases d : s.data.toList.contains c = true
        · rw [if_pos d, if_neg (fun q => by have := q.1; rw [ef, d] at this; simp at this)]
        · rw [if_neg d]
          unfold joinR
          rw [ef, Bool.eq_false_iff.2 d, ej, en]
          simp
      show Ev _ (if s.data.toList.contains c = true then ((⟨#[]⟩ : ByteArray), false) else joinR c s.data.toList t)
      rw [← key]
      exact l0
theorem spl_index (c : UInt8) : ∀ l : List UInt8, splL c l = if Go.Lib.indexByte l c = -1 then [l] else l.take (Go.Lib.indexByte l c).toNat :: splL c (l.drop ((Go.Lib.indexByte l c).toNat + 1))
  | [] => rfl
  | b :: l => by
    have ih := spl_index c l
    have g := Go.Lib.indexByte_ge l c
    by_cases h : b = c
    · have e : Go.Lib.indexByte (b :: l) c = 0 := by
        unfold Go.Lib.indexByte
        rw [if_pos (by simp [h])]
      rw [e, if_neg (by omega), splL, if_pos h]
      rfl
    · have hb : (b == c) = false := beq_eq_false_iff_ne.2 h
      have e : Go.Lib.indexByte (b :: l) c = if Go.Lib.indexByte l c == -1 then -1 else Go.Lib.indexByte l c + 1 := by
        conv => lhs; unfold Go.Lib.indexByte
        rw [hb]
        rfl
      rw [splL, if_neg h, ih]
      by_cases k : Go.Lib.indexByte l c = -1
      · rw [e, k]
        rfl
      · have hk : (Go.Lib.indexByte l c == -1) = false := beq_eq_false_iff_ne.2 k
        rw [e, hk, if_neg k]
        simp only [Bool.false_eq_true, if_false]
        rw [if_neg (by omega), show (Go.Lib.indexByte l c + 1).toNat = (Go.Lib.indexByte l c).toNat + 1 by omega]
        rfl
theorem splitB_is (c : UInt8) : ∀ (n : Nat) (s : ByteArray), s.size ≤ n → Go.Lib.splitB (⟨#[c]⟩ : ByteArray) 0 (Go.Lib.countB s (⟨#[c]⟩ : ByteArray)) s = (splL c s.data.toList).map bsOf := fun n => by
  induction n with
  | zero =>
    intro s hs
    have h0 : s.data.toList = [] := List.length_eq_zero_iff.1 (by show s.size = 0; omega)
    have hi : Go.Lib.indexB s (⟨#[c]⟩ : ByteArray) = -1 := by
      show Go.Lib.index s.data.toList [c] = -1
      rw [Go.Lib.index_one, h0]
      rfl
    rw [Go.Lib.splitB_miss _ _ _ _ hi, h0]
    show [s] = [bsOf []]
    rw [← h0, bsOf_data]
  | succ n ih =>
    intro s hs
    have ei : Go.Lib.indexB s (⟨#[c]⟩ : ByteArray) = Go.Lib.indexByte s.data.toList c := Go.Lib.index_one _ _
    have g := Go.Lib.indexByte_ge s.data.toList c
    rw [spl_index]
    by_cases k : Go.Lib.indexByte s.data.toList c = -1
    · rw [if_pos k, Go.Lib.splitB_miss _ _ _ _ (ei.trans k), List.map_cons, List.map_nil, bsOf_data]
    · obtain ⟨i, hi⟩ := Int.eq_ofNat_of_zero_le (show 0 ≤ Go.Lib.indexByte s.data.toList c by omega)
      have hit : Go.Lib.indexB s (⟨#[c]⟩ : ByteArray) = i := ei.trans hi
      have hat := (Go.Lib.indexByte_some hi).1
      have hlt : i < s.data.toList.length := (List.getElem?_eq_some_iff.1 hat).1
      have hls : s.data.toList.length = s.size := rfl
      have one : (⟨#[c]⟩ : ByteArray).size = 1 := rfl
      rw [if_neg k, Go.Lib.countB_hit s _ i (by rw [one]; omega) hit, Nat.add_comm 1, Go.Lib.splitB_hit _ _ _ _ i hit, one, Nat.add_zero]
      have sz : (s.extract (i + 1) s.size).size ≤ n := by rw [ByteArray.size_extract]; omega
      rw [ih _ sz, ext_list s 0 i, ext_list s (i + 1) s.size, hi, List.map_cons, Int.toNat_natCast]
      congr 1
      unfold bsOf
      simp only [List.drop_zero, hls ▸ List.take_length]
/-- the bytes that draws read -/
def byt (l : List Int) : Prop := ∀ x ∈ l, 0 ≤ x ∧ x ≤ 255
theorem byt_wf {l : List Int} (h : ∀ x ∈ l, (Lit.int .u8 x).wf = true) : byt l := fun x hx => by
  have h := h x hx
  have e1 : IntKind.u8.min = 0 := by decide
  have e2 : IntKind.u8.max = 255 := by decide
  simp only [Lit.wf, Bool.and_eq_true, decide_eq_true_eq] at h
  omega
theorem low8 (x : Int) : 0 ≤ wrap64 (Go.bits .and .u64 (IntKind.u64.wrap x / 1099511627776) 255) ∧ wrap64 (Go.bits .and .u64 (IntKind.u64.wrap x / 1099511627776) 255) ≤ 255 := by
  have h : 0 ≤ IntKind.u64.wrap x ∧ IntKind.u64.wrap x ≤ 18446744073709551615 := by rw [IntKind.wrap_u64]; omega
  obtain ⟨n, hn⟩ := Int.eq_ofNat_of_zero_le (show 0 ≤ IntKind.u64.wrap x / 1099511627776 by omega)
  have e : Go.bits .and .u64 (IntKind.u64.wrap x / 1099511627776) 255 = ((n &&& 255 : Nat) : Int) := by
    rw [hn]
    exact bits_and_u64_nat n 255 (by omega) (by omega)
  rw [e]
  have := Nat.and_le_right (n := n) (m := 255)
  rw [w64 (by omega) (by omega)]
  omega
theorem next_tells (l : List Int) (a sd : Int) (hb : byt l) (h0 : 0 ≤ a) (h1 : a ≤ 4611686018427387904) : ∃ v sd', spec_l1Cur_next.f l a sd = some (v, a + 1, sd') ∧ 0 ≤ v ∧ v ≤ 255 := by
  unfold spec_l1Cur_next.f
  rw [w64 (x := a + 1) (by omega) (by omega)]
  by_cases c1 : a < (l.length : Int)
  · obtain ⟨i, rfl⟩ := Int.eq_ofNat_of_zero_le h0
    have hi : i < l.length := by omega
    have hx := hb l[i] (List.getElem_mem hi)
    rw [if_pos c1, if_pos h0, if_pos (by omega)]
    refine ⟨_, _, rfl, ?_⟩
    rw [rd_nat l i hi, w64 (by omega) (by omega)]
    exact hx
  · rw [if_neg c1]
    by_cases c2 : a + 1 ≤ (l.length : Int)
    · rw [if_pos c2]
      exact ⟨_, _, rfl, by omega, by omega⟩
    · rw [if_neg c2]
      exact ⟨_, _, rfl, low8 _⟩
theorem pick_tells (l : List Int) (a sd n : Int) (hb : byt l) (h0 : 0 ≤ a) (h1 : a ≤ 4000000000) : ∃ v a' sd', spec_l1Cur_pick.f l a sd n = some (v, a', sd') ∧ 0 ≤ v ∧ (v < n ∨ v = 0 ∧ n ≤ 1) ∧ a ≤ a' ∧ a' ≤ a + 2 := by
  unfold spec_l1Cur_pick.f
  by_cases c1 : n ≤ 1
  · rw [if_pos c1]
    exact ⟨_, _, _, rfl, by omega, .inr ⟨rfl, c1⟩, by omega, by omega⟩
  · rw [if_neg c1]
    obtain ⟨v, s1, e1, hv⟩ := next_tells l a sd hb h0 (by omega)
    rw [e1]
    simp only [Option.bind_some]
    by_cases c2 : n > 200
    · rw [if_pos c2]
      obtain ⟨v2, s2, e2, hv2⟩ := next_tells l (a + 1) s1 hb (by omega) (by omega)
      rw [e2]
      simp only [Option.bind_some]
      rw [if_neg (by omega), w64 (x := v * 256) (by omega) (by omega), w64 (x := v * 256 + v2) (by omega) (by omega), Int.tmod_eq_emod_of_nonneg (by omega)]
      exact ⟨_, _, _, rfl, Int.emod_nonneg _ (by omega), .inl (Int.emod_lt_of_pos _ (by omega)), by omega, by omega⟩
    · rw [if_neg c2, if_neg (by omega), Int.tmod_eq_emod_of_nonneg (by omega)]
      exact ⟨_, _, _, rfl, Int.emod_nonneg _ (by omega), .inl (Int.emod_lt_of_pos _ (by omega)), by omega, by omega⟩
theorem of_tells (l : List Int) (a sd : Int) (xs : List ByteArray) (hb : byt l) (h0 : 0 ≤ a) (h1 : a ≤ 4000000000) (hx : 0 < xs.length) : ∃ v a' sd', spec_l1Cur_of.f l a sd xs = some (v, a', sd') ∧ v ∈ xs ∧ a ≤ a' ∧ a' ≤ a + 2 := by
  unfold spec_l1Cur_of.f
  obtain ⟨v, a', s', e, g0, g1, g2, g3⟩ := pick_tells l a sd (xs.length : Int) hb h0 h1
  rw [e]
  simp only [Option.bind_some]
  obtain ⟨i, rfl⟩ := Int.eq_ofNat_of_zero_le g0
  have hi : i < xs.length := by omega
  rw [if_pos (by omega), if_pos (by omega)]
  refine ⟨_, _, _, rfl, ?_, g2, g3⟩
  have : rdOf ByteArray.empty xs (i : Int) = xs[i] := by
    unfold rdOf
    rw [Int.toNat_natCast, List.getD_eq_getElem?_getD, List.getElem?_eq_getElem hi]
    rfl
  rw [this]
  exact List.getElem_mem hi
/-- what any1 draws from -/
def anyL : List ByteArray := [(⟨#[]⟩ : ByteArray), (⟨#[97]⟩ : ByteArray), (⟨#[97, 44, 98]⟩ : ByteArray), (⟨#[115, 111, 109, 101, 32, 119, 111, 114, 100, 115]⟩ : ByteArray), (⟨#[120, 35, 121]⟩ : ByteArray), (⟨#[45, 49, 50]⟩ : ByteArray), (⟨#[0, 255]⟩ : ByteArray), (⟨#[44, 44]⟩ : ByteArray), (⟨#[48]⟩ : ByteArray)]
theorem anyL_size : ∀ s ∈ anyL, s.size ≤ 10 := by
  intro s hs
  simp only [anyL, List.mem_cons, List.not_mem_nil, or_false] at hs
  rcases hs with rfl | rfl | rfl | rfl | rfl | rfl | rfl | rfl | rfl <;> decide
theorem any1_tells (l : List Int) (a sd : Int) (hb : byt l) (h0 : 0 ≤ a) (h1 : a ≤ 4000000000) : ∃ v a' sd', spec_l1Cur_any1.f l a sd = some (v, a', sd') ∧ v.size ≤ 10 ∧ a ≤ a' ∧ a' ≤ a + 2 := by
  unfold spec_l1Cur_any1.f
  obtain ⟨v, a', s', e, g0, g1, g2⟩ := of_tells l a sd anyL hb h0 h1 (by decide)
  unfold anyL at e
  rw [e]
  exact ⟨_, _, _, rfl, anyL_size v g0, g1, g2⟩
theorem one_tells (l : List Int) (a sd n : Int) (hb : byt l) (h0 : 0 ≤ a) (h1 : a ≤ 4000000000) : ∃ v a' sd', spec_l1Cur_one.f l a sd n = some (v, a', sd') ∧ a ≤ a' ∧ a' ≤ a + 2 := by
  unfold spec_l1Cur_one.f
  obtain ⟨v, a', s', e, _, _, g2, g3⟩ := pick_tells l a sd n hb h0 h1
  rw [e]
  exact ⟨_, _, _, rfl, g2, g3⟩
theorem zeros_size (n : Nat) : (strOfNums (List.replicate n 0)).size = n := by
  unfold strOfNums
  show Array.size _ = n
  simp
/-- what was split is joined to what it was -/
theorem spl_free (c : UInt8) : ∀ (l : List UInt8), ∀ p ∈ splL c l, p.contains c = false
  | [], p, h => by
    rw [splL, List.mem_singleton] at h
    subst h
    rfl
  | b :: l, p, h => by
    have ih := spl_free c l
    rw [splL] at h
    split at h
    · rcases List.mem_cons.1 h with rfl | h
      · rfl
      · exact ih p h
    · rename_i hb
      have hc : (c == b) = false := beq_eq_false_iff_ne.2 (Ne.symm hb)
      split at h
      · rw [List.mem_singleton] at h
        subst h
        rw [List.contains_cons, hc]
        rfl
      · rename_i q qs e
        rw [e] at ih
        rcases List.mem_cons.1 h with rfl | h
        · rw [List.contains_cons, hc, Bool.false_or]
          exact ih q (List.mem_cons_self ..)
        · exact ih p (List.mem_cons_of_mem _ h)
theorem spl_join (c : UInt8) : ∀ (l : List UInt8), ∃ p ps, splL c l = p :: ps ∧ p ++ Go.Lib.joinTail [c] ps = l
  | [] => ⟨[], [], rfl, by simp [Go.Lib.joinTail]⟩
  | b :: l => by
    obtain ⟨p, ps, e, h⟩ := spl_join c l
    by_cases hb : b = c
    · refine ⟨[], p :: ps, by rw [splL, if_pos hb, e], ?_⟩
      rw [← h, hb]
      simp [Go.Lib.joinTail]
    · refine ⟨b :: p, ps, by rw [splL, if_neg hb, e], ?_⟩
      rw [List.cons_append, h]
theorem bsOf_list (l : List UInt8) : (bsOf l).data.toList = l := by
  unfold bsOf
  simp
theorem dL_map (ps : List (List UInt8)) : dL (ps.map bsOf) = ps := by
  unfold dL
  rw [List.map_map]
  have : ((fun s : ByteArray => s.data.toList) ∘ bsOf) = id := funext fun l => bsOf_list l
  rw [this, List.map_id]
theorem join_split (c : UInt8) (s : ByteArray) (hs : s.size ≤ 4000) : joinT ((splL c s.data.toList).map bsOf) (⟨#[c]⟩ : ByteArray) = (s, true) := by
  obtain ⟨p, ps, e, h⟩ := spl_join c s.data.toList
  have fr := spl_free c s.data.toList
  rw [e] at fr ⊢
  unfold joinT
  rw [List.map_cons]
  show (if (bsOf p).data.toList.contains c = true then ((⟨#[]⟩ : ByteArray), false) else joinR c (bsOf p).data.toList (ps.map bsOf)) = _
  rw [bsOf_list, fr p (List.mem_cons_self ..)]
  rw [if_neg (by simp)]
  unfold joinR
  rw [dL_map, h, if_pos, bsOf_data]
  refine ⟨?_, hs⟩
  unfold free
  refine List.all_eq_true.2 fun x hx => ?_
  obtain ⟨q, hq, rfl⟩ := List.mem_map.1 hx
  rw [bsOf_list, fr q (List.mem_cons_of_mem _ hq)]
  rfl
theorem less_asym : ∀ (x y : List UInt8), Op.bytesLess x y = true → Op.bytesLess y x = false
  | [], [], h => by simp [Op.bytesLess] at h
  | a :: x, [], h => by simp [Op.bytesLess] at h
  | [], b :: y, _ => by simp [Op.bytesLess]
  | a :: x, b :: y, h => by
    unfold Op.bytesLess at h ⊢
    have ih := less_asym x y
    simp only [Bool.or_eq_true, Bool.and_eq_true, decide_eq_true_eq, beq_iff_eq, Bool.or_eq_false_iff, Bool.and_eq_false_iff, decide_eq_false_iff_not] at h ⊢
    rcases h with h | ⟨h1, h2⟩
    · have h' := UInt8.lt_iff_toNat_lt.1 h
      refine ⟨fun q => by have := UInt8.lt_iff_toNat_lt.1 q; omega, .inl ?_⟩
      refine beq_eq_false_iff_ne.2 fun q => ?_
      subst q
      omega
    · subst h1
      exact ⟨fun q => by have := UInt8.lt_iff_toNat_lt.1 q; omega, .inr (ih h2)⟩
theorem spl_part_le (c : UInt8) : ∀ (l : List UInt8), ∀ p ∈ splL c l, p.length ≤ l.length
  | [], p, h => by
    rw [splL, List.mem_singleton] at h
    subst h
    exact Nat.le_refl _
  | b :: l, p, h => by
    have ih := spl_part_le c l
    rw [splL] at h
    split at h
    · rcases List.mem_cons.1 h with rfl | h
      · exact Nat.zero_le _
      · exact Nat.le_succ_of_le (ih p h)
    · split at h
      · rw [List.mem_singleton] at h
        subst h
        simp
      · rename_i q qs e
        rw [e] at ih
        rcases List.mem_cons.1 h with rfl | h
        · exact Nat.succ_le_succ (ih q (List.mem_cons_self ..))
        · exact Nat.le_succ_of_le (ih p (List.mem_cons_of_mem _ h))
theorem draw_split (l : List Int) (hb : byt l) : ∃ s sep, spec_DrawSplitString.f l = some (s, sep) ∧ s.size ≤ 10 := by
  unfold spec_DrawSplitString.f
  obtain ⟨s, a1, s1, e1, h1, h2, h3⟩ := any1_tells l 0 0 hb (by omega) (by omega)
  rw [e1]
  simp only [Option.bind_some]
  obtain ⟨v, a2, s2, e2, _, _, _⟩ := of_tells l a1 s1 [(⟨#[44]⟩ : ByteArray), (⟨#[44]⟩ : ByteArray), (⟨#[32]⟩ : ByteArray), (⟨#[]⟩ : ByteArray), (⟨#[44, 44]⟩ : ByteArray)] hb h2 (by omega) (by decide)
  rw [e2]
  exact ⟨_, _, rfl, h1⟩
theorem draw_less (l : List Int) (hb : byt l) : ∃ a b, spec_DrawLessString.f l = some (a, b) := by
  unfold spec_DrawLessString.f
  obtain ⟨s, a1, s1, e1, h1, h2, h3⟩ := any1_tells l 0 0 hb (by omega) (by omega)
  rw [e1]
  simp only [Option.bind_some]
  obtain ⟨v, a2, s2, e2, _, _, _⟩ := any1_tells l a1 s1 hb h2 (by omega)
  rw [e2]
  exact ⟨_, _, rfl⟩
theorem draw_join_l (l : List Int) (hb : byt l) (n : Nat) (hn : n ≤ 3) : ∀ (j i : Nat) (xs : List ByteArray) (a sd : Int), i + j = n → xs.length = i → (∀ x ∈ xs, x.size ≤ 4010) → 0 ≤ a → a ≤ 1000 + 2 * i → ∃ ys m, Ev (fun k => spec_DrawJoinStrings.l0 k xs (n : Int) (i : Int) l a sd) (ys, m) ∧ ys.length ≤ 4 ∧ ∀ x ∈ ys, x.size ≤ 4010
  | 0, i, xs, a, sd, hj, hx, hs, h0, h1 => by
    obtain ⟨b, a1, s1, e1, h2, h3⟩ := one_tells l a sd 20 hb h0 (by omega)
    have seps : 0 < ([(⟨#[44]⟩ : ByteArray), (⟨#[59]⟩ : ByteArray), (⟨#[59]⟩ : ByteArray), (⟨#[]⟩ : ByteArray), (⟨#[97, 98]⟩ : ByteArray)] : List ByteArray).length := by decide
    by_cases c : b = true
    · obtain ⟨v, a2, s2, e2, g0, g1, g2, g3⟩ := pick_tells l a1 s1 20 hb (by omega) (by omega)
      obtain ⟨m, a3, s3, e3, _, _, _⟩ := of_tells l a2 s2 _ hb (by omega) (by omega) seps
      have w : wrap64 (3990 + v) = 3990 + v := w64 (by omega) (by omega)
      refine ⟨xs ++ [strOfNums (List.replicate (3990 + v).toNat 0)], m, Ev.step (f := fun _ => some (xs ++ [strOfNums (List.replicate (3990 + v).toNat 0)], m)) (fun k => ?_) (ev_const _), by simp; omega, ?_⟩
      · rw [spec_DrawJoinStrings.l0, if_neg (by omega), e1]
        simp only [Option.bind_some]
        rw [if_pos c, e2]
        simp only [Option.bind_some]
        rw [w, if_pos (by omega), if_pos (by omega), if_pos (by omega), e3]
        rfl
      · intro x hx
        rcases List.mem_append.1 hx with hx | hx
        · exact hs x hx
        · rw [List.mem_singleton.1 hx, zeros_size]
          omega
    · obtain ⟨m, a3, s3, e3, _, _, _⟩ := of_tells l a1 s1 _ hb (by omega) (by omega) seps
      refine ⟨xs, m, Ev.step (f := fun _ => some (xs, m)) (fun k => ?_) (ev_const _), by omega, hs⟩
      rw [spec_DrawJoinStrings.l0, if_neg (by omega), e1]
      simp only [Option.bind_some]
      rw [if_neg c, e3]
      rfl
  | j + 1, i, xs, a, sd, hj, hx, hs, h0, h1 => by
    obtain ⟨s, a1, s1, e1, h2, h3, h4⟩ := any1_tells l a sd hb h0 (by omega)
    obtain ⟨ys, m, h, hl, hz⟩ := draw_join_l l hb n hn j (i + 1) (xs ++ [s]) a1 s1 (by omega) (by simp [hx]) (fun x hx => by
      rcases List.mem_append.1 hx with hx | hx
      · exact hs x hx
      · rw [List.mem_singleton.1 hx]
        omega) (by omega) (by omega)
    refine ⟨ys, m, Ev.step (fun k => ?_) h, hl, hz⟩
    rw [spec_DrawJoinStrings.l0, if_pos (by omega), e1]
    simp only [Option.bind_some]
    rw [if_pos (by omega), w64_nat (by omega)]
theorem draw_join (l : List Int) (hb : byt l) : ∃ ys m, Ev (fun k => spec_DrawJoinStrings.f k l) (ys, m) ∧ ys.length ≤ 4 ∧ ∀ x ∈ ys, x.size ≤ 4010 := by
  unfold spec_DrawJoinStrings.f
  obtain ⟨v, a1, s1, e1, g0, g1, g2, g3⟩ := pick_tells l 0 0 4 hb (by omega) (by omega)
  obtain ⟨n, rfl⟩ := Int.eq_ofNat_of_zero_le g0
  obtain ⟨ys, m, h, hl, hz⟩ := draw_join_l l hb n (by omega) n 0 [] a1 s1 (by omega) rfl (by simp) (by omega) (by omega)
  refine ⟨ys, m, ?_, hl, hz⟩
  exact Ev.bind (ev_of 0 fun k _ => e1) h
theorem impl_split_ev (s sep : ByteArray) (hs : s.size ≤ 10) : Ev (fun k => impl_SplitString.f k s sep) (match sep.data.toList with | [c] => ((splL c s.data.toList).map bsOf, true) | _ => ([], false)) := by
  unfold impl_SplitString.f
  refine ev_if_neg (by omega) ?_
  obtain ⟨⟨l⟩⟩ := sep
  match l with
  | [] => exact ev_if_neg (by decide) (ev_const _)
  | a :: b :: l => exact ev_if_neg (by show ¬ (((a :: b :: l).length : Nat) : Int) = 1; simp; omega) (ev_const _)
  | [c] =>
    have es : Ev (fun k => strings_Split.f k s (⟨#[c]⟩ : ByteArray)) ((splL c s.data.toList).map bsOf) := by
      unfold strings_Split.f
      refine ev_if_pos (by omega) (ev_if_pos (show 1 ≤ (1:Nat) from Nat.le_refl _) ?_)
      rw [splitB_is c s.size s (Nat.le_refl _)]
      exact ev_const _
    exact ev_if_pos rfl (Ev.bind es (ev_const _))
theorem bs_toList (s : ByteArray) : s.toList == s.toList := by simp
theorem FnSplitJoin : ∀ (l0 : List Int), l0.length ≤ maxLen → (∀ x ∈ l0, (Lit.int .u8 x).wf = true) → ∃ k, laws_FnSplitJoin.f k l0 = some true := by
  intro l hl hw
  have hb := byt_wf hw
  refine Ev.rounds (g := fun k => laws_FnSplitJoin.f k l) ?_
  unfold laws_FnSplitJoin.f laws_vBig.f
  refine Ev.bind (ev_const _) ?_
  by_cases c : decide ((l.length : Int) > 65536) = true
  · exact ev_if_pos c (ev_const _)
  refine ev_if_neg c ?_
  obtain ⟨s, sep, e1, hs⟩ := draw_split l hb
  obtain ⟨xs, mk, h2, hx, hz⟩ := draw_join l hb
  obtain ⟨a, b, e3⟩ := draw_less l hb
  have h1 := impl_split_ev s sep hs
  have j1 := impl_join_ev xs mk (by omega) (fun r hr => by have := hz r hr; omega)
  have j2 := spec_join_ev xs mk (by omega) (fun r hr => by have := hz r hr; omega)
  refine Ev.bind (ev_of 0 fun k _ => e1) (Ev.bind h1 (Ev.bind h2 (Ev.bind j1 (Ev.bind j2 (Ev.bind (ev_of 0 fun k _ => e3) (ev_if_pos rfl (ev_if_neg (by simp) ?_)))))))
  refine Ev.bind (ev_of 0 fun k _ => (rfl : impl_LessString.f a b = some (Op.bytesLess a.toList b.toList))) (Ev.bind (ev_of 0 fun k _ => (rfl : spec_LessString.f a b = some (Op.bytesLess a.toList b.toList))) (ev_if_neg (by simp) (Ev.bind (ev_of 0 fun k _ => (rfl : impl_LessString.f a b = some (Op.bytesLess a.toList b.toList))) ?_)))
  have fin : Ev (fun k => laws_FnSplitJoin.j0 k s sep (match sep.data.toList with | [c] => ((splL c s.data.toList).map bsOf, true) | _ => (([] : List ByteArray), false)).1 (match sep.data.toList with | [c] => ((splL c s.data.toList).map bsOf, true) | _ => (([] : List ByteArray), false)).2 false) true := by
    have big : s.size ≤ 4000 := by omega
    obtain ⟨⟨z⟩⟩ := sep
    match z with
    | [] => exact Ev.step (f := fun _ => some true) (fun k => by rw [laws_FnSplitJoin.j0, if_neg (by simp), if_neg (by decide), if_neg (by simp)]; rfl) (ev_const _)
    | u :: v :: z => exact Ev.step (f := fun _ => some true) (fun k => by rw [laws_FnSplitJoin.j0, if_neg (by simp), if_neg (by show ¬ (((u :: v :: z).length : Nat) : Int) = 1; simp; omega), if_neg (by simp)]; rfl) (ev_const _)
    | [u] =>
      have ln := spl_length_le u s.data.toList
      have hls : s.data.toList.length = s.size := rfl
      have jj := impl_join_ev ((splL u s.data.toList).map bsOf) (⟨#[u]⟩ : ByteArray) (by rw [List.length_map]; omega) (fun r hr => by
        obtain ⟨p, hp, rfl⟩ := List.mem_map.1 hr
        rw [bsOf_size]
        have := spl_part_le u s.data.toList p hp
        omega)
      rw [join_split u s big] at jj
      refine Ev.step (f := fun k => (impl_JoinStrings.f k ((splL u s.data.toList).map bsOf) (⟨#[u]⟩ : ByteArray)).bind fun bt => if bt.2 = true then some (bt.1.toList == s.toList) else some false) (fun k => ?_) (Ev.bind jj (ev_if_pos rfl ?_))
      · rw [laws_FnSplitJoin.j0, if_neg (by simp)]
        simp only [if_true]
        exact if_pos rfl
      · show Ev (fun _ => some (s.toList == s.toList)) true
        rw [bs_toList s]
        exact ev_const _
  by_cases d : Op.bytesLess a.toList b.toList = true
  · refine ev_if_pos d (Ev.bind (ev_of 0 fun k _ => (rfl : impl_LessString.f b a = some (Op.bytesLess b.toList a.toList))) ?_)
    rw [less_asym _ _ d]
    exact fin
  · exact ev_if_neg d fin

end Go.Proofs.YtkgjacacldcacaaDoor.Pure
