/- Proved: the law FnExactSplitString answers true for every text and separator; no condition. -/
import Derived.Test.YtkgjacacldcacaaDoorQFnExactSplitStringx2
import Derived.Lib.SplitLaws
import Derived.Lib.IndexBytes
import Derived.Lib.IndexLaws
import Derived.Test.YtkgjacacldcacaaDoorBase
set_option linter.unusedVariables false
set_option linter.unusedSimpArgs false
namespace Go.Proofs.YtkgjacacldcacaaDoor.Pure
open Go.RowKit Go.Proofs.YtkgjacacldcacaaDoor.QFnExactSplitString Go.Proofs.YtkgjacacldcacaaDoorW.PrintWords Go.Proofs.YtkgjacacldcacaaDoorW.PrintLast Go.Proofs.YtkgjacacldcacaaDoorW.PrintMore Go.Proofs.YtkgjacacldcacaaDoor.Base

theorem ev_of {α : Type} {g : Nat → Option α} {r : α} (B : Nat) (h : ∀ k, B < k → g k = some r) : Ev g r := ⟨B + 1, fun k hk => h k (by omega)⟩
theorem ev_const {α : Type} (r : α) : Ev (fun _ => some r) r := Ev.now r
theorem ev_if_pos {α : Type} {c : Prop} [Decidable c] {f g : Nat → Option α} {r : α} (h : c) (k : Ev f r) : Ev (fun n => if c then f n else g n) r := Ev.congr (fun n => if_pos h) k
theorem ev_if_neg {α : Type} {c : Prop} [Decidable c] {f g : Nat → Option α} {r : α} (h : ¬ c) (k : Ev g r) : Ev (fun n => if c then f n else g n) r := Ev.congr (fun n => if_neg h) k
theorem bt_get (s : ByteArray) (i : Nat) (h : i < s.size) : bt s (i : Int) = (((s.data.toList[i]'h).toNat : Nat) : Int) := by
  rw [← bt_at s (i : Int) h]
  rfl
theorem u8_ne {a b : UInt8} (h : a ≠ b) : ¬ ((a.toNat : Nat) : Int) = ((b.toNat : Nat) : Int) := fun e => h (UInt8.toNat_inj.1 (by omega))
theorem bsize (s : ByteArray) : s.data.toList.length = s.size := rfl
def bsOf (l : List UInt8) : ByteArray := ⟨l.toArray⟩
theorem bsOf_data (s : ByteArray) : bsOf s.data.toList = s := by
  unfold bsOf
  rw [Array.toArray_toList]
theorem ext_list (s : ByteArray) (i j : Nat) : s.extract i j = bsOf ((s.data.toList.take j).drop i) := by
  apply ByteArray.ext
  rw [ByteArray.data_extract]
  unfold bsOf
  apply Array.toList_inj.1
  simp [List.drop_take]
/-- the parts of a text between bytes c -/
def splL (c : UInt8) : List UInt8 → List (List UInt8)
  | [] => [[]]
  | b :: l => if b = c then [] :: splL c l else match splL c l with
    | [] => [[b]]
    | p :: ps => (b :: p) :: ps
def glue (p : List UInt8) : List (List UInt8) → List (List UInt8)
  | [] => [p]
  | q :: qs => (p ++ q) :: qs
theorem spl_ne (c : UInt8) : ∀ l, splL c l ≠ []
  | [] => by simp [splL]
  | b :: l => by
    rw [splL]
    split
    · simp
    · split <;> simp
theorem glue_nil : ∀ l, l ≠ [] → glue [] l = l
  | [], h => absurd rfl h
  | q :: qs, _ => rfl
theorem glue_cons (c b : UInt8) (h : b ≠ c) (p : List UInt8) (l : List UInt8) : glue p (splL c (b :: l)) = glue (p ++ [b]) (splL c l) := by
  rw [splL, if_neg h]
  cases e : splL c l with
  | nil => exact absurd e (spl_ne c l)
  | cons q qs => simp [glue]
theorem spl_length_le (c : UInt8) : ∀ l, (splL c l).length ≤ l.length + 1
  | [] => by simp [splL]
  | b :: l => by
    have := spl_length_le c l
    rw [splL]
    split
    · simp; omega
    · split
      · simp
      · rename_i e; rw [e] at this; simp at this ⊢; omega
theorem split_l (s : ByteArray) (c : UInt8) (hs : s.size ≤ 1048576) : ∀ (j i m : Nat) (out : List ByteArray), i + j = s.size → m ≤ i → out.length ≤ i → Ev (fun k => spec_l1Split.l0 k s ((c.toNat : Nat) : Int) out (m : Int) (i : Int)) (out ++ (glue ((s.data.toList.take i).drop m) (splL c (s.data.toList.drop i))).map bsOf)
  | 0, i, m, out, hj, hm, ho => by
    rw [show s.data.toList.drop i = [] from List.drop_of_length_le (by rw [bsize]; omega)]
    refine Ev.step (f := fun _ => some (out ++ [s.extract m s.size])) (fun k => ?_) ?_
    · rw [spec_l1Split.l0, if_neg (by omega), if_pos (by omega), if_pos (by omega), if_pos (by omega), Int.toNat_natCast]
    · rw [ext_list, show s.size = i by omega]
      simp only [splL, glue, List.append_nil, List.map_cons, List.map_nil]
      exact ev_const _
  | j + 1, i, m, out, hj, hm, ho => by
    have hi : i < s.data.toList.length := by rw [bsize]; omega
    have e := bt_get s i hi
    rw [List.drop_eq_getElem_cons hi]
    by_cases c1 : s.data.toList[i] = c
    · have ih := split_l s c hs j (i + 1) (i + 1) (out ++ [s.extract m i]) (by omega) (by omega) (by rw [List.length_append, List.length_singleton]; omega)
      refine Ev.step (f := fun k => spec_l1Split.l0 k s ((c.toNat : Nat) : Int) (out ++ [s.extract m i]) ((i + 1 : Nat) : Int) ((i + 1 : Nat) : Int)) (fun k => ?_) ?_
      · rw [spec_l1Split.l0, if_pos (by omega), if_pos (by omega), e, if_pos (by rw [c1]), if_pos (by omega), if_pos (by omega), if_pos (by omega), if_pos (by omega), Int.toNat_natCast, Int.toNat_natCast, w64_nat (by omega)]
      · rw [splL, if_pos c1]
        rw [show (s.data.toList.take (i + 1)).drop (i + 1) = [] from List.drop_of_length_le (by rw [List.length_take]; omega), glue_nil _ (spl_ne c _)] at ih
        simp only [glue, List.append_nil, List.map_cons]
        rw [← ext_list]
        rw [List.append_assoc, List.singleton_append] at ih
        exact ih
    · have ih := split_l s c hs j (i + 1) m out (by omega) (by omega) (by omega)
      refine Ev.step (f := fun k => spec_l1Split.l0 k s ((c.toNat : Nat) : Int) out (m : Int) ((i + 1 : Nat) : Int)) (fun k => ?_) ?_
      · rw [spec_l1Split.l0, if_pos (by omega), if_pos (by omega), e, if_neg (u8_ne c1), w64_nat (by omega)]
      · rw [glue_cons c _ c1]
        rw [List.take_succ_eq_append_getElem hi, List.drop_append_of_le_length (by rw [List.length_take]; omega)] at ih
        exact ih
theorem split_ev (s : ByteArray) (c : UInt8) (hs : s.size ≤ 1048576) : Ev (fun k => spec_l1Split.f k s ((c.toNat : Nat) : Int)) ((splL c s.data.toList).map bsOf) := by
  have := split_l s c hs s.size 0 0 [] (by omega) (by omega) (by simp)
  rw [List.drop_zero, List.take_zero, List.drop_zero, glue_nil _ (spl_ne c _), List.nil_append] at this
  exact this
theorem rdO (l : List ByteArray) (i : Nat) (h : i < l.length) : rdOf ByteArray.empty l (i : Int) = l[i] := by
  unfold rdOf
  rw [Int.toNat_natCast, List.getD_eq_getElem?_getD, List.getElem?_eq_getElem h]
  rfl
theorem eqS_l (l : List ByteArray) (hn : l.length ≤ 1048577) : ∀ (j i : Nat), i + j = l.length → Ev (fun k => laws_eqStringS.l0 k l l (i : Int)) true
  | 0, i, hj => by
    refine Ev.step (f := fun _ => some true) (fun k => ?_) (ev_const _)
    rw [laws_eqStringS.l0, if_neg (by omega)]
  | j + 1, i, hj => by
    refine Ev.step (fun k => ?_) (eqS_l l hn j (i + 1) (by omega))
    rw [laws_eqStringS.l0, if_pos (by omega), if_pos (by omega), if_pos (by omega), if_pos rfl, w64_nat (by omega)]
theorem eqS_ev (l : List ByteArray) (hn : l.length ≤ 1048577) : Ev (fun k => laws_eqStringS.f k l l) true := by
  unfold laws_eqStringS.f
  exact ev_if_pos rfl (eqS_l l hn l.length 0 (by omega))
theorem nums_size (n : Int) : (strOfNums [n]).size = 1 := rfl
theorem mt_l : ∀ (N : Nat) (x : Int) (s : ByteArray), x.natAbs ≤ N → s.size + N ≤ 4000000000 → ∃ t, Ev (fun k => laws_markText.l0 k x s) t
  | 0, x, s, hN, hs => by
    obtain rfl : x = 0 := by omega
    refine ⟨(⟨#[109]⟩ : ByteArray) ++ s, Ev.step (f := fun _ => some ((⟨#[109]⟩ : ByteArray) ++ s)) (fun k => ?_) (ev_const _)⟩
    rw [laws_markText.l0, if_neg (by omega), if_pos (by omega)]
  | N + 1, x, s, hN, hs => by
    by_cases c : x > 0
    · have h10 : Int.tdiv x 10 = x / 10 := Int.tdiv_eq_ediv_of_nonneg (by omega)
      have hz := nums_size ((wrap64 (48 + (Int.tmod x 10))) % 256)
      have sz : (strOfNums [(wrap64 (48 + (Int.tmod x 10))) % 256] ++ s).size = 1 + s.size := by rw [ByteArray.size_append, hz]
      obtain ⟨t, ht⟩ := mt_l N (wrap64 (Int.tdiv x 10)) (strOfNums [(wrap64 (48 + (Int.tmod x 10))) % 256] ++ s) (by rw [h10, w64 (x := x / 10) (by omega) (by omega)]; omega) (by rw [sz]; omega)
      refine ⟨t, Ev.step (fun k => ?_) ht⟩
      rw [laws_markText.l0, if_pos c]
      simp only [Option.bind_some]
      rw [if_pos (by rw [hz]; omega)]
    · refine ⟨(⟨#[109]⟩ : ByteArray) ++ s, Ev.step (f := fun _ => some ((⟨#[109]⟩ : ByteArray) ++ s)) (fun k => ?_) (ev_const _)⟩
      rw [laws_markText.l0, if_neg c, if_pos (by omega)]
theorem mt_ex (x : Int) (h : x.natAbs ≤ 3000000000) : ∃ t, Ev (fun k => laws_markText.f k x) t := by
  unfold laws_markText.f
  by_cases c : x ≤ 0
  · exact ⟨_, ev_if_pos c (ev_const _)⟩
  · obtain ⟨t, ht⟩ := mt_l x.natAbs x (⟨#[]⟩ : ByteArray) (Nat.le_refl _) (by show 0 + _ ≤ _; omega)
    exact ⟨t, ev_if_neg c ht⟩
open Classical in
noncomputable def mtB (x : Int) : ByteArray := if h : ∃ t, Ev (fun k => laws_markText.f k x) t then h.choose else ByteArray.empty
theorem mt_ev (x : Int) (h : x.natAbs ≤ 3000000000) : Ev (fun k => laws_markText.f k x) (mtB x) := by
  unfold mtB
  rw [dif_pos (mt_ex x h)]
  exact (mt_ex x h).choose_spec
noncomputable def marksT : Int → Nat → List ByteArray
  | _, 0 => []
  | a, n + 1 => mtB a :: marksT (a + 1) n
theorem marksT_length : ∀ (n : Nat) (a : Int), (marksT a n).length = n
  | 0, _ => rfl
  | n + 1, a => by simp [marksT, marksT_length n]
theorem marksT_get : ∀ (n : Nat) (a : Int) (i : Nat) (h : i < (marksT a n).length), (marksT a n)[i] = mtB (a + i)
  | 0, _, i, h => by simp [marksT] at h
  | n + 1, a, 0, h => by simp [marksT]
  | n + 1, a, i + 1, h => by
    simp only [marksT, List.getElem_cons_succ]
    rw [marksT_get n (a + 1) i]
    congr 1
    omega
theorem markS_l : ∀ (post pre : List ByteArray) (a : Int), 0 ≤ a → a + post.length ≤ 2000000000 → pre.length + post.length ≤ 1000000000 → Ev (fun k => laws_markStringS.l0 k (pre ++ post) a (pre.length : Int)) (a + post.length, pre ++ marksT a post.length)
  | [], pre, a, h0, h1, h2 => by
    refine Ev.step (f := fun _ => some (a, pre)) (fun k => ?_) ?_
    · rw [laws_markStringS.l0, if_neg (by simp), List.append_nil]
    · rw [show a + (([] : List ByteArray).length : Int) = a by simp, show marksT a ([] : List ByteArray).length = [] from rfl, List.append_nil]
      exact ev_const _
  | x :: post, pre, a, h0, h1, h2 => by
    simp only [List.length_cons] at h1 h2
    have ih := markS_l post (pre ++ [mtB a]) (a + 1) (by omega) (by omega) (by rw [List.length_append, List.length_singleton]; omega)
    have e : (pre ++ x :: post).set pre.length (mtB a) = (pre ++ [mtB a]) ++ post := by simp
    refine Ev.step (f := fun k => (laws_markText.f k a).bind fun t => laws_markStringS.l0 k ((pre ++ x :: post).set pre.length t) (a + 1) ((pre.length + 1 : Nat) : Int)) (fun k => ?_) (Ev.bind (mt_ev a (by omega)) ?_)
    · rw [laws_markStringS.l0, if_pos (by simp; omega)]
      congr 1
      funext t
      rw [if_pos (by omega), Int.toNat_natCast, w64 (x := a + 1) (by omega) (by omega), w64_nat (by omega)]
    · rw [e, show a + ((x :: post).length : Int) = a + 1 + (post.length : Int) by simp; omega]
      rw [List.length_append, List.length_singleton] at ih
      rw [show marksT a (x :: post).length = mtB a :: marksT (a + 1) post.length from rfl]
      simp only [List.append_assoc, List.singleton_append] at ih ⊢
      exact ih
theorem markS_ev (l : List ByteArray) (hl : l.length ≤ 1000000) : Ev (fun k => laws_markStringS.f k l 1) (1 + l.length, marksT 1 l.length) := markS_l l [] 1 (by omega) (by omega) (by simp; omega)
theorem heldS_l (n : Nat) (hn : n ≤ 1000000) : ∀ (j i : Nat), i + j = n → Ev (fun k => laws_heldStringS.l0 k (marksT 1 n) (1 + i) (i : Int)) (1 + (n : Int))
  | 0, i, hj => by
    have hl := marksT_length n 1
    obtain rfl : i = n := by omega
    refine Ev.step (f := fun _ => some (1 + (i : Int))) (fun k => ?_) (ev_const _)
    rw [laws_heldStringS.l0, if_neg (by omega)]
  | j + 1, i, hj => by
    have hl := marksT_length n 1
    have hi : i < (marksT 1 n).length := by omega
    have e : rdOf ByteArray.empty (marksT 1 n) (i : Int) = mtB (1 + i) := by rw [rdO _ i hi, marksT_get]
    refine Ev.step (f := fun k => (laws_markText.f k (1 + (i : Int))).bind fun t => if (mtB (1 + i)).toList = t.toList then laws_heldStringS.l0 k (marksT 1 n) (1 + ((i + 1 : Nat) : Int)) ((i + 1 : Nat) : Int) else some (-1)) (fun k => ?_) (Ev.bind (mt_ev (1 + (i : Int)) (by omega)) (ev_if_pos rfl (heldS_l n hn j (i + 1) (by omega))))
    rw [laws_heldStringS.l0, if_pos (by omega), if_pos (by omega), e, w64 (x := 1 + (i : Int) + 1) (by omega) (by omega), w64_nat (by omega), show 1 + (i : Int) + 1 = 1 + ((i + 1 : Nat) : Int) by omega]
theorem heldS_ev (n : Nat) (hn : n ≤ 1000000) : Ev (fun k => laws_heldStringS.f k (marksT 1 n) 1) (1 + (n : Int)) := heldS_l n hn n 0 (by omega)
theorem spl_index (c : UInt8) : ∀ l : List UInt8, splL c l = if Go.Lib.indexByte l c = -1 then [l] else l.take (Go.Lib.indexByte l c).toNat :: splL c (l.drop ((Go.Lib.indexByte l c).toNat + 1))
  | [] => rfl
  | b :: l => by
    have ih := spl_index c l
    have g := Go.Lib.indexByte_ge l c
    by_cases h : b = c
    · have e : Go.Lib.indexByte (b :: l) c = 0 := by
        unfold Go.Lib.indexByte
        rw [if_pos (by simp [h])]
      rw [e, if_neg (by omega), splL, if_pos h]
      rfl
    · have hb : (b == c) = false := beq_eq_false_iff_ne.2 h
      have e : Go.Lib.indexByte (b :: l) c = if Go.Lib.indexByte l c == -1 then -1 else Go.Lib.indexByte l c + 1 := by
        conv => lhs; unfold Go.Lib.indexByte
        rw [hb]
        rfl
      rw [splL, if_neg h, ih]
      by_cases k : Go.Lib.indexByte l c = -1
      · rw [e, k]
        rfl
      · have hk : (Go.Lib.indexByte l c == -1) = false := beq_eq_false_iff_ne.2 k
        rw [e, hk, if_neg k]
        simp only [Bool.false_eq_true, if_false]
        rw [if_neg (by omega), show (Go.Lib.indexByte l c + 1).toNat = (Go.Lib.indexByte l c).toNat + 1 by omega]
        rfl
theorem splitB_is (c : UInt8) : ∀ (n : Nat) (s : ByteArray), s.size ≤ n → Go.Lib.splitB (⟨#[c]⟩ : ByteArray) 0 (Go.Lib.countB s (⟨#[c]⟩ : ByteArray)) s = (splL c s.data.toList).map bsOf := fun n => by
  induction n with
  | zero =>
    intro s hs
    have h0 : s.data.toList = [] := List.length_eq_zero_iff.1 (by show s.size = 0; omega)
    have hi : Go.Lib.indexB s (⟨#[c]⟩ : ByteArray) = -1 := by
      show Go.Lib.index s.data.toList [c] = -1
      rw [Go.Lib.index_one, h0]
      rfl
    rw [Go.Lib.splitB_miss _ _ _ _ hi, h0]
    show [s] = [bsOf []]
    rw [← h0, bsOf_data]
  | succ n ih =>
    intro s hs
    have ei : Go.Lib.indexB s (⟨#[c]⟩ : ByteArray) = Go.Lib.indexByte s.data.toList c := Go.Lib.index_one _ _
    have g := Go.Lib.indexByte_ge s.data.toList c
    rw [spl_index]
    by_cases k : Go.Lib.indexByte s.data.toList c = -1
    · rw [if_pos k, Go.Lib.splitB_miss _ _ _ _ (ei.trans k), List.map_cons, List.map_nil, bsOf_data]
    · obtain ⟨i, hi⟩ := Int.eq_ofNat_of_zero_le (show 0 ≤ Go.Lib.indexByte s.data.toList c by omega)
      have hit : Go.Lib.indexB s (⟨#[c]⟩ : ByteArray) = i := ei.trans hi
      have hat := (Go.Lib.indexByte_some hi).1
      have hlt : i < s.data.toList.length := (List.getElem?_eq_some_iff.1 hat).1
      have hls : s.data.toList.length = s.size := rfl
      have one : (⟨#[c]⟩ : ByteArray).size = 1 := rfl
      rw [if_neg k, Go.Lib.countB_hit s _ i (by rw [one]; omega) hit, Nat.add_comm 1, Go.Lib.splitB_hit _ _ _ _ i hit, one, Nat.add_zero]
      have sz : (s.extract (i + 1) s.size).size ≤ n := by rw [ByteArray.size_extract]; omega
      rw [ih _ sz, ext_list s 0 i, ext_list s (i + 1) s.size, hi, List.map_cons, Int.toNat_natCast]
      congr 1
      unfold bsOf
      simp only [List.drop_zero, hls ▸ List.take_length]
theorem split_same (s sep : ByteArray) (hs : s.size ≤ 1048576) : ∃ q b, Ev (fun k => spec_SplitString.f k s sep) (q, b) ∧ Ev (fun k => impl_SplitString.f k s sep) (q, b) ∧ q.length ≤ 1000000 := by
  by_cases c1 : (s.size : Int) > 4000
  · refine ⟨[], false, ?_, ?_, by simp⟩
    · unfold spec_SplitString.f
      by_cases c2 : (sep.size : Int) = 1
      · exact ev_if_pos c2 (ev_if_pos c1 (ev_const _))
      · exact ev_if_neg c2 (ev_const _)
    · unfold impl_SplitString.f
      exact ev_if_pos c1 (ev_const _)
  · by_cases c2 : (sep.size : Int) = 1
    · obtain ⟨⟨l⟩⟩ := sep
      match l, c2 with
      | [], c2 => exact absurd c2 (by decide)
      | a :: b :: l, c2 => exact absurd c2 (by show ¬ (((a :: b :: l).length : Nat) : Int) = 1; simp; omega)
      | [c], c2 =>
        have eb : bt (⟨#[c]⟩ : ByteArray) 0 = ((c.toNat : Nat) : Int) := bt_get (⟨#[c]⟩ : ByteArray) 0 (by show 0 < 1; omega)
        have ln := spl_length_le c s.data.toList
        have hls : s.data.toList.length = s.size := rfl
        refine ⟨(splL c s.data.toList).map bsOf, true, ?_, ?_, by rw [List.length_map]; omega⟩
        · unfold spec_SplitString.f
          refine ev_if_pos rfl (ev_if_neg c1 (ev_if_pos (by show (0:Int) < ((1:Nat):Int); omega) ?_))
          rw [show bt (⟨⟨[c]⟩⟩ : ByteArray) 0 = ((c.toNat : Nat) : Int) from eb]
          exact Ev.bind (split_ev s c hs) (ev_const _)
        · unfold impl_SplitString.f
          have es : Ev (fun k => strings_Split.f k s (⟨#[c]⟩ : ByteArray)) ((splL c s.data.toList).map bsOf) := by
            unfold strings_Split.f
            refine ev_if_pos (by omega) (ev_if_pos (show 1 ≤ (1:Nat) from Nat.le_refl _) ?_)
            rw [splitB_is c s.size s (Nat.le_refl _)]
            exact ev_const _
          exact ev_if_neg c1 (ev_if_pos rfl (Ev.bind es (ev_const _)))
    · refine ⟨[], false, ?_, ?_, by simp⟩
      · unfold spec_SplitString.f
        exact ev_if_neg c2 (ev_const _)
      · unfold impl_SplitString.f
        exact ev_if_neg c1 (ev_if_neg c2 (ev_const _))
theorem FnExactSplitString : ∀ (a0 : ByteArray) (a1 : ByteArray), a0.size ≤ maxLen → a1.size ≤ maxLen → ∃ k, laws_FnExactSplitString.f k a0 a1 = some true := by
  intro s sep _ _
  refine Ev.rounds (g := fun k => laws_FnExactSplitString.f k s sep) ?_
  unfold laws_FnExactSplitString.f
  by_cases c : (s.size : Int) > 1048576
  · exact ev_if_pos c (ev_const _)
  refine ev_if_neg c ?_
  by_cases d : (sep.size : Int) > 1048576
  · exact ev_if_pos d (ev_const _)
  obtain ⟨q, b, h1, h2, hq⟩ := split_same s sep (by omega)
  have eq_ := eqS_ev q (by omega)
  have ms := markS_ev q hq
  have hs := heldS_ev q.length hq
  refine ev_if_neg d (Ev.bind h1 (Ev.bind h2 (Ev.bind eq_ (ev_if_pos rfl ?_))))
  refine Ev.step (fun k => by rw [laws_FnExactSplitString.j0, if_neg (by simp)]) (Ev.bind ms (Ev.bind hs (ev_if_neg (by show ¬ ((1 + (q.length : Int)) < 0); omega) (ev_if_pos rfl (Ev.bind h2 (Ev.bind eq_ (ev_if_pos rfl ?_)))))))
  exact Ev.step (fun k => by rw [laws_FnExactSplitString.j1, if_neg (by simp)]) (Ev.bind hs (ev_if_neg (by show ¬ ((1 + (q.length : Int)) < 0); omega) (ev_if_pos rfl (ev_const _))))

end Go.Proofs.YtkgjacacldcacaaDoor.Pure
