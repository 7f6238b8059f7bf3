/- Proved: the law FnExactWeightsTable answers true for every two whole numbers; no condition. -/
import Derived.Test.YtdjclffkidoohaaQFnExactWeightsTablex4
import Derived.Test.YtdjclffkidoohaaBase
set_option linter.unusedVariables false
set_option linter.unusedSimpArgs false
namespace Go.Proofs.Ytdjclffkidoohaa.Pure
open Go.RowKit Go.Proofs.Ytdjclffkidoohaa.QFnExactWeightsTable Go.Proofs.YtdjclffkidoohaaW.PrintWords Go.Proofs.YtdjclffkidoohaaW.PrintLast Go.Proofs.YtdjclffkidoohaaW.PrintMore Go.Proofs.Ytdjclffkidoohaa.Base

theorem spec_l1In_is (a lo hi : Int) : spec_l1In.f a lo hi = some (inB lo hi a) := by
  unfold spec_l1In.f
  exact within_is a lo hi
theorem spec_l1Own_is (l : List Int) (h : l.length < 17592186044416) : spec_l1Own.f l = some l := by
  unfold spec_l1Own.f
  simp only [Option.bind_some]
  rw [if_pos (by simpa using h)]
  simp
theorem spec_l2Dot_l : ∀ (k i : Nat) (x y : List Int) (s : Int), x.length ≤ 4611686018427387904 → x.length ≤ y.length → i ≤ x.length → x.length < i + k → spec_l2Dot.l0 k x y s (i : Int) = some (wdot s (x.drop i) (y.drop i))
  | 0, _, _, _, _, _, _, _, hk => by omega
  | k + 1, i, x, y, s, hn, hl, hi, hk => by
    simp only [spec_l2Dot.l0]
    by_cases h : i < x.length
    · have hy' : i < y.length := by omega
      rw [if_pos (by omega), if_pos (by omega), if_pos (by omega), rd_nat x i h, rd_nat y i hy', w64_nat (by omega)]
      rw [spec_l2Dot_l k (i + 1) x y _ hn hl (by omega) (by omega), List.drop_eq_getElem_cons h, List.drop_eq_getElem_cons hy']
      simp only [wdot]
    · rw [if_neg (by omega), List.drop_of_length_le (by omega)]
      simp [wdot]
theorem spec_l2Dot_is (k : Nat) (x y : List Int) (hn : x.length ≤ 4611686018427387904) (hl : x.length ≤ y.length) (hk : x.length < k) : spec_l2Dot.f k x y = some (wdot 0 x y) := by
  unfold spec_l2Dot.f
  have := spec_l2Dot_l k 0 x y 0 hn hl (by omega) (by omega)
  simpa using this
def sideI (ws : List Int) (b : Int) (x : List Int) : Int := if wdot 0 ws x ≥ b then 1 else -1
theorem spec_l2Side_is (k : Nat) (ws : List Int) (b : Int) (x : List Int) (h1 : ws.length ≤ 4611686018427387904) (hl : ws.length ≤ x.length) (hk : ws.length < k) : spec_l2Side.f k ws b x = some (sideI ws b x) := by
  unfold spec_l2Side.f sideI
  rw [spec_l2Dot_is k ws x h1 hl hk]
  simp only [Option.bind_some]
  split <;> rfl
theorem spec_l2BitPoint_l (x : Int) : ∀ (k j i : Nat) (acc : List Int), i + j ≤ 64 → j < k → acc.length ≤ i → spec_l2BitPoint.l0 k ((i + j : Nat) : Int) x acc (i : Int) = some (acc ++ bitsFrom x i j)
  | 0, _, _, _, _, hk, _ => by omega
  | k + 1, 0, i, acc, _, _, _ => by
    simp only [spec_l2BitPoint.l0]
    rw [if_neg (by omega)]
    simp [bitsFrom]
  | k + 1, j + 1, i, acc, h, hk, ha => by
    simp only [spec_l2BitPoint.l0]
    rw [if_pos (by omega), if_pos (by omega), if_pos (by omega), w64_nat (by omega)]
    have := spec_l2BitPoint_l x k j (i + 1) (acc ++ [Go.bits .and .i64 (shr .i64 x i) 1]) (by omega) (by omega) (by simp; omega)
    rw [show i + 1 + j = i + (j + 1) by omega] at this
    rw [this]
    simp [bitsFrom]
theorem spec_l2BitPoint_is (k n : Nat) (x : Int) (hn : n ≤ 64) (hk : n < k) : spec_l2BitPoint.f k (n : Int) x = some (bitsFrom x 0 n) := by
  unfold spec_l2BitPoint.f
  have := spec_l2BitPoint_l x k n 0 [] (by omega) hk (by simp)
  simpa using this
theorem impl_within_is (a lo hi : Int) : impl_within.f a lo hi = some (inB lo hi a) := by
  unfold impl_within.f
  exact within_is a lo hi
theorem impl_product_l : ∀ (k i : Nat) (x y : List Int) (s : Int), x.length ≤ 4611686018427387904 → x.length ≤ y.length → i ≤ x.length → x.length < i + k → impl_product.l0 k y s x (x.length : Int) (i : Int) = some (wdot s (x.drop i) (y.drop i))
  | 0, _, _, _, _, _, _, _, hk => by omega
  | k + 1, i, x, y, s, hn, hl, hi, hk => by
    simp only [impl_product.l0]
    by_cases h : i < x.length
    · have hy' : i < y.length := by omega
      rw [if_pos (by omega), if_pos (by omega), if_pos (by omega), if_pos (by omega), rd_nat x i h, rd_nat y i hy', w64_nat (by omega)]
      rw [impl_product_l k (i + 1) x y _ hn hl (by omega) (by omega), List.drop_eq_getElem_cons h, List.drop_eq_getElem_cons hy']
      simp only [wdot]
    · rw [if_neg (by omega), List.drop_of_length_le (by omega)]
      simp [wdot]
theorem impl_product_is (k : Nat) (x y : List Int) (hn : x.length ≤ 4611686018427387904) (hl : x.length ≤ y.length) (hk : x.length < k) : impl_product.f k x y = some (wdot 0 x y) := by
  unfold impl_product.f
  have := impl_product_l k 0 x y 0 hn hl (by omega) (by omega)
  simpa using this
theorem impl_bitPoint_l (x : Int) : ∀ (k j i : Nat) (acc : List Int), i + j ≤ 64 → j < k → acc.length ≤ i → impl_bitPoint.l0 k x acc ((i + j : Nat) : Int) (i : Int) = some (acc ++ bitsFrom x i j)
  | 0, _, _, _, _, hk, _ => by omega
  | k + 1, 0, i, acc, _, _, _ => by
    simp only [impl_bitPoint.l0]
    rw [if_neg (by omega)]
    simp [bitsFrom]
  | k + 1, j + 1, i, acc, h, hk, ha => by
    simp only [impl_bitPoint.l0]
    rw [if_pos (by omega), if_pos (by omega), if_pos (by omega), w64_nat (by omega)]
    have := impl_bitPoint_l x k j (i + 1) (acc ++ [Go.bits .and .i64 (shr .i64 x i) 1]) (by omega) (by omega) (by simp; omega)
    rw [show i + 1 + j = i + (j + 1) by omega] at this
    rw [this]
    simp [bitsFrom]
theorem impl_bitPoint_is (k n : Nat) (x : Int) (hn : n ≤ 64) (hk : n < k) : impl_bitPoint.f k (n : Int) x = some (bitsFrom x 0 n) := by
  unfold impl_bitPoint.f
  have := impl_bitPoint_l x k n 0 [] (by omega) hk (by simp)
  simpa using this
theorem ev_of {α : Type} {g : Nat → Option α} {r : α} (B : Nat) (h : ∀ k, B < k → g k = some r) : Ev g r := ⟨B + 1, fun k hk => h k (by omega)⟩
theorem ev_const {α : Type} (r : α) : Ev (fun _ => some r) r := Ev.now r
theorem ev_if_pos {α : Type} {c : Prop} [Decidable c] {f g : Nat → Option α} {r : α} (h : c) (k : Ev f r) : Ev (fun n => if c then f n else g n) r := Ev.congr (fun n => if_pos h) k
theorem ev_if_neg {α : Type} {c : Prop} [Decidable c] {f g : Nat → Option α} {r : α} (h : ¬ c) (k : Ev g r) : Ev (fun n => if c then f n else g n) r := Ev.congr (fun n => if_neg h) k
/-- all rows that begin with b and go on with d numbers from -m to m, in order -/
def wtL (m : Nat) : Nat → List Int → List (List Int)
  | 0, b => [b]
  | d + 1, b => (List.range (2 * m + 1)).flatMap fun i : Nat => wtL m d (b ++ [(i : Int) - m])
/-- those whose next number is i - m or more -/
def wtF (m d : Nat) (b : List Int) : Nat → Nat → List (List Int)
  | 0, _ => []
  | j + 1, i => wtL m d (b ++ [(i : Int) - m]) ++ wtF m d b j (i + 1)
theorem wtF_range (m d : Nat) (b : List Int) : ∀ j i, wtF m d b j i = (List.range' i j).flatMap fun i : Nat => wtL m d (b ++ [(i : Int) - m])
  | 0, i => rfl
  | j + 1, i => by
    rw [wtF, wtF_range m d b j (i + 1), List.range'_succ, List.flatMap_cons]
theorem wtL_succ (m d : Nat) (b : List Int) : wtL m (d + 1) b = wtF m d b (2 * m + 1) 0 := by
  rw [wtF_range, wtL, List.range_eq_range']
theorem wtF_snoc (m d : Nat) (b : List Int) : ∀ i j, wtF m d b (i + 1) j = wtF m d b i j ++ wtL m d (b ++ [((j + i : Nat) : Int) - m])
  | 0, j => by simp [wtF]
  | i + 1, j => by
    rw [wtF, wtF_snoc m d b i (j + 1), wtF, List.append_assoc, show j + 1 + i = j + (i + 1) by omega]
section
variable {σ : Type} {V : Nat → σ → List Int → Option σ} {st : σ → List Int → σ} {N m : Nat}
/-- what is left to do once the d last numbers are at -m again -/
def swC (V : Nat → σ → List Int → Option σ) (N m : Nat) (s : σ) (b : List Int) (d : Nat) (out : σ) : Prop :=
  ∃ r : List Int × Int, Ev (fun k => impl_smallWeights.g0 (N : Int) (m : Int) k (b ++ List.replicate d (-(m : Int))) ((b.length : Int) - 1)) r ∧ Ev (fun k => if r.2 < 0 then some s else (if r.2 < (N : Int) then impl_smallWeights.l0 V (N : Int) (m : Int) k s (r.1.set r.2.toNat (wrap64 (rd r.1 r.2 + 1))) else none)) out
theorem sw_row (b : List Int) (v : Int) (t : List Int) : rd (b ++ v :: t) (b.length : Int) = v := by
  simp [rd]
theorem sw_put (b : List Int) (v u : Int) (t : List Int) : (b ++ v :: t).set b.length u = b ++ u :: t := by
  simp
theorem sw_all (hm : m ≤ 1000) (hN : N ≤ 1000) (hV : ∀ s S, S.length = N → (∀ x ∈ S, -(m : Int) ≤ x ∧ x ≤ (m : Int)) → Ev (fun k => V k s S) (st s S)) : ∀ (d : Nat) (b : List Int) (s : σ) (out : σ), b.length + d = N → (∀ x ∈ b, -(m : Int) ≤ x ∧ x ≤ (m : Int)) →
    swC V N m ((wtL m d b).foldl st s) b d out → Ev (fun k => impl_smallWeights.l0 V (N : Int) (m : Int) k s (b ++ List.replicate d (-(m : Int)))) out
  | 0, b, s, out, hd, hb, ⟨r, h1, h2⟩ => by
    rw [List.replicate_zero, List.append_nil] at h1 ⊢
    rw [show (b.length : Int) - 1 = wrap64 ((N : Int) - 1) by rw [w64 (x := (N : Int) - 1) (by omega) (by omega)]; omega] at h1
    exact Ev.step (f := fun k => (V k s b).bind fun s1 => (impl_smallWeights.g0 (N : Int) (m : Int) k b (wrap64 ((N : Int) - 1))).bind fun r => (if r.2 < 0 then some s1 else (if r.2 < (N : Int) then impl_smallWeights.l0 V (N : Int) (m : Int) k s1 (r.1.set r.2.toNat (wrap64 (rd r.1 r.2 + 1))) else none))) (fun k => by rw [impl_smallWeights.l0]) (Ev.bind (hV s b (by omega) hb) (Ev.bind h1 h2))
  | d + 1, b, s, out, hd, hb, h => by
    have hb2 : ∀ i : Nat, i ≤ 2 * m → ∀ x ∈ b ++ [(i : Int) - m], -(m : Int) ≤ x ∧ x ≤ (m : Int) := fun i hi x hx => by
      rcases List.mem_append.1 hx with hx | hx
      · exact hb x hx
      · rw [List.mem_singleton.1 hx]
        omega
    have go : ∀ (j i : Nat) (s : σ), i + (j + 1) = 2 * m + 1 → swC V N m ((wtF m d b (j + 1) i).foldl st s) b (d + 1) out → Ev (fun k => impl_smallWeights.l0 V (N : Int) (m : Int) k s (b ++ ((i : Int) - m) :: List.replicate d (-(m : Int)))) out := fun j => by
      induction j with
      | zero =>
        intro i s hi h
        rw [wtF, wtF, List.append_nil] at h
        obtain ⟨r, h1, h2⟩ := h
        have := sw_all hm hN hV d (b ++ [(i : Int) - m]) s out (by rw [List.length_append, List.length_singleton]; omega) (hb2 i (by omega)) ?_
        · rwa [List.append_assoc, List.singleton_append] at this
        · refine ⟨r, Ev.step (fun k => ?_) h1, h2⟩
          rw [List.append_assoc, List.singleton_append, List.length_append, List.length_singleton, show ((b.length + 1 : Nat) : Int) - 1 = (b.length : Int) by omega]
          rw [impl_smallWeights.g0, if_pos (by omega), if_pos (by omega), sw_row, if_pos (by omega), Int.toNat_natCast, sw_put, w64 (x := -(m : Int)) (by omega) (by omega), w64 (x := (b.length : Int) - 1) (by omega) (by omega), List.replicate_succ]
      | succ j ih =>
        intro i s hi h
        rw [wtF, List.foldl_append] at h
        have rest := ih (i + 1) _ (by omega) h
        have := sw_all hm hN hV d (b ++ [(i : Int) - m]) s out (by rw [List.length_append, List.length_singleton]; omega) (hb2 i (by omega)) ?_
        · rwa [List.append_assoc, List.singleton_append] at this
        · refine ⟨(b ++ ((i : Int) - m) :: List.replicate d (-(m : Int)), (b.length : Int)), Ev.step (f := fun _ => some (b ++ ((i : Int) - m) :: List.replicate d (-(m : Int)), (b.length : Int))) (fun k => ?_) (ev_const _), ?_⟩
          · rw [List.append_assoc, List.singleton_append, List.length_append, List.length_singleton, show ((b.length + 1 : Nat) : Int) - 1 = (b.length : Int) by omega]
            rw [impl_smallWeights.g0, if_pos (by omega), if_pos (by omega), sw_row, if_neg (by omega)]
          · refine ev_if_neg (by show ¬ ((b.length : Int) < 0); omega) (ev_if_pos (by show (b.length : Int) < (N : Int); omega) ?_)
            show Ev (fun k => impl_smallWeights.l0 V (N : Int) (m : Int) k _ ((b ++ ((i : Int) - m) :: List.replicate d (-(m : Int))).set (b.length : Int).toNat (wrap64 (rd (b ++ ((i : Int) - m) :: List.replicate d (-(m : Int))) (b.length : Int) + 1)))) out
            rw [sw_row, Int.toNat_natCast, sw_put, w64 (x := (i : Int) - m + 1) (by omega) (by omega), show (i : Int) - m + 1 = ((i + 1 : Nat) : Int) - m by omega]
            exact rest
    rw [List.replicate_succ, show -(m : Int) :: List.replicate d (-(m : Int)) = (((0 : Nat) : Int) - m) :: List.replicate d (-(m : Int)) by rw [show ((0 : Nat) : Int) - m = -(m : Int) by omega]]
    rw [wtL_succ] at h
    exact go (2 * m) 0 s (by omega) h
theorem sw_fill (hm : m ≤ 1000) (hN : N ≤ 1000) : ∀ (j i : Nat), i + j = N → Ev (fun k => impl_smallWeights.f0 (N : Int) (m : Int) k (List.replicate i (-(m : Int)) ++ List.replicate j 0) (i : Int)) (List.replicate N (-(m : Int)))
  | 0, i, hj => by
    obtain rfl : i = N := by omega
    refine Ev.step (f := fun _ => some (List.replicate i (-(m : Int)))) (fun k => ?_) (ev_const _)
    rw [impl_smallWeights.f0, if_neg (by omega), List.replicate_zero, List.append_nil]
  | j + 1, i, hj => by
    refine Ev.step (fun k => ?_) (sw_fill hm hN j (i + 1) (by omega))
    have := sw_put (List.replicate i (-(m : Int))) 0 (-(m : Int)) (List.replicate j 0)
    rw [List.length_replicate] at this
    rw [impl_smallWeights.f0, if_pos (by omega), if_pos (by omega), Int.toNat_natCast, List.replicate_succ, w64 (x := -(m : Int)) (by omega) (by omega), this, w64_nat (by omega), List.replicate_succ', List.append_assoc, List.singleton_append]
/-- smallWeights visits all rows in order -/
theorem impl_smallWeights_ev (hm : m ≤ 1000) (hN : N ≤ 1000) (h1 : 1 ≤ N) (hV : ∀ s S, S.length = N → (∀ x ∈ S, -(m : Int) ≤ x ∧ x ≤ (m : Int)) → Ev (fun k => V k s S) (st s S)) (s : σ) : Ev (fun k => impl_smallWeights.f V k s (N : Int) (m : Int)) ((wtL m N []).foldl st s) := by
  unfold impl_smallWeights.f
  refine ev_if_pos (by omega) (ev_if_pos (by omega) ?_)
  rw [Int.toNat_natCast]
  refine Ev.bind (sw_fill hm hN N 0 (by omega)) ?_
  refine sw_all hm hN hV N [] s _ (by simp) (by simp) ⟨(List.replicate N (-(m : Int)), -1), Ev.step (f := fun _ => some (List.replicate N (-(m : Int)), -1)) (fun k => ?_) (ev_const _), ev_if_pos (by show (-1 : Int) < 0; omega) (ev_const _)⟩
  show impl_smallWeights.g0 (N : Int) (m : Int) (k + 1) (List.replicate N (-(m : Int))) (-1) = _
  rw [impl_smallWeights.g0, if_neg (by omega)]
end
theorem wt_len (m : Nat) : ∀ d, (∀ b, (wtL m d b).length = (2 * m + 1) ^ d) ∧ ∀ b j i, (wtF m d b j i).length = j * (2 * m + 1) ^ d
  | 0 => ⟨fun b => by simp [wtL], fun b j => by
    induction j with
    | zero => intro i; simp [wtF]
    | succ j ih => intro i; rw [wtF, List.length_append, ih, wtL]; simp; omega⟩
  | d + 1 => by
    have a : ∀ b, (wtL m (d + 1) b).length = (2 * m + 1) ^ (d + 1) := fun b => by
      rw [wtL_succ, (wt_len m d).2, Nat.pow_succ, Nat.mul_comm]
    refine ⟨a, fun b j => ?_⟩
    induction j with
    | zero => intro i; simp [wtF]
    | succ j ih =>
      intro i
      rw [wtF, List.length_append, ih, a, Nat.add_mul, Nat.one_mul, Nat.add_comm]
theorem l4w_ev (N m : Nat) (hm : m ≤ 1000) (hN : N ≤ 1000) : ∀ (d : Nat) (b : List Int), (2 * m + 1) ^ d ≤ 1000000 → b.length + d = N → Ev (fun k => spec_l4Weights.f k (N : Int) (m : Int) b) (wtL m d b)
  | 0, b, hB, hb => by
    refine Ev.step (f := fun _ => some [b]) (fun k => ?_) (ev_const _)
    rw [spec_l4Weights.f, if_pos (by omega)]
  | d + 1, b, hB, hb => by
    have hp : (2 * m + 1) ^ (d + 1) = (2 * m + 1) * (2 * m + 1) ^ d := by rw [Nat.pow_succ, Nat.mul_comm]
    have hd : (2 * m + 1) ^ d ≤ 1000000 := Nat.le_trans (Nat.pow_le_pow_right (by omega) (Nat.le_succ d)) hB
    have go : ∀ (j i : Nat) (acc : List (List Int)), i + j = 2 * m + 1 → acc = wtF m d b i 0 → Ev (fun k => spec_l4Weights.l0 k (N : Int) (m : Int) b acc ((i : Int) - m)) (acc ++ wtF m d b j i) := fun j => by
      induction j with
      | zero =>
        intro i acc hi ha
        refine Ev.step (f := fun _ => some acc) (fun k => ?_) ?_
        · rw [spec_l4Weights.l0, if_neg (by omega)]
        · rw [wtF, List.append_nil]
          exact ev_const _
      | succ j ih =>
        intro i acc hi ha
        have la : acc.length ≤ 1000000 := by
          rw [ha, (wt_len m d).2]
          exact Nat.le_trans (Nat.mul_le_mul_right _ (by omega)) (Nat.le_trans (Nat.le_of_eq hp.symm) hB)
        have lw := (wt_len m d).1 (b ++ [(i : Int) - m])
        have rec_ := l4w_ev N m hm hN d (b ++ [(i : Int) - m]) hd (by rw [List.length_append, List.length_singleton]; omega)
        refine Ev.step (f := fun k => (spec_l4Weights.f k (N : Int) (m : Int) (b ++ [(i : Int) - m])).bind fun t124 => (if acc.length + t124.length < 5864062014805 then (spec_l4Weights.l0 k (N : Int) (m : Int) b (acc ++ t124) (wrap64 ((i : Int) - m + 1))) else (none))) (fun k => ?_) (Ev.bind rec_ (ev_if_pos (by omega) ?_))
        · rw [spec_l4Weights.l0, if_pos (by omega), spec_l1Own_is b (by omega)]
          simp only [Option.bind_some]
          rw [if_pos (by omega)]
        · have := ih (i + 1) (acc ++ wtL m d (b ++ [(i : Int) - m])) (by omega) (by rw [ha, wtF_snoc, Nat.zero_add])
          rw [w64 (x := (i : Int) - m + 1) (by omega) (by omega), show (i : Int) - m + 1 = ((i + 1 : Nat) : Int) - m by omega]
          rw [List.append_assoc] at this
          exact this
    refine Ev.step (f := fun k => spec_l4Weights.l0 k (N : Int) (m : Int) b [] (((0 : Nat) : Int) - m)) (fun k => ?_) ?_
    · rw [spec_l4Weights.f, if_neg (by omega), w64 (x := -(m : Int)) (by omega) (by omega), show ((0 : Nat) : Int) - m = -(m : Int) by omega]
    · have := go (2 * m + 1) 0 [] (by omega) rfl
      rw [List.nil_append] at this
      rw [wtL_succ]
      exact this
/-- a list of different things, grown by one -/
def insL {α : Type} [DecidableEq α] (s : List α) (t : α) : List α := if t ∈ s then s else t :: s
theorem insL_mem {α : Type} [DecidableEq α] (x : α) : ∀ (L s : List α), x ∈ L.foldl insL s ↔ x ∈ s ∨ x ∈ L
  | [], s => by simp
  | t :: L, s => by
    rw [List.foldl_cons, insL_mem x L, insL]
    by_cases h : t ∈ s
    · rw [if_pos h]
      constructor
      · rintro (q | q)
        · exact .inl q
        · exact .inr (List.mem_cons_of_mem _ q)
      · rintro (q | q)
        · exact .inl q
        · rcases List.mem_cons.1 q with rfl | q
          · exact .inl h
          · exact .inr q
    · rw [if_neg h]
      simp only [List.mem_cons]
      constructor
      · rintro ((q | q) | q)
        · exact .inr (.inl q)
        · exact .inl q
        · exact .inr (.inr q)
      · rintro (q | (q | q))
        · exact .inl (.inr q)
        · exact .inl (.inl q)
        · exact .inr q
theorem insL_nodup {α : Type} [DecidableEq α] : ∀ (L s : List α), s.Nodup → (L.foldl insL s).Nodup
  | [], s, h => h
  | t :: L, s, h => by
    rw [List.foldl_cons, insL]
    by_cases q : t ∈ s
    · rw [if_pos q]; exact insL_nodup L s h
    · rw [if_neg q]; exact insL_nodup L _ (List.nodup_cons.2 ⟨q, h⟩)
theorem insL_map {α β : Type} [DecidableEq α] [DecidableEq β] (c : α → β) (T : α → Prop) (hc : ∀ x y, T x → T y → c x = c y → x = y) : ∀ (L s : List α), (∀ x ∈ s, T x) → (∀ x ∈ L, T x) → (L.map c).foldl insL (s.map c) = (L.foldl insL s).map c
  | [], s, _, _ => rfl
  | t :: L, s, hs, hL => by
    have ht : T t := hL t (List.mem_cons_self ..)
    have e : insL (s.map c) (c t) = (insL s t).map c := by
      unfold insL
      by_cases q : t ∈ s
      · rw [if_pos q, if_pos (List.mem_map.2 ⟨t, q, rfl⟩)]
      · rw [if_neg q, if_neg (fun q2 => by obtain ⟨y, hy, e⟩ := List.mem_map.1 q2; rw [hc y t (hs y hy) ht e] at hy; exact q hy), List.map_cons]
    rw [List.map_cons, List.foldl_cons, List.foldl_cons, e]
    refine insL_map c T hc L _ (fun x hx => ?_) (fun x hx => hL x (List.mem_cons_of_mem _ hx))
    unfold insL at hx
    by_cases q : t ∈ s
    · rw [if_pos q] at hx; exact hs x hx
    · rw [if_neg q] at hx
      rcases List.mem_cons.1 hx with rfl | hx
      · exact ht
      · exact hs x hx
theorem insL_same {α β γ : Type} [DecidableEq α] [DecidableEq β] [DecidableEq γ] (c : α → β) (d : α → γ) (T : α → Prop) (hc : ∀ x y, T x → T y → c x = c y → x = y) (hd : ∀ x y, T x → T y → d x = d y → x = y) (L1 L2 : List α) (h1 : ∀ x ∈ L1, T x) (h2 : ∀ x ∈ L2, T x) (h : ∀ x, x ∈ L1 ↔ x ∈ L2) : ((L1.map c).foldl insL []).length = ((L2.map d).foldl insL []).length := by
  have e1 := insL_map c T hc L1 [] (by simp) h1
  have e2 := insL_map d T hd L2 [] (by simp) h2
  rw [List.map_nil] at e1 e2
  rw [e1, e2, List.length_map, List.length_map]
  exact ((List.perm_ext_iff_of_nodup (insL_nodup L1 [] List.nodup_nil) (insL_nodup L2 [] List.nodup_nil)).2 fun x => by rw [insL_mem, insL_mem, h x]).length_eq
/-- bits to a number, the first bit the least -/
def codeL : List Bool → Nat
  | [] => 0
  | b :: l => (if b = true then 1 else 0) + 2 * codeL l
/-- bits to a number, the first bit the greatest -/
def codeB (l : List Bool) : Nat := l.foldl (fun n b => 2 * n + (if b = true then 1 else 0)) 0
theorem codeL_inj : ∀ (x y : List Bool), x.length = y.length → codeL x = codeL y → x = y
  | [], [], _, _ => rfl
  | [], _ :: _, h, _ => by simp at h
  | _ :: _, [], h, _ => by simp at h
  | a :: x, b :: y, h, e => by
    simp only [codeL] at e
    have : a = b ∧ codeL x = codeL y := by
      cases a <;> cases b <;> simp at e ⊢ <;> omega
    rw [this.1, codeL_inj x y (by simpa using h) this.2]
theorem codeL_lt : ∀ l : List Bool, codeL l < 2 ^ l.length
  | [] => by simp [codeL]
  | b :: l => by
    have := codeL_lt l
    rw [codeL, List.length_cons, Nat.pow_succ]
    cases b <;> simp <;> omega
theorem codeB_snoc (l : List Bool) (b : Bool) : codeB (l ++ [b]) = 2 * codeB l + (if b = true then 1 else 0) := by
  unfold codeB; rw [List.foldl_append]; rfl
theorem codeB_rev : ∀ l : List Bool, codeB l.reverse = codeL l
  | [] => rfl
  | b :: l => by rw [List.reverse_cons, codeB_snoc, codeB_rev l, codeL]; omega
theorem codeB_inj (x y : List Bool) (h : x.length = y.length) (e : codeB x = codeB y) : x = y := by
  have e1 := codeB_rev x.reverse
  have e2 := codeB_rev y.reverse
  rw [List.reverse_reverse] at e1 e2
  have := codeL_inj x.reverse y.reverse (by simpa using h) (by omega)
  simpa using congrArg List.reverse this
theorem codeB_lt (x : List Bool) : codeB x < 2 ^ x.length := by
  have e1 := codeB_rev x.reverse
  rw [List.reverse_reverse] at e1
  have := codeL_lt x.reverse
  rw [List.length_reverse] at this
  omega
/-- the table of a row of products under a bound -/
def tabB (ps : List Int) (b : Int) : List Bool := ps.map fun p => decide (p ≥ b)
/-- a bound's table is that of a product, or that of a number above all -/
theorem tabB_low (ps : List Int) (b top : Int) (ht : ∀ p ∈ ps, p < top) (hb : b ≤ top) : ∃ b' ∈ ps ++ [top], tabB ps b = tabB ps b' := by
  have main : ∀ (l : List Int), (∃ p ∈ l, p ≥ b ∧ ∀ q ∈ l, q ≥ b → p ≤ q) ∨ ∀ q ∈ l, ¬ q ≥ b := by
    intro l
    induction l with
    | nil => exact .inr (by simp)
    | cons a l ih =>
      by_cases ha : a ≥ b
      · left
        rcases ih with ⟨p, hp, h1, h2⟩ | h
        · by_cases hap : a ≤ p
          · exact ⟨a, List.mem_cons_self .., ha, fun q hq hqb => by rcases List.mem_cons.1 hq with rfl | hq; exact Int.le_refl _; exact Int.le_trans hap (h2 q hq hqb)⟩
          · exact ⟨p, List.mem_cons_of_mem _ hp, h1, fun q hq hqb => by rcases List.mem_cons.1 hq with rfl | hq; omega; exact h2 q hq hqb⟩
        · exact ⟨a, List.mem_cons_self .., ha, fun q hq hqb => by rcases List.mem_cons.1 hq with rfl | hq; exact Int.le_refl _; exact absurd hqb (h q hq)⟩
      · rcases ih with ⟨p, hp, h1, h2⟩ | h
        · exact .inl ⟨p, List.mem_cons_of_mem _ hp, h1, fun q hq hqb => by rcases List.mem_cons.1 hq with rfl | hq; exact absurd hqb ha; exact h2 q hq hqb⟩
        · exact .inr fun q hq => by rcases List.mem_cons.1 hq with rfl | hq; exact ha; exact h q hq
  rcases main ps with ⟨p, hp, h1, h2⟩ | h
  · refine ⟨p, List.mem_append.2 (.inl hp), List.map_congr_left fun q hq => ?_⟩
    by_cases hq2 : q ≥ b
    · rw [decide_eq_true hq2, decide_eq_true (h2 q hq hq2)]
    · rw [decide_eq_false hq2, decide_eq_false (by omega)]
  · refine ⟨top, List.mem_append.2 (.inr (by simp)), List.map_congr_left fun q hq => ?_⟩
    rw [decide_eq_false (h q hq), decide_eq_false (by have := ht q hq; omega)]
/-! the products -/
def prW (N : Nat) (W : List Int) (i : Nat) : Int := wdot 0 W (bitsFrom (i : Int) 0 N)
def prL (N : Nat) (W : List Int) : List Int := (List.range' 0 (2 ^ N)).map (prW N W)
theorem prL_length (N : Nat) (W : List Int) : (prL N W).length = 2 ^ N := by simp [prL]
theorem shl_pow (N : Nat) (hN : N ≤ 3) : shl .i64 1 (N : Int) = ((2 ^ N : Nat) : Int) := by
  rcases (by omega : N = 0 ∨ N = 1 ∨ N = 2 ∨ N = 3) with rfl | rfl | rfl | rfl <;> decide
theorem pow_le8 (N : Nat) (hN : N ≤ 3) : 2 ^ N ≤ 8 := Nat.pow_le_pow_right (n := 2) (by omega) hN
theorem productsOf_l (N : Nat) (hN : N ≤ 3) (W : List Int) (hW : W.length = N) : ∀ (j i k : Nat) (acc : List Int), i + j = 2 ^ N → acc.length = i → 100 + j < k → impl_productsOf.l0 k (N : Int) W acc ((2 ^ N : Nat) : Int) (i : Int) = some (acc ++ (List.range' i j).map (prW N W))
  | 0, i, 0, acc, h, ha, hk => by omega
  | 0, i, k + 1, acc, h, ha, hk => by
    rw [impl_productsOf.l0, if_neg (by omega)]
    simp
  | j + 1, i, 0, acc, h, ha, hk => by omega
  | j + 1, i, k + 1, acc, h, ha, hk => by
    have h8 := pow_le8 N hN
    rw [impl_productsOf.l0, if_pos (by omega), impl_bitPoint_is k N (i : Int) (by omega) (by omega), Option.bind_some, impl_product_is k W _ (by omega) (by rw [bitsFrom_length]; omega) (by omega), Option.bind_some, if_pos (by omega), w64_nat (by omega), productsOf_l N hN W hW j (i + 1) k _ (by omega) (by simp; omega) (by omega)]
    simp [prW, List.range'_succ]
theorem productsOf_ev (N : Nat) (hN : N ≤ 3) (W : List Int) (hW : W.length = N) : Ev (fun k => impl_productsOf.f k (N : Int) W) (prL N W) := by
  refine ev_of 200 fun k hk => ?_
  have h8 := pow_le8 N hN
  unfold impl_productsOf.f
  rw [if_pos (by omega), shl_pow N hN]
  have := productsOf_l N hN W hW (2 ^ N) 0 k [] (by omega) rfl (by omega)
  rw [List.nil_append] at this
  exact this
/-! one table's code -/
theorem or_add : ∀ j : Fin 8, ∀ t : Fin 128, t.val < 2 ^ j.val → Go.bits .or .i64 (t.val : Int) (shl .i64 1 (j.val : Int)) = ((t.val + 2 ^ j.val : Nat) : Int) := by decide +kernel
theorem codeL_snoc (b : Bool) : ∀ l : List Bool, codeL (l ++ [b]) = codeL l + (if b = true then 2 ^ l.length else 0)
  | [] => by cases b <;> simp [codeL]
  | a :: l => by
    rw [List.cons_append, codeL, codeL, codeL_snoc b l, List.length_cons, Nat.pow_succ]
    cases b <;> simp <;> omega
theorem tab_g0 (qs : List Int) (hq : qs.length ≤ 8) (b : Int) : ∀ (n j : Nat), j + n = qs.length → Ev (fun k => impl_tablesOf.g0 qs b k ((codeL (tabB (qs.take j) b) : Nat) : Int) (j : Int)) ((codeL (tabB qs b) : Nat) : Int)
  | 0, j, h => by
    refine Ev.step (f := fun _ => some ((codeL (tabB qs b) : Nat) : Int)) (fun k => ?_) (ev_const _)
    rw [impl_tablesOf.g0, if_neg (by omega), List.take_of_length_le (by omega)]
  | n + 1, j, h => by
    have hj : j < qs.length := by omega
    have hc := codeL_lt (tabB (qs.take j) b)
    have hl : (tabB (qs.take j) b).length = j := by simp [tabB]; omega
    rw [hl] at hc
    have h7 : 2 ^ j ≤ 128 := Nat.pow_le_pow_right (n := 2) (by omega) (by omega : j ≤ 7)
    have et : tabB (qs.take (j + 1)) b = tabB (qs.take j) b ++ [decide (qs[j] ≥ b)] := by
      unfold tabB; rw [List.take_succ_eq_append_getElem hj, List.map_append]; rfl
    have ih := tab_g0 qs hq b n (j + 1) (by omega)
    refine Ev.step (fun k => ?_) ih
    rw [impl_tablesOf.g0, if_pos (by omega), if_pos (by omega), rd_nat qs j hj, w64_nat (by omega), et, codeL_snoc, hl]
    by_cases hb : qs[j] ≥ b
    · rw [if_pos hb, if_pos (decide_eq_true hb), or_add ⟨j, by omega⟩ ⟨codeL (tabB (qs.take j) b), by omega⟩ hc]
    · rw [if_neg hb, if_neg (by simpa using hb)]
      rfl
/-! the tables of one row of weights -/
theorem nodup_len : ∀ (n : Nat) (s : List Int), s.Nodup → (∀ t ∈ s, 0 ≤ t ∧ t < (n : Int)) → s.length ≤ n
  | 0, s, _, h => by
    cases s with
    | nil => exact Nat.le_refl _
    | cons t s => have := h t (List.mem_cons_self ..); omega
  | n + 1, s, hn, h => by
    have := nodup_len n (s.erase (n : Int)) (hn.erase _) (fun t ht => by
      have h1 := h t (List.mem_of_mem_erase ht)
      have h2 : t ≠ (n : Int) := fun e => by subst e; exact (List.Nodup.not_mem_erase hn) ht
      omega)
    have h3 : s.length ≤ (s.erase (n : Int)).length + 1 := by
      by_cases hm : (n : Int) ∈ s
      · rw [List.length_erase_of_mem hm]; omega
      · rw [List.erase_of_not_mem hm]; omega
    omega
def Good (s : List Int) : Prop := s.Nodup ∧ ∀ t ∈ s, 0 ≤ t ∧ t < 256
theorem Good.len {s : List Int} (h : Good s) : s.length ≤ 256 := nodup_len 256 s h.1 h.2
theorem Good.ins {s : List Int} (h : Good s) {t : Int} (ht : 0 ≤ t ∧ t < 256) : Good (insL s t) := by
  unfold insL
  by_cases q : t ∈ s
  · rw [if_pos q]; exact h
  · rw [if_neg q]
    exact ⟨List.nodup_cons.2 ⟨q, h.1⟩, fun u hu => by rcases List.mem_cons.1 hu with rfl | hu; exact ht; exact h.2 u hu⟩
def cdL (qs : List Int) (b : Int) : Int := ((codeL (tabB qs b) : Nat) : Int)
theorem cdL_bd (qs : List Int) (hq : qs.length ≤ 8) (b : Int) : 0 ≤ cdL qs b ∧ cdL qs b < 256 := by
  have h1 := codeL_lt (tabB qs b)
  have h2 : (tabB qs b).length = qs.length := by simp [tabB]
  rw [h2] at h1
  have h3 : 2 ^ qs.length ≤ 256 := Nat.pow_le_pow_right (n := 2) (by omega) hq
  unfold cdL
  omega
theorem wf_small {t : Int} (h : 0 ≤ t ∧ t < 256) : (Lit.int .i64 t).wf = true := by
  have e1 : IntKind.i64.min = -9223372036854775808 := by decide
  have e2 : IntKind.i64.max = 9223372036854775807 := by decide
  simp only [Lit.wf, Bool.and_eq_true, decide_eq_true_eq, e1, e2]
  omega
theorem tab_l0 (N : Nat) (hN : N ≤ 3) (W : List Int) (hW : W.length = N) (X : List Int) (hX : X.length ≤ 100) : ∀ (n i : Nat) (s : List Int), i + n = X.length → Good s → Ev (fun k => impl_tablesOf.l0 (N : Int) W X k s (i : Int)) ((X.drop i).foldl (fun s b => insL s (cdL (prL N W) b)) s) ∧ Good ((X.drop i).foldl (fun s b => insL s (cdL (prL N W) b)) s)
  | 0, i, s, h, hs => by
    rw [List.drop_of_length_le (by omega)]
    refine ⟨Ev.step (f := fun _ => some s) (fun k => ?_) (ev_const _), hs⟩
    rw [impl_tablesOf.l0, if_neg (by omega)]
  | n + 1, i, s, h, hs => by
    have hi : i < X.length := by omega
    have h8 := pow_le8 N hN
    have hq : (prL N W).length ≤ 8 := by rw [prL_length]; exact h8
    have hb := cdL_bd (prL N W) hq X[i]
    obtain ⟨e1, e2⟩ := tab_l0 N hN W hW X hX n (i + 1) (insL s (cdL (prL N W) X[i])) (by omega) (hs.ins hb)
    rw [List.drop_eq_getElem_cons hi, List.foldl_cons]
    refine ⟨?_, e2⟩
    have g := tab_g0 (prL N W) hq X[i] (prL N W).length 0 (by omega)
    refine Ev.step (f := fun k => (impl_productsOf.f k (N : Int) W).bind fun qs => (impl_tablesOf.g0 qs (rd X (i : Int)) k 0 0).bind fun t => (if s.length < 1000000000 ∧ (Lit.int .i64 t).wf = true then impl_tablesOf.l0 (N : Int) W X k (impl_tablesOf.ins s t) (wrap64 ((i : Int) + 1)) else none)) (fun k => ?_) (Ev.bind (productsOf_ev N hN W hW) (Ev.bind (a := cdL (prL N W) X[i]) (by rw [rd_nat X i hi]; exact g) ?_))
    · rw [impl_tablesOf.l0, if_pos (by omega), if_pos (by omega)]
    · have hl := hs.len
      refine ev_if_pos ⟨by omega, wf_small hb⟩ ?_
      rw [w64_nat (by omega)]
      exact e1
def stT (N : Nat) (s : List Int) (W : List Int) : List Int := (prL N W ++ [99]).foldl (fun s b => insL s (cdL (prL N W) b)) s
theorem foldl_good (N : Nat) (hN : N ≤ 3) (W : List Int) : ∀ (X : List Int) (s : List Int), Good s → Good (X.foldl (fun s b => insL s (cdL (prL N W) b)) s)
  | [], s, h => h
  | b :: X, s, h => by
    rw [List.foldl_cons]
    exact foldl_good N hN W X _ (h.ins (cdL_bd _ (by rw [prL_length]; exact pow_le8 N hN) b))
theorem tab_v (N : Nat) (hN : N ≤ 3) (W : List Int) (hW : W.length = N) (s : List Int) (hs : Good s) : Ev (fun k => impl_tablesOf.v (N : Int) k s W) (stT N s W) := by
  have h8 := pow_le8 N hN
  have hl := prL_length N W
  unfold impl_tablesOf.v
  refine Ev.bind (productsOf_ev N hN W hW) (ev_if_pos (by omega) ?_)
  have := (tab_l0 N hN W hW (prL N W ++ [99]) (by simp; omega) (prL N W ++ [99]).length 0 s (by omega) hs).1
  rw [List.drop_zero] at this
  exact this
section
variable {σ τ : Type} (V : Nat → σ → List Int → Option σ) (U : Nat → τ → List Int → Option τ) (c : τ → σ) (hU : ∀ k s S r, U k s S = some r → V k (c s) S = some (c r))
include hU
theorem sw_sub (N m : Int) : ∀ k s x r, impl_smallWeights.l0 U N m k s x = some r → impl_smallWeights.l0 V N m k (c s) x = some (c r)
  | 0, s, x, r, h => by simp [impl_smallWeights.l0] at h
  | k + 1, s, x, r, h => by
    rw [impl_smallWeights.l0] at h ⊢
    obtain ⟨s1, h1, h⟩ := Option.bind_eq_some_iff.1 h
    obtain ⟨q, h2, h⟩ := Option.bind_eq_some_iff.1 h
    rw [hU _ _ _ _ h1, Option.bind_some, h2, Option.bind_some]
    by_cases c1 : q.2 < 0
    · rw [if_pos c1] at h ⊢
      rw [Option.some.inj h]
    · rw [if_neg c1] at h ⊢
      by_cases c2 : q.2 < N
      · rw [if_pos c2] at h ⊢
        exact sw_sub N m k s1 _ r h
      · rw [if_neg c2] at h
        exact absurd h (by simp)
theorem sw_subf (k : Nat) (s : τ) (n m : Int) (r : τ) (h : impl_smallWeights.f U k s n m = some r) : impl_smallWeights.f V k (c s) n m = some (c r) := by
  unfold impl_smallWeights.f at h ⊢
  by_cases c1 : 1 ≤ n
  · rw [if_pos c1] at h ⊢
    by_cases c2 : n.toNat ≤ 35184372088832
    · rw [if_pos c2] at h ⊢
      obtain ⟨x, h1, h⟩ := Option.bind_eq_some_iff.1 h
      rw [h1, Option.bind_some]
      exact sw_sub V U c hU n m k s x r h
    · rw [if_neg c2] at h
      exact absurd h (by simp)
  · rw [if_neg c1] at h
    exact absurd h (by simp)
end
theorem tablesOf_ev (N m : Nat) (hN : N ≤ 3) (h1 : 1 ≤ N) (hm : m ≤ 1000) : Ev (fun k => impl_tablesOf.f k (N : Int) (m : Int)) ((wtL m N []).foldl (stT N) []) := by
  classical
  let U : Nat → {s : List Int // Good s} → List Int → Option {s : List Int // Good s} := fun k s S => (impl_tablesOf.v (N : Int) k s.1 S).bind fun r => if h : Good r then some ⟨r, h⟩ else none
  let st : {s : List Int // Good s} → List Int → {s : List Int // Good s} := fun s S => ⟨stT N s.1 S, foldl_good N hN S _ _ s.2⟩
  have hU : ∀ k s S r, U k s S = some r → impl_tablesOf.v (N : Int) k s.1 S = some r.1 := by
    intro k s S r h
    obtain ⟨q, h1, h⟩ := Option.bind_eq_some_iff.1 h
    by_cases hg : Good q
    · rw [dif_pos hg] at h
      rw [h1, ← Option.some.inj h]
    · rw [dif_neg hg] at h
      exact absurd h (by simp)
  have e := impl_smallWeights_ev (V := U) (st := st) hm (by omega : N ≤ 1000) h1 (fun s S hS _ => by
    obtain ⟨B, hB⟩ := tab_v N hN S hS s.1 s.2
    exact ⟨B, fun k hk => by
      show (impl_tablesOf.v (N : Int) k s.1 S).bind _ = _
      have hB2 : impl_tablesOf.v (N : Int) k s.1 S = some (stT N s.1 S) := hB k hk
      rw [hB2, Option.bind_some, dif_pos (show Good (stT N s.1 S) from foldl_good N hN S _ _ s.2)]⟩) ⟨[], List.nodup_nil, by simp⟩
  have fs : ∀ (L : List (List Int)) (s : {s : List Int // Good s}), (L.foldl st s).1 = L.foldl (stT N) s.1 := by
    intro L
    induction L with
    | nil => intro s; rfl
    | cons W L ih => intro s; rw [List.foldl_cons, List.foldl_cons, ih]
  obtain ⟨B, hB⟩ := e
  refine ⟨B, fun k hk => ?_⟩
  have := sw_subf (impl_tablesOf.v (N : Int)) U Subtype.val hU k _ _ _ _ (hB k hk)
  rw [fs] at this
  exact this
/-! the reference's table -/
def tI (N : Nat) (W : List Int) (b : Int) (i j : Nat) : List Int := (List.range' i j).map fun t => if prW N W t ≥ b then (1 : Int) else 0
theorem tableOf_l (N : Nat) (hN : N ≤ 3) (W : List Int) (hW : W.length = N) (b : Int) : ∀ (j i k : Nat) (acc : List Int), i + j = 2 ^ N → acc.length = i → 100 + j < k → spec_l2TableOf.l0 k (N : Int) acc (i : Int) W b = some (acc ++ tI N W b i j)
  | 0, i, 0, acc, h, ha, hk => by omega
  | 0, i, k + 1, acc, h, ha, hk => by
    rw [spec_l2TableOf.l0, shl_pow N hN, if_pos (by omega), if_neg (by omega)]
    simp [tI]
  | j + 1, i, 0, acc, h, ha, hk => by omega
  | j + 1, i, k + 1, acc, h, ha, hk => by
    have h8 := pow_le8 N hN
    have e : wrap64 (Int.tdiv (wrap64 (sideI W b (bitsFrom (i : Int) 0 N) + 1)) 2) = (if prW N W i ≥ b then (1 : Int) else 0) := by
      unfold sideI prW
      by_cases q : wdot 0 W (bitsFrom (i : Int) 0 N) ≥ b
      · rw [if_pos q, if_pos q]; decide +kernel
      · rw [if_neg q, if_neg q]; decide +kernel
    rw [spec_l2TableOf.l0, shl_pow N hN, if_pos (by omega), if_pos (by omega), spec_l2BitPoint_is k N (i : Int) (by omega) (by omega), Option.bind_some, spec_l2Side_is k W b _ (by omega) (by rw [bitsFrom_length]; omega) (by omega), Option.bind_some, if_pos (by omega), w64_nat (by omega), e, tableOf_l N hN W hW b j (i + 1) k _ (by omega) (by simp; omega) (by omega)]
    simp [tI, List.range'_succ]
theorem tableOf_ev (N : Nat) (hN : N ≤ 3) (W : List Int) (hW : W.length = N) (b : Int) : Ev (fun k => spec_l2TableOf.f k (N : Int) W b) (tI N W b 0 (2 ^ N)) := by
  refine ev_of 200 fun k hk => ?_
  have h8 := pow_le8 N hN
  have := tableOf_l N hN W hW b (2 ^ N) 0 k [] (by omega) rfl (by omega)
  rw [List.nil_append] at this
  exact this
theorem tI_tab (N : Nat) (W : List Int) (b : Int) : tI N W b 0 (2 ^ N) = (tabB (prL N W) b).map fun x => if x = true then (1 : Int) else 0 := by
  unfold tI tabB prL
  rw [List.map_map, List.map_map]
  apply List.map_congr_left
  intro t _
  by_cases q : prW N W t ≥ b <;> simp [q]
def Rel (M : Nat) (seen : List Bool) (s : List Int) : Prop := seen.length = M ∧ ∀ c : Nat, c < M → rdOf false seen (c : Int) = decide ((c : Int) ∈ s)
theorem rel_put {M : Nat} {seen : List Bool} {s : List Int} (h : Rel M seen s) (c : Nat) (hc : c < M) : (rdOf false seen (c : Int) = true → Rel M seen (insL s (c : Int)) ∧ (insL s (c : Int)).length = s.length) ∧ (rdOf false seen (c : Int) ≠ true → Rel M (seen.set c true) (insL s (c : Int)) ∧ (insL s (c : Int)).length = s.length + 1) := by
  have e := h.2 c hc
  constructor
  · intro q
    rw [q] at e
    have hm : (c : Int) ∈ s := of_decide_eq_true e.symm
    unfold insL
    rw [if_pos hm]
    exact ⟨h, rfl⟩
  · intro q
    have hm : ¬ (c : Int) ∈ s := fun hm => q (by rw [e]; exact decide_eq_true hm)
    unfold insL
    rw [if_neg hm]
    refine ⟨⟨by rw [List.length_set]; exact h.1, fun d hd => ?_⟩, rfl⟩
    have e2 := h.2 d hd
    unfold rdOf at e2 ⊢
    rw [Int.toNat_natCast] at e2 ⊢
    have h1 := h.1
    by_cases hcd : d = c
    · subst hcd
      rw [decide_eq_true (List.mem_cons_self ..), List.getD_eq_getElem?_getD, List.getElem?_set_self (by omega)]
      rfl
    · rw [List.getD_eq_getElem?_getD, List.getElem?_set_ne (fun e => hcd e.symm), ← List.getD_eq_getElem?_getD, e2]
      apply decide_eq_decide.2
      rw [List.mem_cons]
      constructor
      · exact .inr
      · rintro (q | q)
        · exact absurd (by omega) hcd
        · exact q
theorem spec_l2_ev (x0 x1 : Int) (all : List (List Int)) (i b : Int) (seen : List Bool) (s : List Int) (M : Nat) (hR : Rel M seen s) (hs : s.length ≤ 1000) (T : List Bool) (hT : T.length ≤ 8) (hM : 2 ^ T.length = M) (hb : -100 ≤ b ∧ b ≤ 100) (r : Int × Bool) (next : ∀ seen', Rel M seen' (insL s ((codeB T : Nat) : Int)) → Ev (fun k => spec_WeightsTable.l1 k x0 x1 seen' all ((insL s ((codeB T : Nat) : Int)).length : Int) i (b + 1)) r) : ∀ (n j : Nat), j + n = T.length → Ev (fun k => spec_WeightsTable.l2 k x0 x1 seen all (s.length : Int) i b (T.map fun x => if x = true then (1 : Int) else 0) ((codeB (T.take j) : Nat) : Int) (j : Int)) r
  | 0, j, h => by
    have hc := codeB_lt T
    rw [hM] at hc
    have hl := hR.1
    obtain ⟨p1, p2⟩ := rel_put hR (codeB T) hc
    by_cases q : rdOf false seen ((codeB T : Nat) : Int) = true
    · obtain ⟨q1, q2⟩ := p1 q
      have := next seen q1
      rw [q2] at this
      refine Ev.step (fun k => ?_) this
      rw [spec_WeightsTable.l2, if_neg (by rw [List.length_map]; omega), List.take_of_length_le (by omega), if_pos (by omega), if_pos (by omega), if_pos q, w64 (by omega) (by omega)]
    · obtain ⟨q1, q2⟩ := p2 q
      have := next _ q1
      rw [q2] at this
      refine Ev.step (fun k => ?_) this
      rw [spec_WeightsTable.l2, if_neg (by rw [List.length_map]; omega), List.take_of_length_le (by omega), if_pos (by omega), if_pos (by omega), if_neg q, w64 (x := b + 1) (by omega) (by omega), Int.toNat_natCast, w64_nat (by omega)]
  | n + 1, j, h => by
    have hj : j < T.length := by omega
    have ih := spec_l2_ev x0 x1 all i b seen s M hR hs T hT hM hb r next n (j + 1) (by omega)
    have hc := codeB_lt (T.take j)
    have hl : (T.take j).length = j := by rw [List.length_take]; omega
    rw [hl] at hc
    have h7 : 2 ^ j ≤ 128 := Nat.pow_le_pow_right (n := 2) (by omega) (by omega : j ≤ 7)
    refine Ev.step (fun k => ?_) ih
    have er : rd (T.map fun x => if x = true then (1 : Int) else 0) (j : Int) = (if T[j] = true then (1 : Int) else 0) := by
      rw [rd_nat _ j (by rw [List.length_map]; exact hj), List.getElem_map]
    have ec : ((codeB (T.take (j + 1)) : Nat) : Int) = 2 * ((codeB (T.take j) : Nat) : Int) + (if T[j] = true then (1 : Int) else 0) := by
      rw [List.take_succ_eq_append_getElem hj, codeB_snoc]
      cases T[j] <;> simp
    have hbit : (if T[j] = true then (1 : Int) else 0) = 0 ∨ (if T[j] = true then (1 : Int) else 0) = 1 := by cases T[j] <;> simp
    rw [spec_WeightsTable.l2, if_pos (by rw [List.length_map]; omega), if_pos (by omega), er, w64 (x := 2 * _) (by omega) (by omega), w64 (x := 2 * _ + _) (by omega) (by omega), ← ec, w64_nat (by omega)]
def bsL (b : Int) : Nat → List Int
  | 0 => []
  | n + 1 => b :: bsL (b + 1) n
theorem bsL_mem (x : Int) : ∀ (n : Nat) (b : Int), x ∈ bsL b n ↔ b ≤ x ∧ x < b + n
  | 0, b => by simp [bsL]; try omega
  | n + 1, b => by
    rw [bsL, List.mem_cons, bsL_mem x n (b + 1)]
    omega
def cdB (qs : List Int) (b : Int) : Int := ((codeB (tabB qs b) : Nat) : Int)
theorem cdB_bd (qs : List Int) (hq : qs.length ≤ 8) (b : Int) : 0 ≤ cdB qs b ∧ cdB qs b < 256 := by
  have h1 := codeB_lt (tabB qs b)
  have h2 : (tabB qs b).length = qs.length := by simp [tabB]
  rw [h2] at h1
  have h3 : 2 ^ qs.length ≤ 256 := Nat.pow_le_pow_right (n := 2) (by omega) hq
  unfold cdB
  omega
def stS (N P : Nat) (s : List Int) (W : List Int) : List Int := (bsL (-(P : Int)) (2 * P + 2)).foldl (fun s b => insL s (cdB (prL N W) b)) s
theorem spec_l1_ev (N m P : Nat) (hN : N ≤ 3) (hP : (N : Int) * (m : Int) = (P : Int)) (hP15 : P ≤ 15) (all : List (List Int)) (ha : all.length ≤ 1000000) (i : Nat) (hi : i < all.length) (hW : all[i].length = N) (r : Int × Bool) : ∀ (n : Nat) (b : Int) (seen : List Bool) (s : List Int), b + n = P + 2 → -100 ≤ b → Rel (2 ^ 2 ^ N) seen s → Good s → (∀ seen', Rel (2 ^ 2 ^ N) seen' ((bsL b n).foldl (fun s b => insL s (cdB (prL N all[i]) b)) s) → Good ((bsL b n).foldl (fun s b => insL s (cdB (prL N all[i]) b)) s) → Ev (fun k => spec_WeightsTable.l0 k (N : Int) (m : Int) seen' all ((((bsL b n).foldl (fun s b => insL s (cdB (prL N all[i]) b)) s).length : Nat) : Int) ((i + 1 : Nat) : Int)) r) → Ev (fun k => spec_WeightsTable.l1 k (N : Int) (m : Int) seen all (s.length : Int) (i : Int) b) r
  | 0, b, seen, s, h, hb, hR, hs, next => by
    refine Ev.step (fun k => ?_) (next seen hR hs)
    rw [spec_WeightsTable.l1, hP, w64 (x := (P : Int)) (by omega) (by omega), w64 (x := (P : Int) + 1) (by omega) (by omega), if_neg (by omega), w64_nat (by omega)]
    rfl
  | n + 1, b, seen, s, h, hb, hR, hs, next => by
    have h8 := pow_le8 N hN
    have hq : (prL N all[i]).length ≤ 8 := by rw [prL_length]; exact h8
    have hT : (tabB (prL N all[i]) b).length = 2 ^ N := by simp [tabB, prL]
    have e := spec_l2_ev (N : Int) (m : Int) all (i : Int) b seen s (2 ^ 2 ^ N) hR (by have := hs.len; omega) (tabB (prL N all[i]) b) (by omega) (by rw [hT]) ⟨hb, by omega⟩ r (fun seen' hR' => spec_l1_ev N m P hN hP hP15 all ha i hi hW r n (b + 1) seen' _ (by omega) (by omega) hR' (hs.ins (cdB_bd _ hq b)) (fun seen2 hR2 hs2 => next seen2 hR2 hs2)) (2 ^ N) 0 (by omega)
    rw [← tI_tab] at e
    have eW : rd_L1 all (i : Int) = all[i] := by
      unfold rd_L1
      rw [Int.toNat_natCast, List.getD_eq_getElem?_getD, List.getElem?_eq_getElem hi]
      rfl
    refine Ev.step (f := fun k => (spec_l2TableOf.f k (N : Int) all[i] b).bind fun t158 => (spec_WeightsTable.l2 k (N : Int) (m : Int) seen all (s.length : Int) (i : Int) b t158 0 0)) (fun k => ?_) (Ev.bind (tableOf_ev N hN all[i] hW b) e)
    rw [spec_WeightsTable.l1, hP, w64 (x := (P : Int)) (by omega) (by omega), w64 (x := (P : Int) + 1) (by omega) (by omega), if_pos (by omega), if_pos (by omega), if_pos (by omega), eW]
theorem spec_l0_ev (N m P : Nat) (hN : N ≤ 3) (hP : (N : Int) * (m : Int) = (P : Int)) (hP15 : P ≤ 15) (all : List (List Int)) (ha : all.length ≤ 1000000) (hW : ∀ W ∈ all, W.length = N) : ∀ (n i : Nat) (seen : List Bool) (s : List Int), i + n = all.length → Rel (2 ^ 2 ^ N) seen s → Good s → Ev (fun k => spec_WeightsTable.l0 k (N : Int) (m : Int) seen all (s.length : Int) (i : Int)) ((((all.drop i).foldl (stS N P) s).length : Int), true)
  | 0, i, seen, s, h, hR, hs => by
    rw [List.drop_of_length_le (by omega)]
    refine Ev.step (f := fun _ => some ((s.length : Int), true)) (fun k => ?_) (ev_const _)
    rw [spec_WeightsTable.l0, if_neg (by omega)]
  | n + 1, i, seen, s, h, hR, hs => by
    have hi : i < all.length := by omega
    rw [List.drop_eq_getElem_cons hi, List.foldl_cons]
    have e := spec_l1_ev N m P hN hP hP15 all ha i hi (hW _ (List.getElem_mem hi)) ((((all.drop (i + 1)).foldl (stS N P) (stS N P s all[i])).length : Int), true) (2 * P + 2) (-(P : Int)) seen s (by omega) (by omega) hR hs (fun seen' hR' hs' => spec_l0_ev N m P hN hP hP15 all ha hW n (i + 1) seen' _ (by omega) hR' hs')
    refine Ev.step (fun k => ?_) e
    rw [spec_WeightsTable.l0, if_pos (by omega), w64 (x := -(N : Int)) (by omega) (by omega), Int.neg_mul, hP, w64 (by omega) (by omega)]
theorem wt_memF (m d : Nat) (a : ∀ b, ∀ S ∈ wtL m d b, S.length = b.length + d ∧ ((∀ x ∈ b, -(m : Int) ≤ x ∧ x ≤ (m : Int)) → ∀ x ∈ S, -(m : Int) ≤ x ∧ x ≤ (m : Int))) : ∀ b j i, i + j ≤ 2 * m + 1 → ∀ S ∈ wtF m d b j i, S.length = b.length + (d + 1) ∧ ((∀ x ∈ b, -(m : Int) ≤ x ∧ x ≤ (m : Int)) → ∀ x ∈ S, -(m : Int) ≤ x ∧ x ≤ (m : Int)) := fun b j => by
  induction j with
  | zero => intro i _ S hS; simp [wtF] at hS
  | succ j ih =>
    intro i hi S hS
    rw [wtF] at hS
    rcases List.mem_append.1 hS with hS | hS
    · obtain ⟨q1, q2⟩ := a _ S hS
      rw [List.length_append, List.length_singleton] at q1
      refine ⟨by omega, fun hb => q2 fun x hx => ?_⟩
      rcases List.mem_append.1 hx with hx | hx
      · exact hb x hx
      · rw [List.mem_singleton.1 hx]
        omega
    · exact ih (i + 1) (by omega) S hS
theorem wt_mem (m : Nat) : ∀ d b, ∀ S ∈ wtL m d b, S.length = b.length + d ∧ ((∀ x ∈ b, -(m : Int) ≤ x ∧ x ≤ (m : Int)) → ∀ x ∈ S, -(m : Int) ≤ x ∧ x ≤ (m : Int))
  | 0, b, S, hS => by
    rw [wtL] at hS
    obtain rfl := List.mem_singleton.1 hS
    exact ⟨rfl, fun h => h⟩
  | d + 1, b, S, hS => by
    rw [wtL_succ] at hS
    exact wt_memF m d (wt_mem m d) b (2 * m + 1) 0 (by omega) S hS
theorem shl2_pow (N : Nat) (hN : N ≤ 3) : shl .i64 1 (shl .u64 1 (N : Int)) = ((2 ^ 2 ^ N : Nat) : Int) := by
  rcases (by omega : N = 0 ∨ N = 1 ∨ N = 2 ∨ N = 3) with rfl | rfl | rfl | rfl <;> decide +kernel
theorem bits01 : ∀ i : Fin 8, ∀ N : Fin 4, ∀ y ∈ bitsFrom (i.val : Int) 0 N.val, y = 0 ∨ y = 1 := by decide +kernel
theorem wdot_bd (m : Nat) (hm : m ≤ 5) : ∀ (x y : List Int) (s : Int) (c : Nat), (∀ a ∈ x, -(m : Int) ≤ a ∧ a ≤ (m : Int)) → (∀ a ∈ y, a = 0 ∨ a = 1) → -(c : Int) ≤ s ∧ s ≤ (c : Int) → c + x.length * m ≤ 1000 → -((c + x.length * m : Nat) : Int) ≤ wdot s x y ∧ wdot s x y ≤ ((c + x.length * m : Nat) : Int)
  | [], y, s, c, _, _, h, _ => by cases y <;> simp [wdot] <;> omega
  | a :: x, [], s, c, _, _, h, hc => by
    simp only [wdot]
    omega
  | a :: x, b :: y, s, c, hx, hy, h, hc => by
    have ha := hx a (List.mem_cons_self ..)
    have hb := hy b (List.mem_cons_self ..)
    rw [List.length_cons, Nat.succ_mul] at hc ⊢
    have hab : -(m : Int) ≤ a * b ∧ a * b ≤ (m : Int) := by rcases hb with rfl | rfl <;> simp <;> omega
    have ih := wdot_bd m hm x y (s + a * b) (c + m) (fun u hu => hx u (List.mem_cons_of_mem _ hu)) (fun u hu => hy u (List.mem_cons_of_mem _ hu)) (by omega) (by omega)
    simp only [wdot]
    rw [w64 (x := a * b) (by omega) (by omega), w64 (x := s + a * b) (by omega) (by omega)]
    omega
theorem prL_bd (N m : Nat) (hN : N ≤ 3) (hm : m ≤ 5) (W : List Int) (hW : W.length = N) (hb : ∀ a ∈ W, -(m : Int) ≤ a ∧ a ≤ (m : Int)) : ∀ p ∈ prL N W, -((N * m : Nat) : Int) ≤ p ∧ p ≤ ((N * m : Nat) : Int) := by
  intro p hp
  unfold prL at hp
  obtain ⟨i, hi, rfl⟩ := List.mem_map.1 hp
  have h8 := pow_le8 N hN
  have hi2 := (List.mem_range'_1.1 hi).2
  have h15 : N * m ≤ 3 * 5 := Nat.mul_le_mul hN hm
  have := wdot_bd m hm W (bitsFrom (i : Int) 0 N) 0 0 hb (bits01 ⟨i, by omega⟩ ⟨N, by omega⟩) (by omega) (by rw [hW]; omega)
  rw [hW, Nat.zero_add] at this
  exact this
theorem flat_ins {τ : Type} (f : List Int → List Int) (g : List Int → Int → τ) (c : τ → Int) : ∀ (L : List (List Int)) (s : List Int), L.foldl (fun s W => (f W).foldl (fun s b => insL s (c (g W b))) s) s = ((L.flatMap fun W => (f W).map (g W)).map c).foldl insL s
  | [], s => rfl
  | W :: L, s => by
    rw [List.foldl_cons, flat_ins f g c L, List.flatMap_cons, List.map_append, List.foldl_append, List.map_map]
    congr 1
    rw [List.foldl_map]
    rfl
theorem counts (N m : Nat) (hN : N ≤ 3) (hm : m ≤ 5) : ((wtL m N []).foldl (stT N) []).length = ((wtL m N []).foldl (stS N (N * m)) []).length := by
  have e1 := flat_ins (fun W => prL N W ++ [99]) (fun W b => tabB (prL N W) b) (fun T => ((codeL T : Nat) : Int)) (wtL m N []) []
  have e2 := flat_ins (fun W => bsL (-((N * m : Nat) : Int)) (2 * (N * m) + 2)) (fun W b => tabB (prL N W) b) (fun T => ((codeB T : Nat) : Int)) (wtL m N []) []
  have h15 : N * m ≤ 3 * 5 := Nat.mul_le_mul hN hm
  have hl : ∀ (W : List Int) (b : Int), (tabB (prL N W) b).length = 2 ^ N := fun W b => by simp [tabB, prL]
  refine (congrArg List.length e1).trans (Eq.trans ?_ (congrArg List.length e2).symm)
  refine insL_same _ _ (fun T => T.length = 2 ^ N) (fun x y hx hy h => codeL_inj x y (by rw [hx, hy]) (by omega)) (fun x y hx hy h => codeB_inj x y (by rw [hx, hy]) (by omega)) _ _ ?_ ?_ ?_
  · intro T hT
    obtain ⟨W, _, hT⟩ := List.mem_flatMap.1 hT
    obtain ⟨b, _, rfl⟩ := List.mem_map.1 hT
    exact hl W b
  · intro T hT
    obtain ⟨W, _, hT⟩ := List.mem_flatMap.1 hT
    obtain ⟨b, _, rfl⟩ := List.mem_map.1 hT
    exact hl W b
  · intro T
    rw [List.mem_flatMap, List.mem_flatMap]
    have hp : ∀ W ∈ wtL m N [], ∀ p ∈ prL N W, -((N * m : Nat) : Int) ≤ p ∧ p ≤ ((N * m : Nat) : Int) := fun W hW => by
      obtain ⟨q1, q2⟩ := wt_mem m N [] W hW
      exact prL_bd N m hN hm W (by simpa using q1) (q2 (by simp))
    constructor
    · rintro ⟨W, hW, hT⟩
      obtain ⟨b, hb, rfl⟩ := List.mem_map.1 hT
      have hq := hp W hW
      refine ⟨W, hW, ?_⟩
      rcases List.mem_append.1 hb with hb | hb
      · have := hq b hb
        exact List.mem_map.2 ⟨b, (bsL_mem _ _ _).2 (by omega), rfl⟩
      · obtain rfl := List.mem_singleton.1 hb
        refine List.mem_map.2 ⟨((N * m : Nat) : Int) + 1, (bsL_mem _ _ _).2 (by omega), ?_⟩
        unfold tabB
        apply List.map_congr_left
        intro p hp'
        have := hq p hp'
        rw [decide_eq_false (by omega), decide_eq_false (by omega)]
    · rintro ⟨W, hW, hT⟩
      obtain ⟨b, hb, rfl⟩ := List.mem_map.1 hT
      have hb2 := (bsL_mem _ _ _).1 hb
      obtain ⟨b', h1, h2⟩ := tabB_low (prL N W) b 99 (fun p hp' => by have := hp W hW p hp'; omega) (by omega)
      exact ⟨W, hW, List.mem_map.2 ⟨b', h1, h2.symm⟩⟩
theorem in_is (a b c : Int) : spec_l1In.f a b c = some (decide (b ≤ a ∧ a ≤ c)) ∧ impl_within.f a b c = some (decide (b ≤ a ∧ a ≤ c)) := by
  unfold spec_l1In.f impl_within.f
  by_cases h : a ≥ b
  · rw [if_pos h]
    have : decide (b ≤ a ∧ a ≤ c) = decide (a ≤ c) := decide_eq_decide.2 ⟨fun q => q.2, fun q => ⟨h, q⟩⟩
    rw [this]
    exact ⟨rfl, rfl⟩
  · rw [if_neg h]
    have : decide (b ≤ a ∧ a ≤ c) = false := decide_eq_false (fun q => h q.1)
    rw [this]
    exact ⟨rfl, rfl⟩
theorem FnExactWeightsTable : laws_FnExactWeightsTable.Pure := by
  intro n m _ _
  have fin : ∀ r : Int × Bool, Ev (fun k => spec_WeightsTable.f k n m) r → Ev (fun k => impl_WeightsTable.f k n m) r → ∃ k, laws_FnExactWeightsTable.f k n m = some true := by
    rintro r ⟨B1, h1⟩ ⟨B2, h2⟩
    refine ⟨B1 + B2, ?_⟩
    have e1 : spec_WeightsTable.f (B1 + B2) n m = some r := h1 _ (by omega)
    have e2 : impl_WeightsTable.f (B1 + B2) n m = some r := h2 _ (by omega)
    unfold laws_FnExactWeightsTable.f
    rw [e1, Option.bind_some, e2, Option.bind_some, if_pos rfl, if_neg (by simp)]
  by_cases c1 : 1 ≤ n ∧ n ≤ 3
  · by_cases c2 : 0 ≤ m ∧ m ≤ 5
    · obtain ⟨N, rfl⟩ := Int.eq_ofNat_of_zero_le (show 0 ≤ n by omega)
      obtain ⟨M, rfl⟩ := Int.eq_ofNat_of_zero_le c2.1
      have hN : N ≤ 3 := by omega
      have hM : M ≤ 5 := by omega
      have h15 : N * M ≤ 3 * 5 := Nat.mul_le_mul hN hM
      have hpw : (2 * M + 1) ^ N ≤ 11 ^ 3 := Nat.le_trans (Nat.pow_le_pow_left (by omega) N) (Nat.pow_le_pow_right (by omega) hN)
      have hK : 2 ^ 2 ^ N ≤ 2 ^ 8 := Nat.pow_le_pow_right (by omega) (pow_le8 N hN)
      have hpos : 0 < 2 ^ 2 ^ N := Nat.pow_pos (by omega)
      refine fin ((((wtL M N []).foldl (stS N (N * M)) []).length : Int), true) ?_ ?_
      · have e0 := spec_l0_ev N M (N * M) hN (by push_cast; rfl) (by omega) (wtL M N []) (by rw [(wt_len M N).1]; omega) (fun W hW => by have := (wt_mem M N [] W hW).1; simpa using this) (wtL M N []).length 0 (List.replicate (2 ^ 2 ^ N) false) [] (by omega) ⟨by simp, fun c hc => by unfold rdOf; rw [Int.toNat_natCast, List.getD_eq_getElem?_getD, List.getElem?_replicate, if_pos hc]; simp⟩ ⟨List.nodup_nil, by simp⟩
        rw [List.drop_zero] at e0
        have e1 : Ev (fun k => spec_WeightsTable.j0 k (N : Int) (M : Int) false) ((((wtL M N []).foldl (stS N (N * M)) []).length : Int), true) := by
          refine Ev.step (f := fun k => (spec_l4Weights.f k (N : Int) (M : Int) []).bind fun t154 => spec_WeightsTable.l0 k (N : Int) (M : Int) (List.replicate (2 ^ 2 ^ N) false) t154 0 0) (fun k => ?_) (Ev.bind (l4w_ev N M (by omega) (by omega) N [] (by omega) (by simp)) e0)
          rw [spec_WeightsTable.j0, if_neg (by simp), if_pos (by omega), shl2_pow N hN, if_pos (by omega), Int.toNat_natCast, if_pos (by omega)]
        refine Ev.congr (fun k => ?_) e1
        unfold spec_WeightsTable.f
        rw [(in_is _ _ _).1, Option.bind_some, if_pos (decide_eq_true c1), (in_is _ _ _).1, Option.bind_some, decide_eq_true c2]
        rfl
      · rw [← counts N M hN hM]
        have e1 := Ev.bind (tablesOf_ev N M hN (by omega) (by omega)) (f := fun (_ : Nat) (s : List Int) => some ((s.length : Int), true)) (ev_const _)
        refine Ev.congr (fun k => ?_) e1
        unfold impl_WeightsTable.f
        rw [(in_is _ _ _).2, Option.bind_some, if_pos (decide_eq_true c1), (in_is _ _ _).2, Option.bind_some, if_pos (decide_eq_true c2)]
    · refine fin (0, false) (Ev.step (f := fun _ => some (0, false)) (fun k => ?_) (ev_const _)) (ev_of 0 fun k _ => ?_)
      · unfold spec_WeightsTable.f
        rw [(in_is _ _ _).1, Option.bind_some, if_pos (decide_eq_true c1), (in_is _ _ _).1, Option.bind_some, decide_eq_false c2]
        simp [spec_WeightsTable.j0]
      · unfold impl_WeightsTable.f
        rw [(in_is _ _ _).2, Option.bind_some, if_pos (decide_eq_true c1), (in_is _ _ _).2, Option.bind_some, if_neg (by simpa using c2)]
  · refine fin (0, false) (Ev.step (f := fun _ => some (0, false)) (fun k => ?_) (ev_const _)) (ev_of 0 fun k _ => ?_)
    · unfold spec_WeightsTable.f
      rw [(in_is _ _ _).1, Option.bind_some, if_neg (by simpa using c1)]
      simp [spec_WeightsTable.j0]
    · unfold impl_WeightsTable.f
      rw [(in_is _ _ _).2, Option.bind_some, if_neg (by simpa using c1)]

end Go.Proofs.Ytdjclffkidoohaa.Pure
