-- Laid by a program of this session for this claim.
import Derived.Test.YtdjclffkidoohaaHof2
import Derived.Outline
import Derived.StillTailTactics
import Derived.BigRegion
import Derived.Laws.Cover3
import Derived.Test.YtdjclffkidoohaaClos
import Derived.Test.YtdjclffkidoohaaQFnExactWidestWeightsx0
import Derived.Test.YtdjclffkidoohaaQFnExactWidestWeightsx4
import Derived.Test.YtdjclffkidoohaaQFnExactWidestWeightsx5
namespace Go.Proofs.Ytdjclffkidoohaa.QFnExactWidestWeights
open Go.RowKit Go.Proofs.YtdjclffkidoohaaW.PrintWords Go.Proofs.YtdjclffkidoohaaW.PrintLast Go.Proofs.YtdjclffkidoohaaW.PrintMore
attribute [local go_sem] max2_int min2_int max_two min_two max_three min_three max_four min_four   -- for this text's walks alone
set_option linter.unusedVariables false
set_option linter.unusedSimpArgs false

/-! ### impl_WidestWeights: function 20 -/
open Go.Proofs.Ytdjclffkidoohaa.Clos
def impl_smallWeights.f0 (N m : Int) : Nat → List Int → Int → Option (List Int)
|0, _, _ => none
|k + 1, x, i => if i < N then (if 0 ≤ i then impl_smallWeights.f0 N m k (x.set i.toNat (wrap64 (-m))) (wrap64 (i + 1)) else none) else some x
def impl_smallWeights.g0 (N m : Int) : Nat → List Int → Int → Option (List Int × Int)
|0, _, _ => none
|k + 1, x, i => if 0 ≤ i then (if i < N then (if rd x i = m then impl_smallWeights.g0 N m k (x.set i.toNat (wrap64 (-m))) (wrap64 (i - 1)) else some (x, i)) else none) else some (x, i)
def impl_smallWeights.l0 {σ : Type} (V : Nat → σ → List Int → Option σ) (N m : Int) : Nat → σ → List Int → Option σ
|0, _, _ => none
|k + 1, s, x => (V k s x).bind fun s1 => (impl_smallWeights.g0 N m k x (wrap64 (N - 1))).bind fun r => (if r.2 < 0 then some s1 else (if r.2 < N then impl_smallWeights.l0 V N m k s1 (r.1.set r.2.toNat (wrap64 (rd r.1 r.2 + 1))) else none))
def impl_smallWeights.f {σ : Type} (V : Nat → σ → List Int → Option σ) (k : Nat) (s : σ) (n m : Int) : Option σ := if 1 ≤ n then (if n.toNat ≤ 35184372088832 then ((impl_smallWeights.f0 n m k (List.replicate n.toNat 0) 0).bind fun x => impl_smallWeights.l0 V n m k s x) else none) else none
theorem impl_smallWeights.mono_f0 (N m : Int) : ∀ k x i, LeO (impl_smallWeights.f0 N m k x i) (impl_smallWeights.f0 N m (k + 1) x i)
|0, _, _ => fun r h => by simp [impl_smallWeights.f0] at h
|k + 1, x, i => by
  rw [impl_smallWeights.f0, impl_smallWeights.f0.eq_def N m (k + 1 + 1)]
  exact LeO.ite (LeO.ite (impl_smallWeights.mono_f0 N m k _ _) (LeO.refl _)) (LeO.refl _)
theorem impl_smallWeights.mono_g0 (N m : Int) : ∀ k x i, LeO (impl_smallWeights.g0 N m k x i) (impl_smallWeights.g0 N m (k + 1) x i)
|0, _, _ => fun r h => by simp [impl_smallWeights.g0] at h
|k + 1, x, i => by
  rw [impl_smallWeights.g0, impl_smallWeights.g0.eq_def N m (k + 1 + 1)]
  exact LeO.ite (LeO.ite (LeO.ite (impl_smallWeights.mono_g0 N m k _ _) (LeO.refl _)) (LeO.refl _)) (LeO.refl _)
theorem impl_smallWeights.mono_l0 {σ : Type} (V : Nat → σ → List Int → Option σ) (hV : ∀ k s set, LeO (V k s set) (V (k + 1) s set)) (N m : Int) : ∀ k s x, LeO (impl_smallWeights.l0 V N m k s x) (impl_smallWeights.l0 V N m (k + 1) s x)
|0, _, _ => fun r h => by simp [impl_smallWeights.l0] at h
|k + 1, s, x => by
  rw [impl_smallWeights.l0, impl_smallWeights.l0.eq_def V N m (k + 1 + 1)]
  exact LeO.bind (hV _ _ _) fun _ => LeO.bind (impl_smallWeights.mono_g0 _ _ _ _ _) fun _ => LeO.ite (LeO.refl _) (LeO.ite (impl_smallWeights.mono_l0 V hV N m k _ _) (LeO.refl _))
theorem impl_smallWeights.mono {σ : Type} (V : Nat → σ → List Int → Option σ) (hV : ∀ k s set, LeO (V k s set) (V (k + 1) s set)) : ∀ s n m k, LeO (impl_smallWeights.f V k s n m) (impl_smallWeights.f V (k + 1) s n m) := fun s n m k => by
 unfold impl_smallWeights.f
 exact LeO.ite (LeO.ite (LeO.bind (impl_smallWeights.mono_f0 _ _ _ _ _) fun _ => impl_smallWeights.mono_l0 V hV _ _ _ _ _) (LeO.refl _)) (LeO.refl _)
set_option maxHeartbeats 8000000 in
set_option maxRecDepth 100000 in
/-- smallWeights, whatever function it visits with. I g tells of the worlds while the row of weights lies in block g: it holds where nothing but g and what is new has changed. -/
theorem impl_smallWeights.calls {σ : Type} (V : Nat → σ → List Int → Option σ) (G : FuncId) (C : Array Value) (hent : Ent Try.prog G) (I : Nat → σ → World → Prop) (S : Nat → Prop)
  (hIs : ∀ g s w j u, I g s w → (∃ cells, w.heap[g]? = some (.cells cells 3 (0, 0))) → I g s (w.setCell ⟨g, j, none⟩ u))
  (hat : ∀ g k s set s' c w, I g s w → (∀ W', Kept w W' S → (Kd.int .i64).C W' (some ⟨g, 0, none⟩) set.length set) → set.length ≤ c → V k s set = some s' → Calls Try.prog G (#[.slice (some ⟨g, 0, none⟩) set.length c] ++ C) w fun e w' => e = .returned (.tuple #[]) ∧ I g s' w' ∧ Kept w w' S)
  (k : Nat) (s : σ) (n m : Int) (s' : σ) (w : World) (hi : ∀ g w1, w.heap.size ≤ g → g < w1.heap.size → Below w.heap.size w w1 → I g s w1) (hSb : ∀ k, S k → k < w.heap.size) (h : impl_smallWeights.f V k s n m = some s') :
  Calls Try.prog 78 #[.int .i64 n, .int .i64 m, .func (.func G) #[] C] w fun e w' => e = .returned (.tuple #[]) ∧ (∃ g, w.heap.size ≤ g ∧ I g s' w') ∧ Kept w w' S := by
 have HB := Aside0.mk (Below.refl w.heap.size w)
 have HAT := Aside0.mk hat
 have HIS := Aside0.mk hIs
 have HE := Aside0.mk hent
 have HSB := Aside0.mk hSb
 have HW := Aside0.mk hi
 clear hat hIs hent hSb hi
 unfold impl_smallWeights.f at h
 by_cases c1 : 1 ≤ n
 ·rw [if_pos c1] at h
  by_cases c2 : n.toNat ≤ 35184372088832
  ·rw [if_pos c2] at h
   obtain ⟨N, rfl⟩ := Int.eq_ofNat_of_zero_le (show 0 ≤ n by omega)
   rw [Int.toNat_natCast] at c2
   obtain ⟨X, A10, H⟩ := Option.bind_eq_some_iff.mp h
   rw [Int.toNat_natCast] at A10
   have H' := Aside0.mk A10
   have HL := Aside0.mk H
   have C1 := Aside0.mk c1
   have C2 := Aside0.mk c2
   have c0b : decide (0 ≤ (N : Int)) = true := decide_eq_true (by omega)
   have c0n : decide ((N : Int) < 0) = false := decide_eq_false (by omega)
   have c0t : (0 ≤ (N : Int)) = True := eq_true (by omega)
   clear h A10 H c1 c2
   go_enter Try.func78, Try.ntmps78
   go_wp2_with (first
   |((with_reducible refine gate_dst (N := 10) rfl ?_);refine Kd.R_make (Kd.int .i64) _ 3 rfl (N := 10) rfl 26 _ _ rfl (N : Int) rfl rfl Try.underlying26 (.int .i64 0) 8 info3 rfl (by decide) (by omega) 0 (ok := fun _ => True) (okp := fun _ => True) rfl (fun _ hk => hk) trivial (by have := C1.out;omega) (by rw [Int.toNat_natCast];have := C2.out;omega) (Below.refl _ _) (Nat.le_refl _) ?_;intro v10 w4 ho hb hg_ hnew_;clear hg_ hnew_;rw [Int.toNat_natCast] at ho;have n0_ := Aside0.mk (Kd.R_lower ho (below_size HB.out));have n1_ := Aside0.mk (below_step HB.out hb);obtain ⟨g, c, ev, hgb, hgl, hgc⟩ := Kd.R_form n0_.out (by rw [List.length_replicate];have := C1.out;omega);subst ev;rw [List.length_replicate] at n0_;have HG := Aside0.mk hgb;have HGC := Aside0.mk hgc;clear HB hb ho hgb hgl hgc;have HO := n0_;have HB := n1_;clear n0_ n1_)
   |fail)
   go_loopg [13] k (fun kq v13 w' => ∃ (x : List Int) (i : Int), v13 = .int .i64 i ∧ Aside0 (impl_smallWeights.f0 (N : Int) m kq x i = some X) ∧ Aside0 (kq ≤ k) ∧ Aside0 (Kd.R (Kd.int .i64) 3 w' w.heap.size (fun _ => True) (.slice (some ⟨g, 0, none⟩) N c) x) ∧ Aside0 (Below w.heap.size w w'))
   case atStart => exact ⟨_, 0, rfl, H', ⟨Nat.le_refl _⟩, HO, HB⟩
   case round =>
    clear H' HO HB
    obtain ⟨x, i, rfl, HA, HK1, HO, HB⟩ := hrel
    cases gk with
   |zero => exact absurd HA.out (by simp [impl_smallWeights.f0])
   |succ k1 =>
     have H := HA.out
     clear HA
     simp only [impl_smallWeights.f0] at H
     by_cases c1 : i < (N : Int)
     ·rw [if_pos c1] at H
      have c1b : decide (i < (N : Int)) = true := decide_eq_true c1
      by_cases c2 : 0 ≤ i
      ·rw [if_pos c2] at H
       obtain ⟨y, hy⟩ : ∃ y_ : List Int, y_ = x.set i.toNat (wrap64 (-m)) := ⟨_, rfl⟩
       rw [← hy] at H
       have NY := Aside0.mk hy
       have H' := Aside0.mk H
       obtain ⟨hx, hf⟩ := Kd.R_celln 0 HO.out i c2 c1
       have p1 := eq_true c1
       have p2 := eq_true c2
       have HP := Aside0.mk (Kd.R_putn HO.out i (wrap64 (-m)))
       have HGG := Aside0.mk (show w.heap.size ≤ g from HG.out)
       clear c1 c2 H hy
       go_wp2
       go_roundg k1
       case measure => have := HK1.out;omega
       case rel => exact ⟨y, wrap64 (i + 1), rfl, H', ⟨by have := HK1.out;omega⟩, ⟨by rw [NY.out];exact HP.out⟩, ⟨below_set HB.out HGG.out⟩⟩
      ·rw [if_neg c2] at H
       exact absurd H (by simp)
     ·rw [if_neg c1] at H
      have c1b : decide (i < (N : Int)) = false := decide_eq_false c1
      obtain rfl := Option.some.inj H
      clear H c1
      have HI := Aside0.mk (HW.out g wr HG.out (by obtain ⟨g', c', e, _, hl, _⟩ := Kd.R_form HO.out (by have := (Kd.R_reads' HO.out).1;have := C1.out;omega);injection e with e1 _ _;injection e1 with e1;injection e1 with e1;rw [e1];exact hl) HB.out)
      have HK := Aside0.mk (Kept.of_below HB.out S)
      clear HB HW
      try go_wp2
      go_loopg [8] k (fun kq v8 w' => ∃ (s1 : σ) (x1 : List Int), Aside0 (impl_smallWeights.l0 V (N : Int) m kq s1 x1 = some s') ∧ Aside0 (kq ≤ k) ∧ Aside0 (Kd.R (Kd.int .i64) 3 w' w.heap.size (fun _ => True) (.slice (some ⟨g, 0, none⟩) N c) x1) ∧ Aside0 (I g s1 w') ∧ Aside0 (Kept w w' S))
      case atStart => exact ⟨s, x, HL, ⟨Nat.le_refl _⟩, HO, HI, HK⟩
      case round =>
       clear HL HO HI HK HK1
       obtain ⟨s1, x1, HA, HK1, HO, HI, HK⟩ := hrel
       cases gk with
      |zero => exact absurd HA.out (by simp [impl_smallWeights.l0])
      |succ k2 =>
        have H := HA.out
        clear HA
        simp only [impl_smallWeights.l0] at H
        obtain ⟨s2, A10, H⟩ := Option.bind_eq_some_iff.mp H
        obtain ⟨⟨y, i2⟩, A20, H⟩ := Option.bind_eq_some_iff.mp H
        have A2 := Aside0.mk A20
        have HF := Aside0.mk H
        have hN := (Kd.R_reads' HO.out).1
        have hNc := (Kd.R_reads' HO.out).2.1
        have A3 := HAT.out g k2 s1 x1 s2 c wr HI.out (by rw [← hN];exact Kd.C_kept_own (Kd.R_bound HO.out) (fun k_ hk hs => by have := HSB.out _ hs;have := hk.2.1;omega)) (by omega) A10
        rw [← hN] at A3
        have A4 := Aside0.mk A3
        clear A10 A20 H hN hNc A3
        go_wp2_with (first
        |(refine goesC_ (some 24) rfl rfl HE.out #[.slice (some ⟨g, 0, none⟩) N c] rfl rfl (by (try simp only [List.map_toArray, List.map_cons, List.map_nil]);first|done|rfl) ?_;(with_reducible refine A4.out.mono ?_);rintro e w9 ⟨rfl, hi9, hk9⟩;refine ⟨_, rfl, ?_⟩;have n0_ := Aside0.mk hi9;have n1_ := Aside0.mk (HK.out.then_ hk9 (fun _ h => .inl h));have n2_ := Aside0.mk (Kd.R_mono (ok' := fun _ => True) (Kd.R_kept (Kd.R_bound HO.out) hk9 (fun k_ hk hs => by have := HSB.out _ hs;have := hk.2.1;omega)) (fun _ _ => trivial));clear hi9 hk9 HI HK HO A4;have HI := n0_;have HK := n1_;have HO := n2_;clear n0_ n1_ n2_)
        |fail)
        go_loopg [8] k2 (fun kq v8 w' => ∃ (x2 : List Int) (i : Int), v8 = .int .i64 i ∧ Aside0 (impl_smallWeights.g0 (N : Int) m kq x2 i = some (y, i2)) ∧ Aside0 (kq ≤ k2) ∧ Aside0 (Kd.R (Kd.int .i64) 3 w' w.heap.size (fun _ => True) (.slice (some ⟨g, 0, none⟩) N c) x2) ∧ Aside0 (I g s2 w') ∧ Aside0 (Kept w w' S))
        case atStart => exact ⟨x1, _, rfl, A2, ⟨Nat.le_refl _⟩, HO, HI, HK⟩
        case round =>
         clear A2 HO HI HK
         obtain ⟨x2, i, rfl, HA, HK3, HO, HI, HK⟩ := hrel
         cases gk with
        |zero => exact absurd HA.out (by simp [impl_smallWeights.g0])
        |succ k3 =>
          have H := HA.out
          clear HA
          simp only [impl_smallWeights.g0] at H
          by_cases c1 : 0 ≤ i
          ·rw [if_pos c1] at H
           have c1b : decide (0 ≤ i) = true := decide_eq_true c1
           have c1c : decide (i ≥ 0) = true := decide_eq_true c1
           by_cases c2 : i < (N : Int)
           ·rw [if_pos c2] at H
            obtain ⟨hx, hf⟩ := Kd.R_celln 0 HO.out i c1 c2
            replace hx : wr.cell? ⟨g, i.toNat, none⟩ = some (.int .i64 (rd x2 i)) := hx
            have p1 := eq_true c1
            have p2 := eq_true c2
            by_cases c3 : rd x2 i = m
            ·rw [if_pos c3] at H
             have c3b : (rd x2 i == m) = true := beq_iff_eq.mpr c3
             obtain ⟨z, hz⟩ : ∃ z_ : List Int, z_ = x2.set i.toNat (wrap64 (-m)) := ⟨_, rfl⟩
             rw [← hz] at H
             have NZ := Aside0.mk hz
             have H' := Aside0.mk H
             have HP := Aside0.mk (Kd.R_putn HO.out i (wrap64 (-m)))
             have HGG := Aside0.mk (show w.heap.size ≤ g from HG.out)
             have HQ := Aside0.mk (HIS.out g s2 wr i.toNat (.int .i64 (wrap64 (-m))) HI.out (by obtain ⟨g', c', e, _, _, hc⟩ := Kd.R_form HO.out (by have := (Kd.R_reads' HO.out).1;omega);injection e with e1 _ _;injection e1 with e1;injection e1 with e1;rw [e1];exact hc))
             have HKS := Aside0.mk (HK.out.setCell (p := ⟨g, i.toNat, none⟩) (.inr HG.out) (.int .i64 (wrap64 (-m))))
             clear c1 c2 c3 H hz
             go_wp2
             go_roundg k3
             case measure => have := HK3.out;omega
             case rel => exact ⟨z, wrap64 (i - 1), rfl, H', ⟨by have := HK3.out;omega⟩, ⟨by rw [NZ.out];exact HP.out⟩, HQ, HKS⟩
            ·rw [if_neg c3] at H
             have c3b : (rd x2 i == m) = false := beq_eq_false_iff_ne.mpr c3
             obtain ⟨rfl, rfl⟩ : x2 = y ∧ i = i2 := by simpa using H
             have H := HF.out
             have ci : ¬ i < 0 := by omega
             have cib : decide (i < 0) = false := decide_eq_false ci
             simp only [if_neg ci, if_pos c2] at H
             obtain ⟨z, hz⟩ : ∃ z_ : List Int, z_ = x2.set i.toNat (wrap64 (rd x2 i + 1)) := ⟨_, rfl⟩
             rw [← hz] at H
             have NZ := Aside0.mk hz
             have H' := Aside0.mk H
             have HP := Aside0.mk (Kd.R_putn HO.out i (wrap64 (rd x2 i + 1)))
             have HGG := Aside0.mk (show w.heap.size ≤ g from HG.out)
             have HKS := Aside0.mk (HK.out.setCell (p := ⟨g, i.toNat, none⟩) (.inr HG.out) (.int .i64 (wrap64 (rd x2 i + 1))))
             have HQ := Aside0.mk (HIS.out g s2 wr i.toNat (.int .i64 (wrap64 (rd x2 i + 1))) HI.out (by obtain ⟨g', c', e, _, _, hc⟩ := Kd.R_form HO.out (by have := (Kd.R_reads' HO.out).1;omega);injection e with e1 _ _;injection e1 with e1;injection e1 with e1;rw [e1];exact hc))
             clear c1 c2 c3 ci H hz
             go_wp2
             go_roundg k2
             case measure => have := HK1.out;omega
             case rel => exact ⟨s2, z, H', ⟨by have := HK1.out;omega⟩, ⟨by rw [NZ.out];exact HP.out⟩, HQ, HKS⟩
           ·rw [if_neg c2] at H
            exact absurd H (by simp)
          ·rw [if_neg c1] at H
           have c1b : decide (0 ≤ i) = false := decide_eq_false c1
           have c1c : decide (i ≥ 0) = false := decide_eq_false c1
           obtain ⟨rfl, rfl⟩ : x2 = y ∧ i = i2 := by simpa using H
           have H := HF.out
           have ci : i < 0 := by omega
           have cib : decide (i < 0) = true := decide_eq_true ci
           simp only [if_pos ci] at H
           obtain rfl := Option.some.inj H
           clear c1 ci H
           go_wp2
           first|go_end0|((try simp only [Exit.inBlock, Exit.then]);refine bodyPost_ret (results_none rfl _ _ _) rfl ?_)
           exact ⟨rfl, ⟨g, HG.out, HI.out⟩, HK.out⟩
  ·rw [if_neg c2] at h
   exact absurd h (by simp)
 ·rw [if_neg c1] at h
  exact absurd h (by simp)
theorem size_set (w : World) (p : Addr) (u : Value) : (w.setCell p u).heap.size = w.heap.size := by
 unfold World.setCell
 split <;> (try split) <;> simp
/-- one visit of WidestWeights: the widest weights so far, the square of their width, and their own square -/
def impl_WidestWeights.v (l0_0 : List (List Int)) (l0_1 : List Int) (k : Nat) (s : Option (List Int) × Int × Int) (set : List Int) : Option (Option (List Int) × Int × Int) :=
 (impl_Sample_between.f k l0_0 l0_1 set).bind fun lh => (impl_product.f k set set).bind fun q => (if wrap64 (lh.2 - lh.1) > 0 then (if wrap64 (wrap64 (wrap64 (lh.2 - lh.1) * wrap64 (lh.2 - lh.1)) * s.2.2) > wrap64 (s.2.1 * q) then ((impl_copied.f set).bind fun o => (if 0 < o.length then some (some o, wrap64 (wrap64 (lh.2 - lh.1) * wrap64 (lh.2 - lh.1)), q) else none)) else some s) else some s)
theorem impl_WidestWeights.mono_v (l0_0 : List (List Int)) (l0_1 : List Int) (k : Nat) (s : Option (List Int) × Int × Int) (set : List Int) : LeO (impl_WidestWeights.v l0_0 l0_1 k s set) (impl_WidestWeights.v l0_0 l0_1 (k + 1) s set) := by
 unfold impl_WidestWeights.v
 exact LeO.bind (impl_Sample_between.mono _ _ _ _) fun _ => LeO.bind (impl_product.mono _ _ _) fun _ => LeO.ite (LeO.ite (LeO.refl _) (LeO.refl _)) (LeO.refl _)
/-- what the visits stand on: the sample;the variables bottom, top and best, none of them in block g, nor best's row -/
def impl_WidestWeights.I (w0 : World) (A0_0 : Option Addr) (c0_0 : Nat) (l0_0 : List (List Int)) (A0_1 : Option Addr) (c0_1 : Nat) (l0_1 : List Int) (bs b2 b3 b4 : Nat) (g : Nat) (s : Option (List Int) × Int × Int) (w : World) : Prop :=
 g ≠ bs ∧ g ≠ b2 ∧ g ≠ b3 ∧ g ≠ b4 ∧ w0.heap.size ≤ g ∧ g < w.heap.size ∧ Below w0.heap.size w0 w ∧ w.heap[bs]? = some (.cells #[.slice A0_0 l0_0.length c0_0, .slice A0_1 l0_1.length c0_1] 32 (0, 0)) ∧ w.heap[b2]? = some (.cells #[.int .i64 s.2.2] 3 (0, 0)) ∧ w.heap[b3]? = some (.cells #[.int .i64 s.2.1] 3 (0, 0)) ∧ ∃ v1 : Value, w.heap[b4]? = some (.cells #[v1] 26 (0, 0)) ∧ Kd.R (Kd.int .i64) 3 w w0.heap.size (fun k_ => k_ ≠ g ∧ k_ ≠ b2 ∧ k_ ≠ b3) v1 (s.1.getD []) ∧ (s.1 = none → v1 = .slice none 0 0) ∧ (∀ o, s.1 = some o → 0 < o.length)
theorem impl_WidestWeights.I_below {w0 : World} {A0_0 : Option Addr} {c0_0 : Nat} {l0_0 : List (List Int)} {A0_1 : Option Addr} {c0_1 : Nat} {l0_1 : List Int} {bs b2 b3 b4 g : Nat} {s : Option (List Int) × Int × Int} {w w' : World} (h : impl_WidestWeights.I w0 A0_0 c0_0 l0_0 A0_1 c0_1 l0_1 bs b2 b3 b4 g s w) (hb : Below w.heap.size w w') : impl_WidestWeights.I w0 A0_0 c0_0 l0_0 A0_1 c0_1 l0_1 bs b2 b3 b4 g s w' := by
 obtain ⟨n1, n2, n3, n4, n5, n6, h1, h2, h3, h4, v1, h5, h6, h7, h8⟩ := h
 exact ⟨n1, n2, n3, n4, n5, Nat.lt_of_lt_of_le n6 hb.size, below_step h1 hb, blk_below h2 hb, blk_below h3 hb, blk_below h4 hb, v1, blk_below h5 hb, Kd.R_below h6 hb, h7, h8⟩
theorem impl_WidestWeights.I_set {w0 : World} {A0_0 : Option Addr} {c0_0 : Nat} {l0_0 : List (List Int)} {A0_1 : Option Addr} {c0_1 : Nat} {l0_1 : List Int} {bs b2 b3 b4 g : Nat} {s : Option (List Int) × Int × Int} {w : World} (h : impl_WidestWeights.I w0 A0_0 c0_0 l0_0 A0_1 c0_1 l0_1 bs b2 b3 b4 g s w) (j : Nat) (u : Value) : impl_WidestWeights.I w0 A0_0 c0_0 l0_0 A0_1 c0_1 l0_1 bs b2 b3 b4 g s (w.setCell ⟨g, j, none⟩ u) := by
 obtain ⟨n1, n2, n3, n4, n5, n6, h1, h2, h3, h4, v1, h5, h6, h7, h8⟩ := h
 exact ⟨n1, n2, n3, n4, n5, Nat.lt_of_lt_of_le n6 (Nat.le_of_eq (size_set w ⟨g, j, none⟩ u).symm), below_set h1 n5, blk_far h2 n1.symm u, blk_far h3 n2.symm u, blk_far h4 n3.symm u, v1, blk_far h5 n4.symm u, Kd.R_far h6 (fun k_ hk => hk.1) u, h7, h8⟩
set_option maxHeartbeats 8000000 in
set_option maxRecDepth 100000 in
theorem impl_WidestWeights.vcalls (w0 : World) (A0_0 : Option Addr) (c0_0 : Nat) (l0_0 : List (List Int)) (A0_1 : Option Addr) (c0_1 : Nat) (l0_1 : List Int) (hr0_0 : Kd.C (Kd.slice 3 (Kd.int .i64)) w0 A0_0 l0_0.length l0_0) (hc0_0 : l0_0.length ≤ c0_0) (hr0_1 : Kd.C (Kd.int .i64) w0 A0_1 l0_1.length l0_1) (hc0_1 : l0_1.length ≤ c0_1)
  (bs b2 b3 b4 : Nat) (hne : bs ≠ b2 ∧ bs ≠ b3 ∧ bs ≠ b4 ∧ b2 ≠ b3 ∧ b2 ≠ b4 ∧ b3 ≠ b4) (hle : w0.heap.size ≤ b2 ∧ w0.heap.size ≤ b3 ∧ w0.heap.size ≤ b4)
  (g : Nat) (k : Nat) (s : Option (List Int) × Int × Int) (set : List Int) (s' : Option (List Int) × Int × Int) (c : Nat) (w : World) (hi : impl_WidestWeights.I w0 A0_0 c0_0 l0_0 A0_1 c0_1 l0_1 bs b2 b3 b4 g s w) (hset : ∀ W', Kept w W' (fun k_ => k_ = b2 ∨ k_ = b3 ∨ k_ = b4) → (Kd.int .i64).C W' (some ⟨g, 0, none⟩) set.length set) (hc : set.length ≤ c) (h : impl_WidestWeights.v l0_0 l0_1 k s set = some s') :
  Calls Try.prog 79 (#[.slice (some ⟨g, 0, none⟩) set.length c] ++ #[.pointer (some ⟨bs, 0, none⟩), .pointer (some ⟨b2, 0, none⟩), .pointer (some ⟨b3, 0, none⟩), .pointer (some ⟨b4, 0, none⟩)]) w fun e w' => e = .returned (.tuple #[]) ∧ impl_WidestWeights.I w0 A0_0 c0_0 l0_0 A0_1 c0_1 l0_1 bs b2 b3 b4 g s' w' ∧ Kept w w' (fun k_ => k_ = b2 ∨ k_ = b3 ∨ k_ = b4) := by
 have hu32 := Try.underlying32
 have HR0 := Aside0.mk hr0_0
 have HC0 := Aside0.mk hc0_0
 have HR1 := Aside0.mk hr0_1
 have HC1 := Aside0.mk hc0_1
 have HNE := Aside0.mk hne
 have HLE := Aside0.mk hle
 have HW := Aside0.mk hi
 have HS := Aside0.mk hset
 have HL := Aside0.mk hc
 have HB := Aside0.mk (Below.refl w.heap.size w)
 unfold impl_WidestWeights.v at h
 obtain ⟨⟨lo, hi_⟩, A10, H⟩ := Option.bind_eq_some_iff.mp h
 obtain ⟨q, A20, H⟩ := Option.bind_eq_some_iff.mp H
 have A1 := Aside0.mk A10
 have A2 := Aside0.mk A20
 obtain ⟨_, _, _, _, _, _, _, J2, J3, J4, _⟩ := hi
 have hz0 : w.cell? ⟨bs, 0, none⟩ = some (.slice A0_0 l0_0.length c0_0) := (blk_cell J2 0).trans rfl
 have hz1 : w.cell? ⟨bs, 1, none⟩ = some (.slice A0_1 l0_1.length c0_1) := (blk_cell J2 1).trans rfl
 clear hr0_0 hc0_0 hr0_1 hc0_1 hne hle hset hc h A10 A20 J2 J3 J4
 have HH := Aside0.mk H
 clear H
 by_cases c1 : wrap64 (hi_ - lo) > 0
 ·have c1b : decide (wrap64 (hi_ - lo) > 0) = true := decide_eq_true c1
  have c1c : decide (0 < wrap64 (hi_ - lo)) = true := decide_eq_true c1
  by_cases c2 : wrap64 (wrap64 (wrap64 (hi_ - lo) * wrap64 (hi_ - lo)) * s.2.2) > wrap64 (s.2.1 * q)
  ·have c2b : decide (wrap64 (s.2.1 * q) < wrap64 (wrap64 (wrap64 (hi_ - lo) * wrap64 (hi_ - lo)) * s.2.2)) = true := decide_eq_true c2
   have H := HH.out
   simp only [if_pos c1, if_pos c2] at H
   obtain ⟨cp, A30, H⟩ := Option.bind_eq_some_iff.mp H
   have A3 := Aside0.mk A30
   by_cases c3 : 0 < cp.length
   ·rw [if_pos c3] at H
    obtain rfl := Option.some.inj H
    have HP := Aside0.mk c3
    clear c1 c2 c3 H A30 HH
    go_enter Try.func79, Try.ntmps79
    go_wp2_with (first
    |((with_reducible refine gate_callee (f := 80) rfl ?_);refine goesL_ (some 13) rfl rfl Try.func80 (by kernel_rfl) rfl #[.agg #[.slice A0_0 l0_0.length c0_0, .slice A0_1 l0_1.length c0_1], .slice (some ⟨g, 0, none⟩) set.length c] rfl (by (try simp only [List.map_toArray, List.map_cons, List.map_nil]);first|done|rfl) ?_;have hb05 := Aside0.mk (show Below w0.heap.size w0 w from HW.out.2.2.2.2.2.2.1);(with_reducible refine (impl_Sample_between.calls k _ _ l0_0 _ _ l0_1 _ _ set lo hi_ _ ?s1 HC0.out ?s2 HC1.out ?s3 HL.out A1.out).mono ?_);(case s1 => exact Kd.C_below HR0.out hb05.out);(case s2 => exact Kd.C_below HR1.out hb05.out);(case s3 => exact HS.out _ (Kept.of_below HB.out _));rintro e w9 ⟨rfl, hb⟩;refine ⟨_, rfl, ?_⟩;have HI := Aside0.mk (impl_WidestWeights.I_below HW.out hb);have n0_ := Aside0.mk (below_step HB.out hb);clear HB hb hb05 hz0 hz1;have HB := n0_;clear n0_)
    |((with_reducible refine gate_callee (f := 81) rfl ?_);refine goesL_ (some 21) rfl rfl Try.func81 (by kernel_rfl) rfl #[.slice (some ⟨g, 0, none⟩) set.length c, .slice (some ⟨g, 0, none⟩) set.length c] rfl (by (try simp only [List.map_toArray, List.map_cons, List.map_nil]);first|done|rfl) ?_;(with_reducible refine (impl_product.calls k _ _ set _ _ set q _ ?s1 HL.out ?s2 HL.out A2.out).mono ?_);(case s1 => exact HS.out _ (Kept.of_below HB.out _));(case s2 => exact HS.out _ (Kept.of_below HB.out _));rintro e w19 ⟨rfl, hd⟩;refine ⟨_, rfl, ?_⟩;obtain ⟨nd, rfl⟩ := hd;have HI2 := Aside0.mk (impl_WidestWeights.I_below HI.out (pw_below_drewN (Below.refl _ _) nd));have n0_ := Aside0.mk (pw_below_drewN HB.out nd);clear HB HI;have HB := n0_;clear n0_;obtain ⟨wd, hwd⟩ : ∃ wd : World, w9.drewN nd = wd := ⟨_, rfl⟩;rw [hwd] at HB HI2 ⊢;clear hwd;have hy2 : wd.cell? ⟨b2, 0, none⟩ = some (.int .i64 s.2.2) := (blk_cell HI2.out.2.2.2.2.2.2.2.2.1 0).trans rfl;have hy3 : wd.cell? ⟨b3, 0, none⟩ = some (.int .i64 s.2.1) := (blk_cell HI2.out.2.2.2.2.2.2.2.2.2.1 0).trans rfl)
    |((with_reducible refine gate_callee (f := 82) rfl ?_);refine goesL_ (some 36) rfl rfl Try.func82 (by kernel_rfl) rfl #[.slice (some ⟨g, 0, none⟩) set.length c] rfl (by (try simp only [List.map_toArray, List.map_cons, List.map_nil]);first|done|rfl) ?_;(with_reducible refine (impl_copied.calls _ _ set cp _ ?s1 HL.out A3.out).mono ?_);(case s1 => exact HS.out _ (Kept.of_below HB.out _));rintro e w29 ⟨v29, rfl, ho0, hb⟩;refine ⟨_, rfl, ?_⟩;have HLT := Aside0.mk (show g < wd.heap.size ∧ b2 < wd.heap.size ∧ b3 < wd.heap.size ∧ w0.heap.size ≤ wd.heap.size from ⟨HI2.out.2.2.2.2.2.1, blk_lt HI2.out.2.2.2.2.2.2.2.2.1, blk_lt HI2.out.2.2.2.2.2.2.2.2.2.1, HI2.out.2.2.2.2.2.2.1.size⟩);have HI3 := Aside0.mk (impl_WidestWeights.I_below HI2.out hb);have HO := Aside0.mk ho0;have HBC := Aside0.mk hb;have n0_ := Aside0.mk (below_step HB.out hb);clear HB hb ho0 hy2 hy3;have HB := n0_;clear n0_;obtain ⟨Ac, cc, ec⟩ := Kd.R_slice HO.out;subst ec;obtain ⟨N1, N2, N3, N4, N5, N6, J1, J2, J3, J4, x1, J5, J6, J7, J8⟩ := HI3.out;have hs2 : w29.cell? ⟨b2, 0, none⟩ = some (.int .i64 s.2.2) := (blk_cell J3 0).trans rfl;have hf2 := blk_frozen J3 0;have hs3 : w29.cell? ⟨b3, 0, none⟩ = some (.int .i64 s.2.1) := (blk_cell J4 0).trans rfl;have hf3 := blk_frozen J4 0;have hs4 : w29.cell? ⟨b4, 0, none⟩ = some x1 := (blk_cell J5 0).trans rfl;have hf4 := blk_frozen J5 0;have hn1 := HNE.out.2.2.2.1;have hn2 := HNE.out.2.2.2.2.1;have hn3 := HNE.out.2.2.2.2.2;have hn4 := Ne.symm HNE.out.2.2.2.1;have hn5 := Ne.symm HNE.out.2.2.2.2.1;have hn6 := Ne.symm HNE.out.2.2.2.2.2;have HJ1 := Aside0.mk J1;have HJ2 := Aside0.mk J2;have HJ3 := Aside0.mk J3;have HJ4 := Aside0.mk J4;have HJ5 := Aside0.mk J5;have HN := Aside0.mk (And.intro N1 (And.intro N2 (And.intro N3 (And.intro N4 (And.intro N5 N6)))));clear J1 J2 J3 J4 J5 J6 J7 J8 N1 N2 N3 N4 N5 N6 HI2)
    |fail)
    first|go_end0|((try simp only [Exit.inBlock, Exit.then]);refine bodyPost_ret (results_none rfl _ _ _) rfl ?_)
    have HO2 := Kd.R_lower (Kd.R_mono (ok' := fun k_ => k_ ≠ g ∧ k_ ≠ b2 ∧ k_ ≠ b3) (Kd.R_bound HO.out) (fun k_ hk => ⟨by have := hk.2.1;have := HLT.out.1;omega, by have := hk.2.1;have := HLT.out.2.1;omega, by have := hk.2.1;have := HLT.out.2.2.1;omega⟩)) HLT.out.2.2.2
    refine ⟨rfl, ⟨HN.out.1, HN.out.2.1, HN.out.2.2.1, HN.out.2.2.2.1, HN.out.2.2.2.2.1, ?_, below_set (below_set (below_set HJ1.out HLE.out.2.2) HLE.out.2.1) HLE.out.1, blk_far (blk_far (blk_far HJ2.out HNE.out.2.2.1 _) HNE.out.2.1 _) HNE.out.1 _, blk_put (blk_far (blk_far HJ3.out HNE.out.2.2.2.2.1 _) HNE.out.2.2.2.1 _) 0 _ rfl, blk_far (blk_put (blk_far HJ4.out HNE.out.2.2.2.2.2 _) 0 _ rfl) (Ne.symm HNE.out.2.2.2.1) _, _, blk_far (blk_far (blk_put HJ5.out 0 _ rfl) (Ne.symm HNE.out.2.2.2.2.2) _) (Ne.symm HNE.out.2.2.2.2.1) _, Kd.R_far (Kd.R_far (Kd.R_set HO2 HJ5.out (by decide) 0 _) (fun k_ hk => hk.2.2) _) (fun k_ hk => hk.2.1) _, fun h => by simp at h, fun o h => by obtain rfl := Option.some.inj h;exact HP.out⟩, (((Kept.of_below HB.out (fun k_ => k_ = b2 ∨ k_ = b3 ∨ k_ = b4)).setCell (p := ⟨b4, 0, none⟩) (.inl (.inr (.inr rfl))) _).setCell (p := ⟨b3, 0, none⟩) (.inl (.inr (.inl rfl))) _).setCell (p := ⟨b2, 0, none⟩) (.inl (.inl rfl)) _⟩
    rw [size_set, size_set, size_set]
    exact HN.out.2.2.2.2.2
   ·rw [if_neg c3] at H
    exact absurd H (by simp)
  ·have c2b : decide (wrap64 (s.2.1 * q) < wrap64 (wrap64 (wrap64 (hi_ - lo) * wrap64 (hi_ - lo)) * s.2.2)) = false := decide_eq_false c2
   have H := HH.out
   simp only [if_pos c1, if_neg c2] at H
   obtain rfl := Option.some.inj H
   clear c1 c2 H HH
   go_enter Try.func79, Try.ntmps79
   go_wp2_with (first
 |((with_reducible refine gate_callee (f := 80) rfl ?_);refine goesL_ (some 13) rfl rfl Try.func80 (by kernel_rfl) rfl #[.agg #[.slice A0_0 l0_0.length c0_0, .slice A0_1 l0_1.length c0_1], .slice (some ⟨g, 0, none⟩) set.length c] rfl (by (try simp only [List.map_toArray, List.map_cons, List.map_nil]);first|done|rfl) ?_;have hb05 := Aside0.mk (show Below w0.heap.size w0 w from HW.out.2.2.2.2.2.2.1);(with_reducible refine (impl_Sample_between.calls k _ _ l0_0 _ _ l0_1 _ _ set lo hi_ _ ?s1 HC0.out ?s2 HC1.out ?s3 HL.out A1.out).mono ?_);(case s1 => exact Kd.C_below HR0.out hb05.out);(case s2 => exact Kd.C_below HR1.out hb05.out);(case s3 => exact HS.out _ (Kept.of_below HB.out _));rintro e w9 ⟨rfl, hb⟩;refine ⟨_, rfl, ?_⟩;have HI := Aside0.mk (impl_WidestWeights.I_below HW.out hb);have n0_ := Aside0.mk (below_step HB.out hb);clear HB hb hb05 hz0 hz1;have HB := n0_;clear n0_)
 |((with_reducible refine gate_callee (f := 81) rfl ?_);refine goesL_ (some 21) rfl rfl Try.func81 (by kernel_rfl) rfl #[.slice (some ⟨g, 0, none⟩) set.length c, .slice (some ⟨g, 0, none⟩) set.length c] rfl (by (try simp only [List.map_toArray, List.map_cons, List.map_nil]);first|done|rfl) ?_;(with_reducible refine (impl_product.calls k _ _ set _ _ set q _ ?s1 HL.out ?s2 HL.out A2.out).mono ?_);(case s1 => exact HS.out _ (Kept.of_below HB.out _));(case s2 => exact HS.out _ (Kept.of_below HB.out _));rintro e w19 ⟨rfl, hd⟩;refine ⟨_, rfl, ?_⟩;obtain ⟨nd, rfl⟩ := hd;have HI2 := Aside0.mk (impl_WidestWeights.I_below HI.out (pw_below_drewN (Below.refl _ _) nd));have n0_ := Aside0.mk (pw_below_drewN HB.out nd);clear HB HI;have HB := n0_;clear n0_;obtain ⟨wd, hwd⟩ : ∃ wd : World, w9.drewN nd = wd := ⟨_, rfl⟩;rw [hwd] at HB HI2 ⊢;clear hwd;have hy2 : wd.cell? ⟨b2, 0, none⟩ = some (.int .i64 s.2.2) := (blk_cell HI2.out.2.2.2.2.2.2.2.2.1 0).trans rfl;have hy3 : wd.cell? ⟨b3, 0, none⟩ = some (.int .i64 s.2.1) := (blk_cell HI2.out.2.2.2.2.2.2.2.2.2.1 0).trans rfl)
 |fail)
   first|go_end0|((try simp only [Exit.inBlock, Exit.then]);refine bodyPost_ret (results_none rfl _ _ _) rfl ?_)
   exact ⟨rfl, HI2.out, Kept.of_below HB.out _⟩
 ·have c1b : decide (wrap64 (hi_ - lo) > 0) = false := decide_eq_false c1
  have c1c : decide (0 < wrap64 (hi_ - lo)) = false := decide_eq_false c1
  have H := HH.out
  simp only [if_neg c1] at H
  obtain rfl := Option.some.inj H
  clear c1 H HH
  go_enter Try.func79, Try.ntmps79
  go_wp2_with (first
 |((with_reducible refine gate_callee (f := 80) rfl ?_);refine goesL_ (some 13) rfl rfl Try.func80 (by kernel_rfl) rfl #[.agg #[.slice A0_0 l0_0.length c0_0, .slice A0_1 l0_1.length c0_1], .slice (some ⟨g, 0, none⟩) set.length c] rfl (by (try simp only [List.map_toArray, List.map_cons, List.map_nil]);first|done|rfl) ?_;have hb05 := Aside0.mk (show Below w0.heap.size w0 w from HW.out.2.2.2.2.2.2.1);(with_reducible refine (impl_Sample_between.calls k _ _ l0_0 _ _ l0_1 _ _ set lo hi_ _ ?s1 HC0.out ?s2 HC1.out ?s3 HL.out A1.out).mono ?_);(case s1 => exact Kd.C_below HR0.out hb05.out);(case s2 => exact Kd.C_below HR1.out hb05.out);(case s3 => exact HS.out _ (Kept.of_below HB.out _));rintro e w9 ⟨rfl, hb⟩;refine ⟨_, rfl, ?_⟩;have HI := Aside0.mk (impl_WidestWeights.I_below HW.out hb);have n0_ := Aside0.mk (below_step HB.out hb);clear HB hb hb05 hz0 hz1;have HB := n0_;clear n0_)
 |((with_reducible refine gate_callee (f := 81) rfl ?_);refine goesL_ (some 21) rfl rfl Try.func81 (by kernel_rfl) rfl #[.slice (some ⟨g, 0, none⟩) set.length c, .slice (some ⟨g, 0, none⟩) set.length c] rfl (by (try simp only [List.map_toArray, List.map_cons, List.map_nil]);first|done|rfl) ?_;(with_reducible refine (impl_product.calls k _ _ set _ _ set q _ ?s1 HL.out ?s2 HL.out A2.out).mono ?_);(case s1 => exact HS.out _ (Kept.of_below HB.out _));(case s2 => exact HS.out _ (Kept.of_below HB.out _));rintro e w19 ⟨rfl, hd⟩;refine ⟨_, rfl, ?_⟩;obtain ⟨nd, rfl⟩ := hd;have HI2 := Aside0.mk (impl_WidestWeights.I_below HI.out (pw_below_drewN (Below.refl _ _) nd));have n0_ := Aside0.mk (pw_below_drewN HB.out nd);clear HB HI;have HB := n0_;clear n0_;obtain ⟨wd, hwd⟩ : ∃ wd : World, w9.drewN nd = wd := ⟨_, rfl⟩;rw [hwd] at HB HI2 ⊢;clear hwd;have hy2 : wd.cell? ⟨b2, 0, none⟩ = some (.int .i64 s.2.2) := (blk_cell HI2.out.2.2.2.2.2.2.2.2.1 0).trans rfl;have hy3 : wd.cell? ⟨b3, 0, none⟩ = some (.int .i64 s.2.1) := (blk_cell HI2.out.2.2.2.2.2.2.2.2.2.1 0).trans rfl)
 |fail)
  first|go_end0|((try simp only [Exit.inBlock, Exit.then]);refine bodyPost_ret (results_none rfl _ _ _) rfl ?_)
  exact ⟨rfl, HI2.out, Kept.of_below HB.out _⟩
def impl_WidestWeights.f (k : Nat) (l0_0 : List (List Int)) (l0_1 : List Int) (m : Int) : Option (List Int × Bool) := (impl_isMixed.f k l0_0 l0_1).bind fun t => (if t = true then ((impl_within.f m 0 5).bind fun u => (if u = true then (if 0 < (l0_0.length : Int) then ((impl_smallWeights.f (impl_WidestWeights.v l0_0 l0_1) k (none, 0, 1) ((rd_L1 l0_0 0).length : Int) m).bind fun s => some (s.1.getD [], s.1.isSome)) else none) else some ([], false))) else some ([], false))
theorem impl_WidestWeights.mono : ∀ a0 a1 a2 k, LeO (impl_WidestWeights.f k a0 a1 a2) (impl_WidestWeights.f (k + 1) a0 a1 a2) := fun a0 a1 a2 k => by
 unfold impl_WidestWeights.f
 exact LeO.bind (impl_isMixed.mono _ _ _) fun _ => LeO.ite (LeO.bind (LeO.refl _) fun _ => LeO.ite (LeO.ite (LeO.bind (impl_smallWeights.mono _ (impl_WidestWeights.mono_v _ _) _ _ _ _) fun _ => LeO.refl _) (LeO.refl _)) (LeO.refl _)) (LeO.refl _)
set_option maxHeartbeats 8000000 in
set_option maxRecDepth 100000 in
theorem impl_WidestWeights.calls (k : Nat) (A0_0 : Option Addr) (c0_0 : Nat) (l0_0 : List (List Int)) (A0_1 : Option Addr) (c0_1 : Nat) (l0_1 : List Int) (m : Int) (r1 : List Int) (r2 : Bool) (w : World) (hr0_0 : Kd.C (Kd.slice 3 (Kd.int .i64)) w A0_0 l0_0.length l0_0) (hc0_0 : l0_0.length ≤ c0_0) (hr0_1 : Kd.C (Kd.int .i64) w A0_1 l0_1.length l0_1) (hc0_1 : l0_1.length ≤ c0_1) (h : impl_WidestWeights.f k l0_0 l0_1 m = some (r1, r2)) :
  Calls Try.prog 20 #[.agg #[.slice A0_0 l0_0.length c0_0, .slice A0_1 l0_1.length c0_1], .int .i64 m] w fun e w' => ∃ v0_ : Value, e = .returned (.tuple #[v0_, .bool r2]) ∧ Kd.R (Kd.int .i64) 3 w' w.heap.size (fun _ => True) v0_ r1 ∧ Below w.heap.size w w' := by
 have hu32 := Try.underlying32
 have hu26 := Try.underlying26
 have hmf : ∀ (fn : Fn) (first cap : Array Value) (w : World), (Instr.makeFunc fn first cap).run Try.prog w = .ok (.func fn first cap) w := fun _ _ _ _ => rfl
 have HR0 := Aside0.mk hr0_0
 have HC0 := Aside0.mk hc0_0
 have HR1 := Aside0.mk hr0_1
 have HC1 := Aside0.mk hc0_1
 have HB := Aside0.mk (Below.refl w.heap.size w)
 unfold impl_WidestWeights.f at h
 obtain ⟨t, A10, H⟩ := Option.bind_eq_some_iff.mp h
 have A1 := Aside0.mk A10
 clear hr0_0 hc0_0 hr0_1 hc0_1 h A10
 cases t with
|false =>
  simp only [Bool.false_eq_true, if_false, Option.some.injEq, Prod.mk.injEq] at H
  obtain ⟨rfl, rfl⟩ := H
  go_enter Try.func20, Try.ntmps20
  go_wp2_with (first
  |((with_reducible refine gate_dst (N := 2) rfl ?_);refine box_event ?hg (N := 2) ?hd (cs := #[.slice A0_0 l0_0.length c0_0, .slice A0_1 l0_1.length c0_1]) (t := 32) ?hr ?_;(case hd => rfl);(case hg => rfl);(case hr => first|(go_simp;done)|(go_simp;rfl));intro bs hg w9 hbox hb;have B1 := Aside0.mk (below_step HB.out hb);have K1 := Aside0.mk hbox;have hz0 : w9.cell? ⟨bs, 0, none⟩ = some (.slice A0_0 l0_0.length c0_0) := (blk_cell hbox 0).trans rfl;have hz1 : w9.cell? ⟨bs, 1, none⟩ = some (.slice A0_1 l0_1.length c0_1) := (blk_cell hbox 1).trans rfl;clear HB hb hbox hg)
  |((with_reducible refine gate_callee (f := 77) rfl ?_);refine goesL_ (some 10) rfl rfl Try.func77 (by kernel_rfl) rfl #[.agg #[.slice A0_0 l0_0.length c0_0, .slice A0_1 l0_1.length c0_1]] rfl (by (try simp only [List.map_toArray, List.map_cons, List.map_nil]);first|done|rfl) ?_;(with_reducible refine (impl_isMixed.calls k A0_0 c0_0 l0_0 A0_1 c0_1 l0_1 false _ ?s1 HC0.out ?s2 HC1.out A1.out).mono ?_);(case s1 => exact Kd.C_below HR0.out B1.out);(case s2 => exact Kd.C_below HR1.out B1.out);rintro e w11 ⟨rfl, hb⟩;refine ⟨_, rfl, ?_⟩;have B2 := Aside0.mk (below_step B1.out hb);have K2 := Aside0.mk (blk_below K1.out hb);have hy0 : w11.cell? ⟨bs, 0, none⟩ = some (.slice A0_0 l0_0.length c0_0) := (blk_cell K2.out 0).trans rfl;clear B1 K1 hz0 hz1 hb)
  |fail)
  refine bodyPost_ret (v := .tuple #[.slice none 0 0, .bool false]) (by simp [results, Try.results20, go_sem]) rfl ?_
  exact ⟨_, rfl, Kd.R_nil _ _ _ _ _, B2.out⟩
|true =>
  simp only [if_true] at H
  obtain ⟨u, A20, H⟩ := Option.bind_eq_some_iff.mp H
  have A2 := Aside0.mk A20
  clear A20
  cases u with
 |false =>
   simp only [Bool.false_eq_true, if_false, Option.some.injEq, Prod.mk.injEq] at H
   obtain ⟨rfl, rfl⟩ := H
   go_enter Try.func20, Try.ntmps20
   go_wp2_with (first
   |((with_reducible refine gate_dst (N := 2) rfl ?_);refine box_event ?hg (N := 2) ?hd (cs := #[.slice A0_0 l0_0.length c0_0, .slice A0_1 l0_1.length c0_1]) (t := 32) ?hr ?_;(case hd => rfl);(case hg => rfl);(case hr => first|(go_simp;done)|(go_simp;rfl));intro bs hg w9 hbox hb;have B1 := Aside0.mk (below_step HB.out hb);have K1 := Aside0.mk hbox;have hz0 : w9.cell? ⟨bs, 0, none⟩ = some (.slice A0_0 l0_0.length c0_0) := (blk_cell hbox 0).trans rfl;have hz1 : w9.cell? ⟨bs, 1, none⟩ = some (.slice A0_1 l0_1.length c0_1) := (blk_cell hbox 1).trans rfl;clear HB hb hbox hg)
   |((with_reducible refine gate_callee (f := 77) rfl ?_);refine goesL_ (some 10) rfl rfl Try.func77 (by kernel_rfl) rfl #[.agg #[.slice A0_0 l0_0.length c0_0, .slice A0_1 l0_1.length c0_1]] rfl (by (try simp only [List.map_toArray, List.map_cons, List.map_nil]);first|done|rfl) ?_;(with_reducible refine (impl_isMixed.calls k A0_0 c0_0 l0_0 A0_1 c0_1 l0_1 true _ ?s1 HC0.out ?s2 HC1.out A1.out).mono ?_);(case s1 => exact Kd.C_below HR0.out B1.out);(case s2 => exact Kd.C_below HR1.out B1.out);rintro e w11 ⟨rfl, hb⟩;refine ⟨_, rfl, ?_⟩;have B2 := Aside0.mk (below_step B1.out hb);have K2 := Aside0.mk (blk_below K1.out hb);have hy0 : w11.cell? ⟨bs, 0, none⟩ = some (.slice A0_0 l0_0.length c0_0) := (blk_cell K2.out 0).trans rfl;clear B1 K1 hz0 hz1 hb)
   |fail)
   refine (impl_within.calls m 0 5 false _ A2.out).mono ?_
   rintro e w12 ⟨rfl, hd⟩
   obtain ⟨nd, rfl⟩ := hd
   have B3 := Aside0.mk (pw_below_drewN B2.out nd)
   have K3 := Aside0.mk (blk_below K2.out (pw_below_drewN (Below.refl _ _) nd))
   clear B2 K2 hy0
   obtain ⟨wd, hwd⟩ : ∃ wd : World, w11.drewN nd = wd := ⟨_, rfl⟩
   rw [hwd] at B3 K3
   (try rw [hwd])
   clear hwd
   have hy0 : wd.cell? ⟨bs, 0, none⟩ = some (.slice A0_0 l0_0.length c0_0) := (blk_cell K3.out 0).trans rfl
   go_wp2
   refine bodyPost_ret (v := .tuple #[.slice none 0 0, .bool false]) (by simp [results, Try.results20, go_sem]) rfl ?_
   exact ⟨_, rfl, Kd.R_nil _ _ _ _ _, B3.out⟩
 |true =>
   simp only [if_true] at H
   by_cases c2 : 0 < (l0_0.length : Int)
   ·rw [if_pos c2] at H
    obtain ⟨⟨sb, st, sz⟩, A40, H⟩ := Option.bind_eq_some_iff.mp H
    have A4 := Aside0.mk A40
    obtain ⟨rfl, rfl⟩ : sb.getD [] = r1 ∧ sb.isSome = r2 := by simpa using H
    obtain ⟨ad, A1_, c1_, ea, hx, hl, hi⟩ := at_L1 HR0.out 0 (by omega) c2
    cases ea
    have qi : (0 < l0_0.length) = True := eq_true (by omega)
    (try rw [show ((0 : Int)).toNat = 0 from rfl] at hx)
    (try rw [Addr.add_zero'] at hx)
    have c2t := eq_true c2
    have c2b : decide (0 < (l0_0.length : Int)) = true := decide_eq_true c2
    have hX := Aside0.mk hx
    clear hl hi c2 A40 H hx
    go_enter Try.func20, Try.ntmps20
    go_wp2_with (first
    |((with_reducible refine gate_dst (N := 2) rfl ?_);refine box_event ?hg (N := 2) ?hd (cs := #[.slice (some ad) l0_0.length c0_0, .slice A0_1 l0_1.length c0_1]) (t := 32) ?hr ?_;(case hd => rfl);(case hg => rfl);(case hr => first|(go_simp;done)|(go_simp;rfl));intro bs hg w9 hbox hb;have B1 := Aside0.mk (below_step HB.out hb);have K1 := Aside0.mk hbox;have hz0 : w9.cell? ⟨bs, 0, none⟩ = some (.slice (some ad) l0_0.length c0_0) := (blk_cell hbox 0).trans rfl;have hz1 : w9.cell? ⟨bs, 1, none⟩ = some (.slice A0_1 l0_1.length c0_1) := (blk_cell hbox 1).trans rfl;clear HB hb hbox hg)
    |((with_reducible refine gate_callee (f := 77) rfl ?_);refine goesL_ (some 10) rfl rfl Try.func77 (by kernel_rfl) rfl #[.agg #[.slice (some ad) l0_0.length c0_0, .slice A0_1 l0_1.length c0_1]] rfl (by (try simp only [List.map_toArray, List.map_cons, List.map_nil]);first|done|rfl) ?_;(with_reducible refine (impl_isMixed.calls k (some ad) c0_0 l0_0 A0_1 c0_1 l0_1 true _ ?s1 HC0.out ?s2 HC1.out A1.out).mono ?_);(case s1 => exact Kd.C_below HR0.out B1.out);(case s2 => exact Kd.C_below HR1.out B1.out);rintro e w11 ⟨rfl, hb⟩;refine ⟨_, rfl, ?_⟩;have B2 := Aside0.mk (below_step B1.out hb);have K2 := Aside0.mk (blk_below K1.out hb);have hy0 : w11.cell? ⟨bs, 0, none⟩ = some (.slice (some ad) l0_0.length c0_0) := (blk_cell K2.out 0).trans rfl;clear B1 K1 hz0 hz1 hb)
    |fail)
    refine (impl_within.calls m 0 5 true _ A2.out).mono ?_
    rintro e w12 ⟨rfl, hd⟩
    obtain ⟨nd, rfl⟩ := hd
    have B3 := Aside0.mk (pw_below_drewN B2.out nd)
    have K3 := Aside0.mk (blk_below K2.out (pw_below_drewN (Below.refl _ _) nd))
    clear B2 K2 hy0
    obtain ⟨wd, hwd⟩ : ∃ wd : World, w11.drewN nd = wd := ⟨_, rfl⟩
    rw [hwd] at B3 K3
    (try rw [hwd])
    clear hwd
    have hy0 : wd.cell? ⟨bs, 0, none⟩ = some (.slice (some ad) l0_0.length c0_0) := (blk_cell K3.out 0).trans rfl
    go_wp2_with (first
    |((with_reducible refine gate_dst (N := 6) rfl ?_);refine box_event ?hg (N := 6) ?hd (cs := #[.slice none 0 0]) (t := 26) ?hr ?_;(case hd => rfl);(case hg => rfl);(case hr => first|(go_simp;done)|(go_simp;rfl)|kernel_rfl);intro b4 hg w21 hbox hb;have B4 := Aside0.mk (below_step B3.out hb);have K4 := Aside0.mk (blk_below K3.out hb);have L4 := Aside0.mk hbox;have Z4 := Aside0.mk (show w.heap.size ≤ b4 by rw [hg];exact B3.out.size);have N4 := Aside0.mk (show bs ≠ b4 by (have := blk_lt K3.out;omega));clear B3 K3 hy0 hbox hb hg)
    |((with_reducible refine gate_dst (N := 7) rfl ?_);refine box_event ?hg (N := 7) ?hd (cs := #[.int .i64 0]) (t := 3) ?hr ?_;(case hd => rfl);(case hg => rfl);(case hr => first|(go_simp;done)|(go_simp;rfl)|kernel_rfl);intro b3 hg w22 hbox hb;have B5 := Aside0.mk (below_step B4.out hb);have K5 := Aside0.mk (blk_below K4.out hb);have L5 := Aside0.mk (blk_below L4.out hb);have M5 := Aside0.mk hbox;have Z5 := Aside0.mk (show w.heap.size ≤ b3 by rw [hg];exact B4.out.size);have N5 := Aside0.mk (show bs ≠ b3 ∧ b4 ≠ b3 by (have l1 := blk_lt K4.out;have l2 := blk_lt L4.out;omega));clear B4 K4 L4 hbox hb hg)
    |((with_reducible refine gate_dst (N := 8) rfl ?_);refine box_event ?hg (N := 8) ?hd (cs := #[.int .i64 0]) (t := 3) ?hr ?_;(case hd => rfl);(case hg => rfl);(case hr => first|(go_simp;done)|(go_simp;rfl)|kernel_rfl);intro b2 hg w23 hbox hb;have B6 := Aside0.mk (below_step B5.out hb);have K6 := Aside0.mk (blk_below K5.out hb);have L6 := Aside0.mk (blk_below L5.out hb);have M6 := Aside0.mk (blk_below M5.out hb);have P6 := Aside0.mk hbox;have Z6 := Aside0.mk (show w.heap.size ≤ b2 by rw [hg];exact B5.out.size);have N6 := Aside0.mk (show bs ≠ b2 ∧ b4 ≠ b2 ∧ b3 ≠ b2 by (have l1 := blk_lt K5.out;have l2 := blk_lt L5.out;have l3 := blk_lt M5.out;omega));have hs4 : w23.cell? ⟨b4, 0, none⟩ = some (.slice none 0 0) := (blk_cell L6.out 0).trans rfl;have hf4 := blk_frozen L6.out 0;have hs3 : w23.cell? ⟨b3, 0, none⟩ = some (.int .i64 0) := (blk_cell M6.out 0).trans rfl;have hf3 := blk_frozen M6.out 0;have hs2 : w23.cell? ⟨b2, 0, none⟩ = some (.int .i64 0) := (blk_cell P6.out 0).trans rfl;have hf2 := blk_frozen P6.out 0;have hn1 := N5.out.2;have hn2 := N6.out.2.1;have hn3 := N6.out.2.2;have hn4 := Ne.symm N5.out.2;have hn5 := Ne.symm N6.out.2.1;have hn6 := Ne.symm N6.out.2.2;have BF := Aside0.mk (below_set (j := 0) (v := .int .i64 1) (below_set (j := 0) (v := .int .i64 0) (below_set (j := 0) (v := .slice none 0 0) B6.out Z4.out) Z5.out) Z6.out);have KF := Aside0.mk (blk_far (p := ⟨b2, 0, none⟩) (blk_far (p := ⟨b3, 0, none⟩) (blk_far (p := ⟨b4, 0, none⟩) K6.out N4.out (.slice none 0 0)) N5.out.1 (.int .i64 0)) N6.out.1 (.int .i64 1));have P7 := Aside0.mk (blk_put (blk_far (p := ⟨b3, 0, none⟩) (blk_far (p := ⟨b4, 0, none⟩) P6.out (Ne.symm N6.out.2.1) (.slice none 0 0)) (Ne.symm N6.out.2.2) (.int .i64 0)) 0 (.int .i64 1) rfl);have M7 := Aside0.mk (blk_far (p := ⟨b2, 0, none⟩) (blk_put (blk_far (p := ⟨b4, 0, none⟩) M6.out (Ne.symm N5.out.2) (.slice none 0 0)) 0 (.int .i64 0) rfl) N6.out.2.2 (.int .i64 1));have L7 := Aside0.mk (blk_far (p := ⟨b2, 0, none⟩) (blk_far (p := ⟨b3, 0, none⟩) (blk_put L6.out 0 (.slice none 0 0) rfl) N5.out.2 (.int .i64 0)) N6.out.2.1 (.int .i64 1));have hq0 : (((w23.setCell ⟨b4, 0, none⟩ (.slice none 0 0)).setCell ⟨b3, 0, none⟩ (.int .i64 0)).setCell ⟨b2, 0, none⟩ (.int .i64 1)).cell? ⟨bs, 0, none⟩ = some (.slice (some ad) l0_0.length c0_0) := (blk_cell KF.out 0).trans rfl;have hqx : (((w23.setCell ⟨b4, 0, none⟩ (.slice none 0 0)).setCell ⟨b3, 0, none⟩ (.int .i64 0)).setCell ⟨b2, 0, none⟩ (.int .i64 1)).cell? ad = some (.slice A1_ (rd_L1 l0_0 0).length c1_) := (BF.out.cell (World.block_lt_of_cell? w _ hX.out)).trans hX.out;clear B5 K5 L5 M5 hbox hb hg)
    |fail)
    have HNE : Aside0 (bs ≠ b2 ∧ bs ≠ b3 ∧ bs ≠ b4 ∧ b2 ≠ b3 ∧ b2 ≠ b4 ∧ b3 ≠ b4) := ⟨⟨N6.out.1, N5.out.1, N4.out, Ne.symm N6.out.2.2, Ne.symm N6.out.2.1, Ne.symm N5.out.2⟩⟩
    have HLE : Aside0 (w.heap.size ≤ b2 ∧ w.heap.size ≤ b3 ∧ w.heap.size ≤ b4) := ⟨⟨Z6.out, Z5.out, Z4.out⟩⟩
    refine (impl_smallWeights.calls (impl_WidestWeights.v l0_0 l0_1) 79 #[.pointer (some ⟨bs, 0, none⟩), .pointer (some ⟨b2, 0, none⟩), .pointer (some ⟨b3, 0, none⟩), .pointer (some ⟨b4, 0, none⟩)] (ent_of Try.func79 (by kernel_rfl) rfl) (impl_WidestWeights.I w (some ad) c0_0 l0_0 A0_1 c0_1 l0_1 bs b2 b3 b4) (fun k_ => k_ = b2 ∨ k_ = b3 ∨ k_ = b4) (fun g s w j u hI_ _ => impl_WidestWeights.I_set hI_ j u) (impl_WidestWeights.vcalls w (some ad) c0_0 l0_0 A0_1 c0_1 l0_1 HR0.out HC0.out HR1.out HC1.out bs b2 b3 b4 HNE.out HLE.out) k (none, 0, 1) ((rd_L1 l0_0 0).length : Int) m (sb, st, sz) _ ?pi ?ps A4.out).mono ?_
    case pi => exact fun g w1 hg hg1 hb => ⟨by have := blk_lt KF.out;omega, by have := blk_lt P7.out;omega, by have := blk_lt M7.out;omega, by have := blk_lt L7.out;omega, Nat.le_trans BF.out.size hg, hg1, below_step BF.out hb, blk_below KF.out hb, blk_below P7.out hb, blk_below M7.out hb, .slice none 0 0, blk_below L7.out hb, Kd.R_nil _ _ _ _ _, fun _ => rfl, fun o h => by simp at h⟩
    case ps => exact fun k_ hk_ => by rcases hk_ with rfl|rfl|rfl;exact blk_lt P7.out;exact blk_lt M7.out;exact blk_lt L7.out
    rintro e w31 ⟨rfl, ⟨g, hg, hi9⟩, hk9⟩
    obtain ⟨_, _, _, _, _, _, J1, _, _, _, x1, J5, J6, J7, J8⟩ := hi9
    have Q1 := Aside0.mk J1
    have Q6 := Aside0.mk J6
    have hs9 : w31.cell? ⟨b4, 0, none⟩ = some x1 := (blk_cell J5 0).trans rfl
    clear hg hk9 J1 J5 J6 BF KF P7 M7 L7 hq0 hqx
    cases sb with
   |none =>
     obtain rfl := J7 rfl
     clear J7 J8
     go_wp2
     refine start_ (n := 5) (S := fun w' => w'.cell? ⟨b4, 0, none⟩ = some (.slice none 0 0)) (ds := []) #[false, false, false, false, false] (by kernel_rfl) rfl rfl hs9 (fun hHeld => ?_)
     have n1_ := Aside0.mk (pw_below_drewN Q1.out 1)
     have n2_ := Aside0.mk (Kd.R_drewN Q6.out 1)
     clear Q1 Q6 hs9
     obtain ⟨wd, hwd⟩ : ∃ wd : World, w31.drew = wd := ⟨_, rfl⟩
     have hwe : w31.drewN 1 = wd := hwd
     rw [hwe] at n1_ n2_
     rw [hwd] at hHeld ⊢
     clear hwe hwd
     have Q1 := n1_
     have Q6 := n2_
     clear n1_ n2_
     refine take_ (i := 0) (N := some 25) (v := ?_) (a' := ?_) #[true, false, false, false, false] rfl rfl (by kernel_rfl) (fun _ _ _ h => h) (Or.inl ⟨by rfl, ?_⟩) hHeld ?_ ?_
     rotate_left
     ·rintro w' s0
      go_simp
      with_reducible rfl
     rotate_left
     ·simp only [Act.put, List.setIfInBounds_toArray, List.set_cons_zero, List.set_cons_succ, i64_w, i32_w]
      rfl
     refine take_ (i := 1) (N := some 26) (v := ?_) (a' := ?_) #[true, true, false, false, false] rfl rfl (by kernel_rfl) (fun _ _ _ h => h) (Or.inl ⟨by rfl, ?_⟩) hHeld ?_ ?_
     rotate_left
     ·rintro w' s0
      go_simp
      with_reducible rfl
     rotate_left
     ·simp only [Act.put, List.setIfInBounds_toArray, List.set_cons_zero, List.set_cons_succ, i64_w, i32_w]
      rfl
     refine pure_ (i := 2) (N := some 27) (v := ?_) (a' := ?_) #[true, true, true, false, false] rfl rfl (by kernel_rfl) (fun _ _ _ h => h) (Or.inl ⟨by rfl, ?_⟩) ?_ ?_
     rotate_left
     ·intro w'
      go_simp
      with_reducible rfl
     rotate_left
     ·simp only [Act.put, List.setIfInBounds_toArray, List.set_cons_zero, List.set_cons_succ, i64_w, i32_w]
      rfl
     refine pure_ (i := 3) (N := some 4) (v := ?_) (a' := ?_) #[true, true, true, true, false] rfl rfl (by kernel_rfl) (fun _ _ _ h => h) (Or.inl ⟨by rfl, ?_⟩) ?_ ?_
     rotate_left
     ·intro w'
      go_simp
      with_reducible rfl
     rotate_left
     ·simp only [Act.put, List.setIfInBounds_toArray, List.set_cons_zero, List.set_cons_succ, i64_w, i32_w]
      rfl
     refine pure_ (i := 4) (N := some 5) (v := ?_) (a' := ?_) #[true, true, true, true, true] rfl rfl (by kernel_rfl) (fun _ _ _ h => h) (Or.inl ⟨by rfl, ?_⟩) ?_ ?_
     rotate_left
     ·intro w'
      go_simp
      with_reducible rfl
     rotate_left
     ·simp only [Act.put, List.setIfInBounds_toArray, List.set_cons_zero, List.set_cons_succ, i64_w, i32_w]
      rfl
     refine done_ (by kernel_rfl) ?_
     go_wp2
     refine bodyPost_ret (v := .tuple #[.slice none 0 0, .bool false]) (by simp [results, Try.results20, go_sem]) rfl ?_
     exact ⟨_, rfl, Kd.R_nil _ _ _ _ _, by repeat (first|(with_reducible first|exact Q1.out|apply below_alloc|apply pw_below_drewN|apply below_drew1)|exact Q1.out)⟩
   |some o =>
     obtain ⟨g', c', ev, _, _, _⟩ := Kd.R_form Q6.out (J8 o rfl)
     subst ev
     clear J7 J8
     go_wp2
     refine start_ (n := 5) (S := fun w' => w'.cell? ⟨b4, 0, none⟩ = some (.slice (some ⟨g', 0, none⟩) o.length c')) (ds := []) #[false, false, false, false, false] (by kernel_rfl) rfl rfl hs9 (fun hHeld => ?_)
     have n1_ := Aside0.mk (pw_below_drewN Q1.out 1)
     have n2_ := Aside0.mk (Kd.R_drewN Q6.out 1)
     clear Q1 Q6 hs9
     obtain ⟨wd, hwd⟩ : ∃ wd : World, w31.drew = wd := ⟨_, rfl⟩
     have hwe : w31.drewN 1 = wd := hwd
     rw [hwe] at n1_ n2_
     rw [hwd] at hHeld ⊢
     clear hwe hwd
     have Q1 := n1_
     have Q6 := n2_
     clear n1_ n2_
     refine take_ (i := 0) (N := some 25) (v := ?_) (a' := ?_) #[true, false, false, false, false] rfl rfl (by kernel_rfl) (fun _ _ _ h => h) (Or.inl ⟨by rfl, ?_⟩) hHeld ?_ ?_
     rotate_left
     ·rintro w' s0
      go_simp
      with_reducible rfl
     rotate_left
     ·simp only [Act.put, List.setIfInBounds_toArray, List.set_cons_zero, List.set_cons_succ, i64_w, i32_w]
      rfl
     refine take_ (i := 1) (N := some 26) (v := ?_) (a' := ?_) #[true, true, false, false, false] rfl rfl (by kernel_rfl) (fun _ _ _ h => h) (Or.inl ⟨by rfl, ?_⟩) hHeld ?_ ?_
     rotate_left
     ·rintro w' s0
      go_simp
      with_reducible rfl
     rotate_left
     ·simp only [Act.put, List.setIfInBounds_toArray, List.set_cons_zero, List.set_cons_succ, i64_w, i32_w]
      rfl
     refine pure_ (i := 2) (N := some 27) (v := ?_) (a' := ?_) #[true, true, true, false, false] rfl rfl (by kernel_rfl) (fun _ _ _ h => h) (Or.inl ⟨by rfl, ?_⟩) ?_ ?_
     rotate_left
     ·intro w'
      go_simp
      with_reducible rfl
     rotate_left
     ·simp only [Act.put, List.setIfInBounds_toArray, List.set_cons_zero, List.set_cons_succ, i64_w, i32_w]
      rfl
     refine pure_ (i := 3) (N := some 4) (v := ?_) (a' := ?_) #[true, true, true, true, false] rfl rfl (by kernel_rfl) (fun _ _ _ h => h) (Or.inl ⟨by rfl, ?_⟩) ?_ ?_
     rotate_left
     ·intro w'
      go_simp
      with_reducible rfl
     rotate_left
     ·simp only [Act.put, List.setIfInBounds_toArray, List.set_cons_zero, List.set_cons_succ, i64_w, i32_w]
      rfl
     refine pure_ (i := 4) (N := some 5) (v := ?_) (a' := ?_) #[true, true, true, true, true] rfl rfl (by kernel_rfl) (fun _ _ _ h => h) (Or.inl ⟨by rfl, ?_⟩) ?_ ?_
     rotate_left
     ·intro w'
      go_simp
      with_reducible rfl
     rotate_left
     ·simp only [Act.put, List.setIfInBounds_toArray, List.set_cons_zero, List.set_cons_succ, i64_w, i32_w]
      rfl
     refine done_ (by kernel_rfl) ?_
     go_wp2
     refine bodyPost_ret (v := .tuple #[.slice (some ⟨g', 0, none⟩) o.length c', .bool true]) (by simp [results, Try.results20, go_sem]) rfl ?_
     exact ⟨_, rfl, Kd.R_mono (by (with_reducible repeat (first|apply Kd.R_alloc|apply Kd.R_drewN|apply Kd.R_drew));exact Q6.out) (fun _ _ => trivial), by repeat (first|(with_reducible first|exact Q1.out|apply below_alloc|apply pw_below_drewN|apply below_drew1)|exact Q1.out)⟩
   ·rw [if_neg c2] at H
    exact absurd H (by simp)

/-! ### laws_eqIntS: function 21 -/
def laws_eqIntS.l0 : Nat → List Int → List Int → Int → Option (Bool)
|0, _, _, _ => none
|k + 1, x0, x1, x5 => if x5 < (x0.length : Int) then (if 0 ≤ x5 then (if x5 < (x1.length : Int) then (if (rd x0 x5) = (rd x1 x5) then (laws_eqIntS.l0 k x0 x1 (wrap64 (x5 + 1))) else (some false)) else (none)) else (none)) else (some true)
def laws_eqIntS.f (k : Nat) (l0 : List Int) (l1 : List Int) : Option (Bool) := if (l0.length : Int) = (l1.length : Int) then (laws_eqIntS.l0 k l0 l1 0) else (some false)
theorem laws_eqIntS.mono_l : ∀ k, (∀ y0 y1 y2, LeO (laws_eqIntS.l0 k y0 y1 y2) (laws_eqIntS.l0 (k + 1) y0 y1 y2))
|0 => fun _ _ _ r h => by simp [laws_eqIntS.l0] at h
|k + 1 => by
  have ih0 := laws_eqIntS.mono_l k
  ·intro y0 y1 y2
   unfold laws_eqIntS.l0
   repeat' first
  |(with_reducible exact ih0 _ _ _)
  |(with_reducible exact LeO.refl _)
  |(with_reducible exact LeO.none _)
  |(with_reducible refine LeO.ite ?_ ?_)
  |(with_reducible refine LeO.bind ?_ (fun _ => ?_))
  |exact ih0 _ _ _
  |exact LeO.none _
  |refine LeO.ite ?_ ?_
  |refine LeO.bind ?_ (fun _ => ?_)
theorem laws_eqIntS.mono : ∀ a0 a1 k, LeO (laws_eqIntS.f k a0 a1) (laws_eqIntS.f (k + 1) a0 a1) := by
 intro a0 a1 k
 have ih0 := laws_eqIntS.mono_l k
 unfold laws_eqIntS.f
 repeat' first
  |(with_reducible exact ih0 _ _ _)
  |(with_reducible exact LeO.refl _)
  |(with_reducible exact LeO.none _)
  |(with_reducible refine LeO.ite ?_ ?_)
  |(with_reducible refine LeO.bind ?_ (fun _ => ?_))
  |exact ih0 _ _ _
  |exact LeO.none _
  |refine LeO.ite ?_ ?_
  |refine LeO.bind ?_ (fun _ => ?_)
set_option maxHeartbeats 8000000 in
set_option maxRecDepth 100000 in
theorem laws_eqIntS.calls (k : Nat) (A0 : Option Addr) (c0 : Nat) (l0 : List Int) (A1 : Option Addr) (c1 : Nat) (l1 : List Int) (r : Bool) (w : World) (hr0 : Kd.C (Kd.int .i64) w A0 l0.length l0) (hc0 : l0.length ≤ c0) (hr1 : Kd.C (Kd.int .i64) w A1 l1.length l1) (hc1 : l1.length ≤ c1) (h : laws_eqIntS.f k l0 l1 = some r) :
  Calls Try.prog 21 #[.slice A0 l0.length c0, .slice A1 l1.length c1] w fun e w' => e = .returned (.bool r) ∧ Drawn0 w w' := by
 have HR0 := Aside0.mk hr0
 have HC0 := Aside0.mk hc0
 clear hr0 hc0
 have HR1 := Aside0.mk hr1
 have HC1 := Aside0.mk hc1
 clear hr1 hc1
 have H : (if (l0.length : Int) = (l1.length : Int) then (laws_eqIntS.l0 k l0 l1 0) else (some false)) = some r := h
 clear h
 by_cases c3 : (l0.length : Int) = (l1.length : Int)
 ·rw [if_pos c3] at H
  have c3b0 : ((l0.length : Int) == (l1.length : Int)) = true := beq_iff_eq.mpr c3
  have c3b1 : ((l0.length : Int) != (l1.length : Int)) = false := bne_eq_false_iff_eq.mpr c3
  have c3b2 : (l0.length == l1.length) = true := by first|simpa using c3|(simp at c3 ⊢;omega)
  clear c3
  have H' := Aside0.mk H
  clear H
  go_enter Try.func21, Try.ntmps21
  go_wp2
  repeat (go_quiet (fail);try go_wp2)
  go_loopg [5] k (fun kq v5 w' => ∃ (x5_1 : Int), v5 = .int .i64 x5_1 ∧ Aside0 (laws_eqIntS.l0 kq l0 l1 x5_1 = some r) ∧ Aside0 (kq ≤ k) ∧ Drawn0 w w')
  case atStart => exact ⟨(0), (by first|rfl|(simp;done)|(simp [*];done)), H', ⟨Nat.le_refl _⟩, by repeat (first|exact Drawn0.refl _|apply Drawn0.step)⟩
  case round =>
   clear H'
   try clear c1
   try clear c2
   try clear p2
   try clear c3
   try clear c3b0
   try clear c3b1
   try clear c3b2
   obtain ⟨x5_1, rfl, HA, HK1, ⟨m1, rfl⟩⟩ := hrel
   cases gk with
  |zero => exact absurd HA.out (by simp [laws_eqIntS.l0])
  |succ k1 =>
    have H := HA.out
    clear HA
    simp only [laws_eqIntS.l0] at H
    by_cases c4 : x5_1 < (l0.length : Int)
    ·rw [if_pos c4] at H
     have c4b0 : decide (x5_1 < (l0.length : Int)) = true := decide_eq_true c4
     clear c4
     by_cases c5 : 0 ≤ x5_1
     ·rw [if_pos c5] at H
      have c5b0 : decide (0 ≤ x5_1) = true := decide_eq_true c5
      clear c5
      by_cases c6 : x5_1 < (l1.length : Int)
      ·rw [if_pos c6] at H
       have c6b0 : decide (x5_1 < (l1.length : Int)) = true := decide_eq_true c6
       clear c6
       by_cases c7 : (rd l0 x5_1) = (rd l1 x5_1)
       ·rw [if_pos c7] at H
        have c7b0 : ((rd l0 x5_1) == (rd l1 x5_1)) = true := beq_iff_eq.mpr c7
        have c7b1 : ((rd l0 x5_1) != (rd l1 x5_1)) = false := bne_eq_false_iff_eq.mpr c7
        clear c7
        have H' := Aside0.mk H
        clear H
        have p244 : 0 ≤ (x5_1 : Int) := of_decide_eq_true (by first|(with_reducible assumption)|assumption)
        have q244 : x5_1 < (l0.length : Int) := of_decide_eq_true (by first|(with_reducible assumption)|assumption)
        obtain ⟨ad244, e244, hx244_0⟩ := Kd.at_int HR0.out x5_1 p244 q244
        cases e244
        replace p244 := eq_true p244
        replace q244 := eq_true q244
        have p245 : 0 ≤ (x5_1 : Int) := of_decide_eq_true (by first|(with_reducible assumption)|assumption)
        have q245 : x5_1 < (l1.length : Int) := of_decide_eq_true (by first|(with_reducible assumption)|assumption)
        obtain ⟨ad245, e245, hx245_0⟩ := Kd.at_int HR1.out x5_1 p245 q245
        cases e245
        replace p245 := eq_true p245
        replace q245 := eq_true q245
        go_wp2
        repeat (go_quiet (fail);try go_wp2)
        go_roundg k1
        case measure => have := HK1.out;omega
        case rel => exact ⟨(wrap64 (x5_1 + 1)), (by first|rfl|(simp;done)|(simp [*];done)), H', ⟨by have := HK1.out;omega⟩, by repeat (first|exact Drawn0.refl _|apply Drawn0.step)⟩
       ·rw [if_neg c7] at H
        have c7b0 : ((rd l0 x5_1) == (rd l1 x5_1)) = false := beq_eq_false_iff_ne.mpr c7
        have c7b1 : ((rd l0 x5_1) != (rd l1 x5_1)) = true := bne_iff_ne.mpr c7
        obtain rfl := Option.some.inj H
        have p244 : 0 ≤ (x5_1 : Int) := of_decide_eq_true (by first|(with_reducible assumption)|assumption)
        have q244 : x5_1 < (l0.length : Int) := of_decide_eq_true (by first|(with_reducible assumption)|assumption)
        obtain ⟨ad244, e244, hx244_0⟩ := Kd.at_int HR0.out x5_1 p244 q244
        cases e244
        replace p244 := eq_true p244
        replace q244 := eq_true q244
        have p245 : 0 ≤ (x5_1 : Int) := of_decide_eq_true (by first|(with_reducible assumption)|assumption)
        have q245 : x5_1 < (l1.length : Int) := of_decide_eq_true (by first|(with_reducible assumption)|assumption)
        obtain ⟨ad245, e245, hx245_0⟩ := Kd.at_int HR1.out x5_1 p245 q245
        cases e245
        replace p245 := eq_true p245
        replace q245 := eq_true q245
        go_wp2
        repeat (go_quiet (fail);try go_wp2)
        go_ret
        exact ⟨by first|rfl|(simp;done)|(simp [*];done), by repeat (first|exact Drawn0.refl _|apply Drawn0.step)⟩
      ·rw [if_neg c6] at H
       exact absurd H (by simp)
     ·rw [if_neg c5] at H
      exact absurd H (by simp)
    ·rw [if_neg c4] at H
     have c4b0 : decide (x5_1 < (l0.length : Int)) = false := decide_eq_false c4
     clear c4
     obtain rfl := Option.some.inj H
     go_wp2
     repeat (go_quiet (fail);try go_wp2)
     go_ret
     exact ⟨by first|rfl|(simp;done)|(simp [*];done), by repeat (first|exact Drawn0.refl _|apply Drawn0.step)⟩
 ·rw [if_neg c3] at H
  have c3b0 : ((l0.length : Int) == (l1.length : Int)) = false := beq_eq_false_iff_ne.mpr c3
  have c3b1 : ((l0.length : Int) != (l1.length : Int)) = true := bne_iff_ne.mpr c3
  have c3b2 : (l0.length == l1.length) = false := by first|simpa using c3|(simp at c3 ⊢;omega)
  obtain rfl := Option.some.inj H
  go_enter Try.func21, Try.ntmps21
  go_wp2
  repeat (go_quiet (fail);try go_wp2)
  go_ret
  exact ⟨by first|rfl|(simp;done)|(simp [*];done), by repeat (first|exact Drawn0.refl _|apply Drawn0.step)⟩

/-! ### laws_eqIntSS: function 30 -/
def laws_eqIntSS.l0 : Nat → List (List Int) → List (List Int) → Int → Option (Bool)
|0, _, _, _ => none
|k + 1, x0, x1, x5 => if x5 < (x0.length : Int) then (if 0 ≤ x5 then (if x5 < (x1.length : Int) then ((laws_eqIntS.f k (rd_L1 x0 x5) (rd_L1 x1 x5)).bind fun t248 => (if t248 = true then (laws_eqIntSS.l0 k x0 x1 (wrap64 (x5 + 1))) else (some false))) else (none)) else (none)) else (some true)
def laws_eqIntSS.f (k : Nat) (l0 : List (List Int)) (l1 : List (List Int)) : Option (Bool) := if (l0.length : Int) = (l1.length : Int) then (laws_eqIntSS.l0 k l0 l1 0) else (some false)
theorem laws_eqIntSS.mono_l : ∀ k, (∀ y0 y1 y2, LeO (laws_eqIntSS.l0 k y0 y1 y2) (laws_eqIntSS.l0 (k + 1) y0 y1 y2))
|0 => fun _ _ _ r h => by simp [laws_eqIntSS.l0] at h
|k + 1 => by
  have ih0 := laws_eqIntSS.mono_l k
  ·intro y0 y1 y2
   unfold laws_eqIntSS.l0
   repeat' first
  |(with_reducible exact ih0 _ _ _)
  |(with_reducible exact laws_eqIntS.mono _ _ _)
  |(with_reducible exact LeO.refl _)
  |(with_reducible exact LeO.none _)
  |(with_reducible refine LeO.ite ?_ ?_)
  |(with_reducible refine LeO.bind ?_ (fun _ => ?_))
  |exact ih0 _ _ _
  |exact laws_eqIntS.mono _ _ _
  |exact LeO.none _
  |refine LeO.ite ?_ ?_
  |refine LeO.bind ?_ (fun _ => ?_)
theorem laws_eqIntSS.mono : ∀ a0 a1 k, LeO (laws_eqIntSS.f k a0 a1) (laws_eqIntSS.f (k + 1) a0 a1) := by
 intro a0 a1 k
 have ih0 := laws_eqIntSS.mono_l k
 unfold laws_eqIntSS.f
 repeat' first
  |(with_reducible exact ih0 _ _ _)
  |(with_reducible exact laws_eqIntS.mono _ _ _)
  |(with_reducible exact LeO.refl _)
  |(with_reducible exact LeO.none _)
  |(with_reducible refine LeO.ite ?_ ?_)
  |(with_reducible refine LeO.bind ?_ (fun _ => ?_))
  |exact ih0 _ _ _
  |exact laws_eqIntS.mono _ _ _
  |exact LeO.none _
  |refine LeO.ite ?_ ?_
  |refine LeO.bind ?_ (fun _ => ?_)
set_option maxHeartbeats 8000000 in
set_option maxRecDepth 100000 in
theorem laws_eqIntSS.calls (k : Nat) (A0 : Option Addr) (c0 : Nat) (l0 : List (List Int)) (A1 : Option Addr) (c1 : Nat) (l1 : List (List Int)) (r : Bool) (w : World) (hr0 : Kd.C (Kd.slice 3 (Kd.int .i64)) w A0 l0.length l0) (hc0 : l0.length ≤ c0) (hr1 : Kd.C (Kd.slice 3 (Kd.int .i64)) w A1 l1.length l1) (hc1 : l1.length ≤ c1) (h : laws_eqIntSS.f k l0 l1 = some r) :
  Calls Try.prog 30 #[.slice A0 l0.length c0, .slice A1 l1.length c1] w fun e w' => e = .returned (.bool r) ∧ Drawn0 w w' := by
 have HR0 := Aside0.mk hr0
 have HC0 := Aside0.mk hc0
 clear hr0 hc0
 have HR1 := Aside0.mk hr1
 have HC1 := Aside0.mk hc1
 clear hr1 hc1
 have H : (if (l0.length : Int) = (l1.length : Int) then (laws_eqIntSS.l0 k l0 l1 0) else (some false)) = some r := h
 clear h
 by_cases c3 : (l0.length : Int) = (l1.length : Int)
 ·rw [if_pos c3] at H
  have c3b0 : ((l0.length : Int) == (l1.length : Int)) = true := beq_iff_eq.mpr c3
  have c3b1 : ((l0.length : Int) != (l1.length : Int)) = false := bne_eq_false_iff_eq.mpr c3
  have c3b2 : (l0.length == l1.length) = true := by first|simpa using c3|(simp at c3 ⊢;omega)
  clear c3
  have H' := Aside0.mk H
  clear H
  go_enter Try.func30, Try.ntmps30
  go_wp2
  repeat (go_quiet (fail);try go_wp2)
  go_loopg [5] k (fun kq v5 w' => ∃ (x5_1 : Int), v5 = .int .i64 x5_1 ∧ Aside0 (laws_eqIntSS.l0 kq l0 l1 x5_1 = some r) ∧ Aside0 (kq ≤ k) ∧ Drawn0 w w')
  case atStart => exact ⟨(0), (by first|rfl|(simp;done)|(simp [*];done)), H', ⟨Nat.le_refl _⟩, by repeat (first|exact Drawn0.refl _|apply Drawn0.step)⟩
  case round =>
   clear H'
   try clear c1
   try clear p2
   try clear c3
   try clear c3b0
   try clear c3b1
   try clear c3b2
   obtain ⟨x5_1, rfl, HA, HK1, ⟨m1, rfl⟩⟩ := hrel
   cases gk with
  |zero => exact absurd HA.out (by simp [laws_eqIntSS.l0])
  |succ k1 =>
    have H := HA.out
    clear HA
    simp only [laws_eqIntSS.l0] at H
    by_cases c4 : x5_1 < (l0.length : Int)
    ·rw [if_pos c4] at H
     have c4b0 : decide (x5_1 < (l0.length : Int)) = true := decide_eq_true c4
     clear c4
     by_cases c5 : 0 ≤ x5_1
     ·rw [if_pos c5] at H
      have c5b0 : decide (0 ≤ x5_1) = true := decide_eq_true c5
      clear c5
      by_cases c6 : x5_1 < (l1.length : Int)
      ·rw [if_pos c6] at H
       have c6b0 : decide (x5_1 < (l1.length : Int)) = true := decide_eq_true c6
       clear c6
       replace H := Option.bind_eq_some_iff.mp H
       obtain ⟨t248, A70, H⟩ := H
       replace H : (if t248 = true then (laws_eqIntSS.l0 k1 l0 l1 (wrap64 (x5_1 + 1))) else (some false)) = some r := H
       have A7 := Aside0.mk A70
       clear A70
       by_cases c8 : t248 = true
       ·subst c8
        have H1 : (laws_eqIntSS.l0 k1 l0 l1 (wrap64 (x5_1 + 1))) = some r := by rw [if_pos rfl] at H;exact H
        clear H
        have H := H1
        clear H1
        have H' := Aside0.mk H
        clear H
        have p246 : 0 ≤ (x5_1 : Int) := of_decide_eq_true (by first|(with_reducible assumption)|assumption)
        have q246 : x5_1 < (l0.length : Int) := of_decide_eq_true (by first|(with_reducible assumption)|assumption)
        obtain ⟨ad246, A246_0, c246_0, e246, hx246_0, hl246_0, hi246_0⟩ := at_L1 HR0.out x5_1 p246 q246
        cases e246
        have HR246_0 := Aside0.mk hi246_0
        have HC246_0 := Aside0.mk hl246_0
        clear hi246_0 hl246_0
        replace p246 := eq_true p246
        replace q246 := eq_true q246
        have p247 : 0 ≤ (x5_1 : Int) := of_decide_eq_true (by first|(with_reducible assumption)|assumption)
        have q247 : x5_1 < (l1.length : Int) := of_decide_eq_true (by first|(with_reducible assumption)|assumption)
        obtain ⟨ad247, A247_0, c247_0, e247, hx247_0, hl247_0, hi247_0⟩ := at_L1 HR1.out x5_1 p247 q247
        cases e247
        have HR247_0 := Aside0.mk hi247_0
        have HC247_0 := Aside0.mk hl247_0
        clear hi247_0 hl247_0
        replace p247 := eq_true p247
        replace q247 := eq_true q247
        go_wp2_with (first|(go_at_call 21;(with_reducible refine (laws_eqIntS.calls k1 _ _ (rd_L1 l0 x5_1) _ _ (rd_L1 l1 x5_1) true _ ?side1 ?side2 ?side3 ?side4 A7.out).mono ?_);(case side1 => repeat (first|exact HR246_0.out|(with_reducible refine Kd.C_alloc ?_ _)|(with_reducible refine Kd.C_drewN ?_ _)|(with_reducible refine Kd.C_drew ?_)));(case side2 => exact HC246_0.out);(case side3 => repeat (first|exact HR247_0.out|(with_reducible refine Kd.C_alloc ?_ _)|(with_reducible refine Kd.C_drewN ?_ _)|(with_reducible refine Kd.C_drew ?_)));(case side4 => exact HC247_0.out);rintro e w' ⟨rfl, ⟨nd, rfl⟩⟩;(try first|exact ⟨rfl, _, World.drewN_drewN _ _ _⟩|exact ⟨rfl, _, Eq.trans (World.drewN_drewN _ _ _) (congrArg (World.drewN _) (Nat.add_assoc _ _ _))⟩)))
        repeat (go_quiet (first|(go_at_call 21;(with_reducible refine (laws_eqIntS.calls k1 _ _ (rd_L1 l0 x5_1) _ _ (rd_L1 l1 x5_1) true _ ?side1 ?side2 ?side3 ?side4 A7.out).mono ?_);(case side1 => repeat (first|exact HR246_0.out|(with_reducible refine Kd.C_alloc ?_ _)|(with_reducible refine Kd.C_drewN ?_ _)|(with_reducible refine Kd.C_drew ?_)));(case side2 => exact HC246_0.out);(case side3 => repeat (first|exact HR247_0.out|(with_reducible refine Kd.C_alloc ?_ _)|(with_reducible refine Kd.C_drewN ?_ _)|(with_reducible refine Kd.C_drew ?_)));(case side4 => exact HC247_0.out);rintro e w' ⟨rfl, ⟨nd, rfl⟩⟩;(try first|exact ⟨rfl, _, World.drewN_drewN _ _ _⟩|exact ⟨rfl, _, Eq.trans (World.drewN_drewN _ _ _) (congrArg (World.drewN _) (Nat.add_assoc _ _ _))⟩)));try go_wp2_with (first|(go_at_call 21;(with_reducible refine (laws_eqIntS.calls k1 _ _ (rd_L1 l0 x5_1) _ _ (rd_L1 l1 x5_1) true _ ?side1 ?side2 ?side3 ?side4 A7.out).mono ?_);(case side1 => repeat (first|exact HR246_0.out|(with_reducible refine Kd.C_alloc ?_ _)|(with_reducible refine Kd.C_drewN ?_ _)|(with_reducible refine Kd.C_drew ?_)));(case side2 => exact HC246_0.out);(case side3 => repeat (first|exact HR247_0.out|(with_reducible refine Kd.C_alloc ?_ _)|(with_reducible refine Kd.C_drewN ?_ _)|(with_reducible refine Kd.C_drew ?_)));(case side4 => exact HC247_0.out);rintro e w' ⟨rfl, ⟨nd, rfl⟩⟩;(try first|exact ⟨rfl, _, World.drewN_drewN _ _ _⟩|exact ⟨rfl, _, Eq.trans (World.drewN_drewN _ _ _) (congrArg (World.drewN _) (Nat.add_assoc _ _ _))⟩))))
        go_roundg k1
        case measure => have := HK1.out;omega
        case rel => exact ⟨(wrap64 (x5_1 + 1)), (by first|rfl|(simp;done)|(simp [*];done)), H', ⟨by have := HK1.out;omega⟩, by repeat (first|exact Drawn0.refl _|apply Drawn0.step)⟩
       ·replace c8 := Bool.eq_false_iff.mpr c8
        subst c8
        have H1 : (some false) = some r := by rw [if_neg (show ¬ (false = true) by decide)] at H;exact H
        clear H
        have H := H1
        clear H1
        obtain rfl := Option.some.inj H
        have p246 : 0 ≤ (x5_1 : Int) := of_decide_eq_true (by first|(with_reducible assumption)|assumption)
        have q246 : x5_1 < (l0.length : Int) := of_decide_eq_true (by first|(with_reducible assumption)|assumption)
        obtain ⟨ad246, A246_0, c246_0, e246, hx246_0, hl246_0, hi246_0⟩ := at_L1 HR0.out x5_1 p246 q246
        cases e246
        have HR246_0 := Aside0.mk hi246_0
        have HC246_0 := Aside0.mk hl246_0
        clear hi246_0 hl246_0
        replace p246 := eq_true p246
        replace q246 := eq_true q246
        have p247 : 0 ≤ (x5_1 : Int) := of_decide_eq_true (by first|(with_reducible assumption)|assumption)
        have q247 : x5_1 < (l1.length : Int) := of_decide_eq_true (by first|(with_reducible assumption)|assumption)
        obtain ⟨ad247, A247_0, c247_0, e247, hx247_0, hl247_0, hi247_0⟩ := at_L1 HR1.out x5_1 p247 q247
        cases e247
        have HR247_0 := Aside0.mk hi247_0
        have HC247_0 := Aside0.mk hl247_0
        clear hi247_0 hl247_0
        replace p247 := eq_true p247
        replace q247 := eq_true q247
        go_wp2_with (first|(go_at_call 21;(with_reducible refine (laws_eqIntS.calls k1 _ _ (rd_L1 l0 x5_1) _ _ (rd_L1 l1 x5_1) false _ ?side1 ?side2 ?side3 ?side4 A7.out).mono ?_);(case side1 => repeat (first|exact HR246_0.out|(with_reducible refine Kd.C_alloc ?_ _)|(with_reducible refine Kd.C_drewN ?_ _)|(with_reducible refine Kd.C_drew ?_)));(case side2 => exact HC246_0.out);(case side3 => repeat (first|exact HR247_0.out|(with_reducible refine Kd.C_alloc ?_ _)|(with_reducible refine Kd.C_drewN ?_ _)|(with_reducible refine Kd.C_drew ?_)));(case side4 => exact HC247_0.out);rintro e w' ⟨rfl, ⟨nd, rfl⟩⟩;(try first|exact ⟨rfl, _, World.drewN_drewN _ _ _⟩|exact ⟨rfl, _, Eq.trans (World.drewN_drewN _ _ _) (congrArg (World.drewN _) (Nat.add_assoc _ _ _))⟩)))
        repeat (go_quiet (first|(go_at_call 21;(with_reducible refine (laws_eqIntS.calls k1 _ _ (rd_L1 l0 x5_1) _ _ (rd_L1 l1 x5_1) false _ ?side1 ?side2 ?side3 ?side4 A7.out).mono ?_);(case side1 => repeat (first|exact HR246_0.out|(with_reducible refine Kd.C_alloc ?_ _)|(with_reducible refine Kd.C_drewN ?_ _)|(with_reducible refine Kd.C_drew ?_)));(case side2 => exact HC246_0.out);(case side3 => repeat (first|exact HR247_0.out|(with_reducible refine Kd.C_alloc ?_ _)|(with_reducible refine Kd.C_drewN ?_ _)|(with_reducible refine Kd.C_drew ?_)));(case side4 => exact HC247_0.out);rintro e w' ⟨rfl, ⟨nd, rfl⟩⟩;(try first|exact ⟨rfl, _, World.drewN_drewN _ _ _⟩|exact ⟨rfl, _, Eq.trans (World.drewN_drewN _ _ _) (congrArg (World.drewN _) (Nat.add_assoc _ _ _))⟩)));try go_wp2_with (first|(go_at_call 21;(with_reducible refine (laws_eqIntS.calls k1 _ _ (rd_L1 l0 x5_1) _ _ (rd_L1 l1 x5_1) false _ ?side1 ?side2 ?side3 ?side4 A7.out).mono ?_);(case side1 => repeat (first|exact HR246_0.out|(with_reducible refine Kd.C_alloc ?_ _)|(with_reducible refine Kd.C_drewN ?_ _)|(with_reducible refine Kd.C_drew ?_)));(case side2 => exact HC246_0.out);(case side3 => repeat (first|exact HR247_0.out|(with_reducible refine Kd.C_alloc ?_ _)|(with_reducible refine Kd.C_drewN ?_ _)|(with_reducible refine Kd.C_drew ?_)));(case side4 => exact HC247_0.out);rintro e w' ⟨rfl, ⟨nd, rfl⟩⟩;(try first|exact ⟨rfl, _, World.drewN_drewN _ _ _⟩|exact ⟨rfl, _, Eq.trans (World.drewN_drewN _ _ _) (congrArg (World.drewN _) (Nat.add_assoc _ _ _))⟩))))
        go_ret
        exact ⟨by first|rfl|(simp;done)|(simp [*];done), by repeat (first|exact Drawn0.refl _|apply Drawn0.step)⟩
      ·rw [if_neg c6] at H
       exact absurd H (by simp)
     ·rw [if_neg c5] at H
      exact absurd H (by simp)
    ·rw [if_neg c4] at H
     have c4b0 : decide (x5_1 < (l0.length : Int)) = false := decide_eq_false c4
     clear c4
     obtain rfl := Option.some.inj H
     go_wp2
     repeat (go_quiet (fail);try go_wp2)
     go_ret
     exact ⟨by first|rfl|(simp;done)|(simp [*];done), by repeat (first|exact Drawn0.refl _|apply Drawn0.step)⟩
 ·rw [if_neg c3] at H
  have c3b0 : ((l0.length : Int) == (l1.length : Int)) = false := beq_eq_false_iff_ne.mpr c3
  have c3b1 : ((l0.length : Int) != (l1.length : Int)) = true := bne_iff_ne.mpr c3
  have c3b2 : (l0.length == l1.length) = false := by first|simpa using c3|(simp at c3 ⊢;omega)
  obtain rfl := Option.some.inj H
  go_enter Try.func30, Try.ntmps30
  go_wp2
  repeat (go_quiet (fail);try go_wp2)
  go_ret
  exact ⟨by first|rfl|(simp;done)|(simp [*];done), by repeat (first|exact Drawn0.refl _|apply Drawn0.step)⟩

end Go.Proofs.Ytdjclffkidoohaa.QFnExactWidestWeights
