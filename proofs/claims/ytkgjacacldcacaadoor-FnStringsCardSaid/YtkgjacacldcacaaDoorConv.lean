/- A string turned into bytes: the row that the conversion lays (its array bears a mark behind the bytes), read, stored into and turned back; no condition beyond what each states. -/
import Derived.Test.YtkgjacacldcacaaDoorWMore
import Derived.Test.YtkgjacacldcacaaDoorWLast
import Derived.Lib.ConvBytes
import Derived.Lib.AtoiErrMem
import Derived.Laws.BytesArg
set_option linter.unusedVariables false
namespace Go.Proofs.YtkgjacacldcacaaDoor.BC
open Go.RowKit Go.Proofs.YtkgjacacldcacaaDoorW.PrintWords Go.Proofs.YtkgjacacldcacaaDoorW.PrintLast Go.Proofs.YtkgjacacldcacaaDoorW.PrintMore
/-- a string's bytes, as numbers -/
def bytesL (s : ByteArray) : List Int := s.data.toList.map fun b => ((b.toNat : Nat) : Int)
theorem bytesL_length (s : ByteArray) : (bytesL s).length = s.size := by
  unfold bytesL
  rw [List.length_map]
  rfl
/-- such a row -/
def R (e : Nat) (w : World) (base : Nat) (ok : Nat → Prop) (v : Value) (xs : List Int) : Prop :=
  ∃ g cap cur fz, v = .slice (some ⟨g, 0, none⟩) xs.length cap ∧ base ≤ g ∧ ok g ∧ w.heap[g]? = some (.cells cur e fz) ∧ xs.length ≤ fz.1 ∧ xs.length ≤ cap ∧ xs.length ≤ 9223372036854775807 ∧ ∀ i, i < xs.length → cur[i]? = some (.int .u8 (xs.getD i 0))
section
variable {e : Nat} {w w1 : World} {base base' : Nat} {ok : Nat → Prop} {v : Value} {xs : List Int}
theorem R_lower (h : R e w base ok v xs) (hb : base' ≤ base) : R e w base' ok v xs := by
  obtain ⟨g, cap, cur, fz, h1, h2, h3⟩ := h
  exact ⟨g, cap, cur, fz, h1, Nat.le_trans hb h2, h3⟩
theorem R_below (h : R e w base ok v xs) (hb : Below w.heap.size w w1) : R e w1 base ok v xs := by
  obtain ⟨g, cap, cur, fz, h1, h2, h3, h4, h5⟩ := h
  refine ⟨g, cap, cur, fz, h1, h2, h3, ?_, h5⟩
  rw [hb.block g (Array.getElem?_eq_some_iff.1 h4).1]
  exact h4
theorem R_alloc (h : R e w base ok v xs) (o : Obj) : R e (w.alloc o) base ok v xs := R_below h (below_alloc (Below.refl _ _) o)
theorem R_drew (h : R e w base ok v xs) : R e w.drew base ok v xs := R_below h (below_drew (Below.refl _ _))
theorem R_drewN (h : R e w base ok v xs) (m : Nat) : R e (w.drewN m) base ok v xs := R_below h (pw_below_drewN (Below.refl _ _) m)
theorem R_form (h : R e w base ok v xs) (hp : 0 < xs.length) : ∃ g cap, v = .slice (some ⟨g, 0, none⟩) xs.length cap ∧ base ≤ g ∧ g < w.heap.size ∧ ∃ cells, ∃ fz, w.heap[g]? = some (.cells cells e fz) := by
  obtain ⟨g, cap, cur, fz, h1, h2, h3, h4, h5⟩ := h
  exact ⟨g, cap, h1, h2, (Array.getElem?_eq_some_iff.1 h4).1, cur, fz, h4⟩
theorem R_slice (h : R e w base ok v xs) : ∃ A c, v = .slice A xs.length c := by
  obtain ⟨g, cap, cur, fz, h1, _⟩ := h
  exact ⟨_, _, h1⟩
theorem add_cell (g j : Nat) : (⟨g, 0, none⟩ : Addr).add j = ⟨g, j, none⟩ := by
  unfold Addr.add
  split
  · rename_i h
    subst h
    rfl
  · simp
theorem cell_of {cur : Array Value} {fz : Nat × Nat} {g i : Nat} (h : w.heap[g]? = some (.cells cur e fz)) : w.cell? ⟨g, i, none⟩ = cur[i]? := by
  unfold World.cell?
  simp only [h]
  rfl
theorem R_reads' {A : Option Addr} {n c : Nat} (h : R e w base ok (.slice A n c) xs) : n = xs.length ∧ n ≤ c ∧ (Kd.int .u8).C w A xs.length xs := by
  obtain ⟨g, cap, cur, fz, h1, h2, h3, h4, h5, h6, h7, h8⟩ := h
  injection h1 with a1 a2 a3
  subst a1
  subst a3
  refine ⟨a2, by omega, Kd.C_of_reads (d := (0 : Int)) (h1 := fun _ => rfl) ⟨rfl, h7, fun _ => ⟨_, rfl, fun j hj => ?_⟩⟩⟩
  rw [add_cell, cell_of h4]
  exact h8 j hj
theorem R_celln {g n cap : Nat} (d : Int) (h : R e w base ok (.slice (some ⟨g, 0, none⟩) n cap) xs) (i : Int) (h0 : 0 ≤ i) (hi : i < n) : w.cell? ⟨g, i.toNat, none⟩ = some (.int .u8 (rd xs i)) ∧ w.frozen? ⟨g, i.toNat, none⟩ = false := by
  obtain ⟨g', cap', cur, fz, h1, h2, h3, h4, h5, h6, h7, h8⟩ := h
  injection h1 with a1 a2 a3
  injection a1 with a1
  injection a1 with a1
  subst a1
  subst a2
  have hl : i.toNat < xs.length := by omega
  refine ⟨by rw [cell_of h4]; exact h8 _ hl, ?_⟩
  unfold World.frozen?
  simp only [h4]
  rw [Bool.and_eq_false_iff]
  exact .inl (decide_eq_false (by omega))
theorem R_putn {g n cap : Nat} (h : R e w base ok (.slice (some ⟨g, 0, none⟩) n cap) xs) (i : Int) (x : Int) : R e (w.setCell ⟨g, i.toNat, none⟩ (.int .u8 x)) base ok (.slice (some ⟨g, 0, none⟩) n cap) (xs.set i.toNat x) := by
  obtain ⟨g', cap', cur, fz, h1, h2, h3, h4, h5, h6, h7, h8⟩ := h
  injection h1 with a1 a2 a3
  injection a1 with a1
  injection a1 with a1
  subst a1
  subst a2
  subst a3
  have hh : (w.setCell ⟨g, i.toNat, none⟩ (.int .u8 x)).heap[g]? = some (.cells (cur.setIfInBounds i.toNat (.int .u8 x)) e fz) := by
    unfold World.setCell
    simp only [Array.getElem?_modify, if_true, h4, Option.map_some]
    rfl
  refine ⟨g, cap, cur.setIfInBounds i.toNat (.int .u8 x), fz, by rw [List.length_set], h2, h3, hh, by rw [List.length_set]; exact h5, by rw [List.length_set]; exact h6, by rw [List.length_set]; exact h7, fun j hj => ?_⟩
  rw [List.length_set] at hj
  have hc := h8 j hj
  have hcl := (Array.getElem?_eq_some_iff.1 hc).1
  rw [Array.getElem?_setIfInBounds, List.getD_eq_getElem?_getD, List.getElem?_set]
  by_cases q : i.toNat = j
  · rw [if_pos q, if_pos (by omega), if_pos q, if_pos (by omega)]
    rfl
  · rw [if_neg q, if_neg q, hc, List.getD_eq_getElem?_getD]
theorem own_of_R (h : R e w base ok v xs) : R e w base ok v xs := h
theorem own_string {P : Program} {src dst el : TypeId} (hs : P.underlying src = some (.slice el)) (he : P.underlying el = some (.int .u8)) (hd : P.underlying dst = some .string) (h : R e w base ok v xs) : (convert src dst v).run P w = .ok (.string (strOfNums xs)) w := by
  obtain ⟨g, cap, cur, fz, h1, h2, h3, h4, h5, h6, h7, h8⟩ := h
  subst h1
  refine run_convert_bytes_arg w src el hs he g 0 xs.length cap xs rfl (fun i hi => ?_) dst hd
  rw [Nat.zero_add, cell_of h4]
  exact h8 i hi
end
section
variable {P : Program} {ops : Array Oper} {Q : Exit → Act → World → Prop} {o : Oper} {rest : List Oper} {a : Act}
/-- the conversion itself -/
theorem R_conv {w0 W : World} (base e : Nat) (hgd : o.guard = none) {N : Tmp} (hd : o.dst = some N) (t src : TypeId) (x : Operand) (ho : o.op = .convert src t x) (s : ByteArray) (hx : a.eval x = .string s)
    (hs : P.underlying src = some .string) (ht : P.underlying t = some (.slice e)) (he : P.underlying e = some (.int .u8)) {ok : Nat → Prop} (hfresh : ok W.heap.size) (hl : s.size ≤ 9223372036854775807) (HB : Below base w0 W) (hbase : base ≤ W.heap.size)
    (h : ∀ v1 w1, R e w1 base ok v1 (bytesL s) → Below base w0 w1 → W.grownBy w1 none → (∃ b, v1.ownBlock = some b ∧ W.heap.size ≤ b) → wpList P ops Q rest (a.put o.dst v1) w1) : wpList P ops Q (o :: rest) a W := by
  have hb := Go.Lib.bytesWorld_below W e s
  refine Kd.event_run hgd (v := .slice (some ⟨W.heap.size, 0, none⟩) s.size (grownCap W s.size 0 e)) (w1 := Go.Lib.bytesWorld W e s) ?_ (h _ _ ⟨W.heap.size, grownCap W s.size 0 e, Go.Lib.bytesCells W e s, _, ?_, hbase, hfresh, Go.Lib.bytesWorld_at_new W e s, ?_, ?_, ?_, ?_⟩ ?_ ?_ ⟨W.heap.size, by simp [Value.ownBlock], Nat.le_refl _⟩)
  · have hr := Go.Lib.run_convert_string_bytes (P := P) W src t e s hs ht he
    simp [execOp, ho, hx, hr]
  · rw [bytesL_length]
  · rw [bytesL_length]
    show s.size ≤ (Go.Lib.bytesCells W e s).size
    unfold Go.Lib.bytesCells
    rw [Array.size_append, Array.size_map]
    show s.size ≤ s.size + _
    omega
  · rw [bytesL_length]
    exact grownCap_ge W s.size 0 e
  · rw [bytesL_length]
    exact hl
  · intro i hi
    rw [bytesL_length] at hi
    have hi' : i < s.data.toList.length := hi
    have := Go.Lib.bytesWorld_cell W e s i hi
    rw [cell_of (Go.Lib.bytesWorld_at_new W e s)] at this
    rw [this]
    unfold bytesL
    rw [List.getD_eq_getElem?_getD, List.getD_eq_getElem?_getD, List.getElem?_map, List.getElem?_eq_getElem hi']
    rfl
  · exact Go.Lib.below_freeze ((Below.drew HB).alloc hbase _) (p := ⟨W.heap.size, _, none⟩) hbase 1
  · exact ⟨rfl, rfl, rfl, by rw [Go.Lib.bytesWorld_size]; omega, fun k hk _ => Go.Lib.bytesWorld_at_old W e s k hk⟩
end
end Go.Proofs.YtkgjacacldcacaaDoor.BC
