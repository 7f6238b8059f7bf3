/- Calls of function values in regions that draw their order; append to a row without room; no condition. -/
import Derived.Test.YtdjclffkidoohaaClos
import Derived.Deep.RegionLawGrows
import Derived.Laws.EntriesVeiled
namespace Go.Proofs.Ytdjclffkidoohaa.Hof
open Go.RowKit Go.Proofs.YtdjclffkidoohaaW.PrintWords Go.Proofs.YtdjclffkidoohaaW.PrintLast Go.Proofs.YtdjclffkidoohaaW.PrintMore Go.Proofs.Ytdjclffkidoohaa.Clos
variable {P : Program} {ops : Array Oper} {Q : Exit → Act → World → Prop}
/-- A call of a function value in a region that draws its order. -/
theorem goesV_ {oi : Oper} {N : Option Tmp} {a : Act} {w : World} {K : Act → World → Prop} {x : Operand} {f : FuncId} {cap : Array Value} {as : Array Operand} {ts : Array TypeId} (hent : Ent P f) (args : Array Value)
    (hw : Region.wanted oi (yielded ops a.tmps) = true) (hN : oi.dst = N) (hop : oi.op = .call { callee := .value x, args := as, argTypes := ts }) (hx : a.eval x = .func (.func f) #[] cap) (hargs : as.map a.eval = args)
    (h : Calls P f (args ++ cap) w fun e w' => ∃ v, e = .returned v ∧ K (a.put N v) w') : if Region.wanted oi (yielded ops a.tmps) = true then Oper.wp P oi a w K Q else K (a.put N undef) w := by
  refine call_ f (args ++ cap) hw hN ?_ h
  have he := hent (args ++ cap) w
  unfold execOp
  simp [hop, resolve, Deferred.ofValue, invoke, hargs, hx, he]
/-- append to a row without room: a new row, of the call's own. -/
theorem grow_step {o : Oper} {a : Act} {W : World} {K : Act → World → Prop} (hgd : o.guard = none) (s x : Operand) (t e : TypeId)
    (hop : o.op = Op.call { callee := Callee.builtin Builtin.append, args := #[s, x], argTypes := #[t, t] }) (ht : P.underlying t = some (.slice e))
    (hinfo : (P.info? e).map (fun i => (i.zero, i.size, i.bytes)) = some (some (.int .i64 0), 1, 8)) (A : Option Addr) (xs : List Int) (p : Int)
    (hs : a.eval s = .slice A xs.length xs.length) (hx : a.eval x = .slice (some ⟨W.heap.size, 0, none⟩) 1 1) (hC : (Kd.int .i64).C W A xs.length xs) (hl : xs.length < 17592186044416)
    (hK : ∀ v1 w1, (Kd.int .i64).R e w1 W.heap.size (fun _ => True) v1 (xs ++ [p]) → Below W.heap.size W w1 → K (a.put o.dst v1) w1) :
    if Region.wanted o (yielded ops a.tmps) = true then Oper.wp P o a (W.alloc (.cells #[.int .i64 p] e)) K Q else K (a.put o.dst undef) (W.alloc (.cells #[.int .i64 p] e)) := by
  obtain ⟨i0, hi, hzz⟩ := Option.map_eq_some_iff.1 hinfo
  simp only [Prod.mk.injEq] at hzz
  obtain ⟨hz0, hz1, hz2⟩ := hzz
  have hb0 : Below W.heap.size W (W.alloc (.cells #[.int .i64 p] e)) := below_alloc (Below.refl _ _) _
  refine step_append_grows hgd s x t hop e i0 (.int .i64 0) 1 8 ht hi hz0 hz1 hz2 rfl (by decide) A xs.length xs.length (xs.map fun y => .int .i64 y) hs ?_ (by simp) ?_ ⟨W.heap.size, 0, none⟩ 1 1 [.int .i64 p] hx rfl ?_ ?_ (by omega) (by simp only [maxLen]; omega) (by omega) ?_
  · intro hn
    rcases Nat.eq_zero_or_pos xs.length with h0 | h0
    · exact ⟨h0, h0⟩
    · obtain ⟨ad, h, _⟩ := hC.2.2 h0
      rw [hn] at h
      cases h
  · intro b hb j u hu
    rw [List.getElem?_map] at hu
    obtain ⟨y, hy, rfl⟩ := Option.map_eq_some_iff.1 hu
    have hlt : j < xs.length := (List.getElem?_eq_some_iff.1 hy).1
    obtain ⟨ad, h, hc⟩ := hC.2.2 (by omega)
    rw [hb] at h
    injection h with h
    subst h
    obtain ⟨c, _, hc1, hc2⟩ := hc j y hy
    have hc1' : c = [.int .i64 y] := hc1
    subst hc1'
    have := hc2 0 (.int .i64 y) rfl
    simp only [show (Kd.int .i64).sz = 1 from rfl, Nat.mul_one, Nat.add_zero] at this
    exact pw_cell_below hb0 this
  · intro j u hu
    cases j with
    | zero =>
      have : u = .int .i64 p := by simpa using hu.symm
      subst this
      rw [add_plain]
      have hbx : (W.alloc (.cells #[.int .i64 p] e)).heap[W.heap.size]? = some (.cells #[.int .i64 p] e (0, 0)) := boxed_at W _
      exact (blk_cell hbx 0).trans rfl
    | succ j => simp at hu
  · intro u hu
    rw [List.mem_singleton.1 hu]
    rfl
  · intro v1 w1 hown hg
    refine hK v1 w1 (Kd.R_of_own (enc := Value.int .i64) ?_ (fun _ _ => trivial)) (pw_below_grown hb0 none hb0.size hg (fun k h => by cases h))
    have h2 := own_weaken hown hb0.size
    simpa [encs] using h2
/-- x[:len:len]: the same row, without room. -/
theorem full_slice {w : World} (t e : TypeId) (ht : P.underlying t = some (.slice e)) (hi0 : (P.info? e).isSome = true) (A : Option Addr) (n c : Nat) (hc : n ≤ c) :
    (Instr.sliceAt t (.slice A n c) none (some (.int .i64 (n : Int))) (some (.int .i64 (n : Int)))).run P w = .ok (.slice A n n) w := by
  obtain ⟨i, hi⟩ := Option.isSome_iff_exists.1 hi0
  have ht2 : P.underlying t = some (.slice (P.elem t)) := by rw [ht]; simp [Program.elem, ht]
  have he : P.elem t = e := by rw [ht] at ht2; injection ht2 with h; injection h with h; exact h.symm
  rw [run_sliceAt_slice (t := t) _ _ _ _ _ ht2, run_slice_any (t := t) (a := A) (len := n) (cap := c) (ht := ht2)]
  have h1 : (Instr.sliceBounds true n c none (some (.int .i64 (n : Int))) (some (.int .i64 (n : Int)))).run P w = .ok (0, n, n) w := by
    simp [Instr.sliceBounds, run_sliceBound, (by omega : (0 : Int) ≤ n), (by omega : (n : Int) ≤ c)]
  have h2 : (sizeOf (P.elem t)).run P w = .ok i.size w := by rw [he]; simp [sizeOf, typeInfo, hi]
  rw [h1]
  simp only [Result.andThen]
  rw [h2]
  simp only [sliced]
  have h3 : (if n = 0 then A else A.map (·.add (0 * i.size))) = A := by
    split
    · rfl
    · cases A <;> simp [Addr.add]
  rw [h3]
  simp
end Go.Proofs.Ytdjclffkidoohaa.Hof
