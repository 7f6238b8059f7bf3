/- Steps of a region that draws its order; no condition. -/
import Derived.Test.YtdjclffkidoohaaHof
namespace Go.Proofs.Ytdjclffkidoohaa.Hof
open Go.RowKit Go.Proofs.YtdjclffkidoohaaW.PrintWords Go.Proofs.YtdjclffkidoohaaW.PrintLast Go.Proofs.YtdjclffkidoohaaW.PrintMore Go.Proofs.Ytdjclffkidoohaa.Clos
variable {P : Program} {ops : Array Oper} {Q : Exit → Act → World → Prop}
section
variable {md : Region.Mode} {S : World → Prop} {ds : List Nat}
/-- One operation alone may come up now, and it reads: it is run in this world. -/
theorem here_ {i : Nat} {N : Option Tmp} {oi : Oper} {v : Value} {fuel : Nat} {l : Array Bool} {a : Act} {w : World} (l' : Array Bool) (hi : ops[i]? = some oi) (hN : oi.dst = N) (hc : readyB md ops l l' i = true)
    (hw : Region.wanted oi (yielded ops a.tmps) = true) (hrun : (execOp a.eval oi).run P w = .ok (.value v) w) (h : wpAnyLast P md ops Q S ds fuel l' (a.put N v) w) : wpAnyLast P md ops Q S ds (fuel + 1) l a w := by
  subst hN
  simp only [readyB, Bool.and_eq_true, beq_iff_eq] at hc
  obtain ⟨h1, h2⟩ := hc
  subst h2
  refine wpAnyLast_all h1 (by simp) fun j hj => ?_
  obtain rfl := List.mem_singleton.1 hj
  refine wpOp_step hi fun K' hK => ?_
  rw [if_pos hw]
  unfold Oper.wp
  rw [hrun]
  exact hK _ _ ⟨fun _ hS => hS, h⟩
/-- Two may come up: one of ds, and one that reads. -/
theorem split_ {i j : Nat} {Ni Nj : Option Tmp} {oi oj : Oper} {v : Value} {fuel : Nat} {l : Array Bool} {a : Act} {w : World} (li lj : Array Bool) (hi : ops[i]? = some oi) (hj : ops[j]? = some oj) (hNi : oi.dst = Ni) (hNj : oj.dst = Nj)
    (hc : (Region.ready md ops l == [i, j] && l.setIfInBounds i true == li && l.setIfInBounds j true == lj) = true) (hdi : i ∈ ds)
    (h1 : ∀ K : Act → World → Prop, Shut (∀ a' w', wpAnyLast P md ops Q S ds fuel li a' w' → K a' w') → if Region.wanted oi (yielded ops a.tmps) = true then Oper.wp P oi a w K Q else K (a.put Ni undef) w)
    (hw : Region.wanted oj (yielded ops a.tmps) = true) (hrun : (execOp a.eval oj).run P w = .ok (.value v) w) (h2 : wpAnyLast P md ops Q S ds fuel lj (a.put Nj v) w) : wpAnyLast P md ops Q S ds (fuel + 1) l a w := by
  subst hNi
  subst hNj
  simp only [Bool.and_eq_true, beq_iff_eq] at hc
  obtain ⟨⟨h3, h4⟩, h5⟩ := hc
  subst h4
  subst h5
  refine wpAnyLast_all h3 (by simp) fun q hq => ?_
  rcases List.mem_cons.1 hq with rfl | hq
  · exact wpOp_step hi fun K' hK => h1 K' (fun a' w' hW => hK a' w' ⟨fun hn => absurd hdi hn, hW⟩)
  · obtain rfl := List.mem_singleton.1 hq
    refine wpOp_step hj fun K' hK => ?_
    rw [if_pos hw]
    unfold Oper.wp
    rw [hrun]
    exact hK _ _ ⟨fun _ hS => hS, h2⟩
end
end Go.Proofs.Ytdjclffkidoohaa.Hof
