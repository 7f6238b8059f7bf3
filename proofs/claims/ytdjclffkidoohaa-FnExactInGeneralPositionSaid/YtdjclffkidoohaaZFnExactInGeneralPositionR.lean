/- The law FnExactInGeneralPosition holds of the given program: every call returns true and leaves its arguments as they were; no condition. -/
import Derived.Below
import Derived.ChangeOld
import Derived.Deep.Matrix
import Derived.Lib.SmallJoins
import Derived.OpenShut
import Derived.ProofKit
import Derived.ShutString
import Derived.SizedLaws
import Derived.WalkKit
import Derived.Test.YtdjclffkidoohaaRows
import Derived.Test.YtdjclffkidoohaaVFnExactInGeneralPosition
import Derived.Test.YtdjclffkidoohaaZFnExactInGeneralPositionP
import Derived.Test.YtdjclffkidoohaaZFnExactInGeneralPositionx9
section
set_option linter.unusedVariables false
set_option linter.unusedSimpArgs false
namespace Go.Proofs.Ytdjclffkidoohaa.Open
open Go.ChangeShapes Go.WideShapes Go.ChangeAt Go.RowKit Go.Proofs.YtdjclffkidoohaaW.PrintWords
variable {H : Type} {enc : TypeId × Value → H} {P : Program} {W : World} {base : Nat}
theorem open_rows {t e q : TypeId} (ht : P.underlying t = some (.slice e)) (he : P.underlying e = some (.slice q)) (hq : P.underlying q = some (.int .i64)) (ce : P.cellsOf e = 1) (cq : P.cellsOf q = 1) {fuel : Nat} {cs : List Value} {y : DataW H × List MemPlace}
  (h : DataW.trod enc P W base (fun _=>true) true fuel t cs = some y) :
  ∃ (A : Option Addr) (c : Nat) (l : List (List Int)),cs = [.slice A l.length c] ∧ l.length ≤ c ∧ l.length ≤ maxLen ∧ (∀ r ∈ l,r.length ≤ maxLen ∧ ∀ x ∈ r,(Lit.int .i64 x).wf = true) ∧ Kd.C (Kd.slice q (Kd.int .i64)) W A l.length l:=by
 rcases Go.Deep.open_int_rows ht he hq ce cq h with ⟨hcs,_⟩|⟨a,len,cap,A,L,C,Z,hcs,_,hl,hm,_,hr⟩
 ·exact ⟨none,0,[],hcs,Nat.le_refl _,by simp,by simp,by simp,by simp,fun hp=>absurd hp (by simp)⟩
 ·have hlen : ((List.range len).map fun r=>(Z r).take (L r)).length = len:=by simp
  refine ⟨some a,cap,(List.range len).map fun r=>(Z r).take (L r),by rw [hcs,hlen],by omega,by omega,?_,?_⟩
  ·intro r hr'
   obtain ⟨j,hj,rfl⟩:=List.mem_map.1 hr'
   have hj':=List.mem_range.1 hj
   obtain ⟨_,h2,h3,h4,h5,_⟩:=hr j (by omega)
   refine ⟨by rw [List.length_take];omega,fun x hx=>h5 x (List.mem_of_mem_take hx)⟩
  ·refine ⟨rfl,by rw [hlen];unfold maxLen at hm;omega,fun _=>⟨a,rfl,fun j p hj=>?_⟩⟩
   obtain ⟨hj1,hj2⟩:=List.getElem?_eq_some_iff.1 hj
   have hjl : j < len:=by omega
   obtain ⟨g1,g2,g3,g4,g5,g6,g7⟩:=hr j (by omega)
   have hp : p = (Z j).take (L j):=by rw [← hj2];simp
   have hpl : p.length = L j:=by rw [hp,List.length_take];omega
   refine ⟨[.slice (A j) (L j) (C j)],rfl,⟨A j,C j,by rw [hpl],by omega,?_⟩,fun i u hu=>?_⟩
   ·refine Kd.C_of_reads (d:=(0 : Int)) (h1:=fun _=>rfl) ⟨rfl,by unfold maxLen at g3;omega,fun hn=>?_⟩
    cases hA : A j with
   |none =>
     have:=g6 hA
     omega
   |some a' =>
     refine ⟨a',rfl,fun i hi=>?_⟩
     rw [(g7 a' hA).2 i (by omega),hp]
     have hi2 : i < L j:=by omega
     rw [List.getD_eq_getElem?_getD,List.getD_eq_getElem?_getD,List.getElem?_take_of_lt hi2]
   ·cases i with
   |zero =>
     simp only [List.getElem?_cons_zero,Option.some.injEq] at hu
     subst hu
     have e1 : j * (Kd.slice q (Kd.int .i64)).sz + 0 = j:=by simp [Kd.slice]
     rw [e1]
     exact g1
   |succ i=>simp at hu
end Go.Proofs.Ytdjclffkidoohaa.Open
end
section
namespace Go.Proofs.Ytdjclffkidoohaa.fnExactInGeneralPosition
open Go.ChangeShapes Go.WideShapes Go.ChangeAt Go.RowKit
open Go.ChangeMaps (open_string shut_string)
open Go.Proofs.YtdjclffkidoohaaW.PrintWords (Kd)
set_option linter.unusedVariables false
theorem own : ownKnob Try.prog.godebug = none:=by kernel_rfl
theorem laidOut : laidOutB Try.prog = true:=by kernel_rfl
set_option maxRecDepth 100000 in
theorem lifted (os : Os) (started : os.Started) (H : Type) (enc : TypeId × Value → H) :
  ReturnsInHanded {} Try.checked os 5 .any (Rows.fnExactInGeneralPositionSpec.pre6 enc Try.prog Try.f5 Rows.fnExactInGeneralPositionRow.domain false) (Rows.fnExactInGeneralPositionSpec.post enc Try.prog Try.f5 false true false false):=by
 refine returnsInHanded_of_change_sized (C:=Try.checked) own started (by kernel_rfl) Try.func5
  (ChangeSpec.witness6 (enc:=enc) (C:=Try.checked) false ⟨#[],#[.slice none 0 0],[]⟩ 8 (by kernel_rfl) (by kernel_rfl) (by kernel_rfl) (by kernel_rfl)) ?_
 intro W base args ds gs before hval0 hW hcnd _ _
 have hval : ∀ (j : Nat) t v,Try.f5.params[j]? = some t → args[j]? = some v → Value.okWide Try.prog W .any base t v:=hval0
 have hW':=hW
 obtain ⟨p,q,hA0,hV,rfl,hfz,hnd⟩:=hW
 have hA : DataW.TrodAll enc Try.prog W 0 (fun _=>true) true Try.f5.params.toList args.toList ds p:=hA0
 rw [Try.params5] at hA hval
 obtain ⟨v0,vs0,d0,ds0,p0,q0,hargs,rfl,rfl,h0,r0⟩:=trodAll_cons hA
 obtain ⟨rfl,rfl,rfl⟩:=trodAll_nil r0
 obtain rfl : args = #[v0]:=by cases args;simp_all
 obtain ⟨rfl,rfl⟩:=trodVars_none hV
 have k0:=h0
 have lt0 : ∀ x ∈ p0,x.block < W.heap.size:=by obtain ⟨m,hm⟩:=k0;exact DataW.trod_lt m _ _ _ hm
 obtain ⟨A0,c0,l0,e0,hc0,lm0,wf0,hr0⟩ : ∃ (A : Option Addr) (c : Nat) (l : List (List Int)),v0 = .slice A l.length c ∧ l.length ≤ c ∧ l.length ≤ maxLen ∧ (∀ r ∈ l,r.length ≤ maxLen ∧ ∀ x ∈ r,(Lit.int .i64 x).wf = true) ∧ Kd.C (Kd.slice 3 (Kd.int .i64)) W A l.length l:=by
  obtain ⟨aa,ln,cp,rfl⟩:=okWide_slice Try.underlying25 (hval 0 25 v0 rfl rfl)
  obtain ⟨fuel,hf⟩:=h0
  obtain ⟨A,c,l,e,g1,g2,g3,g4⟩:=Open.open_rows Try.underlying25 Try.underlying26 Try.underlying3 (by kernel_rfl) (by kernel_rfl) hf
  simp only [Value.cells,List.cons.injEq,and_true] at e
  exact ⟨A,c,l,e,g1,g2,g3,g4⟩
 subst e0
 clear hA0 hval0
 obtain ⟨k,h⟩:=Pure.FnExactInGeneralPosition l0 lm0 wf0
 refine (QFnExactInGeneralPosition.laws_FnExactInGeneralPosition.calls k _ _ l0 true W hr0 hc0 h).mono fun e W' ⟨he,bel⟩=>?_
 subst he
 exact ⟨_,rfl,_,_,_,[],_,[],hW',trodAll_mk1 (shut_bool Try.underlying4 _),(trodAll_cons_mk (Below.trod laidOut (by kernel_rfl) (of_decide_eq_true (by kernel_rfl)) k0 bel lt0) trodAll_mk0),rfl,bel.frame _,fun h=>by cases h⟩
theorem over : Rows.fnExactInGeneralPositionRow.holds Try.pinned (OpenSpec.ofChange Rows.fnExactInGeneralPositionSpec) :=
 OpenClaim.holds_of_wide 5 Try.f5 rfl rfl rfl rfl rfl rfl rfl ⟨rfl,rfl,rfl,rfl,rfl⟩ rfl rfl rfl rfl rfl (by kernel_rfl) Try.func5 (by kernel_rfl)
  (of_decide_eq_true (by kernel_rfl)) (by unfold Func.isWrapper;first|(rw [if_pos (by decide +kernel)];kernel_rfl)|(rw [if_neg (by decide +kernel)];exact ⟨rfl,rfl⟩))
  (fun os started H enc _=>lifted os started H enc)
theorem proved : Rows.FnExactInGeneralPositionSaid:=over
end Go.Proofs.Ytdjclffkidoohaa.fnExactInGeneralPosition
namespace Go.Proofs.Ytdjclffkidoohaa
theorem fnExactInGeneralPosition_holds : Rows.FnExactInGeneralPositionSaid:=fnExactInGeneralPosition.proved
end Go.Proofs.Ytdjclffkidoohaa
end
