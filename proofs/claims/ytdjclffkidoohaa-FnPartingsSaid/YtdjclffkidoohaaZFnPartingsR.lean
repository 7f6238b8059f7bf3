/- The law FnPartings holds of the given program: every call returns true and leaves its arguments as they were; no condition. -/
import Derived.Below
import Derived.ChangeOld
import Derived.Deep.Matrix
import Derived.Lib.SmallJoins
import Derived.OpenShut
import Derived.ProofKit
import Derived.ShutString
import Derived.SizedLaws
import Derived.WalkKit
import Derived.Test.YtdjclffkidoohaaRows
import Derived.Test.YtdjclffkidoohaaVFnPartings
import Derived.Test.YtdjclffkidoohaaZFnPartingsP
import Derived.Test.YtdjclffkidoohaaZFnPartingsx21
section
set_option linter.unusedVariables false
set_option linter.unusedSimpArgs false
namespace Go.Proofs.Ytdjclffkidoohaa.Open
open Go.ChangeShapes Go.WideShapes Go.ChangeAt Go.RowKit Go.Proofs.YtdjclffkidoohaaW.PrintWords
variable {H:Type} {enc:TypeId×Value→H} {P:Program} {W:World} {base:Nat}
theorem open_bytes {t e:TypeId} (ht:P.underlying t=some (.slice e)) (he:P.underlying e=some (.int .u8)) (hc:P.cellsOf e=1) {fuel:Nat} {cs:List Value} {y:DataW H×List MemPlace}
  (h:DataW.trod enc P W base (fun _=>true) true fuel t cs=some y) :
  ∃ (A:Option Addr) (c:Nat) (l:List Int),cs=[.slice A l.length c]∧l.length≤c∧l.length≤maxLen∧(∀ x∈l,(Lit.int .u8 x).wf=true)∧Kd.C (Kd.int .u8) W A l.length l:=by
 rcases open_ints ht he hc h with ⟨hcs,_⟩|⟨x,len,cap,zs,hcs,_,hl,hm,hz,_,hcell,hwz⟩
 ·obtain⟨l,e1,hr,h1,h2,h3⟩:=ReadsInt.ofRowC (k:=.u8) (w:=W) (a:=none) (len:=0) (cap:=0) (zs:=[]) (.inl ⟨rfl,rfl,rfl,rfl⟩)
  exact⟨none,0,l,by rw[hcs,←e1],h3,h1,h2,Kd.C_of_reads (d:=(0:Int)) (h1:=fun _=>rfl) hr⟩
 ·simp only[if_true] at hz
  obtain⟨l,e1,hr,h1,h2,h3⟩:=ReadsInt.ofRowC (k:=.u8) (w:=W) (a:=some x) (len:=len) (cap:=cap) (zs:=zs) (.inr ⟨x,rfl,hl,hm,hz,hcell,hwz⟩)
  exact⟨some x,cap,l,by rw[hcs,←e1],h3,h1,h2,Kd.C_of_reads (d:=(0:Int)) (h1:=fun _=>rfl) hr⟩
end Go.Proofs.Ytdjclffkidoohaa.Open
end
section
namespace Go.Proofs.Ytdjclffkidoohaa.fnPartings
open Go.ChangeShapes Go.WideShapes Go.ChangeAt Go.RowKit
open Go.ChangeMaps (open_string shut_string)
open Go.Proofs.YtdjclffkidoohaaW.PrintWords (Kd)
set_option linter.unusedVariables false
theorem own:ownKnob Try.prog.godebug=none:=by kernel_rfl
theorem laidOut:laidOutB Try.prog=true:=by kernel_rfl
set_option maxRecDepth 100000 in
theorem lifted (os:Os) (started:os.Started) (H:Type) (enc:TypeId×Value→H) :
  ReturnsInHanded {} Try.checked os 13 .any (Rows.fnPartingsSpec.pre6 enc Try.prog Try.f13 Rows.fnPartingsRow.domain false) (Rows.fnPartingsSpec.post enc Try.prog Try.f13 false true false false):=by
 refine returnsInHanded_of_change_sized (C:=Try.checked) own started (by kernel_rfl) Try.func13
  (ChangeSpec.witness6 (enc:=enc) (C:=Try.checked) false ⟨#[],#[.slice none 0 0],[]⟩ 8 (by kernel_rfl) (by kernel_rfl) (by kernel_rfl) (by kernel_rfl)) ?_
 intro W base args ds gs before hval0 hW hcnd _ _
 have hval:∀ (j:Nat) t v,Try.f13.params[j]?=some t→args[j]?=some v→Value.okWide Try.prog W .any base t v:=hval0
 have hW':=hW
 obtain⟨p,q,hA0,hV,rfl,hfz,hnd⟩:=hW
 have hA:DataW.TrodAll enc Try.prog W 0 (fun _=>true) true Try.f13.params.toList args.toList ds p:=hA0
 rw[Try.params13] at hA hval
 obtain⟨v0,vs0,d0,ds0,p0,q0,hargs,rfl,rfl,h0,r0⟩:=trodAll_cons hA
 obtain⟨rfl,rfl,rfl⟩:=trodAll_nil r0
 obtain rfl:args=#[v0]:=by cases args;simp_all
 obtain⟨rfl,rfl⟩:=trodVars_none hV
 have k0:=h0
 have lt0:∀ x∈p0,x.block<W.heap.size:=by obtain⟨m,hm⟩:=k0;exact DataW.trod_lt m _ _ _ hm
 obtain⟨A0,c0,l0,e0,hc0,lm0,wf0,hr0⟩:∃ (A:Option Addr) (c:Nat) (l:List Int),v0=.slice A l.length c∧l.length≤c∧l.length≤maxLen∧(∀ x∈l,(Lit.int .u8 x).wf=true)∧Kd.C (Kd.int .u8) W A l.length l:=by
  obtain⟨aa,ln,cp,rfl⟩:=okWide_slice Try.underlying55 (hval 0 55 v0 rfl rfl)
  obtain⟨fuel,hf⟩:=h0
  obtain⟨A,c,l,e,g1,g2,g3,g4⟩:=Open.open_bytes Try.underlying55 Try.underlying5 (by kernel_rfl) hf
  simp only[Value.cells,List.cons.injEq,and_true] at e
  exact⟨A,c,l,e,g1,g2,g3,g4⟩
 subst e0
 clear hA0 hval0
 obtain⟨k,h⟩:=Pure.FnPartings l0 lm0 wf0
 refine(QFnPartings.Gw.calls k _ _ l0 true W hr0 hc0 h).mono fun e W' ⟨he,bel⟩=>?_
 subst he
 exact⟨_,rfl,_,_,_,[],_,[],hW',trodAll_mk1 (shut_bool Try.underlying4 _),(trodAll_cons_mk (Below.trod laidOut (by kernel_rfl) (of_decide_eq_true (by kernel_rfl)) k0 bel lt0) trodAll_mk0),rfl,bel.frame _,fun h=>by cases h⟩
theorem over:Rows.fnPartingsRow.holds Try.pinned (OpenSpec.ofChange Rows.fnPartingsSpec) :=
 OpenClaim.holds_of_wide 13 Try.f13 rfl rfl rfl rfl rfl rfl rfl ⟨rfl,rfl,rfl,rfl,rfl⟩ rfl rfl rfl rfl rfl (by kernel_rfl) Try.func13 (by kernel_rfl)
  (of_decide_eq_true (by kernel_rfl)) (by unfold Func.isWrapper;first|(rw[if_pos (by decide +kernel)];kernel_rfl)|(rw[if_neg (by decide +kernel)];exact⟨rfl,rfl⟩))
  (fun os started H enc _=>lifted os started H enc)
theorem proved:Rows.FnPartingsSaid:=over
end Go.Proofs.Ytdjclffkidoohaa.fnPartings
namespace Go.Proofs.Ytdjclffkidoohaa
theorem fnPartings_holds:Rows.FnPartingsSaid:=fnPartings.proved
end Go.Proofs.Ytdjclffkidoohaa
end
