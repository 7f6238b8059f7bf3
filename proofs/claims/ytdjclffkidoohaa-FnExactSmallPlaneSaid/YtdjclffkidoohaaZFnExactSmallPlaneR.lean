/- The law FnExactSmallPlane holds of the given program: every call returns true and leaves its arguments as they were; no condition. -/
import Derived.Below
import Derived.ChangeOld
import Derived.Deep.Matrix
import Derived.Lib.SmallJoins
import Derived.OpenShut
import Derived.ProofKit
import Derived.ShutString
import Derived.SizedLaws
import Derived.WalkKit
import Derived.Test.YtdjclffkidoohaaRows
import Derived.Test.YtdjclffkidoohaaVFnExactSmallPlane
import Derived.Test.YtdjclffkidoohaaZFnExactSmallPlaneP
import Derived.Test.YtdjclffkidoohaaZFnExactSmallPlanex9
section
set_option linter.unusedVariables false
set_option linter.unusedSimpArgs false
namespace Go.Proofs.Ytdjclffkidoohaa.Open
open Go.ChangeShapes Go.WideShapes Go.ChangeAt Go.RowKit Go.Proofs.YtdjclffkidoohaaW.PrintWords
variable {H : Type} {enc : TypeId × Value → H} {P : Program} {W : World} {base : Nat}
theorem open_list {t e : TypeId} (ht : P.underlying t = some (.slice e)) (he : P.underlying e = some (.int .i64)) (hc : P.cellsOf e = 1) {fuel : Nat} {cs : List Value} {y : DataW H × List MemPlace}
  (h : DataW.trod enc P W base (fun _=>true) true fuel t cs = some y) :
  ∃ (A : Option Addr) (c : Nat) (l : List Int),cs = [.slice A l.length c] ∧ l.length ≤ c ∧ l.length ≤ maxLen ∧ (∀ x ∈ l,(Lit.int .i64 x).wf = true) ∧ Kd.C (Kd.int .i64) W A l.length l:=by
 rcases open_ints ht he hc h with ⟨hcs,_⟩|⟨x,len,cap,zs,hcs,_,hl,hm,hz,_,hcell,hwz⟩
 ·obtain ⟨l,e1,hr,h1,h2,h3⟩:=ReadsInt.ofRowC (k:=.i64) (w:=W) (a:=none) (len:=0) (cap:=0) (zs:=[]) (.inl ⟨rfl,rfl,rfl,rfl⟩)
  exact ⟨none,0,l,by rw [hcs,← e1],h3,h1,h2,Kd.C_of_reads (d:=(0 : Int)) (h1:=fun _=>rfl) hr⟩
 ·simp only [if_true] at hz
  obtain ⟨l,e1,hr,h1,h2,h3⟩:=ReadsInt.ofRowC (k:=.i64) (w:=W) (a:=some x) (len:=len) (cap:=cap) (zs:=zs) (.inr ⟨x,rfl,hl,hm,hz,hcell,hwz⟩)
  exact ⟨some x,cap,l,by rw [hcs,← e1],h3,h1,h2,Kd.C_of_reads (d:=(0 : Int)) (h1:=fun _=>rfl) hr⟩
theorem open_rows {t e q : TypeId} (ht : P.underlying t = some (.slice e)) (he : P.underlying e = some (.slice q)) (hq : P.underlying q = some (.int .i64)) (ce : P.cellsOf e = 1) (cq : P.cellsOf q = 1) {fuel : Nat} {cs : List Value} {y : DataW H × List MemPlace}
  (h : DataW.trod enc P W base (fun _=>true) true fuel t cs = some y) :
  ∃ (A : Option Addr) (c : Nat) (l : List (List Int)),cs = [.slice A l.length c] ∧ l.length ≤ c ∧ l.length ≤ maxLen ∧ (∀ r ∈ l,r.length ≤ maxLen ∧ ∀ x ∈ r,(Lit.int .i64 x).wf = true) ∧ Kd.C (Kd.slice q (Kd.int .i64)) W A l.length l:=by
 rcases Go.Deep.open_int_rows ht he hq ce cq h with ⟨hcs,_⟩|⟨a,len,cap,A,L,C,Z,hcs,_,hl,hm,_,hr⟩
 ·exact ⟨none,0,[],hcs,Nat.le_refl _,by simp,by simp,by simp,by simp,fun hp=>absurd hp (by simp)⟩
 ·have hlen : ((List.range len).map fun r=>(Z r).take (L r)).length = len:=by simp
  refine ⟨some a,cap,(List.range len).map fun r=>(Z r).take (L r),by rw [hcs,hlen],by omega,by omega,?_,?_⟩
  ·intro r hr'
   obtain ⟨j,hj,rfl⟩:=List.mem_map.1 hr'
   have hj':=List.mem_range.1 hj
   obtain ⟨_,h2,h3,h4,h5,_⟩:=hr j (by omega)
   refine ⟨by rw [List.length_take];omega,fun x hx=>h5 x (List.mem_of_mem_take hx)⟩
  ·refine ⟨rfl,by rw [hlen];unfold maxLen at hm;omega,fun _=>⟨a,rfl,fun j p hj=>?_⟩⟩
   obtain ⟨hj1,hj2⟩:=List.getElem?_eq_some_iff.1 hj
   have hjl : j < len:=by omega
   obtain ⟨g1,g2,g3,g4,g5,g6,g7⟩:=hr j (by omega)
   have hp : p = (Z j).take (L j):=by rw [← hj2];simp
   have hpl : p.length = L j:=by rw [hp,List.length_take];omega
   refine ⟨[.slice (A j) (L j) (C j)],rfl,⟨A j,C j,by rw [hpl],by omega,?_⟩,fun i u hu=>?_⟩
   ·refine Kd.C_of_reads (d:=(0 : Int)) (h1:=fun _=>rfl) ⟨rfl,by unfold maxLen at g3;omega,fun hn=>?_⟩
    cases hA : A j with
   |none =>
     have:=g6 hA
     omega
   |some a' =>
     refine ⟨a',rfl,fun i hi=>?_⟩
     rw [(g7 a' hA).2 i (by omega),hp]
     have hi2 : i < L j:=by omega
     rw [List.getD_eq_getElem?_getD,List.getD_eq_getElem?_getD,List.getElem?_take_of_lt hi2]
   ·cases i with
   |zero =>
     simp only [List.getElem?_cons_zero,Option.some.injEq] at hu
     subst hu
     have e1 : j * (Kd.slice q (Kd.int .i64)).sz + 0 = j:=by simp [Kd.slice]
     rw [e1]
     exact g1
   |succ i=>simp at hu
theorem open_sample {t tr tl te : TypeId} {r : Reach} {b0 : Nat} {f0 f1 : Field} {v : Value} {d : DataW H} {p : List MemPlace} (hs : P.underlying t = some (.struct #[f0,f1])) (hone : Go.Deep.oneCellFields P #[f0,f1] = true) (hC : P.cellsOf t = 2) (e0 : f0.type = tr) (e1 : f1.type = tl)
  (hr : P.underlying tr = some (.slice tl)) (cl : P.cellsOf tl = 1) (ht : P.underlying tl = some (.slice te)) (he : P.underlying te = some (.int .i64)) (hc : P.cellsOf te = 1)
  (hv : Value.okWide P W r b0 t v) (h : DataW.Trod enc P W base (fun _=>true) true t v d p) :
  ∃ (A : Option Addr) (c : Nat) (l : List (List Int)) (B : Option Addr) (c' : Nat) (m : List Int),v = .agg #[.slice A l.length c,.slice B m.length c'] ∧ l.length ≤ c ∧ l.length ≤ maxLen ∧ (∀ r ∈ l,r.length ≤ maxLen ∧ ∀ x ∈ r,(Lit.int .i64 x).wf = true) ∧ Kd.C (Kd.slice te (Kd.int .i64)) W A l.length l ∧
   m.length ≤ c' ∧ m.length ≤ maxLen ∧ (∀ x ∈ m,(Lit.int .i64 x).wf = true) ∧ Kd.C (Kd.int .i64) W B m.length m:=by
 obtain ⟨u0,u1,y0,y1,n,rfl,_,_,g0,g1⟩:=Go.Joins.open_agg2 hs hone hC hv h
 subst e0
 subst e1
 obtain ⟨A,c,l,e0,h1,h2,h3,h4⟩:=open_rows hr ht he cl hc g0
 obtain ⟨B,c',m,e1,h5,h6,h7,h8⟩:=open_list ht he hc g1
 simp only [List.cons.injEq,and_true] at e0 e1
 subst e0
 subst e1
 exact ⟨A,c,l,B,c',m,rfl,h1,h2,h3,h4,h5,h6,h7,h8⟩
end Go.Proofs.Ytdjclffkidoohaa.Open
end
section
namespace Go.Proofs.Ytdjclffkidoohaa.fnExactSmallPlane
open Go.ChangeShapes Go.WideShapes Go.ChangeAt Go.RowKit
open Go.ChangeMaps (open_string shut_string)
open Go.Proofs.YtdjclffkidoohaaW.PrintWords (Kd)
set_option linter.unusedVariables false
theorem own : ownKnob Try.prog.godebug = none:=by kernel_rfl
theorem laidOut : laidOutB Try.prog = true:=by kernel_rfl
set_option maxRecDepth 100000 in
theorem lifted (os : Os) (started : os.Started) (H : Type) (enc : TypeId × Value → H) :
  ReturnsInHanded {} Try.checked os 6 .any (Rows.fnExactSmallPlaneSpec.pre6 enc Try.prog Try.f6 Rows.fnExactSmallPlaneRow.domain false) (Rows.fnExactSmallPlaneSpec.post enc Try.prog Try.f6 false true false false):=by
 refine returnsInHanded_of_change_sized (C:=Try.checked) own started (by kernel_rfl) Try.func6
  (ChangeSpec.witness6 (enc:=enc) (C:=Try.checked) false ⟨#[],#[.agg #[.slice none 0 0,.slice none 0 0],.int .i64 0],[]⟩ 8 (by kernel_rfl) (by kernel_rfl) (by kernel_rfl) (by kernel_rfl)) ?_
 intro W base args ds gs before hval0 hW hcnd _ _
 have hval : ∀ (j : Nat) t v,Try.f6.params[j]? = some t → args[j]? = some v → Value.okWide Try.prog W .any base t v:=hval0
 have hW':=hW
 obtain ⟨p,q,hA0,hV,rfl,hfz,hnd⟩:=hW
 have hA : DataW.TrodAll enc Try.prog W 0 (fun _=>true) true Try.f6.params.toList args.toList ds p:=hA0
 rw [Try.params6] at hA hval
 obtain ⟨v0,vs0,d0,ds0,p0,q0,hargs,rfl,rfl,h0,r0⟩:=trodAll_cons hA
 obtain ⟨v1,vs1,d1,ds1,p1,q1,rfl,rfl,rfl,h1,r1⟩:=trodAll_cons r0
 obtain ⟨rfl,rfl,rfl⟩:=trodAll_nil r1
 obtain rfl : args = #[v0,v1]:=by cases args;simp_all
 obtain ⟨rfl,rfl⟩:=trodVars_none hV
 have k0:=h0
 have lt0 : ∀ x ∈ p0,x.block < W.heap.size:=by obtain ⟨m,hm⟩:=k0;exact DataW.trod_lt m _ _ _ hm
 obtain ⟨A0,c0,l0,B0,d0_,m0,rfl,hc0,lm0,wf0,hr0,hd0,mm0,wm0,hs0⟩:=Open.open_sample Try.underlying28 (by kernel_rfl) (by kernel_rfl) rfl rfl Try.underlying25 (by kernel_rfl) Try.underlying26 Try.underlying3 (by kernel_rfl) (hval 0 28 v0 rfl rfl) h0
 obtain ⟨a1,rfl,rfl,rfl,w1⟩:=open_int Try.underlying3 (hval 1 3 v1 rfl rfl) h1
 clear hA0 hval0
 obtain ⟨k,h⟩:=Pure.FnExactSmallPlane l0 m0 a1 lm0 wf0 mm0 wm0 w1
 refine (QFnExactSmallPlane.laws_FnExactSmallPlane.calls k _ _ l0 _ _ m0 a1 true W hr0 hc0 hs0 hd0 h).mono fun e W' ⟨he,bel⟩=>?_
 subst he
 exact ⟨_,rfl,_,_,_,[],_,[],hW',trodAll_mk1 (shut_bool Try.underlying4 _),(trodAll_cons_mk (Below.trod laidOut (by kernel_rfl) (of_decide_eq_true (by kernel_rfl)) k0 bel lt0) (trodAll_cons_mk (shut_int Try.underlying3 w1) trodAll_mk0)),rfl,bel.frame _,fun h=>by cases h⟩
theorem over : Rows.fnExactSmallPlaneRow.holds Try.pinned (OpenSpec.ofChange Rows.fnExactSmallPlaneSpec) :=
 OpenClaim.holds_of_wide 6 Try.f6 rfl rfl rfl rfl rfl rfl rfl ⟨rfl,rfl,rfl,rfl,rfl⟩ rfl rfl rfl rfl rfl (by kernel_rfl) Try.func6 (by kernel_rfl)
  (of_decide_eq_true (by kernel_rfl)) (by unfold Func.isWrapper;first|(rw [if_pos (by decide +kernel)];kernel_rfl)|(rw [if_neg (by decide +kernel)];exact ⟨rfl,rfl⟩))
  (fun os started H enc _=>lifted os started H enc)
theorem proved : Rows.FnExactSmallPlaneSaid:=over
end Go.Proofs.Ytdjclffkidoohaa.fnExactSmallPlane
namespace Go.Proofs.Ytdjclffkidoohaa
theorem fnExactSmallPlane_holds : Rows.FnExactSmallPlaneSaid:=fnExactSmallPlane.proved
end Go.Proofs.Ytdjclffkidoohaa
end
