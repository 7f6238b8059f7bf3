/- Function values, rows of rows; no condition. -/
import Derived.Test.YtdjclffkidoohaaVFnExactSmallPlane
namespace Go.Proofs.Ytdjclffkidoohaa.Clos
open Go.RowKit Go.Proofs.YtdjclffkidoohaaW.PrintWords Go.Proofs.YtdjclffkidoohaaW.PrintLast Go.Proofs.YtdjclffkidoohaaW.PrintMore
variable {P : Program} {ops : Array Oper} {Q : Exit → Act → World → Prop}
def Ent (P : Program) (f : FuncId) : Prop:=∀ (args : Array Value) (w : World),(callFunc f args).run P w = .ok (.enter f args) w
theorem ent_of {f : FuncId} {fn : Func} (hf : P.funcs[f]? = some fn) (hname : (fn.name == "runtime.NumGoroutine") = false) (hb : fn.body.isSome = true) : Ent P f:=fun args w=>enters_ hf hname hb args w
theorem goesC_ {rest : List Oper} {oi : Oper} {a : Act} {w : World} (N : Option Tmp) (hd : oi.dst = N) (hg : oi.guard = none) {x : Operand} {f : FuncId} {cap : Array Value} {as_ : Array Operand} {ts : Array TypeId} (hent : Ent P f) (args : Array Value)
  (hop : oi.op = .call { callee:=.value x,args:=as_,argTypes:=ts }) (hx : a.eval x = .func (.func f) #[] cap) (hargs : as_.map a.eval = args)
  (h : Calls P f (args ++ cap) w fun e w'=>∃ v,e = .returned v ∧ wpList P ops Q rest (a.put N v) w') : wpList P ops Q (oi :: rest) a w:=by
 refine wpList_plain hg fun K hK=>?_
 have he:=hent (args ++ cap) w
 have hrun : (execOp a.eval oi).run P w = .ok (.enter f (args ++ cap)) w:=by
  unfold execOp
  simp [hop,resolve,Deferred.ofValue,invoke,hargs,hx,he]
 unfold Oper.wp
 rw [hrun,Oper.upon_enter]
 refine h.mono fun e w'' hh=>?_
 obtain ⟨v,rfl,hk⟩:=hh
 subst hd
 exact hK _ _ hk
end Go.Proofs.Ytdjclffkidoohaa.Clos
