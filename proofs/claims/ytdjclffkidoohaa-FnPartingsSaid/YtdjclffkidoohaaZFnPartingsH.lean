/- Function values, rows of rows; no condition. -/
import Derived.Deep.RegionLawGrows
import Derived.Laws.EntriesVeiled
import Derived.Test.YtdjclffkidoohaaVFnPartings
section
namespace Go.Proofs.Ytdjclffkidoohaa.Clos
open Go.RowKit Go.Proofs.YtdjclffkidoohaaW.PrintWords Go.Proofs.YtdjclffkidoohaaW.PrintLast Go.Proofs.YtdjclffkidoohaaW.PrintMore
variable {P:Program} {ops:Array Oper} {Q:Exit→Act→World→Prop}
theorem boxed_at (w:World) (o:Obj):(w.alloc o).heap[w.heap.size]?=some o:=by unfold World.alloc;exact Array.getElem?_push_size
def Ent (P:Program) (f:FuncId):Prop:=∀ (args:Array Value) (w:World),(callFunc f args).run P w=.ok (.enter f args) w
theorem ent_of {f:FuncId} {fn:Func} (hf:P.funcs[f]?=some fn) (hname:(fn.name == "runtime.NumGoroutine")=false) (hb:fn.body.isSome=true):Ent P f:=fun args w=>enters_ hf hname hb args w
theorem goesC_ {rest:List Oper} {oi:Oper} {a:Act} {w:World} (N:Option Tmp) (hd:oi.dst=N) (hg:oi.guard=none) {x:Operand} {f:FuncId} {cap:Array Value} {as_:Array Operand} {ts:Array TypeId} (hent:Ent P f) (args:Array Value)
  (hop:oi.op=.call { callee:=.value x,args:=as_,argTypes:=ts }) (hx:a.eval x=.func (.func f) #[] cap) (hargs:as_.map a.eval=args)
  (h:Calls P f (args++cap) w fun e w'=>∃ v,e=.returned v∧wpList P ops Q rest (a.put N v) w'):wpList P ops Q (oi :: rest) a w:=by
 refine wpList_plain hg fun K hK=>?_
 have he:=hent (args++cap) w
 have hrun:(execOp a.eval oi).run P w=.ok (.enter f (args++cap)) w:=by
  unfold execOp
  simp[hop,resolve,Deferred.ofValue,invoke,hargs,hx,he]
 unfold Oper.wp
 rw[hrun,Oper.upon_enter]
 refine h.mono fun e w'' hh=>?_
 obtain⟨v,rfl,hk⟩:=hh
 subst hd
 exact hK _ _ hk
end Go.Proofs.Ytdjclffkidoohaa.Clos
end
section
namespace Go.Proofs.Ytdjclffkidoohaa.Mat
open Go.RowKit Go.Proofs.YtdjclffkidoohaaW.PrintWords Go.Proofs.YtdjclffkidoohaaW.PrintLast Go.Proofs.YtdjclffkidoohaaW.PrintMore
section
variable {α:Type} {d:Kd α} {e base g n cap:Nat} {ok:Nat→Prop} {w:World} {xs:List α}
theorem take_one {l:List Value} {m:Nat} {u:Value} (h:l[m]?=some u):(l.drop (m * 1)).take 1=[u]:=by
 obtain⟨h1,h2⟩:=List.getElem?_eq_some_iff.1 h
 rw[Nat.mul_one,List.drop_eq_getElem_cons h1]
 simp[h2]
theorem S_swap (hd:d.sz=1) (h:Kd.S d e w base ok (.slice (some ⟨g,0,none⟩) n cap) xs) (i j:Nat) (hi:i<xs.length) (hj:j<xs.length) {ci cj:Value} (hci:w.cell? ⟨g,i,none⟩=some ci) (hcj:w.cell? ⟨g,j,none⟩=some cj) :
  Kd.S d e ((w.setCell ⟨g,i,none⟩ cj).setCell ⟨g,j,none⟩ ci) base ok (.slice (some ⟨g,0,none⟩) n cap) ((xs.set i xs[j]).set j xs[i]):=by
 have hn:=(Kd.S_reads' h).1
 obtain⟨f,h0,inner,ho,hr⟩:=h
 rw[List.length_zipIdx,←hn] at ho
 have hsz:(Kd.tag f d).sz=1:=hd
 rw[hsz] at ho hr
 have hgo:some g=(Value.slice (some ⟨g,0,none⟩) n cap).ownBlock:=by simp[Value.ownBlock]
 have hlen:inner.length=xs.length:=by
  have:=hr.1
  rw[List.length_zipIdx,Nat.mul_one] at this
  exact this
 have cells:∀ m u,inner[m]?=some u→w.cell? ⟨g,m,none⟩=some u:=fun m u hu=>by
  have:=ho.cells (g:=g) hgo.symm m u hu
  rwa [add_plain] at this
 have ei:inner[i]?=some ci:=by
  have q:inner[i]?=some inner[i]:=List.getElem?_eq_getElem (by omega)
  have:=cells i _ q
  rw[hci] at this
  rw[q,this]
 have ej:inner[j]?=some cj:=by
  have q:inner[j]?=some inner[j]:=List.getElem?_eq_getElem (by omega)
  have:=cells j _ q
  rw[hcj] at this
  rw[q,this]
 have ho1:=((ho.stored i cj).1.stored j ci).1
 refine⟨fun k=>if f k=i then j else if f k=j then i else f k,h0,(inner.set i cj).set j ci,?_,?_,fun m p hm=>?_⟩
 ·rw[List.length_zipIdx,List.length_set,List.length_set,←hn]
  show World.ownsRow _ base e (Kd.tag _ d).sz _ _ _
  rw[show (Kd.tag (fun k=>if f k=i then j else if f k=j then i else f k) d).sz=1 from hd]
  exact ho1
 ·rw[show (Kd.tag (fun k=>if f k=i then j else if f k=j then i else f k) d).sz=1 from hd,List.length_zipIdx,List.length_set,List.length_set,List.length_set,List.length_set,hlen,Nat.mul_one]
 ·rw[show (Kd.tag (fun k=>if f k=i then j else if f k=j then i else f k) d).sz=1 from hd]
  have old:∀ q (hq:q<xs.length) u,inner[q]?=some u→d.M w base (fun k=>(ok k∧some k≠(Value.slice (some ⟨g,0,none⟩) n cap).ownBlock)∧f k=q) xs[q] [u]:=fun q hq u hu=>by
   have:=hr.2 q (xs[q],q) (Kd.zip_at (List.getElem?_eq_getElem hq))
   rw[take_one hu] at this
   exact this
  have ne:∀ q k,((ok k∧some k≠(Value.slice (some ⟨g,0,none⟩) n cap).ownBlock)∧f k=q)→k≠g:=fun q k hk he=>hk.1.2 (by rw[he];exact hgo)
  have move:∀ q (hq:q<xs.length) u m,inner[q]?=some u→(∀ k,f k=q→(if f k=i then j else if f k=j then i else f k)=m)→d.M ((w.setCell ⟨g,i,none⟩ cj).setCell ⟨g,j,none⟩ ci) base (fun k=>(ok k∧some k≠(Value.slice (some ⟨g,0,none⟩) n cap).ownBlock)∧(if f k=i then j else if f k=j then i else f k)=m) xs[q] [u]:=fun q hq u m hu hf =>
   d.M_mono (fun k hk=>⟨hk.1,hf k hk.2⟩) (Kd.M_far (Kd.M_far (old q hq u hu) (p:=⟨g,i,none⟩) (fun k hk=>ne q k hk) cj) (p:=⟨g,j,none⟩) (fun k hk=>ne q k hk) ci)
  rw[List.getElem?_zipIdx,Nat.zero_add] at hm
  obtain⟨x,hx,rfl⟩:=Option.map_eq_some_iff.1 hm
  show d.M _ base (fun k=>(ok k∧some k≠(Value.slice (some ⟨g,0,none⟩) n cap).ownBlock)∧(if f k=i then j else if f k=j then i else f k)=m) x _
  by_cases c1:j=m
  ·subst c1
   rw[List.getElem?_set_self (by simpa using hj)] at hx
   obtain rfl:=Option.some.inj hx
   rw[take_one (u:=ci) (by rw[List.getElem?_set_self (by simp;omega)])]
   exact move i hi ci j ei fun k hk=>if_pos hk
  ·rw[List.getElem?_set_ne c1] at hx
   by_cases c2:i=m
   ·subst c2
    rw[List.getElem?_set_self (by simpa using hi)] at hx
    obtain rfl:=Option.some.inj hx
    rw[take_one (u:=cj) (by rw[List.getElem?_set_ne c1,List.getElem?_set_self (by omega)])]
    exact move j hj cj i ej fun k hk=>by rw[if_neg (by omega),if_pos hk]
   ·rw[List.getElem?_set_ne c2] at hx
    obtain⟨hm1,hm2⟩:=List.getElem?_eq_some_iff.1 hx
    have q:inner[m]?=some inner[m]:=List.getElem?_eq_getElem (by omega)
    rw[take_one (u:=inner[m]) (by rw[List.getElem?_set_ne c1,List.getElem?_set_ne c2];exact q),←hm2]
    exact move m hm1 _ m q fun k hk=>by rw[if_neg (by omega),if_neg (by omega)];exact hk
theorem S_put {W w1:World} {v':Value} {x':α} {okp:Nat→Prop} (hd:d.sz=1) (h:Kd.S d e W base ok (.slice (some ⟨g,0,none⟩) n cap) xs) (hb:Below W.heap.size W w1) (hbase:base≤W.heap.size) (hok:∀ k,W.heap.size≤k→ok k)
  (i:Int) (h0:0≤i) (hi:i<n) (hM:d.M w1 W.heap.size okp x' [v']) :
  Kd.S d e (w1.setCell ⟨g,i.toNat,none⟩ v') base ok (.slice (some ⟨g,0,none⟩) n cap) (xs.set i.toNat x'):=by
 have hgl:g<W.heap.size:=Kd.S_lt h g (by simp[Value.ownBlock])
 have h2:Kd.S d e w1 base (fun k=>ok k∧¬ (ok k∧W.heap.size≤k)) (.slice (some ⟨g,0,none⟩) n cap) xs:=Kd.S_mono (Kd.S_old h hb) (fun k hk=>⟨hk.1,fun hh=>by have:=hk.2;omega⟩)
 obtain⟨oki,c,hcl,_,_,_,hH⟩:=Kd.S_lend h2 x' i h0 hi
 have hM2:=d.M_lower hbase (d.M_bound hM)
 have e1:c.take 0++[v']++c.drop (0+[v'].length)=[v']:=by
  have:c.drop 1=[]:=List.drop_eq_nil_of_le (by omega)
  simp[this]
 rw[←e1] at hM2
 have r:=(Kd.S_seg (okg:=fun k=>ok k∧W.heap.size≤k) hH h0 hi (seg:=[v']) (j:=0) (by simp[hd]) (x':=x') hM2 (fun k hk=>.inr ⟨hok k hk.2.1,hk.2.1⟩) (fun k hk=>⟨hk.1,by have:=hk.2;omega⟩)).1
 rw[hd,Nat.mul_one,Nat.add_zero] at r
 exact r
end
end Go.Proofs.Ytdjclffkidoohaa.Mat
end
section
namespace Go.Proofs.Ytdjclffkidoohaa.Hof
open Go.RowKit Go.Proofs.YtdjclffkidoohaaW.PrintWords Go.Proofs.YtdjclffkidoohaaW.PrintLast Go.Proofs.YtdjclffkidoohaaW.PrintMore Go.Proofs.Ytdjclffkidoohaa.Clos
variable {P:Program} {ops:Array Oper} {Q:Exit→Act→World→Prop}
theorem goesV_ {oi:Oper} {N:Option Tmp} {a:Act} {w:World} {K:Act→World→Prop} {x:Operand} {f:FuncId} {cap:Array Value} {as_:Array Operand} {ts:Array TypeId} (hent:Ent P f) (args:Array Value)
  (hw:Region.wanted oi (yielded ops a.tmps)=true) (hN:oi.dst=N) (hop:oi.op=.call { callee:=.value x,args:=as_,argTypes:=ts }) (hx:a.eval x=.func (.func f) #[] cap) (hargs:as_.map a.eval=args)
  (h:Calls P f (args++cap) w fun e w'=>∃ v,e=.returned v∧K (a.put N v) w'):if Region.wanted oi (yielded ops a.tmps)=true then Oper.wp P oi a w K Q else K (a.put N undef) w:=by
 refine call_ f (args++cap) hw hN ?_ h
 have he:=hent (args++cap) w
 unfold execOp
 simp[hop,resolve,Deferred.ofValue,invoke,hargs,hx,he]
theorem grow_step {o:Oper} {a:Act} {W:World} {K:Act→World→Prop} (hgd:o.guard=none) (s x:Operand) (t e:TypeId)
  (hop:o.op=Op.call { callee:=Callee.builtin Builtin.append,args:=#[s,x],argTypes:=#[t,t] }) (ht:P.underlying t=some (.slice e))
  (hinfo:(P.info? e).map (fun i=>(i.zero,i.size,i.bytes))=some (some (.int .i64 0),1,8)) (A:Option Addr) (xs:List Int) (p:Int)
  (hs:a.eval s=.slice A xs.length xs.length) (hx:a.eval x=.slice (some ⟨W.heap.size,0,none⟩) 1 1) (hC:(Kd.int .i64).C W A xs.length xs) (hl:xs.length<17592186044416)
  (hK:∀ v1 w1,(Kd.int .i64).R e w1 W.heap.size (fun _=>True) v1 (xs++[p])→Below W.heap.size W w1→K (a.put o.dst v1) w1) :
  if Region.wanted o (yielded ops a.tmps)=true then Oper.wp P o a (W.alloc (.cells #[.int .i64 p] e)) K Q else K (a.put o.dst undef) (W.alloc (.cells #[.int .i64 p] e)):=by
 obtain⟨i0,hi,hzz⟩:=Option.map_eq_some_iff.1 hinfo
 simp only[Prod.mk.injEq] at hzz
 obtain⟨hz0,hz1,hz2⟩:=hzz
 have hb0:Below W.heap.size W (W.alloc (.cells #[.int .i64 p] e)):=Yq (Below.refl _ _) _
 refine step_append_grows hgd s x t hop e i0 (.int .i64 0) 1 8 ht hi hz0 hz1 hz2 rfl (by decide) A xs.length xs.length (xs.map fun y=>.int .i64 y) hs ?_ (by simp) ?_ ⟨W.heap.size,0,none⟩ 1 1 [.int .i64 p] hx rfl ?_ ?_ (by omega) (by simp only[maxLen];omega) (by omega) ?_
 ·intro hn
  rcases Nat.eq_zero_or_pos xs.length with h0|h0
  ·exact⟨h0,h0⟩
  ·obtain⟨ad,h,_⟩:=hC.2.2 h0
   rw[hn] at h
   cases h
 ·intro b hb j u hu
  rw[List.getElem?_map] at hu
  obtain⟨y,hy,rfl⟩:=Option.map_eq_some_iff.1 hu
  have hlt:j<xs.length:=(List.getElem?_eq_some_iff.1 hy).1
  obtain⟨ad,h,hc⟩:=hC.2.2 (by omega)
  rw[hb] at h
  injection h with h
  subst h
  obtain⟨c,_,hc1,hc2⟩:=hc j y hy
  have hc1':c=[.int .i64 y]:=hc1
  subst hc1'
  have:=hc2 0 (.int .i64 y) rfl
  simp only[show (Kd.int .i64).sz=1 from rfl,Nat.mul_one,Nat.add_zero] at this
  exact pw_cell_below hb0 this
 ·intro j u hu
  cases j with
 |zero =>
   have:u=.int .i64 p:=by simpa using hu.symm
   subst this
   rw[add_plain]
   have hbx:(W.alloc (.cells #[.int .i64 p] e)).heap[W.heap.size]?=some (.cells #[.int .i64 p] e (0,0)):=boxed_at W _
   exact(Xj hbx 0).trans rfl
 |succ j=>simp at hu
 ·intro u hu
  rw[List.mem_singleton.1 hu]
  rfl
 ·intro v1 w1 hown hg
  refine hK v1 w1 (Kd.R_of_own (enc:=Value.int .i64) ?_ (fun _ _=>trivial)) (pw_below_grown hb0 none hb0.size hg (fun k h=>by cases h))
  have h2:=own_weaken hown hb0.size
  simpa [encs] using h2
theorem full_slice {w:World} (t e:TypeId) (ht:P.underlying t=some (.slice e)) (hi0:(P.info? e).isSome=true) (A:Option Addr) (n c:Nat) (hc:n≤c) :
  (Instr.sliceAt t (.slice A n c) none (some (.int .i64 (n:Int))) (some (.int .i64 (n:Int)))).run P w=.ok (.slice A n n) w:=by
 obtain⟨i,hi⟩:=Option.isSome_iff_exists.1 hi0
 have ht2:P.underlying t=some (.slice (P.elem t)):=by rw[ht];simp[Program.elem,ht]
 have he:P.elem t=e:=by rw[ht] at ht2;injection ht2 with h;injection h with h;exact h.symm
 rw[run_sliceAt_slice (t:=t) _ _ _ _ _ ht2,run_slice_any (t:=t) (a:=A) (len:=n) (cap:=c) (ht:=ht2)]
 have h1:(Instr.sliceBounds true n c none (some (.int .i64 (n:Int))) (some (.int .i64 (n:Int)))).run P w=.ok (0,n,n) w:=by
  simp[Instr.sliceBounds,run_sliceBound,(by omega:(0:Int)≤n),(by omega:(n:Int)≤c)]
 have h2:(sizeOf (P.elem t)).run P w=.ok i.size w:=by rw[he];simp[sizeOf,typeInfo,hi]
 rw[h1]
 simp only[Result.andThen]
 rw[h2]
 simp only[sliced]
 have h3:(if n=0 then A else A.map (·.add (0 * i.size)))=A:=by
  split
  ·rfl
  ·cases A <;> simp[Addr.add]
 rw[h3]
 simp
end Go.Proofs.Ytdjclffkidoohaa.Hof
end
section
namespace Go.Proofs.Ytdjclffkidoohaa.Hof
open Go.RowKit Go.Proofs.YtdjclffkidoohaaW.PrintWords Go.Proofs.YtdjclffkidoohaaW.PrintLast Go.Proofs.YtdjclffkidoohaaW.PrintMore Go.Proofs.Ytdjclffkidoohaa.Clos
variable {P:Program} {ops:Array Oper} {Q:Exit→Act→World→Prop}
section
variable {md:Region.Mode} {S:World→Prop} {ds:List Nat}
theorem here_ {i:Nat} {N:Option Tmp} {oi:Oper} {v:Value} {fuel:Nat} {l:Array Bool} {a:Act} {w:World} (l':Array Bool) (hi:ops[i]?=some oi) (hN:oi.dst=N) (hc:readyB md ops l l' i=true)
  (hw:Region.wanted oi (yielded ops a.tmps)=true) (hrun:(execOp a.eval oi).run P w=.ok (.value v) w) (h:wpAnyLast P md ops Q S ds fuel l' (a.put N v) w):wpAnyLast P md ops Q S ds (fuel+1) l a w:=by
 subst hN
 simp only[readyB,Bool.and_eq_true,beq_iff_eq] at hc
 obtain⟨h1,h2⟩:=hc
 subst h2
 refine wpAnyLast_all h1 (by simp) fun j hj=>?_
 obtain rfl:=List.mem_singleton.1 hj
 refine wpOp_step hi fun K' hK=>?_
 rw[if_pos hw]
 unfold Oper.wp
 rw[hrun]
 exact hK _ _ ⟨fun _ hS=>hS,h⟩
theorem split_ {i j:Nat} {Ni Nj:Option Tmp} {oi oj:Oper} {v:Value} {fuel:Nat} {l:Array Bool} {a:Act} {w:World} (li lj:Array Bool) (hi:ops[i]?=some oi) (hj:ops[j]?=some oj) (hNi:oi.dst=Ni) (hNj:oj.dst=Nj)
  (hc:(Region.ready md ops l == [i,j] && l.setIfInBounds i true == li && l.setIfInBounds j true == lj)=true) (hdi:i∈ds)
  (h1:∀ K:Act→World→Prop,Shut (∀ a' w',wpAnyLast P md ops Q S ds fuel li a' w'→K a' w')→if Region.wanted oi (yielded ops a.tmps)=true then Oper.wp P oi a w K Q else K (a.put Ni undef) w)
  (hw:Region.wanted oj (yielded ops a.tmps)=true) (hrun:(execOp a.eval oj).run P w=.ok (.value v) w) (h2:wpAnyLast P md ops Q S ds fuel lj (a.put Nj v) w):wpAnyLast P md ops Q S ds (fuel+1) l a w:=by
 subst hNi
 subst hNj
 simp only[Bool.and_eq_true,beq_iff_eq] at hc
 obtain⟨⟨h3,h4⟩,h5⟩:=hc
 subst h4
 subst h5
 refine wpAnyLast_all h3 (by simp) fun q hq=>?_
 rcases List.mem_cons.1 hq with rfl|hq
 ·exact wpOp_step hi fun K' hK=>h1 K' (fun a' w' hW=>hK a' w' ⟨fun hn=>absurd hdi hn,hW⟩)
 ·obtain rfl:=List.mem_singleton.1 hq
  refine wpOp_step hj fun K' hK=>?_
  rw[if_pos hw]
  unfold Oper.wp
  rw[hrun]
  exact hK _ _ ⟨fun _ hS=>hS,h2⟩
end
end Go.Proofs.Ytdjclffkidoohaa.Hof
end
