/- Function values, rows of rows; no condition. -/
import Derived.Lib.AtoiErrMem
import Derived.Shelf.Vars
import Derived.WalkSmall
import Derived.Test.YtkgjacacldcacaaDoorVFnExactParseSample
import Derived.Test.YtkgjacacldcacaaDoorShelf
section
set_option linter.unusedVariables false
namespace Go.Proofs.YtkgjacacldcacaaDoor.LibC
open Go.RowKit Go.Proofs.YtkgjacacldcacaaDoorW.PrintWords Go.Proofs.YtkgjacacldcacaaDoorW.PrintLast Go.Proofs.YtkgjacacldcacaaDoorW.PrintMore
def TabsOf (p m e : Bool) (w : World) : Prop :=
 (p = true → Go.Lib.TabIs Tryd.prog w "internal/strconv.uint64pow10" .u64 Go.Lib.pow10Tab) ∧
 (m = true → ∃ v,w.cell? ⟨0,0,none⟩ = some (.int .i64 v)) ∧
 (e = true → ∃ tp v,w.cell? ⟨1,0,none⟩ = some (.iface tp v))
theorem var_below {P : Program} {w w' : World} {n : String} {cs : Array Value} (h : Below w.heap.size w w') (hv : w.var? P n = some cs) : w'.var? P n = some cs:=by
 have hv0:=hv
 unfold World.var? at hv
 obtain ⟨g,hg,hv⟩:=Option.bind_eq_some_iff.1 hv
 refine var?_below h hg ?_ hv0
 rcases Nat.lt_or_ge g w.heap.size with h1|h1
 ·exact h1
 ·rw [Array.getElem?_eq_none h1] at hv
  cases hv
theorem tabs_below {p m e : Bool} {w w' : World} (hT : TabsOf p m e w) (h : Below w.heap.size w w') : TabsOf p m e w' :=
 ⟨fun a=>var_below h (hT.1 a),fun a=>(hT.2.1 a).imp fun _ hv=>pw_cell_below h hv,fun a=>(hT.2.2 a).imp fun _ ⟨v,hv⟩=>⟨v,pw_cell_below h hv⟩⟩
theorem below_bytes {w w' : World} {t : ByteArray} {e : TypeId} (h : w' = Go.Lib.bytesWorld w e t) : Below w.heap.size w w':=by
 subst h
 exact Go.Lib.bytesWorld_below w e t
theorem max_of {w : World} (h : w.ShapedOpen Tryd.prog) : ∃ v,w.cell? ⟨0,0,none⟩ = some (.int .i64 v) :=
 cell_of_shapedOpen_int (t:=3) (zero:=#[.int .i64 0]) h (of_decide_eq_true (by kernel_rfl)) (by kernel_rfl) rfl (by kernel_rfl) (by kernel_rfl) (by kernel_rfl)
theorem below_grow (w : World) (k : Nat) (os : Array Obj) : Below w.heap.size w (Go.Sort.grow (w.drewN k) os) :=
 ⟨rfl,rfl,rfl,by show w.heap.size ≤ (w.heap ++ os).size;rw [Array.size_append];omega,fun j hj=>by
  show (w.heap ++ os)[j]? = w.heap[j]?
  rw [Array.getElem?_append_left hj]⟩
theorem row_new (w : World) (xs : List ByteArray) (t : Nat) (h : xs.length ≤ maxLen) : Kd.R Kd.string t (w.alloc (.cells (xs.map Value.string).toArray t)) w.heap.size (fun _=>True) (.slice (some ⟨w.heap.size,0,none⟩) xs.length xs.length) xs:=by
 refine Kd.R_of_own (enc:=Value.string) (h1:=fun _=>rfl) ?_ (fun _ _=>trivial)
 have:=World.ownsRow_lit (e:=t) (size:=1) (base:=w.heap.size) w (xs.map Value.string).toArray xs.length (Nat.le_refl _) h (by simp)
 simpa [encs] using this
theorem row_cells {w : World} {A : Option Addr} {n : Nat} {xs : List ByteArray} (h : Kd.C Kd.string w A n xs) (hn : xs.length = n) (h0 : 0 < n) : ∃ b o,A = some ⟨b,o,none⟩ ∧ b < w.heap.size ∧ ∀ (j : Nat) x,xs[j]? = some x → w.cell? ⟨b,o + j,none⟩ = some (.string x):=by
 obtain ⟨ad,hA,hc⟩:=Kd.at_string h 0 (by omega) (by omega)
 have e0 : ad.add (0 : Int).toNat = ad:=by simp [Addr.add]
 rw [e0] at hc
 have hb:=World.block_lt_of_cell? w _ hc
 obtain ⟨b,o,sp⟩:=ad
 have hs : sp = none:=by
  cases sp with
 |none=>rfl
 |some z =>
   unfold World.cell? at hc
   split at hc
   ·simp at hc
   ·cases hc
 subst hs
 refine ⟨b,o,hA,hb,fun j x hj=>?_⟩
 have hjl : j < xs.length:=(List.getElem?_eq_some_iff.1 hj).1
 obtain ⟨ad2,hA2,hc2⟩:=Kd.at_string h (j : Int) (by omega) (by omega)
 rw [hA] at hA2
 obtain rfl:=Option.some.inj hA2
 have e1 : (⟨b,o,none⟩ : Addr).add ((j : Int)).toNat = ⟨b,o + j,none⟩:=by
  unfold Addr.add
  rw [Int.toNat_natCast]
  split
  ·rename_i h;subst h;rfl
  ·rfl
 have e2 : rdOf ByteArray.empty xs (j : Int) = x:=by
  unfold rdOf
  rw [Int.toNat_natCast,List.getD_eq_getElem?_getD,hj]
  rfl
 rw [e1,e2] at hc2
 exact hc2
end Go.Proofs.YtkgjacacldcacaaDoor.LibC
end
section
namespace Go.Proofs.YtkgjacacldcacaaDoor.NS
open Go.RowKit Go.Proofs.YtkgjacacldcacaaDoorW.PrintWords
def pin {α : Type} (d : Kd α) (c : List Value) : Kd α where
 sz:=d.sz
 E:=d.E
 K:=fun w x cs=>d.K w x cs ∧ cs = c
 M:=fun w base ok x cs=>d.M w base ok x cs ∧ cs = c
 K_len:=fun h=>d.K_len h.1
 K_one:=fun h=>d.K_one h.1
 K_below:=fun hb h=>⟨d.K_below hb h.1,h.2⟩
 K_of_M:=fun h=>⟨d.K_of_M h.1,h.2⟩
 M_mono:=fun hok h=>⟨d.M_mono hok h.1,h.2⟩
 M_bound:=fun h=>⟨d.M_bound h.1,h.2⟩
 M_move:=fun hm h=>⟨d.M_move hm h.1,h.2⟩
 M_lower:=fun hb h=>⟨d.M_lower hb h.1,h.2⟩
theorem new_base {v : Value} {n : Nat} (h : ∃ b,v.ownBlock = some b ∧ n ≤ b) : ∀ k,v.ownBlock = some k → n ≤ k:=by
 obtain ⟨b,hb,hn⟩:=h
 intro k hk
 rw [hb] at hk
 injection hk with hk
 omega
theorem unpin {α : Type} {d : Kd α} {c : List Value} {e base : Nat} {w : World} {ok : Nat → Prop} {v : Value} {xs : List α} (h : Kd.S (pin d c) e w base ok v xs) : Kd.S d e w base ok v xs:=by
 obtain ⟨f,h0,inner,ho,hr⟩:=h
 exact ⟨f,h0,inner,ho,hr.1,fun j p hj=>(hr.2 j p hj).1⟩
section
variable {P : Program} {ops : Array Oper} {o : Oper} {a : Act} {Q : Exit → Act → World → Prop} {Kc : Act → World → Prop} {α : Type}
theorem S_lit_one_step (d : Kd α) {W : World} (base e : Nat) (hw : Region.wanted o (yielded ops a.tmps) = true) {N' : Tmp} (hd : o.dst = some N') {p : α} {c : List Value} {ok : Nat → Prop}
  (hrun : (execOp a.eval o).run P W = .ok (.value (.slice (some ⟨W.heap.size,0,none⟩) 1 1)) (W.alloc (.cells c.toArray e)))
  (hp : d.M W base ok p c) (hfresh : ok W.heap.size) (hbase : base ≤ W.heap.size)
  (h : ∀ v1 w1,Kd.S (pin d c) e w1 base ok v1 [p] → Below W.heap.size W w1 → W.grownBy w1 none → (∃ b,v1.ownBlock = some b ∧ W.heap.size ≤ b) → Kc (a.put o.dst v1) w1) :
  if Region.wanted o (yielded ops a.tmps) = true then Oper.wp P o a W Kc Q else Kc (a.put o.dst undef) W:=by
 have hl : c.length = d.sz:=d.K_len (d.K_of_M hp)
 refine Kd.S_lits_step (pin d c) (w0:=W) base e hw hd (xs:=[p]) (inner:=c) (ok:=ok) (fun j k=>j = 0 ∧ ok k) hrun (by rw [hl];simp [pin]) ?_ (fun i j k hi hj=>hi.1.trans hj.1.symm) (fun j k hk=>hk.2) hfresh (Below.refl _ _) hbase (by simp) ?_
 ·intro j x hx
  match j,hx with
 |0,hx =>
   have hx : p = x:=by simpa using hx
   subst hx
   have e1 : (c.drop (0 * (pin d c).sz)).take (pin d c).sz = c:=by
    rw [Nat.zero_mul,List.drop_zero]
    exact List.take_of_length_le (by rw [hl];exact Nat.le_refl _)
   rw [e1]
   exact ⟨d.M_mono (fun k hk=>⟨rfl,hk⟩) hp,rfl⟩
 |j + 1,hx=>exact absurd hx (by simp)
 ·intro v1 w1 hs _ hg hn
  exact h v1 w1 hs ⟨hg.os,hg.tape,hg.output,hg.size,fun k hk=>hg.block k hk (by simp)⟩ hg hn
theorem S_append_one_step (te : Nat) (d : Kd α) (hE : d.E = []) {w0 W : World} (base : Nat) (hw : Region.wanted o (yielded ops a.tmps) = true) (s x : Operand) (t e : TypeId) (z : Value) (bytes : Nat)
  (ho : o.op = .call { callee:=.builtin .append,args:=#[s,x],argTypes:=#[t,t] })
  (ht : P.underlying t = some (.slice e)) (hinfo : (P.info? e).map (fun i=>(i.zero,i.size,i.bytes)) = some (some z,(Kd.slice te d).sz,bytes)) (hz : z.cells.size = (Kd.slice te d).sz) (hb0 : 0 < bytes)
  (v : Value) (xs ys : List (List α)) {p : List α} (hys : ys = [p]) (A : Option Addr) (m c : Nat) (u : Value) (ok okq : Nat → Prop) (hs : a.eval s = v) (hx : a.eval x = .slice A m c)
  (HO : Kd.S (Kd.slice te d) e W base (fun k=>ok k ∧ some k ≠ u.ownBlock) v xs) (HL : Kd.S (pin (Kd.slice te d) [u]) e W base okq (.slice A m c) ys)
  (hokp : ∀ k,okq k → ok k ∧ some k ≠ v.ownBlock) (hfresh : ∀ k,W.heap.size ≤ k → ok k)
  (HB : Below base w0 W) (hbase : base ≤ W.heap.size) (hl : (xs.length + m) * bytes ≤ 140737488355328)
  (h : ∀ v1 w1,Kd.S (Kd.slice te d) e w1 base ok v1 (xs ++ ys) → Below base w0 w1 → W.grownBy w1 v.ownBlock → (v1.ownBlock = v.ownBlock ∨ ∃ b,v1.ownBlock = some b ∧ W.heap.size ≤ b) → Kc (a.put o.dst v1) w1) :
  if Region.wanted o (yielded ops a.tmps) = true then Oper.wp P o a W Kc Q else Kc (a.put o.dst undef) W:=by
 subst hys
 have hR:=Kd.S_R HL
 have hm : m = 1:=(Kd.R_reads' hR).1
 subst hm
 obtain ⟨g,cap,he,_⟩:=Kd.R_form hR (by simp)
 injection he with he1 _ he3
 subst he1
 subst he3
 obtain ⟨c',hcl,hM,hcc,_⟩:=Kd.R_elem hR [] 0 (by omega) (by omega)
 obtain ⟨⟨u',hu,hp⟩,hc⟩:=hM
 rw [hc] at hu
 injection hu with hu _
 subst hu
 subst hc
 have hp1 : d.R te W base (fun k=>some k = u.ownBlock ∧ (okq k ∧ k ≠ g)) u p:=Kd.R_tight2 hE hp
 obtain ⟨f,hf,hRR⟩:=Kd.S_tag HO xs.length (fun k=>some k = u.ownBlock ∧ (okq k ∧ k ≠ g)) (fun k hk h2=>h2.2 hk.1)
 refine Kd.R_append_rows_step (Kd.tag f (Kd.slice te d)) (Rr:=fun q cs=>q = (p,xs.length) ∧ cs = [u]) base hw s x t e z bytes ho ht hinfo hz Nat.one_pos hb0 v xs.zipIdx [(p,xs.length)] (some ⟨g,0,none⟩) 1 c ok (fun k=>some k = u.ownBlock ∧ (okq k ∧ k ≠ g)) hs hx (Kd.R_mono hRR (fun _ hk=>hk.1)) ?_ ?_ (fun k hk=>hokp k hk.2.1) hfresh HB hbase (by rw [List.length_zipIdx];exact hl) ?_
 ·refine ⟨rfl,by omega,fun _=>⟨⟨g,0,none⟩,rfl,fun j q hj=>?_⟩⟩
  match j,hj with
 |0,hj =>
   have hq : (p,xs.length) = q:=by simpa using hj
   subst hq
   refine ⟨[u],rfl,⟨rfl,rfl⟩,fun i w hw=>?_⟩
   have h3:=hcc i w hw
   rw [Nat.zero_mul,Nat.zero_add,add_plain]
   rw [Int.toNat_zero,Nat.zero_mul,Nat.zero_add] at h3
   exact h3
 |j + 1,hj=>exact absurd hj (by simp)
 ·rintro q cs ⟨rfl,rfl⟩
  exact ⟨u,rfl,Kd.R_mono hp1 (fun k hk=>⟨hk,hf k hk⟩)⟩
 ·intro v1 w1 hr
  rw [← Kd.zip_snoc] at hr
  exact h v1 w1 ⟨f,hr⟩
end
end Go.Proofs.YtkgjacacldcacaaDoor.NS
end
