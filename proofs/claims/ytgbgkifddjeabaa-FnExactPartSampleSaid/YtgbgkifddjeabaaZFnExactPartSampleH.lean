/- Function values, rows of rows; no condition. -/
import Derived.Test.YtgbgkifddjeabaaVFnExactPartSample
section
namespace Go.Proofs.Ytgbgkifddjeabaa.NS
open Go.RowKit Go.Proofs.YtgbgkifddjeabaaW.PrintWords
variable {α β : Type} {W w1 : World} {b b2 e te : Nat} {ok ok2 : Nat → Prop} {v u : Value}
theorem S_ge {d : Kd α} {xs : List α} (h : Kd.S d e W b ok v xs) : Kd.S d e W b (fun k=>b ≤ k) v xs:=Kd.S_mono (Kd.S_bound h) (fun _ hk=>hk.2.1)
theorem S_and {d : Kd α} {xs : List (List α)} (hE : d.E = []) (h : Kd.S (Kd.slice te d) e W b ok v xs) (h2 : Kd.S (Kd.slice te d) e W b2 ok2 v xs) : Kd.S (Kd.slice te d) e W b (fun k=>ok k ∧ ok2 k) v xs:=by
 have hr2:=Kd.S_R h2
 obtain ⟨f,h0,inner,ho,hr⟩:=h
 have hrr : (Kd.tag f (Kd.slice te d)).R e W b ok v xs.zipIdx:=⟨h0,inner,ho,hr⟩
 refine ⟨f,fun k hk=>⟨h0 k hk,hr2.1 k hk⟩,inner,ho,hr.1,fun j p hj=>?_⟩
 have hM:=hr.2 j p hj
 obtain ⟨y,hy,hR⟩:=hM
 have hjl : j < xs.zipIdx.length:=(List.getElem?_eq_some_iff.1 hj).1
 have hjl' : j < xs.length:=by rw [List.length_zipIdx] at hjl;exact hjl
 have hp : xs[j]? = some p.1:=by
  rw [List.getElem?_zipIdx] at hj
  obtain ⟨x,hx,rfl⟩:=Option.map_eq_some_iff.1 hj
  exact hx
 obtain ⟨g,cap,hv,_⟩:=Kd.R_form hr2 (by omega)
 subst hv
 obtain ⟨c,hcl,hM2,hcc,_⟩:=Kd.R_elem hr2 [] (j : Int) (by omega) (by omega)
 obtain ⟨y2,hy2,hR2⟩:=hM2
 rw [Int.toNat_natCast,List.getD_eq_getElem?_getD,hp] at hR2
 have hown : (Value.slice (some ⟨g,0,none⟩) xs.length cap).ownBlock = some g:=by simp [Value.ownBlock]
 have hsz : (Kd.tag f (Kd.slice te d)).sz = 1:=rfl
 have hin : inner[j]? = some y:=by
  have h3 : (inner.drop (j * 1)).take 1 = [y]:=by rw [← hsz];exact hy
  rw [Nat.mul_one] at h3
  have h4 : ((inner.drop j).take 1)[0]? = some y:=by rw [h3];rfl
  rw [List.getElem?_take] at h4
  simpa using h4
 have c1 : W.cell? ⟨g,j,none⟩ = some y:=by
  have:=ho.cells (g:=g) hown j y hin
  rwa [add_plain] at this
 have c2 : W.cell? ⟨g,j,none⟩ = some y2:=by
  have h5:=hcc 0 y2 (by rw [hy2];rfl)
  rw [Int.toNat_natCast] at h5
  have hs2 : (Kd.slice te d).sz = 1:=rfl
  rw [hs2,Nat.mul_one,Nat.add_zero] at h5
  exact h5
 rw [c1] at c2
 injection c2 with c2
 subst c2
 exact ⟨y,hy,Kd.R_mono (Kd.R_tight2 hE hR) (fun k hk=>⟨⟨⟨hk.2.1.1,(hR2.1 k hk.1.symm).1⟩,hk.2.1.2⟩,hk.2.2⟩)⟩
theorem born {d : Kd α} {d' : Kd β} {e' : Nat} {xs : List α} {ys : List β} (h : Kd.S d e w1 W.heap.size ok v xs) (hx : Kd.S d' e' W b ok2 u ys) (hb : Below W.heap.size W w1) :
  ∃ n,Kd.S d e w1 n ok v xs ∧ Kd.S d' e' w1 b (fun k=>k < n) u ys :=
 ⟨W.heap.size,h,Kd.S_mono (Kd.S_below (Kd.S_bound hx) hb) (fun _ hk=>hk.2.2.1)⟩
end Go.Proofs.Ytgbgkifddjeabaa.NS
end
section
namespace Go.Proofs.Ytgbgkifddjeabaa.NS
open Go.RowKit Go.Proofs.YtgbgkifddjeabaaW.PrintWords
def pin {α : Type} (d : Kd α) (c : List Value) : Kd α where
 sz:=d.sz
 E:=d.E
 K:=fun w x cs=>d.K w x cs ∧ cs = c
 M:=fun w base ok x cs=>d.M w base ok x cs ∧ cs = c
 K_len:=fun h=>d.K_len h.1
 K_one:=fun h=>d.K_one h.1
 K_below:=fun hb h=>⟨d.K_below hb h.1,h.2⟩
 K_of_M:=fun h=>⟨d.K_of_M h.1,h.2⟩
 M_mono:=fun hok h=>⟨d.M_mono hok h.1,h.2⟩
 M_bound:=fun h=>⟨d.M_bound h.1,h.2⟩
 M_move:=fun hm h=>⟨d.M_move hm h.1,h.2⟩
 M_lower:=fun hb h=>⟨d.M_lower hb h.1,h.2⟩
theorem new_base {v : Value} {n : Nat} (h : ∃ b,v.ownBlock = some b ∧ n ≤ b) : ∀ k,v.ownBlock = some k → n ≤ k:=by
 obtain ⟨b,hb,hn⟩:=h
 intro k hk
 rw [hb] at hk
 injection hk with hk
 omega
theorem unpin {α : Type} {d : Kd α} {c : List Value} {e base : Nat} {w : World} {ok : Nat → Prop} {v : Value} {xs : List α} (h : Kd.S (pin d c) e w base ok v xs) : Kd.S d e w base ok v xs:=by
 obtain ⟨f,h0,inner,ho,hr⟩:=h
 exact ⟨f,h0,inner,ho,hr.1,fun j p hj=>(hr.2 j p hj).1⟩
section
variable {P : Program} {ops : Array Oper} {o : Oper} {a : Act} {Q : Exit → Act → World → Prop} {Kc : Act → World → Prop} {α : Type}
theorem S_lit_one_step (d : Kd α) {W : World} (base e : Nat) (hw : Region.wanted o (yielded ops a.tmps) = true) {N' : Tmp} (hd : o.dst = some N') {p : α} {c : List Value} {ok : Nat → Prop}
  (hrun : (execOp a.eval o).run P W = .ok (.value (.slice (some ⟨W.heap.size,0,none⟩) 1 1)) (W.alloc (.cells c.toArray e)))
  (hp : d.M W base ok p c) (hfresh : ok W.heap.size) (hbase : base ≤ W.heap.size)
  (h : ∀ v1 w1,Kd.S (pin d c) e w1 base ok v1 [p] → Below W.heap.size W w1 → W.grownBy w1 none → (∃ b,v1.ownBlock = some b ∧ W.heap.size ≤ b) → Kc (a.put o.dst v1) w1) :
  if Region.wanted o (yielded ops a.tmps) = true then Oper.wp P o a W Kc Q else Kc (a.put o.dst undef) W:=by
 have hl : c.length = d.sz:=d.K_len (d.K_of_M hp)
 refine Kd.S_lits_step (pin d c) (w0:=W) base e hw hd (xs:=[p]) (inner:=c) (ok:=ok) (fun j k=>j = 0 ∧ ok k) hrun (by rw [hl];simp [pin]) ?_ (fun i j k hi hj=>hi.1.trans hj.1.symm) (fun j k hk=>hk.2) hfresh (Below.refl _ _) hbase (by simp) ?_
 ·intro j x hx
  match j,hx with
 |0,hx =>
   have hx : p = x:=by simpa using hx
   subst hx
   have e1 : (c.drop (0 * (pin d c).sz)).take (pin d c).sz = c:=by
    rw [Nat.zero_mul,List.drop_zero]
    exact List.take_of_length_le (by rw [hl];exact Nat.le_refl _)
   rw [e1]
   exact ⟨d.M_mono (fun k hk=>⟨rfl,hk⟩) hp,rfl⟩
 |j + 1,hx=>exact absurd hx (by simp)
 ·intro v1 w1 hs _ hg hn
  exact h v1 w1 hs ⟨hg.os,hg.tape,hg.output,hg.size,fun k hk=>hg.block k hk (by simp)⟩ hg hn
theorem S_append_one_step (te : Nat) (d : Kd α) (hE : d.E = []) {w0 W : World} (base : Nat) (hw : Region.wanted o (yielded ops a.tmps) = true) (s x : Operand) (t e : TypeId) (z : Value) (bytes : Nat)
  (ho : o.op = .call { callee:=.builtin .append,args:=#[s,x],argTypes:=#[t,t] })
  (ht : P.underlying t = some (.slice e)) (hinfo : (P.info? e).map (fun i=>(i.zero,i.size,i.bytes)) = some (some z,(Kd.slice te d).sz,bytes)) (hz : z.cells.size = (Kd.slice te d).sz) (hb0 : 0 < bytes)
  (v : Value) (xs ys : List (List α)) {p : List α} (hys : ys = [p]) (A : Option Addr) (m c : Nat) (u : Value) (ok okq : Nat → Prop) (hs : a.eval s = v) (hx : a.eval x = .slice A m c)
  (HO : Kd.S (Kd.slice te d) e W base (fun k=>ok k ∧ some k ≠ u.ownBlock) v xs) (HL : Kd.S (pin (Kd.slice te d) [u]) e W base okq (.slice A m c) ys)
  (hokp : ∀ k,okq k → ok k ∧ some k ≠ v.ownBlock) (hfresh : ∀ k,W.heap.size ≤ k → ok k)
  (HB : Below base w0 W) (hbase : base ≤ W.heap.size) (hl : (xs.length + m) * bytes ≤ 140737488355328)
  (h : ∀ v1 w1,Kd.S (Kd.slice te d) e w1 base ok v1 (xs ++ ys) → Below base w0 w1 → W.grownBy w1 v.ownBlock → (v1.ownBlock = v.ownBlock ∨ ∃ b,v1.ownBlock = some b ∧ W.heap.size ≤ b) → Kc (a.put o.dst v1) w1) :
  if Region.wanted o (yielded ops a.tmps) = true then Oper.wp P o a W Kc Q else Kc (a.put o.dst undef) W:=by
 subst hys
 have hR:=Kd.S_R HL
 have hm : m = 1:=(Kd.R_reads' hR).1
 subst hm
 obtain ⟨g,cap,he,_⟩:=Kd.R_form hR (by simp)
 injection he with he1 _ he3
 subst he1
 subst he3
 obtain ⟨c',hcl,hM,hcc,_⟩:=Kd.R_elem hR [] 0 (by omega) (by omega)
 obtain ⟨⟨u',hu,hp⟩,hc⟩:=hM
 rw [hc] at hu
 injection hu with hu _
 subst hu
 subst hc
 have hp1 : d.R te W base (fun k=>some k = u.ownBlock ∧ (okq k ∧ k ≠ g)) u p:=Kd.R_tight2 hE hp
 obtain ⟨f,hf,hRR⟩:=Kd.S_tag HO xs.length (fun k=>some k = u.ownBlock ∧ (okq k ∧ k ≠ g)) (fun k hk h2=>h2.2 hk.1)
 refine Kd.R_append_rows_step (Kd.tag f (Kd.slice te d)) (Rr:=fun q cs=>q = (p,xs.length) ∧ cs = [u]) base hw s x t e z bytes ho ht hinfo hz Nat.one_pos hb0 v xs.zipIdx [(p,xs.length)] (some ⟨g,0,none⟩) 1 c ok (fun k=>some k = u.ownBlock ∧ (okq k ∧ k ≠ g)) hs hx (Kd.R_mono hRR (fun _ hk=>hk.1)) ?_ ?_ (fun k hk=>hokp k hk.2.1) hfresh HB hbase (by rw [List.length_zipIdx];exact hl) ?_
 ·refine ⟨rfl,by omega,fun _=>⟨⟨g,0,none⟩,rfl,fun j q hj=>?_⟩⟩
  match j,hj with
 |0,hj =>
   have hq : (p,xs.length) = q:=by simpa using hj
   subst hq
   refine ⟨[u],rfl,⟨rfl,rfl⟩,fun i w hw=>?_⟩
   have h3:=hcc i w hw
   rw [Nat.zero_mul,Nat.zero_add,add_plain]
   rw [Int.toNat_zero,Nat.zero_mul,Nat.zero_add] at h3
   exact h3
 |j + 1,hj=>exact absurd hj (by simp)
 ·rintro q cs ⟨rfl,rfl⟩
  exact ⟨u,rfl,Kd.R_mono hp1 (fun k hk=>⟨hk,hf k hk⟩)⟩
 ·intro v1 w1 hr
  rw [← Kd.zip_snoc] at hr
  exact h v1 w1 ⟨f,hr⟩
end
end Go.Proofs.Ytgbgkifddjeabaa.NS
end
