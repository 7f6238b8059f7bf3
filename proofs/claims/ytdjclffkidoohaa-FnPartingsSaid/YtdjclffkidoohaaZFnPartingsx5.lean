/- Some of the functions that the law reaches, and what they tell; no condition. -/
import Derived.Test.YtdjclffkidoohaaVFnPartings
import Derived.Test.YtdjclffkidoohaaZFnPartingsx0
import Derived.Test.YtdjclffkidoohaaZFnPartingsx1
namespace Go.Proofs.Ytdjclffkidoohaa.QFnPartings
open Go.RowKit Go.Proofs.YtdjclffkidoohaaW.PrintWords Go.Proofs.YtdjclffkidoohaaW.PrintLast Go.Proofs.YtdjclffkidoohaaW.PrintMore
attribute [local go_sem] max2_int min2_int max_two min_two max_three min_three max_four min_four   -- for this text's walks alone
set_option linter.unusedVariables false
set_option linter.unusedSimpArgs false
mutual
def Jk1.j0:Nat→Int→Int→List Int→List (List Int)→Int→Option ((List (List Int)))
|0,_,_,_,_,_=>none
|k+1,x0,x1,x2,x7,x8=>Jk1.l0 k x0 x1 x2 x7 x8
def Jk1.l0:Nat→Int→Int→List Int→List (List Int)→Int→Option ((List (List Int)))
|0,_,_,_,_,_=>none
|k+1,x0,x1,x2,x7,x9=>if x9<x0 then((Kz1.f x2).bind fun t208=>(if t208.length<17592186044416 then((Jk1.f k x0 x1 (t208++[x9])).bind fun t214=>(if x7.length+t214.length<5864062014805 then(Jk1.l0 k x0 x1 x2 (x7++t214) (wrap64 (x9+1))) else(none))) else(none))) else(some x7)
def Jk1.f:Nat→Int→Int→List Int→Option ((List (List Int)))
|0,_,_,_=>none
|k+1,a0,a1,l2=>if(l2.length:Int)=a1 then(some (([l2]:List (List Int)))) else((some (([]:List (List Int)):List (List Int))).bind fun y204=>(if(l2.length:Int) > 0 then(if 0≤(wrap64 ((l2.length:Int) - 1)) then(if(wrap64 ((l2.length:Int) - 1))<(l2.length:Int) then(Jk1.j0 k a0 a1 l2 y204 (wrap64 ((rd l2 (wrap64 ((l2.length:Int) - 1)))+1))) else(none)) else(none)) else(Jk1.j0 k a0 a1 l2 y204 0)))
end
set_option maxHeartbeats 8000000 in
set_option maxRecDepth 100000 in
theorem Jk1.calls (k:Nat):∀ (a0:Int) (a1:Int) (P2_:Nat→Prop) (A2:Option Addr) (c2:Nat) (l2:List Int) (r:List (List Int)) (w:World) (hs2:Kd.V (Kd.int .i64) 3 w w.heap.size (fun k_=>P2_ k_) (.slice A2 l2.length c2) l2) (h:Jk1.f k a0 a1 l2=some r),
  Calls Try.prog 85 #[.int .i64 a0,.int .i64 a1,.slice A2 l2.length c2] w fun e w'=>∃ v0_:Value,e=.returned (v0_)∧Kd.N (Kd.slice 3 (Kd.int .i64)) 26 w' w.heap.size (fun k_=>(P2_ k_∨w.heap.size≤k_)) v0_ r∧Below w.heap.size w w':=by
 induction k using Nat.strongRecOn with
|_ k ih =>
 intro a0 a1 P2_ A2 c2 l2 r w hs2 h
 cases k with
|zero=>exact absurd h (by simp[Jk1.f])
|succ k =>
 simp only[Jk1.f] at h
 have HO2:=Jq.mk (show Kd.V (Kd.int .i64) 3 w w.heap.size (fun k_=>(P2_ k_∨w.heap.size≤k_)) (.slice A2 l2.length c2) l2 from Kd.V_mono hs2 (fun k_ hk=>.inl hk))
 have HB:=Jq.mk (Below.refl w.heap.size w)
 have H:(if(l2.length:Int)=a1 then(some (([l2]:List (List Int)))) else((some (([]:List (List Int)):List (List Int))).bind fun y204=>(if(l2.length:Int) > 0 then(if 0≤(wrap64 ((l2.length:Int) - 1)) then(if(wrap64 ((l2.length:Int) - 1))<(l2.length:Int) then(Jk1.j0 k a0 a1 l2 y204 (wrap64 ((rd l2 (wrap64 ((l2.length:Int) - 1)))+1))) else(none)) else(none)) else(Jk1.j0 k a0 a1 l2 y204 0))))=some r:=h
 clear h
 by_cases c4:(l2.length:Int)=a1
 ·rw[if_pos c4] at H
  have c4b0:((l2.length:Int) == a1)=true:=beq_iff_eq.mpr c4
  have c4b1:((l2.length:Int) != a1)=false:=bne_eq_false_iff_eq.mpr c4
  clear c4
  obtain⟨y201,hy201⟩:∃ y_:List (List Int),y_=(([l2]:List (List Int))):=⟨_,rfl⟩
  replace H:(some y201)=some r:=r7_ hy201 H
  have Ny201:=Jq.mk hy201
  clear hy201
  obtain rfl:=Option.some.inj H
  go_enter Try.func85,Try.ntmps85
  go_wp2_with (first|((with_reducible refine Xz (N:=15) rfl ?_);refine Kd.N_lit (Kd.slice 3 (Kd.int .i64)) _ 26 ?hg (N':=15) ?hd (xs:=([l2]:List (List Int))) (inner:=[.slice A2 l2.length c2]) (ok:=(fun k_=>(P2_ k_∨w.heap.size≤k_))) (okp:=(fun k_=>(P2_ k_∨w.heap.size≤k_))) ?hr ?hp (fun _ hk=>hk) ((show ∀ k_,w.heap.size≤k_→(fun k_=>(P2_ k_∨w.heap.size≤k_)) k_ from fun k_ hk=>(.inr (Nat.le_trans (Kj d1_) hk))) _ (Nat.le_refl _)) (Below.refl _ _) (Nat.le_refl _) (by simp) ?_;(case hd=>rfl);(case hg=>rfl);(case hr=>exact d11_);(case hp=>exact d61_);intro v202 w5 ho6 hb hg_ hnew_;clear hg_ hnew_;(first|rw[←Ny201.out] at ho6|(simp only[Int.reduceToNat] at ho6;rw[←Ny201.out] at ho6));replace HO2:=Jq.mk (Kd.V_elder' (r1_ HO2.out) (by first|exact Kd.N_base ho6|exact Kd.S_base ho6) hb);have HO203:=Jq.mk (Kd.N_lower ho6 (Kj d1_));replace HB:=Jq.mk (Yj d1_ hb);clear hb ho6))
  go_ret
  exact⟨_,d9_,r2_ HO203.out,d1_⟩
 ·rw[if_neg c4] at H
  have c4b0:((l2.length:Int) == a1)=false:=beq_eq_false_iff_ne.mpr c4
  have c4b1:((l2.length:Int) != a1)=true:=bne_iff_ne.mpr c4
  obtain⟨y204,hy204⟩:∃ y_:List (List Int),y_=(([]:List (List Int))):=⟨_,rfl⟩
  replace H:(if(l2.length:Int) > 0 then(if 0≤(wrap64 ((l2.length:Int) - 1)) then(if(wrap64 ((l2.length:Int) - 1))<(l2.length:Int) then(Jk1.j0 k a0 a1 l2 y204 (wrap64 ((rd l2 (wrap64 ((l2.length:Int) - 1)))+1))) else(none)) else(none)) else(Jk1.j0 k a0 a1 l2 y204 0))=some r:=r7_ hy204 H
  have Ny204:=Jq.mk hy204
  clear hy204
  have HC7:=Jq.mk H
  clear H
  go_enter Try.func85,Try.ntmps85
  go_upto_if 19 with (first|((with_reducible refine Xz (N:=16) rfl ?_);refine Kd.N_lit (Kd.slice 3 (Kd.int .i64)) _ 26 ?hg (N':=16) ?hd (xs:=([]:List (List Int))) (inner:=[]) (ok:=(fun k_=>(P2_ k_∨w.heap.size≤k_))) (okp:=(fun k_=>(P2_ k_∨w.heap.size≤k_))) ?hr ?hp (fun _ hk=>hk) ((show ∀ k_,w.heap.size≤k_→(fun k_=>(P2_ k_∨w.heap.size≤k_)) k_ from fun k_ hk=>(.inr (Nat.le_trans (Kj d1_) hk))) _ (Nat.le_refl _)) (Below.refl _ _) (Nat.le_refl _) (by simp) ?_;(case hd=>rfl);(case hg=>rfl);(case hr=>exact d11_);(case hp=>exact d34_);intro v205 w8 ho9 hb hg_ hnew_;clear hg_ hnew_;(first|rw[←Ny204.out] at ho9|(simp only[Int.reduceToNat] at ho9;rw[←Ny204.out] at ho9));replace HO2:=Jq.mk (Kd.V_elder' (r1_ HO2.out) (by first|exact Kd.N_base ho9|exact Kd.S_base ho9) hb);have HO206:=Jq.mk (Kd.N_lower ho9 (Kj d1_));replace HB:=Jq.mk (Yj d1_ hb);clear hb ho9))
  (try simp only[Act.put,List.setIfInBounds_toArray,List.set_cons_zero,List.set_cons_succ])
  go_cut [8] (fun v8 wc=>∃ (kq:Nat) (x8_6:Int),v8=.int .i64 x8_6∧Jq (Jk1.j0 kq a0 a1 l2 y204 x8_6=some r)∧Jq (kq≤k)∧Jq (Kd.V (Kd.int .i64) 3 wc w.heap.size (fun k_=>(P2_ k_∨w.heap.size≤k_)∧some k_≠(v205:Value).ownBlock) (.slice A2 l2.length c2) l2)∧Jq (Kd.N (Kd.slice 3 (Kd.int .i64)) 26 wc w.heap.size (fun k_=>(P2_ k_∨w.heap.size≤k_)) v205 y204)∧Jq (Below w.heap.size w wc))
  case first =>
   have H:=HC7.out
   clear HC7
   by_cases c10:(l2.length:Int) > 0
   ·rw[if_pos c10] at H
    have c10b0:decide (0<(l2.length:Int))=true:=decide_eq_true c10
    have c10b1:decide (0<l2.length)=true:=decide_eq_true (by omega)
    clear c10
    (first|rw[c10b0]|rw[c10b1]|(simp only[i64_w,i32_w];rw[c10b0])|skip)
    obtain⟨ji11,hji11⟩:∃ j_:Int,(wrap64 ((l2.length:Int) - 1))=j_:=⟨_,rfl⟩
    replace H:(if 0≤(ji11) then(if(ji11)<(l2.length:Int) then(Jk1.j0 k a0 a1 l2 y204 (wrap64 ((rd l2 (ji11))+1))) else(none)) else(none))=some r:=by first|(rw[hji11] at H;exact H)|(simp only[hji11] at H ⊢;exact H)
    have hji11w:(IntKind.i64.wrap ((l2.length:Int) - 1))=ji11:=(i64_w _).trans hji11
    by_cases c12:0≤(ji11)
    ·rw[if_pos c12] at H
     have c12b0:decide (0≤(ji11))=true:=decide_eq_true c12
     clear c12
     by_cases c13:(ji11)<(l2.length:Int)
     ·rw[if_pos c13] at H
      have c13b0:decide ((ji11)<(l2.length:Int))=true:=decide_eq_true c13
      clear c13
      have H':=Jq.mk H
      clear H
      have p207:0≤((ji11):Int):=r6_
      have q207:(ji11)<(l2.length:Int):=r6_
      obtain⟨ad207,e207,hx207_0⟩:=Kd.at_int (Kd.V_reads' HO2.out).2.2 (ji11) p207 q207
      cases e207
      replace p207:=eq_true p207
      replace q207:=eq_true q207
      go_wp2
      go_meet
      case rel=>exact⟨_,(wrap64 ((rd l2 (ji11))+1)),(by first|rfl|(simp;done)|(simp only[←hji11] <;> (first|rfl|simp))|(simp[*];done)),H',⟨d41_⟩,⟨r1_ HO2.out⟩,⟨r2_ HO206.out⟩,⟨d1_⟩⟩
     ·rw[if_neg c13] at H
      exact absurd H (by simp)
    ·rw[if_neg c12] at H
     exact absurd H (by simp)
   ·rw[if_neg c10] at H
    have c10b0:decide (0<(l2.length:Int))=false:=decide_eq_false c10
    have c10b1:decide (0<l2.length)=false:=decide_eq_false (by omega)
    clear c10
    (first|rw[c10b0]|rw[c10b1]|(simp only[i64_w,i32_w];rw[c10b0])|skip)
    have H':=Jq.mk H
    clear H
    go_wp2
    go_meet
    case rel=>exact⟨_,(0),d7_,H',⟨d41_⟩,⟨r1_ HO2.out⟩,⟨r2_ HO206.out⟩,⟨d1_⟩⟩
  case rest =>
   clear HC7
   try clear c1
   try clear c2
   try clear p2
   try clear q2
   try clear hx2
   try clear c4
   try clear c4b0
   try clear c4b1
   try clear p6
   try clear c8
   try clear c10
   try clear c10b0
   try clear c10b1
   try clear c12
   try clear c12b0
   try clear c13
   try clear c13b0
   try clear hx207_0
   try clear p207
   try clear q207
   obtain⟨kq,x8_6,rfl,HA,HJ6,HO_2,HO_7,HB⟩:=hcut
   cases kq with
  |zero=>exact absurd HA.out (by simp[Jk1.j0])
  |succ kj6 =>
    have H:=HA.out
    clear HA
    simp only[Jk1.j0] at H
    have H':=Jq.mk H
    clear H
    go_wp2
    go_loopg [7,9] kj6 (fun kq v7 v9 w'=>∃ (x7_2:List (List Int)) (x9_2:Int),v9=.int .i64 x9_2∧Jq (Jk1.l0 kq a0 a1 l2 x7_2 x9_2=some r)∧Jq (kq≤kj6)∧Jq (Kd.V (Kd.int .i64) 3 w' w.heap.size (fun k_=>(P2_ k_∨w.heap.size≤k_)∧some k_≠(v7:Value).ownBlock) (.slice A2 l2.length c2) l2)∧Jq (Kd.N (Kd.slice 3 (Kd.int .i64)) 26 w' w.heap.size (fun k_=>(P2_ k_∨w.heap.size≤k_)) v7 x7_2)∧Jq (Below w.heap.size w w'))
    case atStart=>exact⟨(y204),(x8_6),d7_,H',⟨Nat.le_refl _⟩,⟨r1_ HO_2.out⟩,⟨r2_ HO_7.out⟩,⟨d1_⟩⟩
    case round =>
     clear H'
     try clear c1
     try clear c2
     try clear p2
     try clear q2
     try clear hx2
     try clear c4
     try clear c4b0
     try clear c4b1
     try clear p6
     try clear c8
     try clear c10
     try clear c10b0
     try clear c10b1
     try clear c12
     try clear c12b0
     try clear c13
     try clear c13b0
     try clear hx207_0
     try clear p2
     try clear p207
     try clear p6
     try clear q2
     try clear q207
     obtain⟨x7_2,x9_2,rfl,HA,HK2,HO_2,HO_7,HB⟩:=hrel
     cases gk with
    |zero=>exact absurd HA.out (by simp[Jk1.l0])
    |succ k2 =>
      have H:=HA.out
      clear HA
      simp only[Jk1.l0] at H
      by_cases c14:x9_2<a0
      ·rw[if_pos c14] at H
       have c14b0:decide (x9_2<a0)=true:=decide_eq_true c14
       clear c14
       replace H:=Option.bind_eq_some_iff.mp H
       obtain⟨t208,A150,H⟩:=H
       replace H:(if t208.length<17592186044416 then((Jk1.f k2 a0 a1 (t208++[x9_2])).bind fun t214=>(if x7_2.length+t214.length<5864062014805 then(Jk1.l0 k2 a0 a1 l2 (x7_2++t214) (wrap64 (x9_2+1))) else(none))) else(none))=some r:=H
       have A15:=Jq.mk A150
       clear A150
       by_cases c16:t208.length<17592186044416
       ·rw[if_pos c16] at H
        have LMc16:=Jq.mk c16
        clear c16
        obtain⟨y211,hy211⟩:∃ y_:List Int,y_=(t208++[x9_2]):=⟨_,rfl⟩
        replace H:((Jk1.f k2 a0 a1 y211).bind fun t214=>(if x7_2.length+t214.length<5864062014805 then(Jk1.l0 k2 a0 a1 l2 (x7_2++t214) (wrap64 (x9_2+1))) else(none)))=some r:=r7_ hy211 H
        have Ny211:=Jq.mk hy211
        clear hy211
        replace H:=Option.bind_eq_some_iff.mp H
        obtain⟨t214,A170,H⟩:=H
        replace H:(if x7_2.length+t214.length<5864062014805 then(Jk1.l0 k2 a0 a1 l2 (x7_2++t214) (wrap64 (x9_2+1))) else(none))=some r:=H
        have A17:=Jq.mk A170
        clear A170
        by_cases c18:x7_2.length+t214.length<5864062014805
        ·rw[if_pos c18] at H
         have LMc18:=Jq.mk c18
         clear c18
         obtain⟨y217,hy217⟩:∃ y_:List (List Int),y_=(x7_2++t214):=⟨_,rfl⟩
         replace H:(Jk1.l0 k2 a0 a1 l2 y217 (wrap64 (x9_2+1)))=some r:=r7_ hy217 H
         have Ny217:=Jq.mk hy217
         clear hy217
         have H':=Jq.mk H
         clear H
         go_wp2_with (first|((with_reducible refine Gj (f:=76) rfl ?_);refine Kx (some 37) rfl rfl Try.func76 (by kernel_rfl) rfl #[.slice A2 l2.length c2] rfl d2_ ?_;(with_reducible refine(Kz1.calls _ _ l2 t208 _ ?side1 ?side2 A15.out).mono ?_);(case side1=>exact r4_ (Kd.V_reads' HO_2.out).2.2);(case side2=>exact(Kd.V_reads' HO_2.out).2.1);rintro e w19 ⟨v209,rfl,ho0,hb⟩;refine⟨_,rfl,?_⟩;replace HO_2:=Jq.mk (Kd.V_elder' (r1_ HO_2.out) (Kd.R_base ho0) hb);replace HO_7:=Jq.mk (Kd.N_elder' (r2_ HO_7.out) (Kd.R_base ho0) hb);have HO210:=Jq.mk (Kd.R_lower (Kd.R_newM (M:=fun k_=>(w.heap.size≤k_)) ho0 (Kj d1_) (fun k_ h_=>h_)) (Kj d1_));replace HB:=Jq.mk (Yj d1_ hb);(try clear hb);(try clear hb2);(try clear hk);(try clear hi);(try clear ho0))|((with_reducible refine gate_builtin (b:=.append) (xs:=#[.tmp 37,.tmp 39]) rfl ?_);at_builtin;refine Kd.R_append (Kd.int .i64) (w0:=w) w.heap.size rfl (.tmp 37) (.tmp 39) 26 3 (.int .i64 0) 8 rfl Try.underlying26 info3 rfl (by decide) (by omega) v209 t208 x9_2 [.int .i64 x9_2] (fun k_=>(w.heap.size≤k_)) (fun _=>False) rfl rfl ?aP (fun _ hk=>hk.elim) ?aF ?aO ?aB ?aS ?aL ?_;(case aP=>exact rfl);(case aB=>exact d1_);(case aF=>exact(fun k_ hk=>(Nat.le_trans (Kj d1_) hk)));(case aO=>exact(by(with_reducible repeat(first|apply Kd.R_alloc|apply Kd.R_drewN|apply Kd.R_drew));exact Kd.R_mono HO210.out (fun _ hk=>hk.1)));(case aS=>exact d83_);(case aL=>have:=LMc16.out;omega);intro v212 w20 ho hb hg hat;rw[←Ny211.out] at ho;replace HO_2:=Jq.mk (Kd.V_afterv (ok:=(fun k_=>(P2_ k_∨w.heap.size≤k_)∧some k_≠(u7:Value).ownBlock)) (r1_ HO_2.out) hg hat);replace HO_7:=Jq.mk (Kd.N_afterv (ok:=(fun k_=>(P2_ k_∨w.heap.size≤k_))) (r2_ HO_7.out) hg hat);replace HB:=Jq.mk (hb);have HO213:=Jq.mk (ho);clear HO210;clear ho hb hg hat;obtain⟨Ao21,co21,eo21⟩:=Kd.R_slice HO213.out;subst eo21)|((with_reducible refine Gj (f:=85) rfl ?_);refine Kx (some 41) rfl rfl Try.func85 (by kernel_rfl) rfl #[.int .i64 a0,.int .i64 a1,.slice Ao21 y211.length co21] rfl d2_ ?_;(with_reducible refine(ih k2 (by have:=HJ6.out;have:=HK2.out;omega) a0 a1 (fun k_=>some k_=(.slice Ao21 y211.length co21:Value).ownBlock) _ _ y211 t214 _ ?side1 A17.out).mono ?_);(case side1=>exact Kd.R_V (Kd.R_tight rfl (Kd.R_apart' (HO213.out) (Kd.N_typed HO_7.out) (by decide))));rintro e w22 ⟨v215,rfl,ho0,hb⟩;refine⟨_,rfl,?_⟩;replace HO_2:=Jq.mk (Kd.V_elder' (r1_ HO_2.out) d15_ hb);have HO216:=Jq.mk (Kd.N_lower (Kd.N_mono (ok':=fun k_=>(P2_ k_∨w.heap.size≤k_)∧some k_≠(u7:Value).ownBlock) ho0 (fun k_ hk_=>⟨Or.elim hk_ (fun hs_=>(.inr (((Kd.R_apart' (HO213.out) (Kd.N_typed HO_7.out) (by decide)).1 k_ hs_.symm).1))) (fun hn_=>(.inr (Nat.le_trans (Kj d1_) hn_))),Or.elim hk_ (fun hs_=>((Kd.R_apart' (HO213.out) (Kd.N_typed HO_7.out) (by decide)).1 k_ hs_.symm).2) (fun hn_=>(Kd.fresh' (Kd.N_lt (r2_ HO_7.out)) k_ hn_))⟩)) (Kj d1_));replace HO_7:=Jq.mk (Kd.N_elder' (r2_ HO_7.out) d15_ hb);replace HO213:=Jq.mk (Kd.R_below (r0_ HO213.out) hb);replace HB:=Jq.mk (Yj d1_ hb);(try clear hb);(try clear hb2);(try clear hk);(try clear hi);(try clear ho0);obtain⟨Ao24,co24,eo24⟩:=Kd.N_slice HO216.out;subst eo24)|((with_reducible refine gate_builtin (b:=.append) (xs:=#[.tmp 33,.tmp 41]) rfl ?_);at_builtin;refine Kd.N_append_rows (Kd.slice 3 (Kd.int .i64)) (w0:=w) w.heap.size rfl (.tmp 33) (.tmp 41) 25 26 (.slice none 0 0) 24 rfl Try.underlying25 info26 rfl (by decide) (by omega) u7 x7_2 t214 _ _ _ (fun k_=>(P2_ k_∨w.heap.size≤k_)) (fun k_=>((fun k_=>(P2_ k_∨w.heap.size≤k_))) k_∧some k_≠(u7:Value).ownBlock) rfl rfl ?aO ?aR (fun _ hk=>hk) ?aF ?aB ?aS ?aL ?_;(case aR=>exact(by skip;exact Kd.N_F (Kd.N_mono (ok':=(fun k_=>((fun k_=>(P2_ k_∨w.heap.size≤k_))) k_∧some k_≠(u7:Value).ownBlock)) (HO216.out) (fun k_ hk=>by first|exact⟨hk.1,hk.2⟩|grind))));(case aB=>exact d1_);(case aF=>exact(fun k_ hk=>(.inr (Nat.le_trans (Kj d1_) hk))));(case aO=>exact d114_);(case aS=>exact d83_);(case aL=>have:=LMc18.out;omega);intro v218 w23 ho hb hg hat;rw[←Ny217.out] at ho;replace HO_2:=Jq.mk (Kd.V_afterv (ok:=(fun k_=>(P2_ k_∨w.heap.size≤k_)∧some k_≠(.slice Ao21 y211.length co21:Value).ownBlock∧some k_≠(.slice Ao24 t214.length co24:Value).ownBlock)) d100_ hg hat);replace HO213:=Jq.mk (Kd.R_over' (r0_ HO213.out) (Kd.N_typed (r2_ HO_7.out)) (by decide) hg);replace HO216:=Jq.mk (Kd.N_afterv (ok:=(fun k_=>(P2_ k_∨w.heap.size≤k_))) (r2_ HO216.out) hg hat);replace HB:=Jq.mk (hb);have HO219:=Jq.mk (ho);clear HO_7;clear ho hb hg hat))
         go_roundg k2
         case measure=>have:=HJ6.out;have:=HK2.out;omega
         case rel=>exact⟨(y217),(wrap64 (x9_2+1)),d7_,H',⟨by have:=HJ6.out;have:=HK2.out;omega⟩,⟨d101_⟩,⟨r2_ HO219.out⟩,⟨d1_⟩⟩
        ·rw[if_neg c18] at H
         exact absurd H (by simp)
       ·rw[if_neg c16] at H
        exact absurd H (by simp)
      ·rw[if_neg c14] at H
       have c14b0:decide (x9_2<a0)=false:=decide_eq_false c14
       clear c14
       obtain rfl:=Option.some.inj H
       go_wp2
       go_ret
       exact⟨_,d9_,r2_ HO_7.out,d1_⟩
def Xx1.l0:Nat→List (List Int)→List (List Int)→Int→Option ((List (List Int)))
|0,_,_,_=>none
|k+1,x0,x3,x4=>if x4<(x0.length:Int) then(if 0≤x4 then((Kz1.f (rd_L1 x0 x4)).bind fun t224=>(if x3.length<5864062014805 then(Xx1.l0 k x0 (x3++[t224]) (wrap64 (x4+1))) else(none))) else(none)) else(some x3)
def Xx1.f (k:Nat) (l0:List (List Int)):Option ((List (List Int))):=Xx1.l0 k l0 (([]:List (List Int))) 0
set_option maxHeartbeats 8000000 in
set_option maxRecDepth 100000 in
theorem Xx1.calls (k:Nat) (A0:Option Addr) (c0:Nat) (l0:List (List Int)) (r:List (List Int)) (w:World) (hr0:Kd.C (Kd.slice 3 (Kd.int .i64)) w A0 l0.length l0) (hc0:l0.length≤c0) (h:Xx1.f k l0=some r) :
  Calls Try.prog 130 #[.slice A0 l0.length c0] w fun e w'=>∃ v0_:Value,e=.returned (v0_)∧Kd.S (Kd.slice 3 (Kd.int .i64)) 26 w' w.heap.size (fun _=>True) v0_ r∧Below w.heap.size w w':=by
 have HR0:=Jq.mk hr0;have HC0:=Jq.mk hc0;clear hr0 hc0;have HB:=Jq.mk (Below.refl w.heap.size w);have H:(Xx1.l0 k l0 (([]:List (List Int))) 0)=some r:=h;clear h;obtain⟨y220,hy220⟩:∃ y_:List (List Int),y_=(([]:List (List Int))):=⟨_,rfl⟩;(replace H:(Xx1.l0 k l0 y220 0)=some r:=r7_ hy220 H);have Ny220:=Jq.mk hy220;clear hy220;have H':=Jq.mk H;clear H;(go_enter Try.func130,Try.ntmps130);(go_wp2_with (first|((with_reducible refine Xz (N:=5) rfl ?_);refine Kd.S_lit (Kd.slice 3 (Kd.int .i64)) _ 26 ?hg (N:=5) ?hd (xs:=([]:List (List Int))) (inner:=[]) (ok:=fun _=>True) (okp:=fun _=>True) ?hr ?hp (fun _ hk=>hk) trivial (Below.refl _ _) (Nat.le_refl _) (by simp) ?_;(case hd=>rfl);(case hg=>rfl);(case hr=>exact d11_);(case hp=>exact d34_);intro v221 w2 ho3 hb hg_ hnew_;clear hg_ hnew_;(first|rw[←Ny220.out] at ho3|(simp only[Int.reduceToNat] at ho3;rw[←Ny220.out] at ho3));have HO222:=Jq.mk (Kd.S_lower ho3 (Kj d1_));replace HB:=Jq.mk (Yj d1_ hb);clear hb ho3)));(go_loopg [3,4] k (fun kq v3 v4 w'=>∃ (x3_1:List (List Int)) (x4_1:Int),v4=.int .i64 x4_1∧Jq (Xx1.l0 kq l0 x3_1 x4_1=some r)∧Jq (kq≤k)∧Jq (Kd.S (Kd.slice 3 (Kd.int .i64)) 26 w' w.heap.size (fun _=>True) v3 x3_1)∧Jq (Below w.heap.size w w')));(case atStart=>exact⟨(y220),(0),d7_,H',⟨Nat.le_refl _⟩,⟨r9_ HO222.out⟩,⟨d1_⟩⟩)
 case round =>
  clear H';(try clear c1);(try clear p2);obtain⟨x3_1,x4_1,rfl,HA,HK1,HO_3,HB⟩:=hrel
  cases gk with
 |zero=>exact absurd HA.out (by simp[Xx1.l0])
 |succ k1 =>
   have H:=HA.out;clear HA;(simp only[Xx1.l0] at H);(by_cases c4:x4_1<(l0.length:Int));(·rw[if_pos c4] at H;have c4b0:decide (x4_1<(l0.length:Int))=true:=decide_eq_true c4;clear c4;(by_cases c5:0≤x4_1);(·rw[if_pos c5] at H;have c5b0:decide (0≤x4_1)=true:=decide_eq_true c5;clear c5;replace H:=Option.bind_eq_some_iff.mp H;obtain⟨t224,A60,H⟩:=H;replace H:(if x3_1.length<5864062014805 then(Xx1.l0 k1 l0 (x3_1++[t224]) (wrap64 (x4_1+1))) else(none))=some r:=H;have A6:=Jq.mk A60;clear A60;(by_cases c7:x3_1.length<5864062014805);(·rw[if_pos c7] at H;have LMc7:=Jq.mk c7;clear c7;obtain⟨y227,hy227⟩:∃ y_:List (List Int),y_=(x3_1++[t224]):=⟨_,rfl⟩;(replace H:(Xx1.l0 k1 l0 y227 (wrap64 (x4_1+1)))=some r:=r7_ hy227 H);have Ny227:=Jq.mk hy227;clear hy227;have H':=Jq.mk H;clear H;have p223:0≤(x4_1:Int):=r6_;have q223:x4_1<(l0.length:Int):=r6_;obtain⟨ad223,A223_0,c223_0,e223,hx223_0,hl223_0,hi223_0⟩:=at_L1 HR0.out x4_1 p223 q223;(cases e223);replace hx223_0:=(HB.out.cell (World.block_lt_of_cell? w _ hx223_0)).trans hx223_0;have HR223_0:=Jq.mk hi223_0;have HC223_0:=Jq.mk hl223_0;clear hi223_0 hl223_0;replace p223:=eq_true p223;replace q223:=eq_true q223;(go_wp2_with (first|((with_reducible refine Gj (f:=76) rfl ?_);refine Kx (some 17) rfl rfl Try.func76 (by kernel_rfl) rfl #[.slice A223_0 (rd_L1 l0 x4_1).length c223_0] rfl d2_ ?_;(with_reducible refine(Kz1.calls _ _ (rd_L1 l0 x4_1) t224 _ ?side1 ?side2 A6.out).mono ?_);(case side1=>exact r4_ (Kd.C_below HR223_0.out HB.out));(case side2=>exact HC223_0.out);rintro e w8 ⟨v225,rfl,ho0,hb⟩;refine⟨_,rfl,?_⟩;replace HO_3:=Jq.mk (Kd.S_elder' (r9_ HO_3.out) (Kd.R_base ho0) hb);have HO226:=Jq.mk (Kd.R_lower ho0 (Kj d1_));replace HB:=Jq.mk (Yj d1_ hb);(try clear hb);(try clear hb2);(try clear hk);(try clear hi);(try clear ho0);obtain⟨Ao10,co10,eo10⟩:=Kd.R_slice HO226.out;subst eo10)|((with_reducible refine gate_builtin (b:=.append) (xs:=#[.tmp 12,.tmp 18]) rfl ?_);at_builtin;refine Kd.S_append (Kd.slice 3 (Kd.int .i64)) (w0:=w) w.heap.size rfl (.tmp 12) (.tmp 18) 25 26 (.slice none 0 0) 24 rfl Try.underlying25 info26 rfl (by decide) (by omega) u3 x3_1 t224 [.slice Ao10 t224.length co10] (fun _=>True) (fun k_=>some k_=(.slice Ao10 t224.length co10:Value).ownBlock) rfl rfl ?aP (fun k_ hk_=>((Kd.R_mono (ok':=fun k_=>((fun _=>True)) k_∧some k_≠(u3:Value).ownBlock) (Kd.R_apart' (HO226.out) (Kd.S_typed HO_3.out) (by decide)) (fun k_ hk=>⟨trivial,hk.2⟩))).1 k_ hk_.symm) ?aF ?aO ?aB ?aS ?aL ?_;(case aP=>exact Kd.M_row (Kd.R_mono (Kd.R_tight rfl (Kd.R_mono (ok':=fun k_=>((fun _=>True)) k_∧some k_≠(u3:Value).ownBlock) (Kd.R_apart' (HO226.out) (Kd.S_typed HO_3.out) (by decide)) (fun k_ hk=>⟨trivial,hk.2⟩))) (fun _ h_=>h_)));(case aB=>exact d1_);(case aF=>exact d39_);(case aO=>exact d68_);(case aS=>exact d83_);(case aL=>have:=LMc7.out;omega);intro v228 w9 ho hb hg hat;rw[←Ny227.out] at ho;replace HB:=Jq.mk (hb);have HO229:=Jq.mk (ho);clear HO_3 HO226;clear ho hb hg hat)));(go_roundg k1);(case measure=>exact d21_);(case rel=>exact⟨(y227),(wrap64 (x4_1+1)),d7_,H',⟨d21_⟩,⟨r9_ HO229.out⟩,⟨d1_⟩⟩));(·exact r5_ c7 H));(·exact r5_ c5 H));(·rw[if_neg c4] at H;have c4b0:decide (x4_1<(l0.length:Int))=false:=decide_eq_false c4;clear c4;obtain rfl:=Option.some.inj H;(go_wp2);(go_ret);exact⟨_,d9_,r9_ HO_3.out,d1_⟩)
def Jz1.f (a0:Int) (a1:Int):Option (Int):=if a0 > a1 then(some a0) else(some a1)
set_option maxHeartbeats 8000000 in
set_option maxRecDepth 100000 in
theorem Jz1.calls (a0:Int) (a1:Int) (r:Int) (w:World) (h:Jz1.f a0 a1=some r) :
  Calls Try.prog 93 #[.int .i64 a0,.int .i64 a1] w fun e w'=>e=.returned (.int .i64 r)∧Drawn0 w w':=by
 have H:(if a0 > a1 then(some a0) else(some a1))=some r:=h;clear h;(by_cases c3:a0 > a1);(·rw[if_pos c3] at H;have c3b0:decide (a1<a0)=true:=decide_eq_true c3;clear c3;obtain rfl:=Option.some.inj H;(go_enter Try.func93,Try.ntmps93);(go_wp2);(go_ret);exact⟨d7_,d12_⟩);(·rw[if_neg c3] at H;have c3b0:decide (a1<a0)=false:=decide_eq_false c3;clear c3;obtain rfl:=Option.some.inj H;(go_enter Try.func93,Try.ntmps93);(go_wp2);(go_ret);exact⟨d7_,d12_⟩)
def Zz1.l0:Nat→Int→Int→Option (Int)
|0,_,_=>none
|k+1,x0,x1=>if x1 > 0 then(if x1=0 then(none) else(Zz1.l0 k x1 (Int.tmod x0 x1))) else(some x0)
def Zz1.f (k:Nat) (a0:Int) (a1:Int):Option (Int):=Zz1.l0 k a0 a1
set_option maxHeartbeats 8000000 in
set_option maxRecDepth 100000 in
theorem Zz1.calls (k:Nat) (a0:Int) (a1:Int) (r:Int) (w:World) (h:Zz1.f k a0 a1=some r) :
  Calls Try.prog 148 #[.int .i64 a0,.int .i64 a1] w fun e w'=>e=.returned (.int .i64 r)∧Drawn0 w w':=by
 have H:(Zz1.l0 k a0 a1)=some r:=h;clear h;have H':=Jq.mk H;clear H;(go_enter Try.func148,Try.ntmps148);(go_wp2);(repeat(go_quiet (fail);try go_wp2));(go_loopg [0,1] k (fun kq v0 v1 w'=>∃ (x0_1:Int) (x1_1:Int),v0=.int .i64 x0_1∧v1=.int .i64 x1_1∧Jq (Zz1.l0 kq x0_1 x1_1=some r)∧Jq (kq≤k)∧Drawn0 w w'));(case atStart=>exact⟨(a0),(a1),d7_,d7_,H',⟨Nat.le_refl _⟩,d12_⟩)
 case round =>
  clear H';(try clear c1);(try clear p2);obtain⟨x0_1,x1_1,rfl,rfl,HA,HK1,⟨m1,rfl⟩⟩:=hrel
  cases gk with
 |zero=>exact absurd HA.out (by simp[Zz1.l0])
 |succ k1 =>
   have H:=HA.out;clear HA;(simp only[Zz1.l0] at H);(by_cases c3:x1_1 > 0);(·rw[if_pos c3] at H;have c3b0:decide (0<x1_1)=true:=decide_eq_true c3;clear c3;(by_cases c4:x1_1=0);(·rw[if_pos c4] at H;exact absurd H (by simp));(·rw[if_neg c4] at H;have c4b0:(x1_1 == 0)=false:=beq_eq_false_iff_ne.mpr c4;have c4b1:(x1_1 != 0)=true:=bne_iff_ne.mpr c4;have H':=Jq.mk H;clear H;(go_wp2);(repeat(go_quiet (fail);try go_wp2));(go_roundg k1);(case measure=>exact d21_);(case rel=>exact⟨(x1_1),(Int.tmod x0_1 x1_1),d7_,d7_,H',⟨d21_⟩,d12_⟩)));(·rw[if_neg c3] at H;have c3b0:decide (0<x1_1)=false:=decide_eq_false c3;clear c3;obtain rfl:=Option.some.inj H;(go_wp2);(repeat(go_quiet (fail);try go_wp2));(go_ret);exact⟨d7_,d12_⟩)
mutual
def Kk1.l0:Nat→List Int→Int→Int→Option (List Int)
|0,_,_,_=>none
|k+1,x0,x3,x4=>if x4<(x0.length:Int) then(if 0≤x4 then(if(rd x0 x4)=0 then(Kk1.l0 k x0 x3 (wrap64 (x4+1))) else((Jz1.f (rd x0 x4) (wrap64 (-(rd x0 x4)))).bind fun t233=>((Zz1.f k t233 x3).bind fun t234=>(Kk1.l0 k x0 t234 (wrap64 (x4+1)))))) else(none)) else((Kz1.f x0).bind fun t235=>(Kk1.l1 k x3 t235 0))
def Kk1.l1:Nat→Int→List Int→Int→Option (List Int)
|0,_,_,_=>none
|k+1,x3,x5,x6=>if x6<(x5.length:Int) then(if x3 > 1 then(if 0≤x6 then(if x3=0 then(none) else(Kk1.l1 k x3 (x5.set (x6:Int).toNat (wrap64 (Int.tdiv (rd x5 x6) x3))) (wrap64 (x6+1)))) else(none)) else(some x5)) else(some x5)
end
def Kk1.f (k:Nat) (l0:List Int):Option (List Int):=Kk1.l0 k l0 0 0
set_option maxHeartbeats 8000000 in
set_option maxRecDepth 100000 in
theorem Kk1.calls (k:Nat) (A0:Option Addr) (c0:Nat) (l0:List Int) (r:List Int) (w:World) (hr0:Kd.C (Kd.int .i64) w A0 l0.length l0) (hc0:l0.length≤c0) (h:Kk1.f k l0=some r) :
  Calls Try.prog 131 #[.slice A0 l0.length c0] w fun e w'=>∃ v0_:Value,e=.returned (v0_)∧Kd.R (Kd.int .i64) 3 w' w.heap.size (fun _=>True) v0_ r∧Below w.heap.size w w':=by
 have HR0:=Jq.mk hr0;have HC0:=Jq.mk hc0;clear hr0 hc0;have HB:=Jq.mk (Below.refl w.heap.size w);have H:(Kk1.l0 k l0 0 0)=some r:=h;clear h;have H':=Jq.mk H;clear H;(go_enter Try.func131,Try.ntmps131);(go_wp2);(repeat(go_quiet (fail);try go_wp2));(go_loopg [3,4] k (fun kq v3 v4 w'=>∃ (x3_1:Int) (x4_1:Int),v3=.int .i64 x3_1∧v4=.int .i64 x4_1∧Jq (Kk1.l0 kq l0 x3_1 x4_1=some r)∧Jq (kq≤k)∧Jq (Below w.heap.size w w')));(case atStart=>exact⟨(0),(0),d7_,d7_,H',⟨Nat.le_refl _⟩,⟨d1_⟩⟩)
 case round =>
  clear H';(try clear c1);obtain⟨x3_1,x4_1,rfl,rfl,HA,HK1,HB⟩:=hrel
  cases gk with
 |zero=>exact absurd HA.out (by simp[Kk1.l0])
 |succ k1 =>
   have H:=HA.out;clear HA;(simp only[Kk1.l0] at H);(by_cases c2:x4_1<(l0.length:Int));(·rw[if_pos c2] at H;have c2b0:decide (x4_1<(l0.length:Int))=true:=decide_eq_true c2;clear c2;(by_cases c3:0≤x4_1);(·rw[if_pos c3] at H;have c3b0:decide (0≤x4_1)=true:=decide_eq_true c3;clear c3;(by_cases c4:(rd l0 x4_1)=0);(·rw[if_pos c4] at H;have c4b0:((rd l0 x4_1) == 0)=true:=beq_iff_eq.mpr c4;have c4b1:((rd l0 x4_1) != 0)=false:=bne_eq_false_iff_eq.mpr c4;clear c4;have H':=Jq.mk H;clear H;have p230:0≤(x4_1:Int):=r6_;have q230:x4_1<(l0.length:Int):=r6_;obtain⟨ad230,e230,hx230_0⟩:=Kd.at_int HR0.out x4_1 p230 q230;(cases e230);replace hx230_0:=(HB.out.cell (World.block_lt_of_cell? w _ hx230_0)).trans hx230_0;replace p230:=eq_true p230;replace q230:=eq_true q230;(go_wp2);(repeat(go_quiet (fail);try go_wp2));(go_roundg k1);(case measure=>exact d21_);(case rel=>exact⟨(x3_1),(wrap64 (x4_1+1)),d7_,d7_,H',⟨d21_⟩,⟨d1_⟩⟩));(·rw[if_neg c4] at H;have c4b0:((rd l0 x4_1) == 0)=false:=beq_eq_false_iff_ne.mpr c4;have c4b1:((rd l0 x4_1) != 0)=true:=bne_iff_ne.mpr c4;replace H:=Option.bind_eq_some_iff.mp H;obtain⟨t233,A50,H⟩:=H;replace H:((Zz1.f k1 t233 x3_1).bind fun t234=>(Kk1.l0 k1 l0 t234 (wrap64 (x4_1+1))))=some r:=H;have A5:=Jq.mk A50;clear A50;replace H:=Option.bind_eq_some_iff.mp H;obtain⟨t234,A60,H⟩:=H;replace H:(Kk1.l0 k1 l0 t234 (wrap64 (x4_1+1)))=some r:=H;have A6:=Jq.mk A60;clear A60;have H':=Jq.mk H;clear H;have p230:0≤(x4_1:Int):=r6_;have q230:x4_1<(l0.length:Int):=r6_;obtain⟨ad230,e230,hx230_0⟩:=Kd.at_int HR0.out x4_1 p230 q230;(cases e230);replace hx230_0:=(HB.out.cell (World.block_lt_of_cell? w _ hx230_0)).trans hx230_0;replace p230:=eq_true p230;replace q230:=eq_true q230;have p231:0≤(x4_1:Int):=r6_;have q231:x4_1<(l0.length:Int):=r6_;obtain⟨ad231,e231,hx231_0⟩:=Kd.at_int HR0.out x4_1 p231 q231;obtain rfl:ad230=ad231:=(by injection e231);replace hx231_0:=(HB.out.cell (World.block_lt_of_cell? w _ hx231_0)).trans hx231_0;replace p231:=eq_true p231;replace q231:=eq_true q231;have p232:0≤(x4_1:Int):=r6_;have q232:x4_1<(l0.length:Int):=r6_;obtain⟨ad232,e232,hx232_0⟩:=Kd.at_int HR0.out x4_1 p232 q232;obtain rfl:ad230=ad232:=(by injection e232);replace hx232_0:=(HB.out.cell (World.block_lt_of_cell? w _ hx232_0)).trans hx232_0;replace p232:=eq_true p232;replace q232:=eq_true q232;(go_wp2_with (first|(go_at_call 93;(with_reducible refine(Jz1.calls (rd l0 x4_1) (wrap64 (-(rd l0 x4_1))) t233 _ A5.out).mono ?_);rintro e w' ⟨rfl,⟨nd,rfl⟩⟩;(try first|exact⟨rfl,_,World.drewN_drewN _ _ _⟩|exact⟨rfl,_,Eq.trans (World.drewN_drewN _ _ _) (congrArg (World.drewN _) (Nat.add_assoc _ _ _))⟩))|(go_at_call 148;(with_reducible refine(Zz1.calls k1 t233 x3_1 t234 _ A6.out).mono ?_);rintro e w' ⟨rfl,⟨nd,rfl⟩⟩;(try first|exact⟨rfl,_,World.drewN_drewN _ _ _⟩|exact⟨rfl,_,Eq.trans (World.drewN_drewN _ _ _) (congrArg (World.drewN _) (Nat.add_assoc _ _ _))⟩))));(repeat(go_quiet (first|(go_at_call 93;(with_reducible refine(Jz1.calls (rd l0 x4_1) (wrap64 (-(rd l0 x4_1))) t233 _ A5.out).mono ?_);rintro e w' ⟨rfl,⟨nd,rfl⟩⟩;(try first|exact⟨rfl,_,World.drewN_drewN _ _ _⟩|exact⟨rfl,_,Eq.trans (World.drewN_drewN _ _ _) (congrArg (World.drewN _) (Nat.add_assoc _ _ _))⟩))|(go_at_call 148;(with_reducible refine(Zz1.calls k1 t233 x3_1 t234 _ A6.out).mono ?_);rintro e w' ⟨rfl,⟨nd,rfl⟩⟩;(try first|exact⟨rfl,_,World.drewN_drewN _ _ _⟩|exact⟨rfl,_,Eq.trans (World.drewN_drewN _ _ _) (congrArg (World.drewN _) (Nat.add_assoc _ _ _))⟩)));try go_wp2_with (first|(go_at_call 93;(with_reducible refine(Jz1.calls (rd l0 x4_1) (wrap64 (-(rd l0 x4_1))) t233 _ A5.out).mono ?_);rintro e w' ⟨rfl,⟨nd,rfl⟩⟩;(try first|exact⟨rfl,_,World.drewN_drewN _ _ _⟩|exact⟨rfl,_,Eq.trans (World.drewN_drewN _ _ _) (congrArg (World.drewN _) (Nat.add_assoc _ _ _))⟩))|(go_at_call 148;(with_reducible refine(Zz1.calls k1 t233 x3_1 t234 _ A6.out).mono ?_);rintro e w' ⟨rfl,⟨nd,rfl⟩⟩;(try first|exact⟨rfl,_,World.drewN_drewN _ _ _⟩|exact⟨rfl,_,Eq.trans (World.drewN_drewN _ _ _) (congrArg (World.drewN _) (Nat.add_assoc _ _ _))⟩)))));(go_roundg k1);(case measure=>exact d21_);(case rel=>exact⟨(t234),(wrap64 (x4_1+1)),d7_,d7_,H',⟨d21_⟩,⟨d1_⟩⟩)));(·exact r5_ c3 H))
   ·rw[if_neg c2] at H;have c2b0:decide (x4_1<(l0.length:Int))=false:=decide_eq_false c2;clear c2;replace H:=Option.bind_eq_some_iff.mp H;obtain⟨t235,A70,H⟩:=H;replace H:(Kk1.l1 k1 x3_1 t235 0)=some r:=H;have A7:=Jq.mk A70;clear A70;have H':=Jq.mk H;clear H;(go_wp2_with (first|(go_at_call 76;(with_reducible refine(Kz1.calls _ _ l0 t235 _ ?side1 ?side2 A7.out).mono ?_);(case side1=>exact d49_);(case side2=>exact HC0.out);rintro e w8 ⟨v236,rfl,ho0,hb⟩;have HO237:=Jq.mk (Kd.R_lower ho0 (Kj d1_));replace HB:=Jq.mk (Yj d1_ hb);(try clear hb);(try clear hb2);(try clear hk);(try clear hi);(try clear ho0))));(repeat(go_quiet (first|(go_at_call 76;(with_reducible refine(Kz1.calls _ _ l0 t235 _ ?side1 ?side2 A7.out).mono ?_);(case side1=>exact d49_);(case side2=>exact HC0.out);rintro e w8 ⟨v236,rfl,ho0,hb⟩;have HO237:=Jq.mk (Kd.R_lower ho0 (Kj d1_));replace HB:=Jq.mk (Yj d1_ hb);(try clear hb);(try clear hb2);(try clear hk);(try clear hi);(try clear ho0)));try go_wp2_with (first|(go_at_call 76;(with_reducible refine(Kz1.calls _ _ l0 t235 _ ?side1 ?side2 A7.out).mono ?_);(case side1=>exact d49_);(case side2=>exact HC0.out);rintro e w8 ⟨v236,rfl,ho0,hb⟩;have HO237:=Jq.mk (Kd.R_lower ho0 (Kj d1_));replace HB:=Jq.mk (Yj d1_ hb);(try clear hb);(try clear hb2);(try clear hk);(try clear hi);(try clear ho0)))));(go_loopg [6] k1 (fun kq v6 w'=>∃ (x5_2:List Int) (x6_2:Int),v6=.int .i64 x6_2∧Jq (Kk1.l1 kq x3_1 x5_2 x6_2=some r)∧Jq (kq≤k1)∧Jq (Kd.R (Kd.int .i64) 3 w' w.heap.size (fun _=>True) v236 x5_2)∧Jq (Below w.heap.size w w')));(case atStart=>exact⟨(t235),(0),d7_,H',⟨Nat.le_refl _⟩,⟨r0_ HO237.out⟩,⟨d1_⟩⟩)
    case round =>
     clear H';(try clear c1);(try clear c2);(try clear c2b0);(try clear p2);(try clear q2);(try clear hx2);(try clear c3);(try clear c3b0);(try clear c4);(try clear c4b0);(try clear c4b1);(try clear p6);(try clear hx230_0);(try clear hx231_0);(try clear hx232_0);(try clear p230);(try clear p231);(try clear p232);(try clear q230);(try clear q231);(try clear q232);obtain⟨x5_2,x6_2,rfl,HA,HK2,HO_5,HB⟩:=hrel
     cases gk with
    |zero=>exact absurd HA.out (by simp[Kk1.l1])
    |succ k2 =>
      have H:=HA.out;clear HA;(simp only[Kk1.l1] at H);(by_cases c9:x6_2<(x5_2.length:Int));(·rw[if_pos c9] at H;have c9b0:decide (x6_2<(x5_2.length:Int))=true:=decide_eq_true c9;clear c9;(by_cases c10:x3_1 > 1);(·rw[if_pos c10] at H;have c10b0:decide (1<x3_1)=true:=decide_eq_true c10;clear c10;(by_cases c11:0≤x6_2);(·rw[if_pos c11] at H;have c11b0:decide (0≤x6_2)=true:=decide_eq_true c11;clear c11;(by_cases c12:x3_1=0);(·rw[if_pos c12] at H;exact absurd H (by simp));(·rw[if_neg c12] at H;have c12b0:(x3_1 == 0)=false:=beq_eq_false_iff_ne.mpr c12;have c12b1:(x3_1 != 0)=true:=bne_iff_ne.mpr c12;obtain⟨y239,hy239⟩:∃ y_:List Int,y_=(x5_2.set (x6_2:Int).toNat (wrap64 (Int.tdiv (rd x5_2 x6_2) x3_1))):=⟨_,rfl⟩;(replace H:(Kk1.l1 k2 x3_1 y239 (wrap64 (x6_2+1)))=some r:=r7_ hy239 H);have Ny239:=Jq.mk hy239;clear hy239;have H':=Jq.mk H;clear H;obtain⟨Ao14,co14,eo14⟩:=Kd.R_slice HO_5.out;subst eo14;have p238:0≤(x6_2:Int):=r6_;have q238:x6_2<(x5_2.length:Int):=r6_;obtain⟨ad238,e238,hx238_0⟩:=Kd.at_int (Kd.R_reads' HO_5.out).2.2 x6_2 p238 q238;(cases e238);replace p238:=eq_true p238;replace q238:=eq_true q238;have p13:0≤(x6_2:Int):=r6_;have q13:(x6_2:Int)<((x5_2.length:Int):Int):=r6_;obtain⟨go13,co13,eo13,gb13,gl13,cl13,HG13⟩:=Kd.R_form HO_5.out (by omega);(first|cases eo13|(injection eo13 with ea_ en_ ec_;(first|subst ea_|(injection ea_ with ea_;subst ea_));subst ec_;clear en_));have GB13:=Jq.mk gb13;have GG13:=Jq.mk HG13;clear gb13 gl13 HG13;(first|simp only[add_plain] at hx238_0|skip);obtain⟨hx13_0,hf13_0⟩:=Kd.R_celln 0 HO_5.out (x6_2:Int) p13 q13;replace p13:=eq_true p13;replace q13:=eq_true q13;have HP15:=Kd.R_putg HO_5.out (x6_2:Int) (wrap64 (Int.tdiv (rd x5_2 x6_2) x3_1));(go_wp2_with (first|((with_reducible refine gate_store (t:=3) (p:=50) rfl ?_);(try(rw[drewN_self wr];generalize hq_:World.drewN wr _=wr;replace HO_5:=Jq.mk (Kd.R_at hq_ HO_5.out);replace HB:=Jq.mk (below_at hq_ HB.out);clear hq_;(try(have HP15:=Kd.R_putg HO_5.out (x6_2:Int) (wrap64 (Int.tdiv (rd x5_2 x6_2) x3_1))))));refine store_event (t:=3) (p:=50) (v:=?vo_w16) (w1:=(wr.setCell ⟨go13,(x6_2:Int).toNat,none⟩ (.int .i64 (wrap64 (Int.tdiv (rd x5_2 x6_2) x3_1))))) ?hg ?ho ?hn ?hr ?_;(case ho=>rfl);(case hg=>rfl);(case hn=>rfl);(case hr=>exact d11_);intro w16 hw;have hg:wr.grownBy w16 (some go13):=(by rw[hw];exact HP15.2);have hp_:Kd.R (Kd.int .i64) 3 w16 w.heap.size (fun _=>True) (.slice (some ⟨go13,0,none⟩) x5_2.length co14) y239:=(by rw[hw,Ny239.out];exact HP15.1);clear HP15;replace HO_5:=Jq.mk (hp_);replace HB:=Jq.mk ((by rw[hw];exact Zq (HB.out) GB13.out:Below w.heap.size w w16));clear hg hw hp_)));(repeat(go_quiet (first|((with_reducible refine gate_store (t:=3) (p:=50) rfl ?_);(try(rw[drewN_self wr];generalize hq_:World.drewN wr _=wr;replace HO_5:=Jq.mk (Kd.R_at hq_ HO_5.out);replace HB:=Jq.mk (below_at hq_ HB.out);clear hq_;(try(have HP15:=Kd.R_putg HO_5.out (x6_2:Int) (wrap64 (Int.tdiv (rd x5_2 x6_2) x3_1))))));refine store_event (t:=3) (p:=50) (v:=?vo_w16) (w1:=(wr.setCell ⟨go13,(x6_2:Int).toNat,none⟩ (.int .i64 (wrap64 (Int.tdiv (rd x5_2 x6_2) x3_1))))) ?hg ?ho ?hn ?hr ?_;(case ho=>rfl);(case hg=>rfl);(case hn=>rfl);(case hr=>exact d11_);intro w16 hw;have hg:wr.grownBy w16 (some go13):=(by rw[hw];exact HP15.2);have hp_:Kd.R (Kd.int .i64) 3 w16 w.heap.size (fun _=>True) (.slice (some ⟨go13,0,none⟩) x5_2.length co14) y239:=(by rw[hw,Ny239.out];exact HP15.1);clear HP15;replace HO_5:=Jq.mk (hp_);replace HB:=Jq.mk ((by rw[hw];exact Zq (HB.out) GB13.out:Below w.heap.size w w16));clear hg hw hp_));try go_wp2_with (first|((with_reducible refine gate_store (t:=3) (p:=50) rfl ?_);(try(rw[drewN_self wr];generalize hq_:World.drewN wr _=wr;replace HO_5:=Jq.mk (Kd.R_at hq_ HO_5.out);replace HB:=Jq.mk (below_at hq_ HB.out);clear hq_;(try(have HP15:=Kd.R_putg HO_5.out (x6_2:Int) (wrap64 (Int.tdiv (rd x5_2 x6_2) x3_1))))));refine store_event (t:=3) (p:=50) (v:=?vo_w16) (w1:=(wr.setCell ⟨go13,(x6_2:Int).toNat,none⟩ (.int .i64 (wrap64 (Int.tdiv (rd x5_2 x6_2) x3_1))))) ?hg ?ho ?hn ?hr ?_;(case ho=>rfl);(case hg=>rfl);(case hn=>rfl);(case hr=>exact d11_);intro w16 hw;have hg:wr.grownBy w16 (some go13):=(by rw[hw];exact HP15.2);have hp_:Kd.R (Kd.int .i64) 3 w16 w.heap.size (fun _=>True) (.slice (some ⟨go13,0,none⟩) x5_2.length co14) y239:=(by rw[hw,Ny239.out];exact HP15.1);clear HP15;replace HO_5:=Jq.mk (hp_);replace HB:=Jq.mk ((by rw[hw];exact Zq (HB.out) GB13.out:Below w.heap.size w w16));clear hg hw hp_))));(go_roundg k2);(case measure=>exact d24_);(case rel=>exact⟨(y239),(wrap64 (x6_2+1)),d7_,H',⟨d24_⟩,⟨r0_ HO_5.out⟩,⟨d1_⟩⟩)));(·exact r5_ c11 H));(·rw[if_neg c10] at H;have c10b0:decide (1<x3_1)=false:=decide_eq_false c10;clear c10;obtain rfl:=Option.some.inj H;obtain⟨Ao17,co17,eo17⟩:=Kd.R_slice HO_5.out;subst eo17;(go_wp2);(repeat(go_quiet (fail);try go_wp2));(go_ret);exact⟨_,d9_,r0_ HO_5.out,d1_⟩));(·rw[if_neg c9] at H;have c9b0:decide (x6_2<(x5_2.length:Int))=false:=decide_eq_false c9;clear c9;obtain rfl:=Option.some.inj H;obtain⟨Ao18,co18,eo18⟩:=Kd.R_slice HO_5.out;subst eo18;(go_wp2);(repeat(go_quiet (fail);try go_wp2));(go_ret);exact⟨_,d9_,r0_ HO_5.out,d1_⟩)
end Go.Proofs.Ytdjclffkidoohaa.QFnPartings
