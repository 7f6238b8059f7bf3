/- Some of the functions that the law reaches, and what they tell; no condition. -/
import Derived.Test.YtdjclffkidoohaaVFnPartings
import Derived.Test.YtdjclffkidoohaaZFnPartingsx0
import Derived.Test.YtdjclffkidoohaaZFnPartingsx1
import Derived.Test.YtdjclffkidoohaaZFnPartingsx19
import Derived.Test.YtdjclffkidoohaaZFnPartingsx2
import Derived.Test.YtdjclffkidoohaaZFnPartingsx5
namespace Go.Proofs.Ytdjclffkidoohaa.QFnPartings
open Go.RowKit Go.Proofs.YtdjclffkidoohaaW.PrintWords Go.Proofs.YtdjclffkidoohaaW.PrintLast Go.Proofs.YtdjclffkidoohaaW.PrintMore
attribute [local go_sem] max2_int min2_int max_two min_two max_three min_three max_four min_four   -- for this text's walks alone
set_option linter.unusedVariables false
set_option linter.unusedSimpArgs false
def Xq1.f (l0:List Int):Option (Int×Int):=(Jj1.f l0 0 0 (([4,3,5,8,1,0,9,(-1),6]:List Int))).bind fun bt610=>((Jj1.f l0 bt610.2.1 bt610.2.2 (([1,2,3,4,0,5]:List Int))).bind fun bt616=>(some (bt610.1,bt616.1)))
set_option maxHeartbeats 8000000 in
set_option maxRecDepth 100000 in
theorem Xq1.calls (A0:Option Addr) (c0:Nat) (l0:List Int) (r1:Int) (r2:Int) (w:World) (hr0:Kd.C (Kd.int .u8) w A0 l0.length l0) (hc0:l0.length≤c0) (h:Xq1.f l0=some (r1,r2)) :
  Calls Try.prog 58 #[.slice A0 l0.length c0] w fun e w'=>e=.returned (.tuple #[.int .i64 r1,.int .i64 r2])∧Below w.heap.size w w':=by
 have hu108:=Try.underlying108;have HR0:=Jq.mk hr0;have HC0:=Jq.mk hc0;clear hr0 hc0;have HB:=Jq.mk (Below.refl w.heap.size w);have H:((Jj1.f l0 0 0 (([4,3,5,8,1,0,9,(-1),6]:List Int))).bind fun bt610=>((Jj1.f l0 bt610.2.1 bt610.2.2 (([1,2,3,4,0,5]:List Int))).bind fun bt616=>(some (bt610.1,bt616.1))))=some (r1,r2):=h;clear h;obtain⟨y607,hy607⟩:∃ y_:List Int,y_=(([4,3,5,8,1,0,9,(-1),6]:List Int)):=⟨_,rfl⟩;(replace H:((Jj1.f l0 0 0 y607).bind fun bt610=>((Jj1.f l0 bt610.2.1 bt610.2.2 (([1,2,3,4,0,5]:List Int))).bind fun bt616=>(some (bt610.1,bt616.1))))=some (r1,r2):=r7_ hy607 H);have Ny607:=Jq.mk hy607;clear hy607;replace H:=Option.bind_eq_some_iff.mp H;obtain⟨⟨t610,t611,t612⟩,A20,H⟩:=H;replace H:((Jj1.f l0 t611 t612 (([1,2,3,4,0,5]:List Int))).bind fun bt616=>(some (t610,bt616.1)))=some (r1,r2):=H;have A2:=Jq.mk A20;clear A20;obtain⟨y613,hy613⟩:∃ y_:List Int,y_=(([1,2,3,4,0,5]:List Int)):=⟨_,rfl⟩;(replace H:((Jj1.f l0 t611 t612 y613).bind fun bt616=>(some (t610,bt616.1)))=some (r1,r2):=r7_ hy613 H);have Ny613:=Jq.mk hy613;clear hy613;replace H:=Option.bind_eq_some_iff.mp H;obtain⟨⟨t616,t617,t618⟩,A30,H⟩:=H;replace H:(some (t610,t616))=some (r1,r2):=H;have A3:=Jq.mk A30;clear A30;(simp only[Option.some.injEq,Prod.mk.injEq] at H);obtain⟨rfl,rfl⟩:=H;(go_enter Try.func58,Try.ntmps58);(go_wp2_with (first|((with_reducible refine Xz (N:=7) rfl ?_);refine Zz ?hg (N:=7) ?hd (cs:=#[.slice A0 l0.length c0,.int .i64 0,.int .u64 0]) (t:=108) ?hr ?_;(case hd=>rfl);(case hg=>rfl);(case hr=>exact d11_);intro gb606 hg w4 hbox hb;have BK606:=Jq.mk (hbox);have GW606:=Jq.mk ((d55_:w.heap.size≤gb606));have GE606:=Jq.mk ((d55_:w.heap.size≤gb606));replace HB:=Jq.mk (Yj d1_ hb);clear hb hbox hg)|((with_reducible refine Xz (N:=9) rfl ?_);refine Kd.R_lit (Kd.int .i64) _ 3 ?hg (N:=9) ?hd (xs:=([4,3,5,8,1,0,9,(-1),6]:List Int)) (inner:=[.int .i64 4,.int .i64 3,.int .i64 5,.int .i64 8,.int .i64 1,.int .i64 0,.int .i64 9,.int .i64 (-1),.int .i64 6]) (ok:=fun _=>True) (okp:=fun _=>True) ?hr ?hp (fun _ hk=>hk) trivial (Below.refl _ _) (Nat.le_refl _) (by simp) ?_;(case hd=>rfl);(case hg=>rfl);(case hr=>exact d11_);(case hp=>exact(Reps.one (show Kd.M (Kd.int .i64) _ _ _ 4 [.int .i64 4] from rfl) (Reps.one (show Kd.M (Kd.int .i64) _ _ _ 3 [.int .i64 3] from rfl) (Reps.one (show Kd.M (Kd.int .i64) _ _ _ 5 [.int .i64 5] from rfl) (Reps.one (show Kd.M (Kd.int .i64) _ _ _ 8 [.int .i64 8] from rfl) (Reps.one (show Kd.M (Kd.int .i64) _ _ _ 1 [.int .i64 1] from rfl) (Reps.one (show Kd.M (Kd.int .i64) _ _ _ 0 [.int .i64 0] from rfl) (Reps.one (show Kd.M (Kd.int .i64) _ _ _ 9 [.int .i64 9] from rfl) (Reps.one (show Kd.M (Kd.int .i64) _ _ _ (-1) [.int .i64 (-1)] from rfl) (Reps.one (show Kd.M (Kd.int .i64) _ _ _ 6 [.int .i64 6] from rfl) (Reps.none _ _)))))))))));intro v608 w5 ho6 hb hg_ hnew_;clear hg_ hnew_;(first|rw[←Ny607.out] at ho6|(simp only[Int.reduceToNat] at ho6;rw[←Ny607.out] at ho6));have HO609:=Jq.mk (Kd.R_lower ho6 (Kj d107_));replace BK606:=Jq.mk (Vj (g:=gb606) (o:=.cells #[.slice A0 l0.length c0,.int .i64 0,.int .u64 0] 108 (0,0)) (r3_ BK606.out) hb);replace HB:=Jq.mk (Yj d107_ hb);clear hb ho6;obtain⟨Ao7,co7,eo7⟩:=Kd.R_slice HO609.out;subst eo7;have HI606:=Jq.mk (show IsS108 w _ gb606 l0 0 0 from⟨_,_,r3_ BK606.out,GE606.out,HR0.out⟩);clear BK606)|((with_reducible refine Gj (f:=108) rfl ?_);refine Kx (some 10) rfl rfl Try.func108 (by kernel_rfl) rfl #[.pointer (some ⟨gb606,0,none⟩),.slice Ao7 y607.length co7] rfl d2_ ?_;(with_reducible refine(Jj1.calls gb606 l0 0 0 _ _ y607 t610 t611 t612 w _ ?side1 ?side2 ?side3 ?side4 ?side5 A2.out).mono ?_);(case side1=>exact d66_);(case side2=>exact d37_);(case side3=>exact r4_ (Kd.R_reads' HO609.out).2.2);(case side4=>exact(Kd.R_reads' HO609.out).2.1);(case side5=>exact far_slice (IsS108.own_ne HI606.out HO609.out (by decide)));rintro e w8 ⟨rfl,hi,hb,hk⟩;refine⟨_,rfl,?_⟩;replace HO609:=Jq.mk (Kd.R_mono (Kd.R_keep (IsS108.apart (show IsS108 w _ gb606 l0 0 0 from by repeat(first|(with_reducible first|exact HI606.out|apply IsS108.alloc|apply IsS108.drewN|apply IsS108.drew|apply IsS108.set_1|apply IsS108.set_2)|exact HI606.out)) (r0_ HO609.out) (by decide)) hk (fun _ h=>h.2)) (fun _ h=>h.1));replace HB:=Jq.mk (hb);replace HI606:=Jq.mk (hi);(try clear hb);(try clear hb2);(try clear hk);(try clear hi))|((with_reducible refine Xz (N:=12) rfl ?_);refine Kd.R_lit (Kd.int .i64) _ 3 ?hg (N:=12) ?hd (xs:=([1,2,3,4,0,5]:List Int)) (inner:=[.int .i64 1,.int .i64 2,.int .i64 3,.int .i64 4,.int .i64 0,.int .i64 5]) (ok:=fun _=>True) (okp:=fun _=>True) ?hr ?hp (fun _ hk=>hk) trivial (Below.refl _ _) (Nat.le_refl _) (by simp) ?_;(case hd=>rfl);(case hg=>rfl);(case hr=>exact d11_);(case hp=>exact(Reps.one (show Kd.M (Kd.int .i64) _ _ _ 1 [.int .i64 1] from rfl) (Reps.one (show Kd.M (Kd.int .i64) _ _ _ 2 [.int .i64 2] from rfl) (Reps.one (show Kd.M (Kd.int .i64) _ _ _ 3 [.int .i64 3] from rfl) (Reps.one (show Kd.M (Kd.int .i64) _ _ _ 4 [.int .i64 4] from rfl) (Reps.one (show Kd.M (Kd.int .i64) _ _ _ 0 [.int .i64 0] from rfl) (Reps.one (show Kd.M (Kd.int .i64) _ _ _ 5 [.int .i64 5] from rfl) (Reps.none _ _))))))));intro v614 w9 ho10 hb hg_ hnew_;clear hg_ hnew_;(first|rw[←Ny613.out] at ho10|(simp only[Int.reduceToNat] at ho10;rw[←Ny613.out] at ho10));have HO615:=Jq.mk (Kd.R_lower (Kd.R_new' ho10 (Kd.R_lt (r0_ HO609.out))) (Kj d37_));replace HO609:=Jq.mk (Kd.R_elder' (r0_ HO609.out) (Kd.R_base ho10) hb);replace HB:=Jq.mk (Yj d37_ hb);replace HI606:=Jq.mk (IsS108.below d66_ hb);clear hb ho10;obtain⟨Ao11,co11,eo11⟩:=Kd.R_slice HO615.out;subst eo11)|((with_reducible refine Gj (f:=108) rfl ?_);refine Kx (some 13) rfl rfl Try.func108 (by kernel_rfl) rfl #[.pointer (some ⟨gb606,0,none⟩),.slice Ao11 y613.length co11] rfl d2_ ?_;(with_reducible refine(Jj1.calls gb606 l0 t611 t612 _ _ y613 t616 t617 t618 w _ ?side1 ?side2 ?side3 ?side4 ?side5 A3.out).mono ?_);(case side1=>exact d66_);(case side2=>exact d37_);(case side3=>exact r4_ (Kd.R_reads' HO615.out).2.2);(case side4=>exact(Kd.R_reads' HO615.out).2.1);(case side5=>exact far_slice (IsS108.own_ne HI606.out HO615.out (by decide)));rintro e w12 ⟨rfl,hi,hb,hk⟩;refine⟨_,rfl,?_⟩;replace HO609:=Jq.mk (Kd.R_mono (Kd.R_keep (IsS108.apart (show IsS108 w _ gb606 l0 t611 t612 from by repeat(first|(with_reducible first|exact HI606.out|apply IsS108.alloc|apply IsS108.drewN|apply IsS108.drew|apply IsS108.set_1|apply IsS108.set_2)|exact HI606.out)) (r0_ HO609.out) (by decide)) hk (fun _ h=>h.2)) (fun _ h=>h.1));replace HO615:=Jq.mk (Kd.R_mono (Kd.R_keep (IsS108.apart (show IsS108 w _ gb606 l0 t611 t612 from by repeat(first|(with_reducible first|exact HI606.out|apply IsS108.alloc|apply IsS108.drewN|apply IsS108.drew|apply IsS108.set_1|apply IsS108.set_2)|exact HI606.out)) (r0_ HO615.out) (by decide)) hk (fun _ h=>h.2)) (fun _ h=>h.1));replace HB:=Jq.mk (hb);replace HI606:=Jq.mk (hi);(try clear hb);(try clear hb2);(try clear hk);(try clear hi))));(go_ret2);exact⟨d9_,d37_⟩
def Xv.l0:Nat→Int→Int→Int→Int→Option (Int)
|0,_,_,_,_=>none
|k+1,x0,x5,x7,x8=>if x8<x7 then(if(wrap64 (x8+1))=0 then(none) else(Xv.l0 k x0 (wrap64 (Int.tdiv (wrap64 (x5 * (wrap64 (x0 - x8)))) (wrap64 (x8+1)))) x7 (wrap64 (x8+1)))) else(some x5)
def Xv.f (k:Nat) (a0:Int) (a1:Int):Option (Int):=Xv.l0 k a0 1 a1 0
theorem Xv.mono_l:∀ k,(∀ y0 y1 y2 y3,LeO (Xv.l0 k y0 y1 y2 y3) (Xv.l0 (k+1) y0 y1 y2 y3))
|0=>fun _ _ _ _ r h=>by simp[Xv.l0] at h
|k+1=>by
  have ih0:=Xv.mono_l k
  ·intro y0 y1 y2 y3;(unfold Xv.l0)
   repeat' first
  |(with_reducible exact ih0 _ _ _ _)
  |(with_reducible exact LeO.refl _)
  |(with_reducible exact LeO.none _)
  |(with_reducible refine LeO.ite ?_ ?_)
  |(with_reducible refine LeO.bind ?_ (fun _=>?_))
  |exact ih0 _ _ _ _
  |exact LeO.none _
  |refine LeO.ite ?_ ?_
  |refine LeO.bind ?_ (fun _=>?_)
theorem Xv.mono:∀ a0 a1 k,LeO (Xv.f k a0 a1) (Xv.f (k+1) a0 a1):=by
 intro a0 a1 k;have ih0:=Xv.mono_l k;(unfold Xv.f)
 repeat' first
  |(with_reducible exact ih0 _ _ _ _)
  |(with_reducible exact LeO.refl _)
  |(with_reducible exact LeO.none _)
  |(with_reducible refine LeO.ite ?_ ?_)
  |(with_reducible refine LeO.bind ?_ (fun _=>?_))
  |exact ih0 _ _ _ _
  |exact LeO.none _
  |refine LeO.ite ?_ ?_
  |refine LeO.bind ?_ (fun _=>?_)
set_option maxHeartbeats 8000000 in
set_option maxRecDepth 100000 in
theorem Xv.calls (k:Nat) (a0:Int) (a1:Int) (r:Int) (w:World) (h:Xv.f k a0 a1=some r) :
  Calls Try.prog 122 #[.int .i64 a0,.int .i64 a1] w fun e w'=>e=.returned (.int .i64 r)∧Drawn0 w w':=by
 have H:(Xv.l0 k a0 1 a1 0)=some r:=h;clear h;have H':=Jq.mk H;clear H;(go_enter Try.func122,Try.ntmps122);(go_wp2);(go_loopg [5,8] k (fun kq v5 v8 w'=>∃ (x5_1:Int) (x8_1:Int),v5=.int .i64 x5_1∧v8=.int .i64 x8_1∧Jq (Xv.l0 kq a0 x5_1 a1 x8_1=some r)∧Jq (kq≤k)∧Drawn0 w w'));(case atStart=>exact⟨(1),(0),d7_,d7_,H',⟨Nat.le_refl _⟩,d12_⟩)
 case round =>
  clear H';(try clear c1);(try clear p2);obtain⟨x5_1,x8_1,rfl,rfl,HA,HK1,⟨m1,rfl⟩⟩:=hrel
  cases gk with
 |zero=>exact absurd HA.out (by simp[Xv.l0])
 |succ k1 =>
   have H:=HA.out;clear HA;(simp only[Xv.l0] at H);(by_cases c3:x8_1<a1);(·rw[if_pos c3] at H;have c3b0:decide (x8_1<a1)=true:=decide_eq_true c3;clear c3;(by_cases c4:(wrap64 (x8_1+1))=0);(·rw[if_pos c4] at H;exact absurd H (by simp));(·rw[if_neg c4] at H;have c4b0:((wrap64 (x8_1+1)) == 0)=false:=beq_eq_false_iff_ne.mpr c4;have c4b1:((wrap64 (x8_1+1)) != 0)=true:=bne_iff_ne.mpr c4;have H':=Jq.mk H;clear H;(go_wp2);(go_roundg k1);(case measure=>exact d21_);(case rel=>exact⟨(wrap64 (Int.tdiv (wrap64 (x5_1 * (wrap64 (a0 - x8_1)))) (wrap64 (x8_1+1)))),(wrap64 (x8_1+1)),d7_,d7_,H',⟨d21_⟩,d12_⟩)));(·rw[if_neg c3] at H;have c3b0:decide (x8_1<a1)=false:=decide_eq_false c3;clear c3;obtain rfl:=Option.some.inj H;(go_wp2);(go_ret);exact⟨d7_,d12_⟩)
mutual
def Gx.j0:Nat→Int→Int→Bool→Option (Int×Bool)
|0,_,_,_=>none
|k+1,x0,x1,x15=>if x15=true then(some (0,false)) else(if x0=0 then(some (1,true)) else(Gx.l0 k x0 0 (wrap64 (x1+1)) 0))
def Gx.l0:Nat→Int→Int→Int→Int→Option (Int×Bool)
|0,_,_,_,_=>none
|k+1,x0,x6,x19,x20=>if x20<x19 then((Xv.f k (wrap64 (x0 - 1)) x20).bind fun t621=>(Gx.l0 k x0 (wrap64 (x6+t621)) x19 (wrap64 (x20+1)))) else(some (wrap64 (2 * x6),true))
end
def Gx.f (k:Nat) (a0:Int) (a1:Int):Option (Int×Bool):=(Vw.f a0 0 8).bind fun t619=>(if t619=true then((Vw.f a1 1 4).bind fun t620=>(Gx.j0 k a0 a1 (!t620))) else(Gx.j0 k a0 a1 true))
theorem Gx.mono_l:∀ k,(∀ y0 y1 y2,LeO (Gx.j0 k y0 y1 y2) (Gx.j0 (k+1) y0 y1 y2))∧(∀ y0 y1 y2 y3,LeO (Gx.l0 k y0 y1 y2 y3) (Gx.l0 (k+1) y0 y1 y2 y3))
|0=>⟨fun _ _ _ r h=>by simp[Gx.j0] at h,fun _ _ _ _ r h=>by simp[Gx.l0] at h⟩
|k+1=>by
  obtain⟨ih0,ih1⟩:=Gx.mono_l k;refine⟨?_,?_⟩
  ·intro y0 y1 y2;(unfold Gx.j0)
   repeat' first
  |(with_reducible exact ih0 _ _ _)
  |(with_reducible exact ih1 _ _ _ _)
  |(with_reducible exact Xv.mono _ _ _)
  |(with_reducible exact LeO.refl _)
  |(with_reducible exact LeO.none _)
  |(with_reducible refine LeO.ite ?_ ?_)
  |(with_reducible refine LeO.bind ?_ (fun _=>?_))
  |exact ih0 _ _ _
  |exact ih1 _ _ _ _
  |exact Xv.mono _ _ _
  |exact LeO.none _
  |refine LeO.ite ?_ ?_
  |refine LeO.bind ?_ (fun _=>?_)
  ·intro y0 y1 y2 y3;(unfold Gx.l0)
   repeat' first
  |(with_reducible exact ih0 _ _ _)
  |(with_reducible exact ih1 _ _ _ _)
  |(with_reducible exact Xv.mono _ _ _)
  |(with_reducible exact LeO.refl _)
  |(with_reducible exact LeO.none _)
  |(with_reducible refine LeO.ite ?_ ?_)
  |(with_reducible refine LeO.bind ?_ (fun _=>?_))
  |exact ih0 _ _ _
  |exact ih1 _ _ _ _
  |exact Xv.mono _ _ _
  |exact LeO.none _
  |refine LeO.ite ?_ ?_
  |refine LeO.bind ?_ (fun _=>?_)
theorem Gx.mono:∀ a0 a1 k,LeO (Gx.f k a0 a1) (Gx.f (k+1) a0 a1):=by
 intro a0 a1 k;obtain⟨ih0,ih1⟩:=Gx.mono_l k;(unfold Gx.f)
 repeat' first
  |(with_reducible exact ih0 _ _ _)
  |(with_reducible exact ih1 _ _ _ _)
  |(with_reducible exact Xv.mono _ _ _)
  |(with_reducible exact LeO.refl _)
  |(with_reducible exact LeO.none _)
  |(with_reducible refine LeO.ite ?_ ?_)
  |(with_reducible refine LeO.bind ?_ (fun _=>?_))
  |exact ih0 _ _ _
  |exact ih1 _ _ _ _
  |exact Xv.mono _ _ _
  |exact LeO.none _
  |refine LeO.ite ?_ ?_
  |refine LeO.bind ?_ (fun _=>?_)
set_option maxHeartbeats 8000000 in
set_option maxRecDepth 100000 in
theorem Gx.calls (k:Nat) (a0:Int) (a1:Int) (r1:Int) (r2:Bool) (w:World) (h:Gx.f k a0 a1=some (r1,r2)) :
  Calls Try.prog 59 #[.int .i64 a0,.int .i64 a1] w fun e w'=>e=.returned (.tuple #[.int .i64 r1,.bool r2])∧Drawn0 w w':=by
 have H:((Vw.f a0 0 8).bind fun t619=>(if t619=true then((Vw.f a1 1 4).bind fun t620=>(Gx.j0 k a0 a1 (!t620))) else(Gx.j0 k a0 a1 true)))=some (r1,r2):=h;clear h;have HC3:=Jq.mk H;clear H;(go_enter Try.func59,Try.ntmps59);(go_upto_region 1 with (fail));(go_cut [15] (fun v15 wc=>∃ (kq:Nat) (x15_2:Bool),v15=.bool x15_2∧Jq (Gx.j0 kq a0 a1 x15_2=some (r1,r2))∧Jq (kq≤k)∧Drawn0 w wc))
 case first =>
  have H:=HC3.out;clear HC3;replace H:=Option.bind_eq_some_iff.mp H;obtain⟨t619,A40,H⟩:=H;replace H:(if t619=true then((Vw.f a1 1 4).bind fun t620=>(Gx.j0 k a0 a1 (!t620))) else(Gx.j0 k a0 a1 true))=some (r1,r2):=H;have A4:=Jq.mk A40;clear A40;(by_cases c5:t619=true);(·subst c5;(have H1:((Vw.f a1 1 4).bind fun t620=>(Gx.j0 k a0 a1 (!t620)))=some (r1,r2):=by rw[if_pos rfl] at H;exact H);clear H;have H:=H1;clear H1;replace H:=Option.bind_eq_some_iff.mp H;obtain⟨t620,A60,H⟩:=H;replace H:(Gx.j0 k a0 a1 (!t620))=some (r1,r2):=H;have A6:=Jq.mk A60;clear A60;have H':=Jq.mk H;clear H;(go_wp2_with (first|((with_reducible refine Gj (f:=69) rfl ?_);refine Kx (some 9) rfl rfl Try.func69 (by kernel_rfl) rfl #[.int .i64 a0,.int .i64 0,.int .i64 8] rfl d2_ ?_;(with_reducible refine(Vw.calls a0 0 8 true _ A4.out).mono ?_);rintro e w' ⟨rfl,⟨nd,rfl⟩⟩;refine⟨_,rfl,?_⟩)|(go_at_call 69;(with_reducible refine(Vw.calls a1 1 4 t620 _ A6.out).mono ?_);rintro e w' ⟨rfl,⟨nd,rfl⟩⟩)));(go_meet);(case rel=>exact⟨_,(!t620),d7_,H',⟨d41_⟩,d12_⟩));(·replace c5:=Bool.eq_false_iff.mpr c5;subst c5;(have H1:(Gx.j0 k a0 a1 true)=some (r1,r2):=by rw[if_neg (show ¬ (false=true) by decide)] at H;exact H);clear H;have H:=H1;clear H1;have H':=Jq.mk H;clear H;(go_wp2_with (first|((with_reducible refine Gj (f:=69) rfl ?_);refine Kx (some 9) rfl rfl Try.func69 (by kernel_rfl) rfl #[.int .i64 a0,.int .i64 0,.int .i64 8] rfl d2_ ?_;(with_reducible refine(Vw.calls a0 0 8 false _ A4.out).mono ?_);rintro e w' ⟨rfl,⟨nd,rfl⟩⟩;refine⟨_,rfl,?_⟩)));(go_meet);(case rel=>exact⟨_,(true),d7_,H',⟨d41_⟩,d12_⟩))
 case rest =>
  clear HC3;(try clear p2);(try clear c5);(try clear c6);obtain⟨kq,x15_2,rfl,HA,HJ2,⟨mc2,rfl⟩⟩:=hcut
  cases kq with
 |zero=>exact absurd HA.out (by simp[Gx.j0])
 |succ kj2 =>
   have H:=HA.out;clear HA;(simp only[Gx.j0] at H);(by_cases c7:x15_2=true);(·subst c7;(have H1:(some (0,false))=some (r1,r2):=by rw[if_pos rfl] at H;exact H);clear H;have H:=H1;clear H1;(simp only[Option.some.injEq,Prod.mk.injEq] at H);obtain⟨rfl,rfl⟩:=H;(go_wp2);(go_ret2);exact⟨d7_,d12_⟩)
   ·replace c7:=Bool.eq_false_iff.mpr c7;subst c7;(have H1:(if a0=0 then(some (1,true)) else(Gx.l0 kj2 a0 0 (wrap64 (a1+1)) 0))=some (r1,r2):=by rw[if_neg (show ¬ (false=true) by decide)] at H;exact H);clear H;have H:=H1;clear H1;(by_cases c8:a0=0);(·rw[if_pos c8] at H;have c8b0:(a0 == 0)=true:=beq_iff_eq.mpr c8;have c8b1:(a0 != 0)=false:=bne_eq_false_iff_eq.mpr c8;clear c8;(simp only[Option.some.injEq,Prod.mk.injEq] at H);obtain⟨rfl,rfl⟩:=H;(go_wp2);(go_ret2);exact⟨d7_,d12_⟩)
    ·rw[if_neg c8] at H;have c8b0:(a0 == 0)=false:=beq_eq_false_iff_ne.mpr c8;have c8b1:(a0 != 0)=true:=bne_iff_ne.mpr c8;have H':=Jq.mk H;clear H;(go_wp2);(go_loopg [6,20] kj2 (fun kq v6 v20 w'=>∃ (x6_2:Int) (x20_2:Int),v6=.int .i64 x6_2∧v20=.int .i64 x20_2∧Jq (Gx.l0 kq a0 x6_2 (wrap64 (a1+1)) x20_2=some (r1,r2))∧Jq (kq≤kj2)∧Drawn0 w w'));(case atStart=>exact⟨(0),(0),d7_,d7_,H',⟨Nat.le_refl _⟩,d12_⟩)
     case round =>
      clear H';(try clear c2);(try clear p2);(try clear c5);(try clear c6);(try clear p6);(try clear c7);(try clear c8);(try clear c8b0);(try clear c8b1);(try clear p2);obtain⟨x6_2,x20_2,rfl,rfl,HA,HK2,⟨m2,rfl⟩⟩:=hrel
      cases gk with
     |zero=>exact absurd HA.out (by simp[Gx.l0])
     |succ k2 =>
       have H:=HA.out;clear HA;(simp only[Gx.l0] at H);(by_cases c9:x20_2<(wrap64 (a1+1)));(·rw[if_pos c9] at H;have c9b0:decide (x20_2<(wrap64 (a1+1)))=true:=decide_eq_true c9;clear c9;replace H:=Option.bind_eq_some_iff.mp H;obtain⟨t621,A100,H⟩:=H;replace H:(Gx.l0 k2 a0 (wrap64 (x6_2+t621)) (wrap64 (a1+1)) (wrap64 (x20_2+1)))=some (r1,r2):=H;have A10:=Jq.mk A100;clear A100;have H':=Jq.mk H;clear H;(go_wp2_with (first|((with_reducible refine Gj (f:=122) rfl ?_);refine Kx (some 27) rfl rfl Try.func122 (by kernel_rfl) rfl #[.int .i64 (wrap64 (a0 - 1)),.int .i64 x20_2] rfl d2_ ?_;(with_reducible refine(Xv.calls k2 (wrap64 (a0 - 1)) x20_2 t621 _ A10.out).mono ?_);rintro e w' ⟨rfl,⟨nd,rfl⟩⟩;refine⟨_,rfl,?_⟩)));(go_roundg k2);(case measure=>have:=HJ2.out;have:=HK2.out;omega);(case rel=>exact⟨(wrap64 (x6_2+t621)),(wrap64 (x20_2+1)),d7_,d7_,H',⟨by have:=HJ2.out;have:=HK2.out;omega⟩,d12_⟩));(·rw[if_neg c9] at H;have c9b0:decide (x20_2<(wrap64 (a1+1)))=false:=decide_eq_false c9;clear c9;(simp only[Option.some.injEq,Prod.mk.injEq] at H);obtain⟨rfl,rfl⟩:=H;(go_wp2);(go_ret2);exact⟨d7_,d12_⟩)
mutual
def Vq1.j0:Nat→Int→Int→Bool→Option (Int×Bool)
|0,_,_,_=>none
|k+1,x0,x1,x16=>if x16=true then(some (0,false)) else(if x0=0 then(some (1,true)) else(Vq1.l0 k x0 x1 0 1 0))
def Vq1.l0:Nat→Int→Int→Int→Int→Int→Option (Int×Bool)
|0,_,_,_,_,_=>none
|k+1,x0,x1,x6,x7,x8=>if x8≤x1 then((Jz1.f (wrap64 ((wrap64 (x0 - 1)) - x8)) 0).bind fun t624=>(if(wrap64 (x8+1))=0 then(none) else(Vq1.l0 k x0 x1 (wrap64 (x6+x7)) (wrap64 (Int.tdiv (wrap64 (x7 * t624)) (wrap64 (x8+1)))) (wrap64 (x8+1))))) else(some (wrap64 (2 * x6),true))
end
def Vq1.f (k:Nat) (a0:Int) (a1:Int):Option (Int×Bool):=(spec_l1In.f a0 0 8).bind fun t622=>(if t622=true then((spec_l1In.f a1 1 4).bind fun t623=>(Vq1.j0 k a0 a1 (!t623))) else(Vq1.j0 k a0 a1 true))
theorem Vq1.mono_l:∀ k,(∀ y0 y1 y2,LeO (Vq1.j0 k y0 y1 y2) (Vq1.j0 (k+1) y0 y1 y2))∧(∀ y0 y1 y2 y3 y4,LeO (Vq1.l0 k y0 y1 y2 y3 y4) (Vq1.l0 (k+1) y0 y1 y2 y3 y4))
|0=>⟨fun _ _ _ r h=>by simp[Vq1.j0] at h,fun _ _ _ _ _ r h=>by simp[Vq1.l0] at h⟩
|k+1=>by
  obtain⟨ih0,ih1⟩:=Vq1.mono_l k;refine⟨?_,?_⟩
  ·intro y0 y1 y2;(unfold Vq1.j0)
   repeat' first
  |(with_reducible exact ih0 _ _ _)
  |(with_reducible exact ih1 _ _ _ _ _)
  |(with_reducible exact LeO.refl _)
  |(with_reducible exact LeO.none _)
  |(with_reducible refine LeO.ite ?_ ?_)
  |(with_reducible refine LeO.bind ?_ (fun _=>?_))
  |exact ih0 _ _ _
  |exact ih1 _ _ _ _ _
  |exact LeO.none _
  |refine LeO.ite ?_ ?_
  |refine LeO.bind ?_ (fun _=>?_)
  ·intro y0 y1 y2 y3 y4;(unfold Vq1.l0)
   repeat' first
  |(with_reducible exact ih0 _ _ _)
  |(with_reducible exact ih1 _ _ _ _ _)
  |(with_reducible exact LeO.refl _)
  |(with_reducible exact LeO.none _)
  |(with_reducible refine LeO.ite ?_ ?_)
  |(with_reducible refine LeO.bind ?_ (fun _=>?_))
  |exact ih0 _ _ _
  |exact ih1 _ _ _ _ _
  |exact LeO.none _
  |refine LeO.ite ?_ ?_
  |refine LeO.bind ?_ (fun _=>?_)
theorem Vq1.mono:∀ a0 a1 k,LeO (Vq1.f k a0 a1) (Vq1.f (k+1) a0 a1):=by
 intro a0 a1 k;obtain⟨ih0,ih1⟩:=Vq1.mono_l k;(unfold Vq1.f)
 repeat' first
  |(with_reducible exact ih0 _ _ _)
  |(with_reducible exact ih1 _ _ _ _ _)
  |(with_reducible exact LeO.refl _)
  |(with_reducible exact LeO.none _)
  |(with_reducible refine LeO.ite ?_ ?_)
  |(with_reducible refine LeO.bind ?_ (fun _=>?_))
  |exact ih0 _ _ _
  |exact ih1 _ _ _ _ _
  |exact LeO.none _
  |refine LeO.ite ?_ ?_
  |refine LeO.bind ?_ (fun _=>?_)
set_option maxHeartbeats 8000000 in
set_option maxRecDepth 100000 in
theorem Vq1.calls (k:Nat) (a0:Int) (a1:Int) (r1:Int) (r2:Bool) (w:World) (h:Vq1.f k a0 a1=some (r1,r2)) :
  Calls Try.prog 60 #[.int .i64 a0,.int .i64 a1] w fun e w'=>e=.returned (.tuple #[.int .i64 r1,.bool r2])∧Drawn0 w w':=by
 have H:((spec_l1In.f a0 0 8).bind fun t622=>(if t622=true then((spec_l1In.f a1 1 4).bind fun t623=>(Vq1.j0 k a0 a1 (!t623))) else(Vq1.j0 k a0 a1 true)))=some (r1,r2):=h;clear h;have HC3:=Jq.mk H;clear H;(go_enter Try.func60,Try.ntmps60);(go_upto_region 1 with (fail));(go_cut [16] (fun v16 wc=>∃ (kq:Nat) (x16_2:Bool),v16=.bool x16_2∧Jq (Vq1.j0 kq a0 a1 x16_2=some (r1,r2))∧Jq (kq≤k)∧Drawn0 w wc))
 case first =>
  have H:=HC3.out;clear HC3;replace H:=Option.bind_eq_some_iff.mp H;obtain⟨t622,A40,H⟩:=H;replace H:(if t622=true then((spec_l1In.f a1 1 4).bind fun t623=>(Vq1.j0 k a0 a1 (!t623))) else(Vq1.j0 k a0 a1 true))=some (r1,r2):=H;have A4:=Jq.mk A40;clear A40;(by_cases c5:t622=true);(·subst c5;(have H1:((spec_l1In.f a1 1 4).bind fun t623=>(Vq1.j0 k a0 a1 (!t623)))=some (r1,r2):=by rw[if_pos rfl] at H;exact H);clear H;have H:=H1;clear H1;replace H:=Option.bind_eq_some_iff.mp H;obtain⟨t623,A60,H⟩:=H;replace H:(Vq1.j0 k a0 a1 (!t623))=some (r1,r2):=H;have A6:=Jq.mk A60;clear A60;have H':=Jq.mk H;clear H;(go_wp2_with (first|((with_reducible refine Gj (f:=66) rfl ?_);refine Kx (some 10) rfl rfl Try.func66 (by kernel_rfl) rfl #[.int .i64 a0,.int .i64 0,.int .i64 8] rfl d2_ ?_;(with_reducible refine(spec_l1In.calls a0 0 8 true _ A4.out).mono ?_);rintro e w' ⟨rfl,⟨nd,rfl⟩⟩;refine⟨_,rfl,?_⟩)|(go_at_call 66;(with_reducible refine(spec_l1In.calls a1 1 4 t623 _ A6.out).mono ?_);rintro e w' ⟨rfl,⟨nd,rfl⟩⟩)));(go_meet);(case rel=>exact⟨_,(!t623),d7_,H',⟨d41_⟩,d12_⟩));(·replace c5:=Bool.eq_false_iff.mpr c5;subst c5;(have H1:(Vq1.j0 k a0 a1 true)=some (r1,r2):=by rw[if_neg (show ¬ (false=true) by decide)] at H;exact H);clear H;have H:=H1;clear H1;have H':=Jq.mk H;clear H;(go_wp2_with (first|((with_reducible refine Gj (f:=66) rfl ?_);refine Kx (some 10) rfl rfl Try.func66 (by kernel_rfl) rfl #[.int .i64 a0,.int .i64 0,.int .i64 8] rfl d2_ ?_;(with_reducible refine(spec_l1In.calls a0 0 8 false _ A4.out).mono ?_);rintro e w' ⟨rfl,⟨nd,rfl⟩⟩;refine⟨_,rfl,?_⟩)));(go_meet);(case rel=>exact⟨_,(true),d7_,H',⟨d41_⟩,d12_⟩))
 case rest =>
  clear HC3;(try clear p2);(try clear c5);(try clear c6);obtain⟨kq,x16_2,rfl,HA,HJ2,⟨mc2,rfl⟩⟩:=hcut
  cases kq with
 |zero=>exact absurd HA.out (by simp[Vq1.j0])
 |succ kj2 =>
   have H:=HA.out;clear HA;(simp only[Vq1.j0] at H);(by_cases c7:x16_2=true);(·subst c7;(have H1:(some (0,false))=some (r1,r2):=by rw[if_pos rfl] at H;exact H);clear H;have H:=H1;clear H1;(simp only[Option.some.injEq,Prod.mk.injEq] at H);obtain⟨rfl,rfl⟩:=H;(go_wp2);(go_ret2);exact⟨d7_,d12_⟩)
   ·replace c7:=Bool.eq_false_iff.mpr c7;subst c7;(have H1:(if a0=0 then(some (1,true)) else(Vq1.l0 kj2 a0 a1 0 1 0))=some (r1,r2):=by rw[if_neg (show ¬ (false=true) by decide)] at H;exact H);clear H;have H:=H1;clear H1;(by_cases c8:a0=0);(·rw[if_pos c8] at H;have c8b0:(a0 == 0)=true:=beq_iff_eq.mpr c8;have c8b1:(a0 != 0)=false:=bne_eq_false_iff_eq.mpr c8;clear c8;(simp only[Option.some.injEq,Prod.mk.injEq] at H);obtain⟨rfl,rfl⟩:=H;(go_wp2);(go_ret2);exact⟨d7_,d12_⟩)
    ·rw[if_neg c8] at H;have c8b0:(a0 == 0)=false:=beq_eq_false_iff_ne.mpr c8;have c8b1:(a0 != 0)=true:=bne_iff_ne.mpr c8;have H':=Jq.mk H;clear H;(go_wp2);(go_loopg [6,7,8] kj2 (fun kq v6 v7 v8 w'=>∃ (x6_2:Int) (x7_2:Int) (x8_2:Int),v6=.int .i64 x6_2∧v7=.int .i64 x7_2∧v8=.int .i64 x8_2∧Jq (Vq1.l0 kq a0 a1 x6_2 x7_2 x8_2=some (r1,r2))∧Jq (kq≤kj2)∧Drawn0 w w'));(case atStart=>exact⟨(0),(1),(0),d7_,d7_,d7_,H',⟨Nat.le_refl _⟩,d12_⟩)
     case round =>
      clear H';(try clear c2);(try clear p2);(try clear c5);(try clear c6);(try clear c7);(try clear c8);(try clear c8b0);(try clear c8b1);(try clear p2);obtain⟨x6_2,x7_2,x8_2,rfl,rfl,rfl,HA,HK2,⟨m2,rfl⟩⟩:=hrel
      cases gk with
     |zero=>exact absurd HA.out (by simp[Vq1.l0])
     |succ k2 =>
       have H:=HA.out;clear HA;(simp only[Vq1.l0] at H);(by_cases c9:x8_2≤a1);(·rw[if_pos c9] at H;have c9b0:decide (x8_2≤a1)=true:=decide_eq_true c9;clear c9;replace H:=Option.bind_eq_some_iff.mp H;obtain⟨t624,A100,H⟩:=H;replace H:(if(wrap64 (x8_2+1))=0 then(none) else(Vq1.l0 k2 a0 a1 (wrap64 (x6_2+x7_2)) (wrap64 (Int.tdiv (wrap64 (x7_2 * t624)) (wrap64 (x8_2+1)))) (wrap64 (x8_2+1))))=some (r1,r2):=H;have A10:=Jq.mk A100;clear A100;(by_cases c11:(wrap64 (x8_2+1))=0);(·rw[if_pos c11] at H;exact absurd H (by simp));(·rw[if_neg c11] at H;have c11b0:((wrap64 (x8_2+1)) == 0)=false:=beq_eq_false_iff_ne.mpr c11;have c11b1:((wrap64 (x8_2+1)) != 0)=true:=bne_iff_ne.mpr c11;have H':=Jq.mk H;clear H;(go_wp2_with (first|((with_reducible refine Gj (f:=93) rfl ?_);refine Kx (some 32) rfl rfl Try.func93 (by kernel_rfl) rfl #[.int .i64 (wrap64 ((wrap64 (a0 - 1)) - x8_2)),.int .i64 0] rfl d2_ ?_;(with_reducible refine(Jz1.calls (wrap64 ((wrap64 (a0 - 1)) - x8_2)) 0 t624 _ A10.out).mono ?_);rintro e w' ⟨rfl,⟨nd,rfl⟩⟩;refine⟨_,rfl,?_⟩)));(go_roundg k2);(case measure=>have:=HJ2.out;have:=HK2.out;omega);(case rel=>exact⟨(wrap64 (x6_2+x7_2)),(wrap64 (Int.tdiv (wrap64 (x7_2 * t624)) (wrap64 (x8_2+1)))),(wrap64 (x8_2+1)),d7_,d7_,d7_,H',⟨by have:=HJ2.out;have:=HK2.out;omega⟩,d12_⟩)));(·rw[if_neg c9] at H;have c9b0:decide (x8_2≤a1)=false:=decide_eq_false c9;clear c9;(simp only[Option.some.injEq,Prod.mk.injEq] at H);obtain⟨rfl,rfl⟩:=H;(go_wp2);(go_ret2);exact⟨d7_,d12_⟩)
def Yq1.f (l0:List Int):Option (Int×Int):=(Jj1.f l0 0 0 (([2,1,3,2,0,4]:List Int))).bind fun bt629=>((Jj1.f l0 bt629.2.1 bt629.2.2 (([1,2,0,3,5,6,(-1)]:List Int))).bind fun bt635=>(some (bt629.1,bt635.1)))
set_option maxHeartbeats 8000000 in
set_option maxRecDepth 100000 in
theorem Yq1.calls (A0:Option Addr) (c0:Nat) (l0:List Int) (r1:Int) (r2:Int) (w:World) (hr0:Kd.C (Kd.int .u8) w A0 l0.length l0) (hc0:l0.length≤c0) (h:Yq1.f l0=some (r1,r2)) :
  Calls Try.prog 61 #[.slice A0 l0.length c0] w fun e w'=>e=.returned (.tuple #[.int .i64 r1,.int .i64 r2])∧Below w.heap.size w w':=by
 have hu108:=Try.underlying108;have HR0:=Jq.mk hr0;have HC0:=Jq.mk hc0;clear hr0 hc0;have HB:=Jq.mk (Below.refl w.heap.size w);have H:((Jj1.f l0 0 0 (([2,1,3,2,0,4]:List Int))).bind fun bt629=>((Jj1.f l0 bt629.2.1 bt629.2.2 (([1,2,0,3,5,6,(-1)]:List Int))).bind fun bt635=>(some (bt629.1,bt635.1))))=some (r1,r2):=h;clear h;obtain⟨y626,hy626⟩:∃ y_:List Int,y_=(([2,1,3,2,0,4]:List Int)):=⟨_,rfl⟩;(replace H:((Jj1.f l0 0 0 y626).bind fun bt629=>((Jj1.f l0 bt629.2.1 bt629.2.2 (([1,2,0,3,5,6,(-1)]:List Int))).bind fun bt635=>(some (bt629.1,bt635.1))))=some (r1,r2):=r7_ hy626 H);have Ny626:=Jq.mk hy626;clear hy626;replace H:=Option.bind_eq_some_iff.mp H;obtain⟨⟨t629,t630,t631⟩,A20,H⟩:=H;replace H:((Jj1.f l0 t630 t631 (([1,2,0,3,5,6,(-1)]:List Int))).bind fun bt635=>(some (t629,bt635.1)))=some (r1,r2):=H;have A2:=Jq.mk A20;clear A20;obtain⟨y632,hy632⟩:∃ y_:List Int,y_=(([1,2,0,3,5,6,(-1)]:List Int)):=⟨_,rfl⟩;(replace H:((Jj1.f l0 t630 t631 y632).bind fun bt635=>(some (t629,bt635.1)))=some (r1,r2):=r7_ hy632 H);have Ny632:=Jq.mk hy632;clear hy632;replace H:=Option.bind_eq_some_iff.mp H;obtain⟨⟨t635,t636,t637⟩,A30,H⟩:=H;replace H:(some (t629,t635))=some (r1,r2):=H;have A3:=Jq.mk A30;clear A30;(simp only[Option.some.injEq,Prod.mk.injEq] at H);obtain⟨rfl,rfl⟩:=H;(go_enter Try.func61,Try.ntmps61);(go_wp2_with (first|((with_reducible refine Xz (N:=7) rfl ?_);refine Zz ?hg (N:=7) ?hd (cs:=#[.slice A0 l0.length c0,.int .i64 0,.int .u64 0]) (t:=108) ?hr ?_;(case hd=>rfl);(case hg=>rfl);(case hr=>exact d11_);intro gb625 hg w4 hbox hb;have BK625:=Jq.mk (hbox);have GW625:=Jq.mk ((d55_:w.heap.size≤gb625));have GE625:=Jq.mk ((d55_:w.heap.size≤gb625));replace HB:=Jq.mk (Yj d1_ hb);clear hb hbox hg)|((with_reducible refine Xz (N:=9) rfl ?_);refine Kd.R_lit (Kd.int .i64) _ 3 ?hg (N:=9) ?hd (xs:=([2,1,3,2,0,4]:List Int)) (inner:=[.int .i64 2,.int .i64 1,.int .i64 3,.int .i64 2,.int .i64 0,.int .i64 4]) (ok:=fun _=>True) (okp:=fun _=>True) ?hr ?hp (fun _ hk=>hk) trivial (Below.refl _ _) (Nat.le_refl _) (by simp) ?_;(case hd=>rfl);(case hg=>rfl);(case hr=>exact d11_);(case hp=>exact(Reps.one (show Kd.M (Kd.int .i64) _ _ _ 2 [.int .i64 2] from rfl) (Reps.one (show Kd.M (Kd.int .i64) _ _ _ 1 [.int .i64 1] from rfl) (Reps.one (show Kd.M (Kd.int .i64) _ _ _ 3 [.int .i64 3] from rfl) (Reps.one (show Kd.M (Kd.int .i64) _ _ _ 2 [.int .i64 2] from rfl) (Reps.one (show Kd.M (Kd.int .i64) _ _ _ 0 [.int .i64 0] from rfl) (Reps.one (show Kd.M (Kd.int .i64) _ _ _ 4 [.int .i64 4] from rfl) (Reps.none _ _))))))));intro v627 w5 ho6 hb hg_ hnew_;clear hg_ hnew_;(first|rw[←Ny626.out] at ho6|(simp only[Int.reduceToNat] at ho6;rw[←Ny626.out] at ho6));have HO628:=Jq.mk (Kd.R_lower ho6 (Kj d106_));replace BK625:=Jq.mk (Vj (g:=gb625) (o:=.cells #[.slice A0 l0.length c0,.int .i64 0,.int .u64 0] 108 (0,0)) (r3_ BK625.out) hb);replace HB:=Jq.mk (Yj d106_ hb);clear hb ho6;obtain⟨Ao7,co7,eo7⟩:=Kd.R_slice HO628.out;subst eo7;have HI625:=Jq.mk (show IsS108 w _ gb625 l0 0 0 from⟨_,_,r3_ BK625.out,GE625.out,HR0.out⟩);clear BK625)|((with_reducible refine Gj (f:=108) rfl ?_);refine Kx (some 10) rfl rfl Try.func108 (by kernel_rfl) rfl #[.pointer (some ⟨gb625,0,none⟩),.slice Ao7 y626.length co7] rfl d2_ ?_;(with_reducible refine(Jj1.calls gb625 l0 0 0 _ _ y626 t629 t630 t631 w _ ?side1 ?side2 ?side3 ?side4 ?side5 A2.out).mono ?_);(case side1=>exact d65_);(case side2=>exact d36_);(case side3=>exact r4_ (Kd.R_reads' HO628.out).2.2);(case side4=>exact(Kd.R_reads' HO628.out).2.1);(case side5=>exact far_slice (IsS108.own_ne HI625.out HO628.out (by decide)));rintro e w8 ⟨rfl,hi,hb,hk⟩;refine⟨_,rfl,?_⟩;replace HO628:=Jq.mk (Kd.R_mono (Kd.R_keep (IsS108.apart (show IsS108 w _ gb625 l0 0 0 from by repeat(first|(with_reducible first|exact HI625.out|apply IsS108.alloc|apply IsS108.drewN|apply IsS108.drew|apply IsS108.set_1|apply IsS108.set_2)|exact HI625.out)) (r0_ HO628.out) (by decide)) hk (fun _ h=>h.2)) (fun _ h=>h.1));replace HB:=Jq.mk (hb);replace HI625:=Jq.mk (hi);(try clear hb);(try clear hb2);(try clear hk);(try clear hi))|((with_reducible refine Xz (N:=12) rfl ?_);refine Kd.R_lit (Kd.int .i64) _ 3 ?hg (N:=12) ?hd (xs:=([1,2,0,3,5,6,(-1)]:List Int)) (inner:=[.int .i64 1,.int .i64 2,.int .i64 0,.int .i64 3,.int .i64 5,.int .i64 6,.int .i64 (-1)]) (ok:=fun _=>True) (okp:=fun _=>True) ?hr ?hp (fun _ hk=>hk) trivial (Below.refl _ _) (Nat.le_refl _) (by simp) ?_;(case hd=>rfl);(case hg=>rfl);(case hr=>exact d11_);(case hp=>exact(Reps.one (show Kd.M (Kd.int .i64) _ _ _ 1 [.int .i64 1] from rfl) (Reps.one (show Kd.M (Kd.int .i64) _ _ _ 2 [.int .i64 2] from rfl) (Reps.one (show Kd.M (Kd.int .i64) _ _ _ 0 [.int .i64 0] from rfl) (Reps.one (show Kd.M (Kd.int .i64) _ _ _ 3 [.int .i64 3] from rfl) (Reps.one (show Kd.M (Kd.int .i64) _ _ _ 5 [.int .i64 5] from rfl) (Reps.one (show Kd.M (Kd.int .i64) _ _ _ 6 [.int .i64 6] from rfl) (Reps.one (show Kd.M (Kd.int .i64) _ _ _ (-1) [.int .i64 (-1)] from rfl) (Reps.none _ _)))))))));intro v633 w9 ho10 hb hg_ hnew_;clear hg_ hnew_;(first|rw[←Ny632.out] at ho10|(simp only[Int.reduceToNat] at ho10;rw[←Ny632.out] at ho10));have HO634:=Jq.mk (Kd.R_lower (Kd.R_new' ho10 (Kd.R_lt (r0_ HO628.out))) (Kj d36_));replace HO628:=Jq.mk (Kd.R_elder' (r0_ HO628.out) (Kd.R_base ho10) hb);replace HB:=Jq.mk (Yj d36_ hb);replace HI625:=Jq.mk (IsS108.below d65_ hb);clear hb ho10;obtain⟨Ao11,co11,eo11⟩:=Kd.R_slice HO634.out;subst eo11)|((with_reducible refine Gj (f:=108) rfl ?_);refine Kx (some 13) rfl rfl Try.func108 (by kernel_rfl) rfl #[.pointer (some ⟨gb625,0,none⟩),.slice Ao11 y632.length co11] rfl d2_ ?_;(with_reducible refine(Jj1.calls gb625 l0 t630 t631 _ _ y632 t635 t636 t637 w _ ?side1 ?side2 ?side3 ?side4 ?side5 A3.out).mono ?_);(case side1=>exact d65_);(case side2=>exact d36_);(case side3=>exact r4_ (Kd.R_reads' HO634.out).2.2);(case side4=>exact(Kd.R_reads' HO634.out).2.1);(case side5=>exact far_slice (IsS108.own_ne HI625.out HO634.out (by decide)));rintro e w12 ⟨rfl,hi,hb,hk⟩;refine⟨_,rfl,?_⟩;replace HO628:=Jq.mk (Kd.R_mono (Kd.R_keep (IsS108.apart (show IsS108 w _ gb625 l0 t630 t631 from by repeat(first|(with_reducible first|exact HI625.out|apply IsS108.alloc|apply IsS108.drewN|apply IsS108.drew|apply IsS108.set_1|apply IsS108.set_2)|exact HI625.out)) (r0_ HO628.out) (by decide)) hk (fun _ h=>h.2)) (fun _ h=>h.1));replace HO634:=Jq.mk (Kd.R_mono (Kd.R_keep (IsS108.apart (show IsS108 w _ gb625 l0 t630 t631 from by repeat(first|(with_reducible first|exact HI625.out|apply IsS108.alloc|apply IsS108.drewN|apply IsS108.drew|apply IsS108.set_1|apply IsS108.set_2)|exact HI625.out)) (r0_ HO634.out) (by decide)) hk (fun _ h=>h.2)) (fun _ h=>h.1));replace HB:=Jq.mk (hb);replace HI625:=Jq.mk (hi);(try clear hb);(try clear hb2);(try clear hk);(try clear hi))));(go_ret2);exact⟨d9_,d36_⟩
end Go.Proofs.Ytdjclffkidoohaa.QFnPartings
