/- Some of the functions that the law reaches, and what they tell; no condition. -/
import Derived.Test.YtdjclffkidoohaaVFnExactCanPart
import Derived.Test.YtdjclffkidoohaaZFnExactCanPartx0
import Derived.Test.YtdjclffkidoohaaZFnExactCanPartx3
import Derived.Test.YtdjclffkidoohaaZFnExactCanPartx4
import Derived.Test.YtdjclffkidoohaaZFnExactCanPartx6
import Derived.Test.YtdjclffkidoohaaZFnExactCanPartx7
namespace Go.Proofs.Ytdjclffkidoohaa.QFnExactCanPart
open Go.RowKit Go.Proofs.YtdjclffkidoohaaW.PrintWords Go.Proofs.YtdjclffkidoohaaW.PrintLast Go.Proofs.YtdjclffkidoohaaW.PrintMore
attribute [local go_sem] max2_int min2_int max_two min_two max_three min_three max_four min_four   -- for this text's walks alone
set_option linter.unusedVariables false
set_option linter.unusedSimpArgs false
mutual
def spec_l4Find.l0 : Nat → Int → List (List Int) → List Int → Option (List Int × List Int)
|0,_,_,_=>none
|k + 1,x4,x289000,x289001=>if 0 < (x289000.length : Int) then (if x4 ≤ (wrap64 (((rd_L1 x289000 0).length : Int) + 2)) then ((spec_l4Choose.f k (x289000.length : Int) x4 (([] : List Int))).bind fun t305=>(spec_l4Find.l1 k x4 t305 0 x289000 x289001)) else (some ((([] : List Int)),(([] : List Int))))) else (none)
def spec_l4Find.l1 : Nat → Int → List (List Int) → Int → List (List Int) → List Int → Option (List Int × List Int)
|0,_,_,_,_,_=>none
|k + 1,x4,x5,x6,x289000,x289001=>if x6 < (x5.length : Int) then (if 0 ≤ x6 then ((spec_l2Part.f k x289000 x289001 (rd_L1 x5 x6)).bind fun bt309=>((spec_l4Equations.f k bt309.1).bind fun t316=>((spec_l4Relation.f k t316 x4).bind fun bt319=>(if bt319.2 = true then ((spec_l4Signs.f k bt319.1 bt309.2).bind fun bt323=>(if bt323.2 = true then (some (rd_L1 x5 x6,bt323.1)) else (spec_l4Find.l1 k x4 x5 (wrap64 (x6 + 1)) x289000 x289001))) else (spec_l4Find.l1 k x4 x5 (wrap64 (x6 + 1)) x289000 x289001))))) else (none)) else (spec_l4Find.l0 k (wrap64 (x4 + 1)) x289000 x289001)
end
def spec_l4Find.f (k : Nat) (l0_0 : List (List Int)) (l0_1 : List Int) : Option (List Int × List Int):=if (l0_0.length : Int) = 0 then (some ((([] : List Int)),(([] : List Int)))) else (spec_l4Find.l0 k 2 l0_0 l0_1)
def spec_l4Find.T10 : Bool × List (List Nat × List Nat):=(true,[([],[]),([],[]),([],[]),([1,2],[1,2]),([3],[3]),([0,4],[0,4]),([],[]),([6,5,5,0,1,2,3,4,5,6],[5,6])])
def spec_l4Find.B10 : List Nat:=[0,0,0,6,14,31,0,127]
theorem spec_l4Find.tab10 : rtab .any (opsOf Try.f100 10) = spec_l4Find.T10:=by kernel_rfl
theorem spec_l4Find.bits10 : waitsOk spec_l4Find.T10.2 spec_l4Find.B10 = true:=by kernel_rfl
set_option maxHeartbeats 8000000 in
set_option maxRecDepth 100000 in
theorem spec_l4Find.calls (k : Nat) (A0_0 : Option Addr) (c0_0 : Nat) (l0_0 : List (List Int)) (A0_1 : Option Addr) (c0_1 : Nat) (l0_1 : List Int) (r1 : List Int) (r2 : List Int) (w : World) (hr0_0 : Kd.C (Kd.slice 3 (Kd.int .i64)) w A0_0 l0_0.length l0_0) (hc0_0 : l0_0.length ≤ c0_0) (hr0_1 : Kd.C (Kd.int .i64) w A0_1 l0_1.length l0_1) (hc0_1 : l0_1.length ≤ c0_1) (h : spec_l4Find.f k l0_0 l0_1 = some (r1,r2)) :
  Calls Try.prog 100 #[.agg #[.slice A0_0 l0_0.length c0_0,.slice A0_1 l0_1.length c0_1]] w fun e w'=>∃ v0_ v1_ : Value,e = .returned (.tuple #[v0_,v1_]) ∧ Kd.V (Kd.int .i64) 3 w' w.heap.size (fun k_=>(w.heap.size ≤ k_) ∧ some k_ ≠ (v1_ : Value).ownBlock) v0_ r1 ∧ Kd.R (Kd.int .i64) 3 w' w.heap.size (fun k_=>(w.heap.size ≤ k_)) v1_ r2 ∧ Below w.heap.size w w':=by
 have hu32:=Try.underlying32
 have HR0_0:=Aside0.mk hr0_0
 have HC0_0:=Aside0.mk hc0_0
 clear hr0_0 hc0_0
 have HR0_1:=Aside0.mk hr0_1
 have HC0_1:=Aside0.mk hc0_1
 clear hr0_1 hc0_1
 have HB:=Aside0.mk (Below.refl w.heap.size w)
 have H : (if (l0_0.length : Int) = 0 then (some ((([] : List Int)),(([] : List Int)))) else (spec_l4Find.l0 k 2 l0_0 l0_1)) = some (r1,r2):=h
 clear h
 by_cases c2 : (l0_0.length : Int) = 0
 ·rw [if_pos c2] at H
  have c2b0 : ((l0_0.length : Int) == 0) = true:=beq_iff_eq.mpr c2
  have c2b1 : ((l0_0.length : Int) != 0) = false:=bne_eq_false_iff_eq.mpr c2
  clear c2
  obtain ⟨y289,hy289⟩ : ∃ y_ : List Int,y_ = (([] : List Int)):=⟨_,rfl⟩
  replace H : (some (y289,(([] : List Int)))) = some (r1,r2):=by first|(rw [hy289];with_reducible exact H)|(have H2_:=(Option.bind_some _ _).symm.trans H;rw [hy289];with_reducible exact H2_)|(have H2_:=(Option.bind_some _ _).symm.trans H;with_reducible exact H2_)|with_reducible exact H|(rw [hy289];exact H)|exact H
  have Ny289:=Aside0.mk hy289
  clear hy289
  obtain ⟨y292,hy292⟩ : ∃ y_ : List Int,y_ = (([] : List Int)):=⟨_,rfl⟩
  replace H : (some (y289,y292)) = some (r1,r2):=by first|(rw [hy292];with_reducible exact H)|(have H2_:=(Option.bind_some _ _).symm.trans H;rw [hy292];with_reducible exact H2_)|(have H2_:=(Option.bind_some _ _).symm.trans H;with_reducible exact H2_)|with_reducible exact H|(rw [hy292];exact H)|exact H
  have Ny292:=Aside0.mk hy292
  clear hy292
  simp only [Option.some.injEq,Prod.mk.injEq] at H
  obtain ⟨rfl,rfl⟩:=H
  go_enter Try.func100,Try.ntmps100
  go_wp2_with (first|((with_reducible refine gate_dst (N:=1) rfl ?_);refine box_event ?hg (N:=1) ?hd (cs:=#[.slice A0_0 l0_0.length c0_0,.slice A0_1 l0_1.length c0_1]) (t:=32) ?hr ?_;(case hd=>rfl);(case hg=>rfl);(case hr=>first|(go_simp;done)|(go_simp;rfl));intro gb288 hg w3 hbox hb;have n0_:=Aside0.mk (below_step (by repeat (first|(with_reducible first|exact HB.out|apply below_alloc|apply pw_below_drewN|apply below_drew1)|exact HB.out|exact Below.refl _ _)) hb);have n1_:=Aside0.mk (hbox);have n2_:=Aside0.mk ((by rw [hg];exact (below_size (by repeat (first|(with_reducible first|exact HB.out|apply below_alloc|apply pw_below_drewN|apply below_drew1)|exact HB.out|exact Below.refl _ _))) : w.heap.size ≤ gb288));have n3_:=Aside0.mk ((by rw [hg];exact (below_size (by repeat (first|(with_reducible first|exact HB.out|apply below_alloc|apply pw_below_drewN|apply below_drew1)|exact HB.out|exact Below.refl _ _))) : w.heap.size ≤ gb288));clear HB;have HB:=n0_;have BK288:=n1_;have GW288:=n2_;have GE288:=n3_;clear n0_ n1_ n2_ n3_;clear hb hbox hg;have hcz4_0 : w3.cell? ⟨gb288,0,none⟩ = some (.slice A0_0 l0_0.length c0_0):=(blk_cell BK288.out 0).trans rfl;have hcz4_1 : w3.cell? ⟨gb288,1,none⟩ = some (.slice A0_1 l0_1.length c0_1):=(blk_cell BK288.out 1).trans rfl;have hfz4_0:=blk_frozen BK288.out 0;have hfz4_1:=blk_frozen BK288.out 1)|((with_reducible refine gate_dst (N:=16) rfl ?_);refine Kd.R_lit (Kd.int .i64) _ 3 ?hg (N:=16) ?hd (xs:=([] : List Int)) (inner:=[]) (ok:=fun _=>True) (okp:=fun _=>True) ?hr ?hp (fun _ hk=>hk) trivial (Below.refl _ _) (Nat.le_refl _) (by simp) ?_;(case hd=>rfl);(case hg=>rfl);(case hr=>first|(go_simp;done)|(go_simp;rfl));(case hp=>exact (Reps.none _ _));intro v290 w5 ho6 hb hg_ hnew_;clear hg_ hnew_;(first|rw [← Ny289.out] at ho6|(simp only [Int.reduceToNat] at ho6;rw [← Ny289.out] at ho6));have n0_:=Aside0.mk (Kd.R_lower (Kd.R_newM (M:=fun k_=>(w.heap.size ≤ k_)) ho6 (below_size (by repeat (first|(with_reducible first|exact HB.out|apply below_alloc|apply pw_below_drewN|apply below_drew1|refine below_set ?_ GE288.out)|exact HB.out))) (fun k_ h_=>h_)) (below_size (by repeat (first|(with_reducible first|exact HB.out|apply below_alloc|apply pw_below_drewN|apply below_drew1|refine below_set ?_ GE288.out)|exact HB.out))));have n1_:=Aside0.mk (blk_below (g:=gb288) (o:=.cells #[.slice A0_0 l0_0.length c0_0,.slice A0_1 l0_1.length c0_1] 32 (0,0)) (by (with_reducible repeat (first|refine blk_drewN ?_ _|refine blk_drew ?_|refine blk_alloc ?_ _));exact BK288.out) hb);have n2_:=Aside0.mk (below_step (by repeat (first|(with_reducible first|exact HB.out|apply below_alloc|apply pw_below_drewN|apply below_drew1|refine below_set ?_ GE288.out)|exact HB.out)) hb);clear BK288;clear HB;have HO291:=n0_;have BK288:=n1_;have HB:=n2_;clear n0_ n1_ n2_;clear hb ho6)|((with_reducible refine gate_dst (N:=17) rfl ?_);refine Kd.R_lit (Kd.int .i64) _ 3 ?hg (N:=17) ?hd (xs:=([] : List Int)) (inner:=[]) (ok:=fun _=>True) (okp:=fun _=>True) ?hr ?hp (fun _ hk=>hk) trivial (Below.refl _ _) (Nat.le_refl _) (by simp) ?_;(case hd=>rfl);(case hg=>rfl);(case hr=>first|(go_simp;done)|(go_simp;rfl));(case hp=>exact (Reps.none _ _));intro v293 w7 ho8 hb hg_ hnew_;clear hg_ hnew_;(first|rw [← Ny292.out] at ho8|(simp only [Int.reduceToNat] at ho8;rw [← Ny292.out] at ho8));have n0_:=Aside0.mk (Kd.R_elder' (by (with_reducible repeat (first|apply Kd.R_alloc|apply Kd.R_drewN|apply Kd.R_drew));exact HO291.out) (Kd.R_base ho8) hb);have n1_:=Aside0.mk (Kd.R_lower (Kd.R_new' (Kd.R_newM (M:=fun k_=>(w.heap.size ≤ k_)) ho8 (below_size (by repeat (first|(with_reducible first|exact HB.out|apply below_alloc|apply pw_below_drewN|apply below_drew1|refine below_set ?_ GE288.out)|exact HB.out))) (fun k_ h_=>h_)) (Kd.R_lt (by (with_reducible repeat (first|apply Kd.R_alloc|apply Kd.R_drewN|apply Kd.R_drew));exact HO291.out))) (below_size (by repeat (first|(with_reducible first|exact HB.out|apply below_alloc|apply pw_below_drewN|apply below_drew1|refine below_set ?_ GE288.out)|exact HB.out))));have n2_:=Aside0.mk (blk_below (g:=gb288) (o:=.cells #[.slice A0_0 l0_0.length c0_0,.slice A0_1 l0_1.length c0_1] 32 (0,0)) (by (with_reducible repeat (first|refine blk_drewN ?_ _|refine blk_drew ?_|refine blk_alloc ?_ _));exact BK288.out) hb);have n3_:=Aside0.mk (below_step (by repeat (first|(with_reducible first|exact HB.out|apply below_alloc|apply pw_below_drewN|apply below_drew1|refine below_set ?_ GE288.out)|exact HB.out)) hb);clear HO291;clear BK288;clear HB;have HO291:=n0_;have HO294:=n1_;have BK288:=n2_;have HB:=n3_;clear n0_ n1_ n2_ n3_;clear hb ho8))
  go_ret2
  exact ⟨_,_,by first|rfl|(simp [errW_none,errW_some] <;> rfl)|(simp [*,errW_none,errW_some] <;> rfl),Kd.R_V (by (with_reducible repeat (first|apply Kd.R_alloc|apply Kd.R_drewN|apply Kd.R_drew));exact Kd.R_mono HO291.out (fun _ hk=>by first|exact ⟨hk.1.1,hk.2⟩|grind)),by (with_reducible repeat (first|apply Kd.R_alloc|apply Kd.R_drewN|apply Kd.R_drew));exact Kd.R_mono HO294.out (fun _ hk=>hk.1.1),by repeat (first|(with_reducible first|exact HB.out|apply below_alloc|apply pw_below_drewN|apply below_drew1|refine below_set ?_ GE288.out)|exact HB.out)⟩
 ·rw [if_neg c2] at H
  have c2b0 : ((l0_0.length : Int) == 0) = false:=beq_eq_false_iff_ne.mpr c2
  have c2b1 : ((l0_0.length : Int) != 0) = true:=bne_iff_ne.mpr c2
  have c2b2 : ¬ (l0_0 = []):=fun h_=>c2 (by rw [h_];rfl)
  have H':=Aside0.mk H
  clear H
  go_enter Try.func100,Try.ntmps100
  go_wp2_with (first|((with_reducible refine gate_dst (N:=1) rfl ?_);refine box_event ?hg (N:=1) ?hd (cs:=#[.slice A0_0 l0_0.length c0_0,.slice A0_1 l0_1.length c0_1]) (t:=32) ?hr ?_;(case hd=>rfl);(case hg=>rfl);(case hr=>first|(go_simp;done)|(go_simp;rfl));intro gb288 hg w9 hbox hb;have n0_:=Aside0.mk (below_step (by repeat (first|(with_reducible first|exact HB.out|apply below_alloc|apply pw_below_drewN|apply below_drew1)|exact HB.out|exact Below.refl _ _)) hb);have n1_:=Aside0.mk (hbox);have n2_:=Aside0.mk ((by rw [hg];exact (below_size (by repeat (first|(with_reducible first|exact HB.out|apply below_alloc|apply pw_below_drewN|apply below_drew1)|exact HB.out|exact Below.refl _ _))) : w.heap.size ≤ gb288));have n3_:=Aside0.mk ((by rw [hg];exact (below_size (by repeat (first|(with_reducible first|exact HB.out|apply below_alloc|apply pw_below_drewN|apply below_drew1)|exact HB.out|exact Below.refl _ _))) : w.heap.size ≤ gb288));clear HB;have HB:=n0_;have BK288:=n1_;have GW288:=n2_;have GE288:=n3_;clear n0_ n1_ n2_ n3_;clear hb hbox hg;have hcz10_0 : w9.cell? ⟨gb288,0,none⟩ = some (.slice A0_0 l0_0.length c0_0):=(blk_cell BK288.out 0).trans rfl;have hcz10_1 : w9.cell? ⟨gb288,1,none⟩ = some (.slice A0_1 l0_1.length c0_1):=(blk_cell BK288.out 1).trans rfl;have hfz10_0:=blk_frozen BK288.out 0;have hfz10_1:=blk_frozen BK288.out 1))
  go_loopg [4] k (fun kq v4 w'=>∃ (x4_1 : Int),v4 = .int .i64 x4_1 ∧ Aside0 (spec_l4Find.l0 kq x4_1 l0_0 l0_1 = some (r1,r2)) ∧ Aside0 (kq ≤ k) ∧ Aside0 (w'.heap[gb288]? = some (.cells #[(.slice A0_0 l0_0.length c0_0),(.slice A0_1 l0_1.length c0_1)] 32 (0,0))) ∧ Aside0 (Below w.heap.size w w'))
  case atStart=>exact ⟨(2),(by first|rfl|(simp;done)|(simp [*];done)),H',⟨Nat.le_refl _⟩,⟨by (with_reducible repeat (first|refine blk_drewN ?_ _|refine blk_drew ?_|refine blk_alloc ?_ _));exact BK288.out⟩,⟨by repeat (first|(with_reducible first|exact HB.out|apply below_alloc|apply pw_below_drewN|apply below_drew1|refine below_set ?_ GE288.out)|exact HB.out)⟩⟩
  case round =>
   clear H'
   try clear c1
   try clear c2
   try clear c2b0
   try clear c2b1
   try clear c2b2
   try clear p2
   try clear c10
   try clear hcz10_0
   try clear hcz10_1
   try clear hcz4_0
   try clear hcz4_1
   try clear hfz10_0
   try clear hfz10_1
   try clear hfz4_0
   try clear hfz4_1
   obtain ⟨x4_1,rfl,HA,HK1,BK288,HB⟩:=hrel
   cases gk with
  |zero=>exact absurd HA.out (by simp [spec_l4Find.l0])
  |succ k1 =>
    have H:=HA.out
    clear HA
    simp only [spec_l4Find.l0] at H
    by_cases c11 : 0 < (l0_0.length : Int)
    ·rw [if_pos c11] at H
     have c11b0 : decide (0 < (l0_0.length : Int)) = true:=decide_eq_true c11
     have c11b1 : decide (0 < l0_0.length) = true:=decide_eq_true (by omega)
     clear c11
     by_cases c12 : x4_1 ≤ (wrap64 (((rd_L1 l0_0 0).length : Int) + 2))
     ·rw [if_pos c12] at H
      have c12b0 : decide (x4_1 ≤ (wrap64 (((rd_L1 l0_0 0).length : Int) + 2))) = true:=decide_eq_true c12
      clear c12
      obtain ⟨y302,hy302⟩ : ∃ y_ : List Int,y_ = (([] : List Int)):=⟨_,rfl⟩
      replace H : ((spec_l4Choose.f k1 (l0_0.length : Int) x4_1 y302).bind fun t305=>(spec_l4Find.l1 k1 x4_1 t305 0 l0_0 l0_1)) = some (r1,r2):=by first|(rw [hy302];with_reducible exact H)|(have H2_:=(Option.bind_some _ _).symm.trans H;rw [hy302];with_reducible exact H2_)|(have H2_:=(Option.bind_some _ _).symm.trans H;with_reducible exact H2_)|with_reducible exact H|(rw [hy302];exact H)|exact H
      have Ny302:=Aside0.mk hy302
      clear hy302
      replace H:=Option.bind_eq_some_iff.mp H
      obtain ⟨t305,A130,H⟩:=H
      replace H : (spec_l4Find.l1 k1 x4_1 t305 0 l0_0 l0_1) = some (r1,r2):=H
      have A13:=Aside0.mk A130
      clear A130
      have H':=Aside0.mk H
      clear H
      have hcz14_0 : wr.cell? ⟨gb288,0,none⟩ = some (.slice A0_0 l0_0.length c0_0):=(blk_cell BK288.out 0).trans rfl
      have hcz14_1 : wr.cell? ⟨gb288,1,none⟩ = some (.slice A0_1 l0_1.length c0_1):=(blk_cell BK288.out 1).trans rfl
      have hfz14_0:=blk_frozen BK288.out 0
      have hfz14_1:=blk_frozen BK288.out 1
      have p295 : 0 ≤ (0 : Int):=(by omega)
      have q295 : 0 < (l0_0.length : Int):=of_decide_eq_true (by first|(with_reducible assumption)|assumption)
      obtain ⟨ad295,A295_0,c295_0,e295,hx295_0,hl295_0,hi295_0⟩:=at_L1 HR0_0.out 0 p295 q295
      cases e295
      have qi295 : (0 < l0_0.length) = True:=eq_true (by omega)
      (try rw [show ((0 : Int)).toNat = 0 from rfl] at hx295_0)
      (try rw [Addr.add_zero'] at hx295_0)
      replace hx295_0:=(HB.out.cell (World.block_lt_of_cell? w _ hx295_0)).trans hx295_0
      have HR295_0:=Aside0.mk hi295_0
      have HC295_0:=Aside0.mk hl295_0
      clear hi295_0 hl295_0
      replace p295:=eq_true p295
      replace q295:=eq_true q295
      go_wp2_with (first|((with_reducible refine gate_dst (N:=32) rfl ?_);refine Kd.R_lit (Kd.int .i64) _ 3 ?hg (N:=32) ?hd (xs:=([] : List Int)) (inner:=[]) (ok:=fun _=>True) (okp:=fun _=>True) ?hr ?hp (fun _ hk=>hk) trivial (Below.refl _ _) (Nat.le_refl _) (by simp) ?_;(case hd=>rfl);(case hg=>rfl);(case hr=>first|(go_simp;done)|(go_simp;rfl));(case hp=>exact (Reps.none _ _));intro v303 w15 ho16 hb hg_ hnew_;clear hg_ hnew_;(first|rw [← Ny302.out] at ho16|(simp only [Int.reduceToNat] at ho16;rw [← Ny302.out] at ho16));have n0_:=Aside0.mk (Kd.R_lower (Kd.R_newM (M:=fun k_=>(w.heap.size ≤ k_)) ho16 (below_size (by repeat (first|(with_reducible first|exact HB.out|apply below_alloc|apply pw_below_drewN|apply below_drew1|refine below_set ?_ GE288.out)|exact HB.out))) (fun k_ h_=>h_)) (below_size (by repeat (first|(with_reducible first|exact HB.out|apply below_alloc|apply pw_below_drewN|apply below_drew1|refine below_set ?_ GE288.out)|exact HB.out))));have n1_:=Aside0.mk (blk_below (g:=gb288) (o:=.cells #[.slice (some ad295) l0_0.length c0_0,.slice A0_1 l0_1.length c0_1] 32 (0,0)) (by (with_reducible repeat (first|refine blk_drewN ?_ _|refine blk_drew ?_|refine blk_alloc ?_ _));exact BK288.out) hb);have n2_:=Aside0.mk (below_step (by repeat (first|(with_reducible first|exact HB.out|apply below_alloc|apply pw_below_drewN|apply below_drew1|refine below_set ?_ GE288.out)|exact HB.out)) hb);clear BK288;clear HB;have HO304:=n0_;have BK288:=n1_;have HB:=n2_;clear n0_ n1_ n2_;clear hb ho16;obtain ⟨Ao17,co17,eo17⟩:=Kd.R_slice HO304.out;subst eo17)|((with_reducible refine gate_callee (f:=85) rfl ?_);refine goesL_ (some 33) rfl rfl Try.func85 (by kernel_rfl) rfl #[.int .i64 (l0_0.length : Int),.int .i64 x4_1,.slice Ao17 y302.length co17] rfl (by (try simp only [List.map_toArray,List.map_cons,List.map_nil]);first|done|rfl|(simp only [List.length_drop,List.length_take];rfl)) ?_;(with_reducible refine (spec_l4Choose.calls k1 (l0_0.length : Int) x4_1 (fun k_=>some k_ = (.slice Ao17 y302.length co17 : Value).ownBlock) _ _ y302 t305 _ ?side1 A13.out).mono ?_);(case side1=>exact Kd.R_V (Kd.R_tight rfl (Kd.R_types (HO304.out) BK288.out (by decide))));rintro e w18 ⟨v306,rfl,ho0,hb⟩;refine ⟨_,rfl,?_⟩;have n0_:=Aside0.mk (Kd.R_below (by (with_reducible repeat (first|apply Kd.R_alloc|apply Kd.R_drewN|apply Kd.R_drew));exact HO304.out) hb);have n1_:=Aside0.mk (Kd.N_lower (Kd.N_mono (ok':=fun k_=>(w.heap.size ≤ k_) ∧ k_ ≠ gb288) ho0 (fun k_ hk_=>⟨Or.elim hk_ (fun hs_=>((Kd.R_types (HO304.out) BK288.out (by decide)).1 k_ hs_.symm).1.1) (fun hn_=>(Nat.le_trans (below_size (by repeat (first|(with_reducible first|exact HB.out|apply below_alloc|apply pw_below_drewN|apply below_drew1|refine below_set ?_ GE288.out)|exact HB.out))) hn_)),Or.elim hk_ (fun hs_=>((Kd.R_types (HO304.out) BK288.out (by decide)).1 k_ hs_.symm).2) (fun hn_=>(Kd.freshB (g:=gb288) (o:=.cells #[.slice (some ad295) l0_0.length c0_0,.slice A0_1 l0_1.length c0_1] 32 (0,0)) (by (with_reducible repeat (first|refine blk_drewN ?_ _|refine blk_drew ?_|refine blk_alloc ?_ _));exact BK288.out) k_ hn_))⟩)) (below_size (by repeat (first|(with_reducible first|exact HB.out|apply below_alloc|apply pw_below_drewN|apply below_drew1|refine below_set ?_ GE288.out)|exact HB.out))));have n2_:=Aside0.mk (blk_below (g:=gb288) (o:=.cells #[.slice (some ad295) l0_0.length c0_0,.slice A0_1 l0_1.length c0_1] 32 (0,0)) (by (with_reducible repeat (first|refine blk_drewN ?_ _|refine blk_drew ?_|refine blk_alloc ?_ _));exact BK288.out) hb);have n3_:=Aside0.mk (below_step (by repeat (first|(with_reducible first|exact HB.out|apply below_alloc|apply pw_below_drewN|apply below_drew1|refine below_set ?_ GE288.out)|exact HB.out)) hb);clear HO304;clear BK288;clear HB;have HO304:=n0_;have HO307:=n1_;have BK288:=n2_;have HB:=n3_;clear n0_ n1_ n2_ n3_;(try clear hb);(try clear hb2);(try clear hk);(try clear hi);(try clear ho0)))
      go_loopg [6] k1 (fun kq v6 w'=>∃ (x6_2 : Int),v6 = .int .i64 x6_2 ∧ Aside0 (spec_l4Find.l1 kq x4_1 t305 x6_2 l0_0 l0_1 = some (r1,r2)) ∧ Aside0 (kq ≤ k1) ∧ Aside0 (Kd.N (Kd.slice 3 (Kd.int .i64)) 26 w' w.heap.size (fun k_=>(w.heap.size ≤ k_) ∧ k_ ≠ gb288) v306 t305) ∧ Aside0 (w'.heap[gb288]? = some (.cells #[(.slice (some ad295) l0_0.length c0_0),(.slice A0_1 l0_1.length c0_1)] 32 (0,0))) ∧ Aside0 (Below w.heap.size w w'))
      case atStart=>exact ⟨(0),(by first|rfl|(simp;done)|(simp [*];done)),H',⟨Nat.le_refl _⟩,⟨by (with_reducible repeat (first|apply Kd.N_alloc|apply Kd.N_drewN|apply Kd.N_drew));exact HO307.out⟩,⟨by (with_reducible repeat (first|refine blk_drewN ?_ _|refine blk_drew ?_|refine blk_alloc ?_ _));exact BK288.out⟩,⟨by repeat (first|(with_reducible first|exact HB.out|apply below_alloc|apply pw_below_drewN|apply below_drew1|refine below_set ?_ GE288.out)|exact HB.out)⟩⟩
      case round =>
       clear H'
       try clear c1
       try clear c2
       try clear c2b0
       try clear c2b1
       try clear c2b2
       try clear p2
       try clear q2
       try clear hx2
       try clear qi2
       try clear p6
       try clear c8
       try clear c10
       try clear c11
       try clear c11b0
       try clear c11b1
       try clear c12
       try clear c12b0
       try clear hcz10_0
       try clear hcz10_1
       try clear hcz14_0
       try clear hcz14_1
       try clear hcz4_0
       try clear hcz4_1
       try clear hfz10_0
       try clear hfz10_1
       try clear hfz14_0
       try clear hfz14_1
       try clear hfz4_0
       try clear hfz4_1
       try clear hx295_0
       try clear p2
       try clear p295
       try clear q295
       obtain ⟨x6_2,rfl,HA,HK2,HO_5,BK288,HB⟩:=hrel
       cases gk with
      |zero=>exact absurd HA.out (by simp [spec_l4Find.l1])
      |succ k2 =>
        have H:=HA.out
        clear HA
        simp only [spec_l4Find.l1] at H
        by_cases c19 : x6_2 < (t305.length : Int)
        ·rw [if_pos c19] at H
         have c19b0 : decide (x6_2 < (t305.length : Int)) = true:=decide_eq_true c19
         clear c19
         by_cases c20 : 0 ≤ x6_2
         ·rw [if_pos c20] at H
          have c20b0 : decide (0 ≤ x6_2) = true:=decide_eq_true c20
          clear c20
          replace H:=Option.bind_eq_some_iff.mp H
          obtain ⟨⟨t309,t312⟩,A210,H⟩:=H
          replace H : ((spec_l4Equations.f k2 t309).bind fun t316=>((spec_l4Relation.f k2 t316 x4_1).bind fun bt319=>(if bt319.2 = true then ((spec_l4Signs.f k2 bt319.1 t312).bind fun bt323=>(if bt323.2 = true then (some (rd_L1 t305 x6_2,bt323.1)) else (spec_l4Find.l1 k2 x4_1 t305 (wrap64 (x6_2 + 1)) l0_0 l0_1))) else (spec_l4Find.l1 k2 x4_1 t305 (wrap64 (x6_2 + 1)) l0_0 l0_1)))) = some (r1,r2):=H
          have A21:=Aside0.mk A210
          clear A210
          replace H:=Option.bind_eq_some_iff.mp H
          obtain ⟨t316,A220,H⟩:=H
          replace H : ((spec_l4Relation.f k2 t316 x4_1).bind fun bt319=>(if bt319.2 = true then ((spec_l4Signs.f k2 bt319.1 t312).bind fun bt323=>(if bt323.2 = true then (some (rd_L1 t305 x6_2,bt323.1)) else (spec_l4Find.l1 k2 x4_1 t305 (wrap64 (x6_2 + 1)) l0_0 l0_1))) else (spec_l4Find.l1 k2 x4_1 t305 (wrap64 (x6_2 + 1)) l0_0 l0_1))) = some (r1,r2):=H
          have A22:=Aside0.mk A220
          clear A220
          replace H:=Option.bind_eq_some_iff.mp H
          obtain ⟨⟨t319,t320⟩,A230,H⟩:=H
          replace H : (if t320 = true then ((spec_l4Signs.f k2 t319 t312).bind fun bt323=>(if bt323.2 = true then (some (rd_L1 t305 x6_2,bt323.1)) else (spec_l4Find.l1 k2 x4_1 t305 (wrap64 (x6_2 + 1)) l0_0 l0_1))) else (spec_l4Find.l1 k2 x4_1 t305 (wrap64 (x6_2 + 1)) l0_0 l0_1)) = some (r1,r2):=H
          have A23:=Aside0.mk A230
          clear A230
          by_cases c24 : t320 = true
          ·subst c24
           have H1 : ((spec_l4Signs.f k2 t319 t312).bind fun bt323=>(if bt323.2 = true then (some (rd_L1 t305 x6_2,bt323.1)) else (spec_l4Find.l1 k2 x4_1 t305 (wrap64 (x6_2 + 1)) l0_0 l0_1))) = some (r1,r2):=by rw [if_pos rfl] at H;exact H
           clear H
           have H:=H1
           clear H1
           replace H:=Option.bind_eq_some_iff.mp H
           obtain ⟨⟨t323,t324⟩,A250,H⟩:=H
           replace H : (if t324 = true then (some (rd_L1 t305 x6_2,t323)) else (spec_l4Find.l1 k2 x4_1 t305 (wrap64 (x6_2 + 1)) l0_0 l0_1)) = some (r1,r2):=H
           have A25:=Aside0.mk A250
           clear A250
           by_cases c26 : t324 = true
           ·subst c26
            have H1 : (some (rd_L1 t305 x6_2,t323)) = some (r1,r2):=by rw [if_pos rfl] at H;exact H
            clear H
            have H:=H1
            clear H1
            simp only [Option.some.injEq,Prod.mk.injEq] at H
            obtain ⟨rfl,rfl⟩:=H
            obtain ⟨Ao27,co27,eo27⟩:=Kd.N_slice HO_5.out
            subst eo27
            try go_wp2
            have n0_:=Aside0.mk (Kd.N_drew HO_5.out)
            have n1_:=Aside0.mk (blk_drew BK288.out)
            have n2_:=Aside0.mk (below_drew1 HB.out)
            clear HO_5
            clear BK288
            clear HB
            have HO_5:=n0_
            have BK288:=n1_
            have HB:=n2_
            clear n0_ n1_ n2_
            have p308 : 0 ≤ (x6_2 : Int):=of_decide_eq_true (by first|(with_reducible assumption)|assumption)
            have q308 : x6_2 < (t305.length : Int):=of_decide_eq_true (by first|(with_reducible assumption)|assumption)
            obtain ⟨ad308,A308_0,c308_0,e308,hx308_0,hl308_0,hi308_0⟩:=at_L1 (Kd.N_reads' HO_5.out).2.2 x6_2 p308 q308
            cases e308
            obtain ⟨ce308,hce308,hMe308,hcc308⟩:=Kd.N_get HO_5.out [] x6_2 p308 (by first|exact q308|exact of_decide_eq_true (by first|(with_reducible assumption)|assumption)|(have e_:=(Kd.N_reads' HO_5.out).1;omega))
            obtain ⟨ua308_0,uc308_0,rfl,ul308_0,ge308_0⟩:=Kd.FK_slice_open hMe308
            have hv308_0:=hcc308 0 _ rfl
            rw [Nat.add_zero,show ((Kd.slice 3 (Kd.int .i64))).sz = 1 from rfl,Nat.mul_one] at hv308_0
            replace hv308_0:=Option.some.inj (hv308_0.symm.trans hx308_0)
            injection hv308_0 with hva_ hvn_ hvc_
            rw [hva_] at ge308_0
            rw [hvc_] at ul308_0
            have HL308_0:=Aside0.mk (show Kd.V (Kd.int .i64) 3 _ w.heap.size _ _ (rd_L1 t305 x6_2) from Kd.V_mk ul308_0 ge308_0)
            clear hva_ hvn_ hvc_ ge308_0 ul308_0
            clear hcc308 hce308
            have HR308_0:=Aside0.mk hi308_0
            have HC308_0:=Aside0.mk hl308_0
            clear hi308_0 hl308_0
            replace p308:=eq_true p308
            replace q308:=eq_true q308
            refine start_ (n:=8) (S:=fun w'=>w'.cell? ⟨gb288,0,none⟩ = some (.slice (some ad295) l0_0.length c0_0) ∧ w'.cell? ⟨gb288,1,none⟩ = some (.slice A0_1 l0_1.length c0_1) ∧ w'.cell? (ad308.add (x6_2).toNat) = some (.slice A308_0 (rd_L1 t305 x6_2).length c308_0)) (ds:=[]) #[false,false,false,false,false,false,false,false] (by kernel_rfl) rfl rfl ⟨(blk_cell BK288.out 0).trans rfl,(blk_cell BK288.out 1).trans rfl,hx308_0⟩ (fun hHeld=>?_);refine with_tabW spec_l4Find.tab10 spec_l4Find.bits10 (fun HT_ HW_=>?_)
            generalize wr.drew = w28 at HO_5 BK288 HB HL308_0 HR308_0 hx308_0 hHeld ⊢
            refine pure_ (i:=1) (N:=some 41) (v:=?_) (a':=?_) #[false,true,false,false,false,false,false,false] rfl rfl (any_of HT_.out (by kernel_rfl)) (fun _ _ _ h=>h) (Or.inl ⟨by rfl,?_⟩) ?_ ?_
            rotate_left
            ·intro w'
             go_simp
             with_reducible rfl
            rotate_left
            ·simp only [Act.put,List.setIfInBounds_toArray,List.set_cons_zero,List.set_cons_succ,i64_w,i32_w]
             rfl
            refine pure_ (i:=2) (N:=some 42) (v:=?_) (a':=?_) #[false,true,true,false,false,false,false,false] rfl rfl (any_of HT_.out (by kernel_rfl)) (fun _ _ _ h=>h) (Or.inl ⟨by rfl,?_⟩) ?_ ?_
            rotate_left
            ·intro w'
             go_simp
             with_reducible rfl
            rotate_left
            ·simp only [Act.put,List.setIfInBounds_toArray,List.set_cons_zero,List.set_cons_succ,i64_w,i32_w]
             rfl
            refine pure_ (i:=3) (N:=some 43) (v:=?_) (a':=?_) #[false,true,true,true,false,false,false,false] rfl rfl (any_of HT_.out (by kernel_rfl)) (fun _ _ _ h=>h) (Or.inl ⟨by rfl,?_⟩) ?_ ?_
            rotate_left
            ·intro w'
             go_simp
             with_reducible rfl
            rotate_left
            ·simp only [Act.put,List.setIfInBounds_toArray,List.set_cons_zero,List.set_cons_succ,i64_w,i32_w]
             rfl
            refine take_ (i:=0) (N:=some 40) (v:=?_) (a':=?_) #[true,true,true,true,false,false,false,false] rfl rfl (take_ofW HT_.out HW_.out (by kernel_rfl)) (fun _ _ _ h=>h) (Or.inl ⟨by rfl,?_⟩) hHeld ?_ ?_
            rotate_left
            ·rintro w' ⟨s0,s1,s2⟩
             go_simp
             with_reducible rfl
            rotate_left
            ·simp only [Act.put,List.setIfInBounds_toArray,List.set_cons_zero,List.set_cons_succ,i64_w,i32_w]
             rfl
            refine take_ (i:=4) (N:=some 44) (v:=?_) (a':=?_) #[true,true,true,true,true,false,false,false] rfl rfl (take_ofW HT_.out HW_.out (by kernel_rfl)) (fun _ _ _ h=>h) (Or.inl ⟨by rfl,?_⟩) hHeld ?_ ?_
            rotate_left
            ·rintro w' ⟨s0,s1,s2⟩
             go_simp
             with_reducible rfl
            rotate_left
            ·simp only [Act.put,List.setIfInBounds_toArray,List.set_cons_zero,List.set_cons_succ,i64_w,i32_w]
             rfl
            refine join_ (σ:=Value × Value × Nat) 1 #[true,true,true,true,true,true,true,false] (fun s_=>[(45,.agg #[s_.1,s_.2.1]),(7,.pointer (some ⟨s_.2.2,0,none⟩))]) (fun s_ w'=>(w'.cell? ⟨gb288,0,none⟩ = some (.slice (some ad295) l0_0.length c0_0) ∧ w'.cell? ⟨gb288,1,none⟩ = some (.slice A0_1 l0_1.length c0_1) ∧ w'.cell? (ad308.add (x6_2).toNat) = some (.slice A308_0 (rd_L1 t305 x6_2).length c308_0)) ∧ (Kd.V (Kd.int .i64) 3 w' w.heap.size (fun k_=>(w.heap.size ≤ k_) ∧ some k_ ≠ (s_.1 : Value).ownBlock ∧ some k_ ≠ (s_.2.1 : Value).ownBlock ∧ some k_ ≠ (.slice (some ad308) t305.length co27 : Value).ownBlock ∧ k_ ≠ gb288 ∧ k_ ≠ s_.2.2) (.slice A308_0 (rd_L1 t305 x6_2).length c308_0) (rd_L1 t305 x6_2)) ∧ (Kd.N (Kd.slice 3 (Kd.int .i64)) 26 w' w.heap.size (fun k_=>(w.heap.size ≤ k_) ∧ some k_ ≠ (s_.2.1 : Value).ownBlock ∧ some k_ ≠ (.slice (some ad308) t305.length co27 : Value).ownBlock ∧ k_ ≠ gb288 ∧ k_ ≠ s_.2.2) s_.1 t309) ∧ (Kd.R (Kd.int .i64) 3 w' w.heap.size (fun k_=>(w.heap.size ≤ k_)) s_.2.1 t312) ∧ (Kd.N (Kd.slice 3 (Kd.int .i64)) 26 w' w.heap.size (fun k_=>(w.heap.size ≤ k_) ∧ some k_ ≠ (s_.1 : Value).ownBlock ∧ some k_ ≠ (s_.2.1 : Value).ownBlock ∧ k_ ≠ gb288 ∧ k_ ≠ s_.2.2) (.slice (some ad308) t305.length co27) t305) ∧ (w'.heap[gb288]? = some (.cells #[.slice (some ad295) l0_0.length c0_0,.slice A0_1 l0_1.length c0_1] 32 (0,0))) ∧ (w'.heap[s_.2.2]? = some (.cells #[.slice none 0 0,.slice none 0 0] 32 (0,0))) ∧ (w.heap.size ≤ s_.2.2) ∧ (w.heap.size ≤ s_.2.2) ∧ (gb288 ≠ s_.2.2) ∧ (s_.2.2 ≠ gb288) ∧ (Below w.heap.size w w')) ?_ ?_
            rotate_left
            ·intro hCont
             refine two_ (i:=5) (j:=6) (Ni:=some 45) (Nj:=some 7) #[true,true,true,true,true,true,false,false] #[true,true,true,true,true,false,true,false] rfl rfl rfl rfl (two_of HT_.out (by kernel_rfl)) (by decide) (by decide) (fun K hK=>?_) (fun K hK=>?_)
             ·skip
              refine goes_ Try.func102 (by kernel_rfl) rfl #[.agg #[.slice (some ad295) l0_0.length c0_0,.slice A0_1 l0_1.length c0_1],.slice A308_0 (rd_L1 t305 x6_2).length c308_0] (by rfl) rfl rfl (by (try simp only [List.map_toArray,List.map_cons,List.map_nil]);first|done|rfl|(simp only [List.length_drop,List.length_take];rfl)) ?_
              with_reducible refine (spec_l2Part.calls k2 _ _ l0_0 _ _ l0_1 _ _ (rd_L1 t305 x6_2) t309 t312 _ ?side1 ?side2 ?side3 ?side4 ?side5 ?side6 A21.out).mono ?_
              (case side1=>repeat (first|exact (Kd.C_below HR0_0.out HB.out)|(with_reducible refine Kd.C_alloc ?_ _)|(with_reducible refine Kd.C_drewN ?_ _)|(with_reducible refine Kd.C_drew ?_)))
              (case side2=>exact HC0_0.out)
              (case side3=>repeat (first|exact (Kd.C_below HR0_1.out HB.out)|(with_reducible refine Kd.C_alloc ?_ _)|(with_reducible refine Kd.C_drewN ?_ _)|(with_reducible refine Kd.C_drew ?_)))
              (case side4=>exact HC0_1.out)
              (case side5=>repeat (first|exact (by repeat (first|(with_reducible exact HR308_0.out)|(with_reducible refine Kd.C_alloc ?_ _)|(with_reducible refine Kd.C_drewN ?_ _)|(with_reducible refine Kd.C_drew ?_)|exact HR308_0.out))|(with_reducible refine Kd.C_alloc ?_ _)|(with_reducible refine Kd.C_drewN ?_ _)|(with_reducible refine Kd.C_drew ?_)))
              (case side6=>exact HC308_0.out)
              rintro e w29 ⟨v310,v313,rfl,ho0,ho1,hb⟩
              have HS2_:=(hb.cell (World.block_lt_of_cell? _ _ (hHeld.2.2))).trans (hHeld.2.2)
              refine ⟨_,rfl,?_⟩
              have n0_:=Aside0.mk (Kd.N_mono (Kd.N_told (Kd.N_told (Kd.N_old (by (with_reducible repeat (first|apply Kd.N_alloc|apply Kd.N_drewN|apply Kd.N_drew));exact HO_5.out) hb) (by first|exact Kd.N_base ho0|exact Kd.S_base ho0)) (Kd.R_base ho1)) (fun _ h_=>h_.1))
              have n1_:=Aside0.mk (Kd.V_mono (Kd.V_told (Kd.V_told (Kd.V_old (by (with_reducible repeat (first|apply Kd.V_alloc|apply Kd.V_drewN|apply Kd.V_drew));exact HL308_0.out) hb) (by first|exact Kd.N_base ho0|exact Kd.S_base ho0)) (Kd.R_base ho1)) (fun _ h_=>h_.1))
              have n2_:=Aside0.mk (Kd.N_lower (Kd.N_mono (ok':=fun k_=>(w.heap.size ≤ k_) ∧ some k_ ≠ (v313 : Value).ownBlock ∧ some k_ ≠ (.slice (some ad308) t305.length co27 : Value).ownBlock ∧ k_ ≠ gb288) (Kd.S_N (Kd.S_bound ho0)) (fun k_ hk_=>⟨(Nat.le_trans (below_size (by repeat (first|(with_reducible first|exact HB.out|apply below_alloc|apply pw_below_drewN|apply below_drew1|refine below_set ?_ GE288.out)|exact HB.out))) hk_.2.1),hk_.1,(Kd.fresh' (Kd.N_lt (by (with_reducible repeat (first|apply Kd.N_alloc|apply Kd.N_drewN|apply Kd.N_drew));exact HO_5.out)) k_ hk_.2.1),(Kd.freshB (g:=gb288) (o:=.cells #[.slice (some ad295) l0_0.length c0_0,.slice A0_1 l0_1.length c0_1] 32 (0,0)) (by (with_reducible repeat (first|refine blk_drewN ?_ _|refine blk_drew ?_|refine blk_alloc ?_ _));exact BK288.out) k_ hk_.2.1)⟩)) (below_size (by repeat (first|(with_reducible first|exact HB.out|apply below_alloc|apply pw_below_drewN|apply below_drew1|refine below_set ?_ GE288.out)|exact HB.out))))
              have n3_:=Aside0.mk (Kd.R_lower (Kd.R_newM (M:=fun k_=>(w.heap.size ≤ k_)) ho1 (below_size (by repeat (first|(with_reducible first|exact HB.out|apply below_alloc|apply pw_below_drewN|apply below_drew1|refine below_set ?_ GE288.out)|exact HB.out))) (fun k_ h_=>h_)) (below_size (by repeat (first|(with_reducible first|exact HB.out|apply below_alloc|apply pw_below_drewN|apply below_drew1|refine below_set ?_ GE288.out)|exact HB.out))))
              have n4_:=Aside0.mk (blk_below (g:=gb288) (o:=.cells #[.slice (some ad295) l0_0.length c0_0,.slice A0_1 l0_1.length c0_1] 32 (0,0)) (by (with_reducible repeat (first|refine blk_drewN ?_ _|refine blk_drew ?_|refine blk_alloc ?_ _));exact BK288.out) hb)
              have n5_:=Aside0.mk (Kd.C_below (by repeat (first|(with_reducible exact HR308_0.out)|(with_reducible refine Kd.C_alloc ?_ _)|(with_reducible refine Kd.C_drewN ?_ _)|(with_reducible refine Kd.C_drew ?_)|exact HR308_0.out)) hb)
              have n6_:=Aside0.mk (below_step (by repeat (first|(with_reducible first|exact HB.out|apply below_alloc|apply pw_below_drewN|apply below_drew1|refine below_set ?_ GE288.out)|exact HB.out)) hb)
              clear HO_5
              clear HL308_0
              clear BK288
              clear HR308_0
              clear HB
              have HO_5:=n0_
              have HL308_0:=n1_
              have HO311:=n2_
              have HO314:=n3_
              have BK288:=n4_
              have HR308_0:=n5_
              have HB:=n6_
              clear n0_ n1_ n2_ n3_ n4_ n5_ n6_
              (try clear hb)
              (try clear hb2)
              (try clear hk)
              (try clear hi)
              (try clear ho0)
              (try clear ho1)
              refine hK.out _ _ ⟨(blk_cell BK288.out 0).trans rfl,(blk_cell BK288.out 1).trans rfl,HS2_⟩ (fun hHeld=>?_)
              clear hK K
              refine norm_ (a':=?_) ?_ ?_
              rotate_left
              ·show Act.put _ (some 45) _ = _
               simp only [Act.put,List.setIfInBounds_toArray,List.set_cons_zero,List.set_cons_succ,i64_w,i32_w]
               rfl
              refine one_ (i:=6) (N:=some 7) #[true,true,true,true,true,true,true,false] rfl rfl (one_of HT_.out (by kernel_rfl)) (by decide) (fun K hK=>?_)
              refine box_step ?hg (N:=7) ?hd (cs:=#[.slice none 0 0,.slice none 0 0]) (t:=32) ?hr ?_;(case hd=>rfl);(case hg=>rfl);(case hr=>first|(go_simp;done)|(go_simp;rfl))
              intro gb315 hg w30 hbox hb
              have HS2_:=(hb.cell (World.block_lt_of_cell? _ _ (hHeld.2.2))).trans (hHeld.2.2)
              have n0_:=Aside0.mk (Kd.N_below (Kd.N_elderB (by (with_reducible repeat (first|apply Kd.N_alloc|apply Kd.N_drewN|apply Kd.N_drew));exact HO_5.out) gb315 (Nat.le_of_eq hg.symm)) hb)
              have n1_:=Aside0.mk (Kd.V_below (Kd.V_elderB (by (with_reducible repeat (first|apply Kd.V_alloc|apply Kd.V_drewN|apply Kd.V_drew));exact HL308_0.out) gb315 (Nat.le_of_eq hg.symm)) hb)
              have n2_:=Aside0.mk (Kd.N_below (Kd.N_elderB (by (with_reducible repeat (first|apply Kd.N_alloc|apply Kd.N_drewN|apply Kd.N_drew));exact HO311.out) gb315 (Nat.le_of_eq hg.symm)) hb)
              have n3_:=Aside0.mk (Kd.R_below (by (with_reducible repeat (first|apply Kd.R_alloc|apply Kd.R_drewN|apply Kd.R_drew));exact HO314.out) hb)
              have n4_:=Aside0.mk (blk_below (g:=gb288) (o:=.cells #[.slice (some ad295) l0_0.length c0_0,.slice A0_1 l0_1.length c0_1] 32 (0,0)) (by (with_reducible repeat (first|refine blk_drewN ?_ _|refine blk_drew ?_|refine blk_alloc ?_ _));exact BK288.out) hb)
              have n5_:=Aside0.mk (Kd.C_below (by repeat (first|(with_reducible exact HR308_0.out)|(with_reducible refine Kd.C_alloc ?_ _)|(with_reducible refine Kd.C_drewN ?_ _)|(with_reducible refine Kd.C_drew ?_)|exact HR308_0.out)) hb)
              have n6_:=Aside0.mk (below_step (by repeat (first|(with_reducible first|exact HB.out|apply below_alloc|apply pw_below_drewN|apply below_drew1|refine below_set ?_ GE288.out)|exact HB.out)) hb)
              have n7_:=Aside0.mk (hbox)
              have n8_:=Aside0.mk ((by rw [hg];exact (below_size (by repeat (first|(with_reducible first|exact HB.out|apply below_alloc|apply pw_below_drewN|apply below_drew1|refine below_set ?_ GE288.out)|exact HB.out))) : w.heap.size ≤ gb315))
              have n9_:=Aside0.mk ((by rw [hg];exact (below_size (by repeat (first|(with_reducible first|exact HB.out|apply below_alloc|apply pw_below_drewN|apply below_drew1|refine below_set ?_ GE288.out)|exact HB.out))) : w.heap.size ≤ gb315))
              have n10_:=Aside0.mk ((by rw [hg];exact Nat.ne_of_lt (blk_lt (g:=gb288) (o:=.cells #[.slice (some ad295) l0_0.length c0_0,.slice A0_1 l0_1.length c0_1] 32 (0,0)) (by (with_reducible repeat (first|refine blk_drewN ?_ _|refine blk_drew ?_|refine blk_alloc ?_ _));exact BK288.out)) : gb288 ≠ gb315))
              have n11_:=Aside0.mk ((by rw [hg];exact Nat.ne_of_gt (blk_lt (g:=gb288) (o:=.cells #[.slice (some ad295) l0_0.length c0_0,.slice A0_1 l0_1.length c0_1] 32 (0,0)) (by (with_reducible repeat (first|refine blk_drewN ?_ _|refine blk_drew ?_|refine blk_alloc ?_ _));exact BK288.out)) : gb315 ≠ gb288))
              clear HO_5
              clear HL308_0
              clear HO311
              clear HO314
              clear BK288
              clear HR308_0
              clear HB
              have HO_5:=n0_
              have HL308_0:=n1_
              have HO311:=n2_
              have HO314:=n3_
              have BK288:=n4_
              have HR308_0:=n5_
              have HB:=n6_
              have BK315:=n7_
              have GW315:=n8_
              have GE315:=n9_
              have NB288_315:=n10_
              have NB315_288:=n11_
              clear n0_ n1_ n2_ n3_ n4_ n5_ n6_ n7_ n8_ n9_ n10_ n11_
              clear hb hbox hg
              refine hK.out _ _ ⟨(blk_cell BK288.out 0).trans rfl,(blk_cell BK288.out 1).trans rfl,HS2_⟩ (fun hHeld=>?_)
              clear hK K
              refine norm_ (a':=?_) ?_ ?_
              rotate_left
              ·show Act.put _ (some 7) _ = _
               simp only [Act.put,List.setIfInBounds_toArray,List.set_cons_zero,List.set_cons_succ,i64_w,i32_w]
               rfl
              exact norm_ (by simp only [putAll,Act.put,List.setIfInBounds_toArray,List.set_cons_zero,List.set_cons_succ]) (hCont (v310,v313,gb315) _ ⟨hHeld,(by (with_reducible repeat (first|apply Kd.V_alloc|apply Kd.V_drewN|apply Kd.V_drew));exact Kd.V_mono HL308_0.out (fun _ hk=>by first|exact ⟨hk.1.1.1.1.1,⟨hk.1.1.2,⟨hk.1.2,⟨hk.1.1.1.2,⟨hk.1.1.1.1.2,hk.2⟩⟩⟩⟩⟩|grind)),(by (with_reducible repeat (first|apply Kd.N_alloc|apply Kd.N_drewN|apply Kd.N_drew));exact Kd.N_mono HO311.out (fun _ hk=>by first|exact ⟨hk.1.1,⟨hk.1.2.1,⟨hk.1.2.2.1,⟨hk.1.2.2.2,hk.2⟩⟩⟩⟩|grind)),(by (with_reducible repeat (first|apply Kd.R_alloc|apply Kd.R_drewN|apply Kd.R_drew));exact Kd.R_mono HO314.out (fun _ hk=>hk.1)),(by (with_reducible repeat (first|apply Kd.N_alloc|apply Kd.N_drewN|apply Kd.N_drew));exact Kd.N_mono HO_5.out (fun _ hk=>by first|exact ⟨hk.1.1.1.1,⟨hk.1.1.2,⟨hk.1.2,⟨hk.1.1.1.2,hk.2⟩⟩⟩⟩|grind)),(by (with_reducible repeat (first|refine blk_drewN ?_ _|refine blk_drew ?_|refine blk_alloc ?_ _));exact BK288.out),(by (with_reducible repeat (first|refine blk_drewN ?_ _|refine blk_drew ?_|refine blk_alloc ?_ _));exact BK315.out),GW315.out,GE315.out,NB288_315.out,NB315_288.out,(by repeat (first|(with_reducible first|exact HB.out|apply below_alloc|apply pw_below_drewN|apply below_drew1|refine below_set ?_ GE288.out|refine below_set ?_ GE315.out)|exact HB.out))⟩)
             ·skip
              refine box_step ?hg (N:=7) ?hd (cs:=#[.slice none 0 0,.slice none 0 0]) (t:=32) ?hr ?_;(case hd=>rfl);(case hg=>rfl);(case hr=>first|(go_simp;done)|(go_simp;rfl))
              intro gb315 hg w29 hbox hb
              have HS2_:=(hb.cell (World.block_lt_of_cell? _ _ (hHeld.2.2))).trans (hHeld.2.2)
              have n0_:=Aside0.mk (Kd.N_below (Kd.N_elderB (by (with_reducible repeat (first|apply Kd.N_alloc|apply Kd.N_drewN|apply Kd.N_drew));exact HO_5.out) gb315 (Nat.le_of_eq hg.symm)) hb)
              have n1_:=Aside0.mk (Kd.V_below (Kd.V_elderB (by (with_reducible repeat (first|apply Kd.V_alloc|apply Kd.V_drewN|apply Kd.V_drew));exact HL308_0.out) gb315 (Nat.le_of_eq hg.symm)) hb)
              have n2_:=Aside0.mk (blk_below (g:=gb288) (o:=.cells #[.slice (some ad295) l0_0.length c0_0,.slice A0_1 l0_1.length c0_1] 32 (0,0)) (by (with_reducible repeat (first|refine blk_drewN ?_ _|refine blk_drew ?_|refine blk_alloc ?_ _));exact BK288.out) hb)
              have n3_:=Aside0.mk (Kd.C_below (by repeat (first|(with_reducible exact HR308_0.out)|(with_reducible refine Kd.C_alloc ?_ _)|(with_reducible refine Kd.C_drewN ?_ _)|(with_reducible refine Kd.C_drew ?_)|exact HR308_0.out)) hb)
              have n4_:=Aside0.mk (below_step (by repeat (first|(with_reducible first|exact HB.out|apply below_alloc|apply pw_below_drewN|apply below_drew1|refine below_set ?_ GE288.out)|exact HB.out)) hb)
              have n5_:=Aside0.mk (hbox)
              have n6_:=Aside0.mk ((by rw [hg];exact (below_size (by repeat (first|(with_reducible first|exact HB.out|apply below_alloc|apply pw_below_drewN|apply below_drew1|refine below_set ?_ GE288.out)|exact HB.out))) : w.heap.size ≤ gb315))
              have n7_:=Aside0.mk ((by rw [hg];exact (below_size (by repeat (first|(with_reducible first|exact HB.out|apply below_alloc|apply pw_below_drewN|apply below_drew1|refine below_set ?_ GE288.out)|exact HB.out))) : w.heap.size ≤ gb315))
              have n8_:=Aside0.mk ((by rw [hg];exact Nat.ne_of_lt (blk_lt (g:=gb288) (o:=.cells #[.slice (some ad295) l0_0.length c0_0,.slice A0_1 l0_1.length c0_1] 32 (0,0)) (by (with_reducible repeat (first|refine blk_drewN ?_ _|refine blk_drew ?_|refine blk_alloc ?_ _));exact BK288.out)) : gb288 ≠ gb315))
              have n9_:=Aside0.mk ((by rw [hg];exact Nat.ne_of_gt (blk_lt (g:=gb288) (o:=.cells #[.slice (some ad295) l0_0.length c0_0,.slice A0_1 l0_1.length c0_1] 32 (0,0)) (by (with_reducible repeat (first|refine blk_drewN ?_ _|refine blk_drew ?_|refine blk_alloc ?_ _));exact BK288.out)) : gb315 ≠ gb288))
              clear HO_5
              clear HL308_0
              clear BK288
              clear HR308_0
              clear HB
              have HO_5:=n0_
              have HL308_0:=n1_
              have BK288:=n2_
              have HR308_0:=n3_
              have HB:=n4_
              have BK315:=n5_
              have GW315:=n6_
              have GE315:=n7_
              have NB288_315:=n8_
              have NB315_288:=n9_
              clear n0_ n1_ n2_ n3_ n4_ n5_ n6_ n7_ n8_ n9_
              clear hb hbox hg
              refine hK.out _ _ ⟨(blk_cell BK288.out 0).trans rfl,(blk_cell BK288.out 1).trans rfl,HS2_⟩ (fun hHeld=>?_)
              clear hK K
              refine norm_ (a':=?_) ?_ ?_
              rotate_left
              ·show Act.put _ (some 7) _ = _
               simp only [Act.put,List.setIfInBounds_toArray,List.set_cons_zero,List.set_cons_succ,i64_w,i32_w]
               rfl
              refine one_ (i:=5) (N:=some 45) #[true,true,true,true,true,true,true,false] rfl rfl (one_of HT_.out (by kernel_rfl)) (by decide) (fun K hK=>?_)
              refine goes_ Try.func102 (by kernel_rfl) rfl #[.agg #[.slice (some ad295) l0_0.length c0_0,.slice A0_1 l0_1.length c0_1],.slice A308_0 (rd_L1 t305 x6_2).length c308_0] (by rfl) rfl rfl (by (try simp only [List.map_toArray,List.map_cons,List.map_nil]);first|done|rfl|(simp only [List.length_drop,List.length_take];rfl)) ?_
              with_reducible refine (spec_l2Part.calls k2 _ _ l0_0 _ _ l0_1 _ _ (rd_L1 t305 x6_2) t309 t312 _ ?side1 ?side2 ?side3 ?side4 ?side5 ?side6 A21.out).mono ?_
              (case side1=>repeat (first|exact (Kd.C_below HR0_0.out HB.out)|(with_reducible refine Kd.C_alloc ?_ _)|(with_reducible refine Kd.C_drewN ?_ _)|(with_reducible refine Kd.C_drew ?_)))
              (case side2=>exact HC0_0.out)
              (case side3=>repeat (first|exact (Kd.C_below HR0_1.out HB.out)|(with_reducible refine Kd.C_alloc ?_ _)|(with_reducible refine Kd.C_drewN ?_ _)|(with_reducible refine Kd.C_drew ?_)))
              (case side4=>exact HC0_1.out)
              (case side5=>repeat (first|exact (by repeat (first|(with_reducible exact HR308_0.out)|(with_reducible refine Kd.C_alloc ?_ _)|(with_reducible refine Kd.C_drewN ?_ _)|(with_reducible refine Kd.C_drew ?_)|exact HR308_0.out))|(with_reducible refine Kd.C_alloc ?_ _)|(with_reducible refine Kd.C_drewN ?_ _)|(with_reducible refine Kd.C_drew ?_)))
              (case side6=>exact HC308_0.out)
              rintro e w30 ⟨v310,v313,rfl,ho0,ho1,hb⟩
              have HS2_:=(hb.cell (World.block_lt_of_cell? _ _ (hHeld.2.2))).trans (hHeld.2.2)
              refine ⟨_,rfl,?_⟩
              have n0_:=Aside0.mk (Kd.N_mono (Kd.N_told (Kd.N_told (Kd.N_old (by (with_reducible repeat (first|apply Kd.N_alloc|apply Kd.N_drewN|apply Kd.N_drew));exact HO_5.out) hb) (by first|exact Kd.N_base ho0|exact Kd.S_base ho0)) (Kd.R_base ho1)) (fun _ h_=>h_.1))
              have n1_:=Aside0.mk (Kd.V_mono (Kd.V_told (Kd.V_told (Kd.V_old (by (with_reducible repeat (first|apply Kd.V_alloc|apply Kd.V_drewN|apply Kd.V_drew));exact HL308_0.out) hb) (by first|exact Kd.N_base ho0|exact Kd.S_base ho0)) (Kd.R_base ho1)) (fun _ h_=>h_.1))
              have n2_:=Aside0.mk (Kd.N_lower (Kd.N_mono (ok':=fun k_=>(w.heap.size ≤ k_) ∧ some k_ ≠ (v313 : Value).ownBlock ∧ some k_ ≠ (.slice (some ad308) t305.length co27 : Value).ownBlock ∧ k_ ≠ gb288 ∧ k_ ≠ gb315) (Kd.S_N (Kd.S_bound ho0)) (fun k_ hk_=>⟨(Nat.le_trans (below_size (by repeat (first|(with_reducible first|exact HB.out|apply below_alloc|apply pw_below_drewN|apply below_drew1|refine below_set ?_ GE288.out|refine below_set ?_ GE315.out)|exact HB.out))) hk_.2.1),hk_.1,(Kd.fresh' (Kd.N_lt (by (with_reducible repeat (first|apply Kd.N_alloc|apply Kd.N_drewN|apply Kd.N_drew));exact HO_5.out)) k_ hk_.2.1),(Kd.freshB (g:=gb288) (o:=.cells #[.slice (some ad295) l0_0.length c0_0,.slice A0_1 l0_1.length c0_1] 32 (0,0)) (by (with_reducible repeat (first|refine blk_drewN ?_ _|refine blk_drew ?_|refine blk_alloc ?_ _));exact BK288.out) k_ hk_.2.1),(Kd.freshB (g:=gb315) (o:=.cells #[.slice none 0 0,.slice none 0 0] 32 (0,0)) (by (with_reducible repeat (first|refine blk_drewN ?_ _|refine blk_drew ?_|refine blk_alloc ?_ _));exact BK315.out) k_ hk_.2.1)⟩)) (below_size (by repeat (first|(with_reducible first|exact HB.out|apply below_alloc|apply pw_below_drewN|apply below_drew1|refine below_set ?_ GE288.out|refine below_set ?_ GE315.out)|exact HB.out))))
              have n3_:=Aside0.mk (Kd.R_lower (Kd.R_newM (M:=fun k_=>(w.heap.size ≤ k_)) ho1 (below_size (by repeat (first|(with_reducible first|exact HB.out|apply below_alloc|apply pw_below_drewN|apply below_drew1|refine below_set ?_ GE288.out|refine below_set ?_ GE315.out)|exact HB.out))) (fun k_ h_=>h_)) (below_size (by repeat (first|(with_reducible first|exact HB.out|apply below_alloc|apply pw_below_drewN|apply below_drew1|refine below_set ?_ GE288.out|refine below_set ?_ GE315.out)|exact HB.out))))
              have n4_:=Aside0.mk (blk_below (g:=gb288) (o:=.cells #[.slice (some ad295) l0_0.length c0_0,.slice A0_1 l0_1.length c0_1] 32 (0,0)) (by (with_reducible repeat (first|refine blk_drewN ?_ _|refine blk_drew ?_|refine blk_alloc ?_ _));exact BK288.out) hb)
              have n5_:=Aside0.mk (Kd.C_below (by repeat (first|(with_reducible exact HR308_0.out)|(with_reducible refine Kd.C_alloc ?_ _)|(with_reducible refine Kd.C_drewN ?_ _)|(with_reducible refine Kd.C_drew ?_)|exact HR308_0.out)) hb)
              have n6_:=Aside0.mk (blk_below (g:=gb315) (o:=.cells #[.slice none 0 0,.slice none 0 0] 32 (0,0)) (by (with_reducible repeat (first|refine blk_drewN ?_ _|refine blk_drew ?_|refine blk_alloc ?_ _));exact BK315.out) hb)
              have n7_:=Aside0.mk (below_step (by repeat (first|(with_reducible first|exact HB.out|apply below_alloc|apply pw_below_drewN|apply below_drew1|refine below_set ?_ GE288.out|refine below_set ?_ GE315.out)|exact HB.out)) hb)
              clear HO_5
              clear HL308_0
              clear BK288
              clear HR308_0
              clear BK315
              clear HB
              have HO_5:=n0_
              have HL308_0:=n1_
              have HO311:=n2_
              have HO314:=n3_
              have BK288:=n4_
              have HR308_0:=n5_
              have BK315:=n6_
              have HB:=n7_
              clear n0_ n1_ n2_ n3_ n4_ n5_ n6_ n7_
              (try clear hb)
              (try clear hb2)
              (try clear hk)
              (try clear hi)
              (try clear ho0)
              (try clear ho1)
              refine hK.out _ _ ⟨(blk_cell BK288.out 0).trans rfl,(blk_cell BK288.out 1).trans rfl,HS2_⟩ (fun hHeld=>?_)
              clear hK K
              refine norm_ (a':=?_) ?_ ?_
              rotate_left
              ·show Act.put _ (some 45) _ = _
               simp only [Act.put,List.setIfInBounds_toArray,List.set_cons_zero,List.set_cons_succ,i64_w,i32_w]
               rfl
              exact norm_ (by simp only [putAll,Act.put,List.setIfInBounds_toArray,List.set_cons_zero,List.set_cons_succ]) (hCont (v310,v313,gb315) _ ⟨hHeld,(by (with_reducible repeat (first|apply Kd.V_alloc|apply Kd.V_drewN|apply Kd.V_drew));exact Kd.V_mono HL308_0.out (fun _ hk=>by first|exact ⟨hk.1.1.1.1.1,⟨hk.1.2,⟨hk.2,⟨hk.1.1.1.2,⟨hk.1.1.1.1.2,hk.1.1.2⟩⟩⟩⟩⟩|grind)),(by (with_reducible repeat (first|apply Kd.N_alloc|apply Kd.N_drewN|apply Kd.N_drew));exact HO311.out),(by (with_reducible repeat (first|apply Kd.R_alloc|apply Kd.R_drewN|apply Kd.R_drew));exact Kd.R_mono HO314.out (fun _ hk=>hk.1)),(by (with_reducible repeat (first|apply Kd.N_alloc|apply Kd.N_drewN|apply Kd.N_drew));exact Kd.N_mono HO_5.out (fun _ hk=>by first|exact ⟨hk.1.1.1.1,⟨hk.1.2,⟨hk.2,⟨hk.1.1.1.2,hk.1.1.2⟩⟩⟩⟩|grind)),(by (with_reducible repeat (first|refine blk_drewN ?_ _|refine blk_drew ?_|refine blk_alloc ?_ _));exact BK288.out),(by (with_reducible repeat (first|refine blk_drewN ?_ _|refine blk_drew ?_|refine blk_alloc ?_ _));exact BK315.out),GW315.out,GE315.out,NB288_315.out,NB315_288.out,(by repeat (first|(with_reducible first|exact HB.out|apply below_alloc|apply pw_below_drewN|apply below_drew1|refine below_set ?_ GE288.out|refine below_set ?_ GE315.out)|exact HB.out))⟩)
            rintro ⟨v310,v313,gb315⟩ w31 ⟨hS_,h0_,h1_,h2_,h3_,h4_,h5_,h6_,h7_,h8_,h9_,h10_⟩
            have n0_ : Aside0 (Kd.V (Kd.int .i64) 3 w31 w.heap.size (fun k_=>(w.heap.size ≤ k_) ∧ some k_ ≠ (v310 : Value).ownBlock ∧ some k_ ≠ (v313 : Value).ownBlock ∧ some k_ ≠ (.slice (some ad308) t305.length co27 : Value).ownBlock ∧ k_ ≠ gb288 ∧ k_ ≠ gb315) (.slice A308_0 (rd_L1 t305 x6_2).length c308_0) (rd_L1 t305 x6_2)):=⟨h0_⟩
            have n1_ : Aside0 (Kd.N (Kd.slice 3 (Kd.int .i64)) 26 w31 w.heap.size (fun k_=>(w.heap.size ≤ k_) ∧ some k_ ≠ (v313 : Value).ownBlock ∧ some k_ ≠ (.slice (some ad308) t305.length co27 : Value).ownBlock ∧ k_ ≠ gb288 ∧ k_ ≠ gb315) v310 t309):=⟨h1_⟩
            have n2_ : Aside0 (Kd.R (Kd.int .i64) 3 w31 w.heap.size (fun k_=>(w.heap.size ≤ k_)) v313 t312):=⟨h2_⟩
            have n3_ : Aside0 (Kd.N (Kd.slice 3 (Kd.int .i64)) 26 w31 w.heap.size (fun k_=>(w.heap.size ≤ k_) ∧ some k_ ≠ (v310 : Value).ownBlock ∧ some k_ ≠ (v313 : Value).ownBlock ∧ k_ ≠ gb288 ∧ k_ ≠ gb315) (.slice (some ad308) t305.length co27) t305):=⟨h3_⟩
            have n4_ : Aside0 (w31.heap[gb288]? = some (.cells #[.slice (some ad295) l0_0.length c0_0,.slice A0_1 l0_1.length c0_1] 32 (0,0))):=⟨h4_⟩
            have n5_ : Aside0 (w31.heap[gb315]? = some (.cells #[.slice none 0 0,.slice none 0 0] 32 (0,0))):=⟨h5_⟩
            have n6_ : Aside0 (w.heap.size ≤ gb315):=⟨h6_⟩
            have n7_ : Aside0 (w.heap.size ≤ gb315):=⟨h7_⟩
            have n8_ : Aside0 (gb288 ≠ gb315):=⟨h8_⟩
            have n9_ : Aside0 (gb315 ≠ gb288):=⟨h9_⟩
            have n10_ : Aside0 (Below w.heap.size w w31):=⟨h10_⟩
            clear HO_5
            clear BK288
            clear HB
            clear h0_ h1_ h2_ h3_ h4_ h5_ h6_ h7_ h8_ h9_ h10_
            have HL308_0:=n0_
            have HO311:=n1_
            have HO314:=n2_
            have HO_5:=n3_
            have BK288:=n4_
            have BK315:=n5_
            have GW315:=n6_
            have GE315:=n7_
            have NB288_315:=n8_
            have NB315_288:=n9_
            have HB:=n10_
            clear n0_ n1_ n2_ n3_ n4_ n5_ n6_ n7_ n8_ n9_ n10_
            have hHeld : w31.cell? ⟨gb288,0,none⟩ = some (.slice (some ad295) l0_0.length c0_0) ∧ w31.cell? ⟨gb288,1,none⟩ = some (.slice A0_1 l0_1.length c0_1) ∧ w31.cell? (ad308.add (x6_2).toNat) = some (.slice A308_0 (rd_L1 t305 x6_2).length c308_0):=hS_
            obtain ⟨Ao32,co32,eo32⟩:=Kd.N_slice HO311.out
            (first|subst eo32|(injection eo32 with f1_ f2_ f3_;have f4_:=f1_.symm;have f5_:=f3_.symm;clear f1_ f2_ f3_;subst f4_;subst f5_))
            obtain ⟨Ao34,co34,eo34⟩:=Kd.R_slice HO314.out
            (first|subst eo34|(injection eo34 with f1_ f2_ f3_;have f4_:=f1_.symm;have f5_:=f3_.symm;clear f1_ f2_ f3_;subst f4_;subst f5_))
            refine norm_ (a':=?_) ?_ ?_
            rotate_left
            ·simp only [putAll,Act.put,List.setIfInBounds_toArray,List.set_cons_zero,List.set_cons_succ]
             rfl
            refine one_ (i:=7) (N:=none) #[true,true,true,true,true,true,true,true] rfl rfl (one_of HT_.out (by kernel_rfl)) (by decide) (fun K hK=>?_)
            have hs33 : w31.cell? ⟨gb315,0,none⟩ = some (.slice none 0 0):=(blk_cell BK315.out 0).trans rfl
            have hfs33:=blk_frozen BK315.out 0
            have hns33_0:=NB288_315.out
            have hms33_0:=NB315_288.out
            have hs35 : w31.cell? ⟨gb315,1,none⟩ = some (.slice none 0 0):=(blk_cell BK315.out 1).trans rfl
            have hfs35:=blk_frozen BK315.out 1
            have hns35_0:=NB288_315.out
            have hms35_0:=NB315_288.out
            refine skip_ (w1:=?_) (by rfl) rfl ?_ ?_
            rotate_left
            ·go_simp
             rfl
            refine hK.out _ _ ⟨((cell_far (p:=⟨gb315,_,none⟩) NB288_315.out _).trans (((cell_far (p:=⟨gb315,_,none⟩) NB288_315.out _).trans (hHeld.1)))),((cell_far (p:=⟨gb315,_,none⟩) NB288_315.out _).trans (((cell_far (p:=⟨gb315,_,none⟩) NB288_315.out _).trans (hHeld.2.1)))),((cell_far (p:=⟨gb315,_,none⟩) (by first|exact Kd.own_blk (Kd.N_away HO_5.out (fun _ hk=>hk.2.2.2.2))|(rw [add_block];exact Kd.own_blk (Kd.N_away HO_5.out (fun _ hk=>hk.2.2.2.2)))|(show (Addr.add _ _).block ≠ _;rw [add_block];exact Kd.own_blk (Kd.N_away HO_5.out (fun _ hk=>hk.2.2.2.2)))|(dsimp only;exact Kd.own_blk (Kd.N_away HO_5.out (fun _ hk=>hk.2.2.2.2)))) _).trans (((cell_far (p:=⟨gb315,_,none⟩) (by first|exact Kd.own_blk (Kd.N_away HO_5.out (fun _ hk=>hk.2.2.2.2))|(rw [add_block];exact Kd.own_blk (Kd.N_away HO_5.out (fun _ hk=>hk.2.2.2.2)))|(show (Addr.add _ _).block ≠ _;rw [add_block];exact Kd.own_blk (Kd.N_away HO_5.out (fun _ hk=>hk.2.2.2.2)))|(dsimp only;exact Kd.own_blk (Kd.N_away HO_5.out (fun _ hk=>hk.2.2.2.2)))) _).trans (hHeld.2.2))))⟩ (fun hHeld=>?_)
            clear hK K
            refine done_ (done_of HT_.out (by kernel_rfl)) ?_
            (try clear hHeld)
            (try clear hHeld)
            have hnb36:=NB315_288.out
            have hnc36:=NB288_315.out
            have hcz37_0 : w31.cell? ⟨gb315,0,none⟩ = some (.slice none 0 0):=(blk_cell BK315.out 0).trans rfl
            have hcz37_1 : w31.cell? ⟨gb315,1,none⟩ = some (.slice none 0 0):=(blk_cell BK315.out 1).trans rfl
            have hfz37_0:=blk_frozen BK315.out 0
            have hfz37_1:=blk_frozen BK315.out 1
            try go_wp2_with (first|((with_reducible refine gate_callee (f:=87) rfl ?_);refine goesL_ (some 49) rfl rfl Try.func87 (by kernel_rfl) rfl #[.slice Ao32 t309.length co32] rfl (by (try simp only [List.map_toArray,List.map_cons,List.map_nil]);first|done|rfl|(simp only [List.length_drop,List.length_take];rfl)) ?_;(with_reducible refine (spec_l4Equations.calls k2 _ _ t309 t316 _ ?side1 ?side2 A22.out).mono ?_);(case side1=>refine (Kd.N_reads' (e:=26) (base:=w.heap.size) (ok:=fun k_=>((w.heap.size ≤ k_) ∧ (some k_ ≠ (.slice Ao34 t312.length co34 : Value).ownBlock ∧ (some k_ ≠ (.slice (some ad308) t305.length co27 : Value).ownBlock ∧ (k_ ≠ gb288 ∧ k_ ≠ gb315))))) (n:=t309.length) (c:=co32) ?_).2.2;exact (by (with_reducible repeat (first|apply Kd.N_alloc|apply Kd.N_drewN|apply Kd.N_drew));exact (Kd.N_mono (Kd.N_far (p:=⟨gb315,1,none⟩) (Kd.N_far (p:=⟨gb315,0,none⟩) (Kd.N_mono HO311.out (fun k_ hk=>(⟨hk,hk.2.2.2.2⟩ : _ ∧ k_ ≠ gb315))) (fun _ hk=>hk.2) (.slice Ao32 t309.length co32)) (fun _ hk=>hk.2) (.slice Ao34 t312.length co34)) (fun _ h_=>h_.1))));(case side2=>exact (Kd.N_reads' HO311.out).2.1);rintro e w38 ⟨v317,rfl,ho0,hb⟩;refine ⟨_,rfl,?_⟩;have n0_:=Aside0.mk (Kd.N_elder' (by (with_reducible repeat (first|apply Kd.N_alloc|apply Kd.N_drewN|apply Kd.N_drew));exact (Kd.N_mono (Kd.N_far (p:=⟨gb315,1,none⟩) (Kd.N_far (p:=⟨gb315,0,none⟩) (Kd.N_mono HO_5.out (fun k_ hk=>(⟨hk,hk.2.2.2.2⟩ : _ ∧ k_ ≠ gb315))) (fun _ hk=>hk.2) (.slice Ao32 t309.length co32)) (fun _ hk=>hk.2) (.slice Ao34 t312.length co34)) (fun _ h_=>h_.1))) (by first|exact Kd.N_base ho0|exact Kd.S_base ho0) hb);have n1_:=Aside0.mk (Kd.V_elder' (by (with_reducible repeat (first|apply Kd.V_alloc|apply Kd.V_drewN|apply Kd.V_drew));exact (Kd.V_mono (Kd.V_far (p:=⟨gb315,1,none⟩) (Kd.V_far (p:=⟨gb315,0,none⟩) (Kd.V_mono HL308_0.out (fun k_ hk=>(⟨hk,hk.2.2.2.2.2⟩ : _ ∧ k_ ≠ gb315))) (fun _ hk=>hk.2) (.slice Ao32 t309.length co32)) (fun _ hk=>hk.2) (.slice Ao34 t312.length co34)) (fun _ h_=>h_.1))) (by first|exact Kd.N_base ho0|exact Kd.S_base ho0) hb);have n2_:=Aside0.mk (Kd.N_elder' (by (with_reducible repeat (first|apply Kd.N_alloc|apply Kd.N_drewN|apply Kd.N_drew));exact (Kd.N_mono (Kd.N_far (p:=⟨gb315,1,none⟩) (Kd.N_far (p:=⟨gb315,0,none⟩) (Kd.N_mono HO311.out (fun k_ hk=>(⟨hk,hk.2.2.2.2⟩ : _ ∧ k_ ≠ gb315))) (fun _ hk=>hk.2) (.slice Ao32 t309.length co32)) (fun _ hk=>hk.2) (.slice Ao34 t312.length co34)) (fun _ h_=>h_.1))) (by first|exact Kd.N_base ho0|exact Kd.S_base ho0) hb);have n3_:=Aside0.mk (Kd.R_below (by (with_reducible repeat (first|apply Kd.R_alloc|apply Kd.R_drewN|apply Kd.R_drew));exact (Kd.R_mono (Kd.R_far (p:=⟨gb315,1,none⟩) (Kd.R_far (p:=⟨gb315,0,none⟩) (Kd.R_types HO314.out BK315.out (by decide)) (fun _ hk=>hk.2) (.slice Ao32 t309.length co32)) (fun _ hk=>hk.2) (.slice Ao34 t312.length co34)) (fun _ h_=>h_.1))) hb);have n4_:=Aside0.mk (Kd.N_lower (Kd.N_mono (ok':=fun k_=>(w.heap.size ≤ k_) ∧ some k_ ≠ (.slice (some ad308) t305.length co27 : Value).ownBlock ∧ some k_ ≠ (.slice Ao32 t309.length co32 : Value).ownBlock ∧ some k_ ≠ (.slice Ao34 t312.length co34 : Value).ownBlock ∧ k_ ≠ gb288 ∧ k_ ≠ gb315) (Kd.S_N (Kd.S_bound ho0)) (fun k_ hk_=>⟨(Nat.le_trans (below_size (by repeat (first|(with_reducible first|exact HB.out|apply below_alloc|apply pw_below_drewN|apply below_drew1|refine below_set ?_ GE288.out|refine below_set ?_ GE315.out)|exact HB.out))) hk_.2.1),(Kd.fresh' (Kd.N_lt (by (with_reducible repeat (first|apply Kd.N_alloc|apply Kd.N_drewN|apply Kd.N_drew));exact (Kd.N_mono (Kd.N_far (p:=⟨gb315,1,none⟩) (Kd.N_far (p:=⟨gb315,0,none⟩) (Kd.N_mono HO_5.out (fun k_ hk=>(⟨hk,hk.2.2.2.2⟩ : _ ∧ k_ ≠ gb315))) (fun _ hk=>hk.2) (.slice Ao32 t309.length co32)) (fun _ hk=>hk.2) (.slice Ao34 t312.length co34)) (fun _ h_=>h_.1)))) k_ hk_.2.1),(Kd.fresh' (Kd.N_lt (by (with_reducible repeat (first|apply Kd.N_alloc|apply Kd.N_drewN|apply Kd.N_drew));exact (Kd.N_mono (Kd.N_far (p:=⟨gb315,1,none⟩) (Kd.N_far (p:=⟨gb315,0,none⟩) (Kd.N_mono HO311.out (fun k_ hk=>(⟨hk,hk.2.2.2.2⟩ : _ ∧ k_ ≠ gb315))) (fun _ hk=>hk.2) (.slice Ao32 t309.length co32)) (fun _ hk=>hk.2) (.slice Ao34 t312.length co34)) (fun _ h_=>h_.1)))) k_ hk_.2.1),(Kd.fresh' (Kd.R_lt (by (with_reducible repeat (first|apply Kd.R_alloc|apply Kd.R_drewN|apply Kd.R_drew));exact (Kd.R_mono (Kd.R_far (p:=⟨gb315,1,none⟩) (Kd.R_far (p:=⟨gb315,0,none⟩) (Kd.R_types HO314.out BK315.out (by decide)) (fun _ hk=>hk.2) (.slice Ao32 t309.length co32)) (fun _ hk=>hk.2) (.slice Ao34 t312.length co34)) (fun _ h_=>h_.1)))) k_ hk_.2.1),(Kd.freshB (g:=gb288) (o:=.cells #[.slice (some ad295) l0_0.length c0_0,.slice A0_1 l0_1.length c0_1] 32 (0,0)) (by (with_reducible repeat (first|refine blk_drewN ?_ _|refine blk_drew ?_|refine blk_alloc ?_ _));refine blk_far ?_ NB288_315.out _;(with_reducible repeat (first|refine blk_drewN ?_ _|refine blk_drew ?_|refine blk_alloc ?_ _));refine blk_far ?_ NB288_315.out _;(with_reducible repeat (first|refine blk_drewN ?_ _|refine blk_drew ?_|refine blk_alloc ?_ _));exact BK288.out) k_ hk_.2.1),(Kd.freshB (g:=gb315) (o:=.cells #[.slice Ao32 t309.length co32,.slice Ao34 t312.length co34] 32 (0,0)) (by (with_reducible repeat (first|refine blk_drewN ?_ _|refine blk_drew ?_|refine blk_alloc ?_ _));refine blk_put (cs:=#[.slice Ao32 t309.length co32,.slice none 0 0]) ?_ 1 _ rfl;(with_reducible repeat (first|refine blk_drewN ?_ _|refine blk_drew ?_|refine blk_alloc ?_ _));refine blk_put (cs:=#[.slice none 0 0,.slice none 0 0]) ?_ 0 _ rfl;(with_reducible repeat (first|refine blk_drewN ?_ _|refine blk_drew ?_|refine blk_alloc ?_ _));exact BK315.out) k_ hk_.2.1)⟩)) (below_size (by repeat (first|(with_reducible first|exact HB.out|apply below_alloc|apply pw_below_drewN|apply below_drew1|refine below_set ?_ GE288.out|refine below_set ?_ GE315.out)|exact HB.out))));have n5_:=Aside0.mk (blk_below (g:=gb288) (o:=.cells #[.slice (some ad295) l0_0.length c0_0,.slice A0_1 l0_1.length c0_1] 32 (0,0)) (by (with_reducible repeat (first|refine blk_drewN ?_ _|refine blk_drew ?_|refine blk_alloc ?_ _));refine blk_far ?_ NB288_315.out _;(with_reducible repeat (first|refine blk_drewN ?_ _|refine blk_drew ?_|refine blk_alloc ?_ _));refine blk_far ?_ NB288_315.out _;(with_reducible repeat (first|refine blk_drewN ?_ _|refine blk_drew ?_|refine blk_alloc ?_ _));exact BK288.out) hb);have n6_:=Aside0.mk (blk_below (g:=gb315) (o:=.cells #[.slice Ao32 t309.length co32,.slice Ao34 t312.length co34] 32 (0,0)) (by (with_reducible repeat (first|refine blk_drewN ?_ _|refine blk_drew ?_|refine blk_alloc ?_ _));refine blk_put (cs:=#[.slice Ao32 t309.length co32,.slice none 0 0]) ?_ 1 _ rfl;(with_reducible repeat (first|refine blk_drewN ?_ _|refine blk_drew ?_|refine blk_alloc ?_ _));refine blk_put (cs:=#[.slice none 0 0,.slice none 0 0]) ?_ 0 _ rfl;(with_reducible repeat (first|refine blk_drewN ?_ _|refine blk_drew ?_|refine blk_alloc ?_ _));exact BK315.out) hb);have n7_:=Aside0.mk (below_step (by repeat (first|(with_reducible first|exact HB.out|apply below_alloc|apply pw_below_drewN|apply below_drew1|refine below_set ?_ GE288.out|refine below_set ?_ GE315.out)|exact HB.out)) hb);clear HO_5;clear HL308_0;clear HO311;clear HO314;clear BK288;clear BK315;clear HB;have HO_5:=n0_;have HL308_0:=n1_;have HO311:=n2_;have HO314:=n3_;have HO318:=n4_;have BK288:=n5_;have BK315:=n6_;have HB:=n7_;clear n0_ n1_ n2_ n3_ n4_ n5_ n6_ n7_;(try clear hb);(try clear hb2);(try clear hk);(try clear hi);(try clear ho0);obtain ⟨Ao39,co39,eo39⟩:=Kd.N_slice HO318.out;subst eo39)|((with_reducible refine gate_callee (f:=137) rfl ?_);refine goesL_ (some 51) rfl rfl Try.func137 (by kernel_rfl) rfl #[.slice Ao39 t316.length co39,.int .i64 x4_1] rfl (by (try simp only [List.map_toArray,List.map_cons,List.map_nil]);first|done|rfl|(simp only [List.length_drop,List.length_take];rfl)) ?_;(with_reducible refine (spec_l4Relation.calls k2 _ _ t316 x4_1 t319 true _ ?side1 ?side2 A23.out).mono ?_);(case side1=>repeat (first|exact (Kd.N_reads' HO318.out).2.2|(with_reducible refine Kd.C_alloc ?_ _)|(with_reducible refine Kd.C_drewN ?_ _)|(with_reducible refine Kd.C_drew ?_)));(case side2=>exact (Kd.N_reads' HO318.out).2.1);rintro e w40 ⟨v321,rfl,ho0,hb⟩;refine ⟨_,rfl,?_⟩;have n0_:=Aside0.mk (Kd.N_elder' (by (with_reducible repeat (first|apply Kd.N_alloc|apply Kd.N_drewN|apply Kd.N_drew));exact HO_5.out) (Kd.R_base ho0) hb);have n1_:=Aside0.mk (Kd.V_elder' (by (with_reducible repeat (first|apply Kd.V_alloc|apply Kd.V_drewN|apply Kd.V_drew));exact HL308_0.out) (Kd.R_base ho0) hb);have n2_:=Aside0.mk (Kd.N_elder' (by (with_reducible repeat (first|apply Kd.N_alloc|apply Kd.N_drewN|apply Kd.N_drew));exact HO311.out) (Kd.R_base ho0) hb);have n3_:=Aside0.mk (Kd.R_elder' (by (with_reducible repeat (first|apply Kd.R_alloc|apply Kd.R_drewN|apply Kd.R_drew));exact HO314.out) (Kd.R_base ho0) hb);have n4_:=Aside0.mk (Kd.N_elder' (by (with_reducible repeat (first|apply Kd.N_alloc|apply Kd.N_drewN|apply Kd.N_drew));exact HO318.out) (Kd.R_base ho0) hb);have n5_:=Aside0.mk (Kd.R_lower (Kd.R_new' (Kd.R_newM (M:=fun k_=>(w.heap.size ≤ k_)) ho0 (below_size (by repeat (first|(with_reducible first|exact HB.out|apply below_alloc|apply pw_below_drewN|apply below_drew1|refine below_set ?_ GE288.out|refine below_set ?_ GE315.out)|exact HB.out))) (fun k_ h_=>h_)) (Kd.R_lt (by (with_reducible repeat (first|apply Kd.R_alloc|apply Kd.R_drewN|apply Kd.R_drew));exact HO314.out))) (below_size (by repeat (first|(with_reducible first|exact HB.out|apply below_alloc|apply pw_below_drewN|apply below_drew1|refine below_set ?_ GE288.out|refine below_set ?_ GE315.out)|exact HB.out))));have n6_:=Aside0.mk (blk_below (g:=gb288) (o:=.cells #[.slice (some ad295) l0_0.length c0_0,.slice A0_1 l0_1.length c0_1] 32 (0,0)) (by (with_reducible repeat (first|refine blk_drewN ?_ _|refine blk_drew ?_|refine blk_alloc ?_ _));exact BK288.out) hb);have n7_:=Aside0.mk (blk_below (g:=gb315) (o:=.cells #[.slice Ao32 t309.length co32,.slice Ao34 t312.length co34] 32 (0,0)) (by (with_reducible repeat (first|refine blk_drewN ?_ _|refine blk_drew ?_|refine blk_alloc ?_ _));exact BK315.out) hb);have n8_:=Aside0.mk (below_step (by repeat (first|(with_reducible first|exact HB.out|apply below_alloc|apply pw_below_drewN|apply below_drew1|refine below_set ?_ GE288.out|refine below_set ?_ GE315.out)|exact HB.out)) hb);clear HO_5;clear HL308_0;clear HO311;clear HO314;clear HO318;clear BK288;clear BK315;clear HB;have HO_5:=n0_;have HL308_0:=n1_;have HO311:=n2_;have HO314:=n3_;have HO318:=n4_;have HO322:=n5_;have BK288:=n6_;have BK315:=n7_;have HB:=n8_;clear n0_ n1_ n2_ n3_ n4_ n5_ n6_ n7_ n8_;(try clear hb);(try clear hb2);(try clear hk);(try clear hi);(try clear ho0);have hcz41_0 : w40.cell? ⟨gb315,0,none⟩ = some (.slice Ao32 t309.length co32):=(blk_cell BK315.out 0).trans rfl;have hcz41_1 : w40.cell? ⟨gb315,1,none⟩ = some (.slice Ao34 t312.length co34):=(blk_cell BK315.out 1).trans rfl;have hfz41_0:=blk_frozen BK315.out 0;have hfz41_1:=blk_frozen BK315.out 1;obtain ⟨Ao42,co42,eo42⟩:=Kd.R_slice HO322.out;subst eo42)|((with_reducible refine gate_callee (f:=138) rfl ?_);refine goesL_ (some 60) rfl rfl Try.func138 (by kernel_rfl) rfl #[.slice Ao42 t319.length co42,.slice Ao34 t312.length co34] rfl (by (try simp only [List.map_toArray,List.map_cons,List.map_nil]);first|done|rfl|(simp only [List.length_drop,List.length_take];rfl)) ?_;(with_reducible refine (spec_l4Signs.calls k2 _ _ t319 _ _ t312 t323 true _ ?side1 ?side2 ?side3 ?side4 A25.out).mono ?_);(case side1=>repeat (first|exact (Kd.R_reads' HO322.out).2.2|(with_reducible refine Kd.C_alloc ?_ _)|(with_reducible refine Kd.C_drewN ?_ _)|(with_reducible refine Kd.C_drew ?_)));(case side2=>exact (Kd.R_reads' HO322.out).2.1);(case side3=>repeat (first|exact (Kd.R_reads' HO314.out).2.2|(with_reducible refine Kd.C_alloc ?_ _)|(with_reducible refine Kd.C_drewN ?_ _)|(with_reducible refine Kd.C_drew ?_)));(case side4=>exact (Kd.R_reads' HO314.out).2.1);rintro e w43 ⟨v325,rfl,ho0,hb⟩;refine ⟨_,rfl,?_⟩;have n0_:=Aside0.mk (Kd.N_elder' (by (with_reducible repeat (first|apply Kd.N_alloc|apply Kd.N_drewN|apply Kd.N_drew));exact HO_5.out) (Kd.R_base ho0) hb);have n1_:=Aside0.mk (Kd.V_elder' (by (with_reducible repeat (first|apply Kd.V_alloc|apply Kd.V_drewN|apply Kd.V_drew));exact HL308_0.out) (Kd.R_base ho0) hb);have n2_:=Aside0.mk (Kd.N_elder' (by (with_reducible repeat (first|apply Kd.N_alloc|apply Kd.N_drewN|apply Kd.N_drew));exact HO311.out) (Kd.R_base ho0) hb);have n3_:=Aside0.mk (Kd.R_elder' (by (with_reducible repeat (first|apply Kd.R_alloc|apply Kd.R_drewN|apply Kd.R_drew));exact HO314.out) (Kd.R_base ho0) hb);have n4_:=Aside0.mk (Kd.N_elder' (by (with_reducible repeat (first|apply Kd.N_alloc|apply Kd.N_drewN|apply Kd.N_drew));exact HO318.out) (Kd.R_base ho0) hb);have n5_:=Aside0.mk (Kd.R_elder' (by (with_reducible repeat (first|apply Kd.R_alloc|apply Kd.R_drewN|apply Kd.R_drew));exact HO322.out) (Kd.R_base ho0) hb);have n6_:=Aside0.mk (Kd.R_lower (Kd.R_new' (Kd.R_new' (Kd.R_newM (M:=fun k_=>(w.heap.size ≤ k_)) ho0 (below_size (by repeat (first|(with_reducible first|exact HB.out|apply below_alloc|apply pw_below_drewN|apply below_drew1|refine below_set ?_ GE288.out|refine below_set ?_ GE315.out)|exact HB.out))) (fun k_ h_=>h_)) (Kd.R_lt (by (with_reducible repeat (first|apply Kd.R_alloc|apply Kd.R_drewN|apply Kd.R_drew));exact HO314.out))) (Kd.R_lt (by (with_reducible repeat (first|apply Kd.R_alloc|apply Kd.R_drewN|apply Kd.R_drew));exact HO322.out))) (below_size (by repeat (first|(with_reducible first|exact HB.out|apply below_alloc|apply pw_below_drewN|apply below_drew1|refine below_set ?_ GE288.out|refine below_set ?_ GE315.out)|exact HB.out))));have n7_:=Aside0.mk (blk_below (g:=gb288) (o:=.cells #[.slice (some ad295) l0_0.length c0_0,.slice A0_1 l0_1.length c0_1] 32 (0,0)) (by (with_reducible repeat (first|refine blk_drewN ?_ _|refine blk_drew ?_|refine blk_alloc ?_ _));exact BK288.out) hb);have n8_:=Aside0.mk (blk_below (g:=gb315) (o:=.cells #[.slice Ao32 t309.length co32,.slice Ao34 t312.length co34] 32 (0,0)) (by (with_reducible repeat (first|refine blk_drewN ?_ _|refine blk_drew ?_|refine blk_alloc ?_ _));exact BK315.out) hb);have n9_:=Aside0.mk (below_step (by repeat (first|(with_reducible first|exact HB.out|apply below_alloc|apply pw_below_drewN|apply below_drew1|refine below_set ?_ GE288.out|refine below_set ?_ GE315.out)|exact HB.out)) hb);clear HO_5;clear HL308_0;clear HO311;clear HO314;clear HO318;clear HO322;clear BK288;clear BK315;clear HB;have HO_5:=n0_;have HL308_0:=n1_;have HO311:=n2_;have HO314:=n3_;have HO318:=n4_;have HO322:=n5_;have HO326:=n6_;have BK288:=n7_;have BK315:=n8_;have HB:=n9_;clear n0_ n1_ n2_ n3_ n4_ n5_ n6_ n7_ n8_ n9_;(try clear hb);(try clear hb2);(try clear hk);(try clear hi);(try clear ho0);have p327 : 0 ≤ (x6_2 : Int):=of_decide_eq_true (by first|(with_reducible assumption)|assumption);have q327 : x6_2 < (t305.length : Int):=of_decide_eq_true (by first|(with_reducible assumption)|assumption);obtain ⟨ad327,A327_0,c327_0,e327,hx327_0,hl327_0,hi327_0⟩:=at_L1 (Kd.N_reads' HO_5.out).2.2 x6_2 p327 q327;obtain rfl : ad308 = ad327:=(by injection e327);obtain ⟨ce327,hce327,hMe327,hcc327⟩:=Kd.N_get HO_5.out [] x6_2 p327 (by first|exact q327|exact of_decide_eq_true (by first|(with_reducible assumption)|assumption)|(have e_:=(Kd.N_reads' HO_5.out).1;omega));obtain ⟨ua327_0,uc327_0,rfl,ul327_0,ge327_0⟩:=Kd.FK_slice_open hMe327;have hv327_0:=hcc327 0 _ rfl;rw [Nat.add_zero,show ((Kd.slice 3 (Kd.int .i64))).sz = 1 from rfl,Nat.mul_one] at hv327_0;replace hv327_0:=Option.some.inj (hv327_0.symm.trans hx327_0);injection hv327_0 with hva_ hvn_ hvc_;rw [hva_] at ge327_0;rw [hvc_] at ul327_0;have HL327_0:=Aside0.mk (show Kd.V (Kd.int .i64) 3 _ w.heap.size _ _ (rd_L1 t305 x6_2) from Kd.V_mk ul327_0 ge327_0);clear hva_ hvn_ hvc_ ge327_0 ul327_0;clear hcc327 hce327;have HR327_0:=Aside0.mk hi327_0;have HC327_0:=Aside0.mk hl327_0;clear hi327_0 hl327_0;replace p327:=eq_true p327;replace q327:=eq_true q327))
            go_ret2
            exact ⟨_,_,by first|rfl|(simp [errW_none,errW_some] <;> rfl)|(simp [*,errW_none,errW_some] <;> rfl),by (with_reducible repeat (first|apply Kd.V_alloc|apply Kd.V_drewN|apply Kd.V_drew));exact Kd.V_mono HL327_0.out (fun _ hk=>by first|exact ⟨hk.1.1.1.1.1,hk.1.2⟩|grind),by (with_reducible repeat (first|apply Kd.R_alloc|apply Kd.R_drewN|apply Kd.R_drew));exact Kd.R_mono HO326.out (fun _ hk=>hk.1.1.1),by repeat (first|(with_reducible first|exact HB.out|apply below_alloc|apply pw_below_drewN|apply below_drew1|refine below_set ?_ GE288.out|refine below_set ?_ GE315.out)|exact HB.out)⟩
           ·replace c26:=Bool.eq_false_iff.mpr c26
            subst c26
            have H1 : (spec_l4Find.l1 k2 x4_1 t305 (wrap64 (x6_2 + 1)) l0_0 l0_1) = some (r1,r2):=by rw [if_neg (show ¬ (false = true) by decide)] at H;exact H
            clear H
            have H:=H1
            clear H1
            have H':=Aside0.mk H
            clear H
            obtain ⟨Ao44,co44,eo44⟩:=Kd.N_slice HO_5.out
            subst eo44
            try go_wp2
            have n0_:=Aside0.mk (Kd.N_drew HO_5.out)
            have n1_:=Aside0.mk (blk_drew BK288.out)
            have n2_:=Aside0.mk (below_drew1 HB.out)
            clear HO_5
            clear BK288
            clear HB
            have HO_5:=n0_
            have BK288:=n1_
            have HB:=n2_
            clear n0_ n1_ n2_
            have p308 : 0 ≤ (x6_2 : Int):=of_decide_eq_true (by first|(with_reducible assumption)|assumption)
            have q308 : x6_2 < (t305.length : Int):=of_decide_eq_true (by first|(with_reducible assumption)|assumption)
            obtain ⟨ad308,A308_0,c308_0,e308,hx308_0,hl308_0,hi308_0⟩:=at_L1 (Kd.N_reads' HO_5.out).2.2 x6_2 p308 q308
            cases e308
            obtain ⟨ce308,hce308,hMe308,hcc308⟩:=Kd.N_get HO_5.out [] x6_2 p308 (by first|exact q308|exact of_decide_eq_true (by first|(with_reducible assumption)|assumption)|(have e_:=(Kd.N_reads' HO_5.out).1;omega))
            obtain ⟨ua308_0,uc308_0,rfl,ul308_0,ge308_0⟩:=Kd.FK_slice_open hMe308
            have hv308_0:=hcc308 0 _ rfl
            rw [Nat.add_zero,show ((Kd.slice 3 (Kd.int .i64))).sz = 1 from rfl,Nat.mul_one] at hv308_0
            replace hv308_0:=Option.some.inj (hv308_0.symm.trans hx308_0)
            injection hv308_0 with hva_ hvn_ hvc_
            rw [hva_] at ge308_0
            rw [hvc_] at ul308_0
            have HL308_0:=Aside0.mk (show Kd.V (Kd.int .i64) 3 _ w.heap.size _ _ (rd_L1 t305 x6_2) from Kd.V_mk ul308_0 ge308_0)
            clear hva_ hvn_ hvc_ ge308_0 ul308_0
            clear hcc308 hce308
            have HR308_0:=Aside0.mk hi308_0
            have HC308_0:=Aside0.mk hl308_0
            clear hi308_0 hl308_0
            replace p308:=eq_true p308
            replace q308:=eq_true q308
            refine start_ (n:=8) (S:=fun w'=>w'.cell? ⟨gb288,0,none⟩ = some (.slice (some ad295) l0_0.length c0_0) ∧ w'.cell? ⟨gb288,1,none⟩ = some (.slice A0_1 l0_1.length c0_1) ∧ w'.cell? (ad308.add (x6_2).toNat) = some (.slice A308_0 (rd_L1 t305 x6_2).length c308_0)) (ds:=[]) #[false,false,false,false,false,false,false,false] (by kernel_rfl) rfl rfl ⟨(blk_cell BK288.out 0).trans rfl,(blk_cell BK288.out 1).trans rfl,hx308_0⟩ (fun hHeld=>?_);refine with_tabW spec_l4Find.tab10 spec_l4Find.bits10 (fun HT_ HW_=>?_)
            generalize wr.drew = w45 at HO_5 BK288 HB HL308_0 HR308_0 hx308_0 hHeld ⊢
            refine pure_ (i:=1) (N:=some 41) (v:=?_) (a':=?_) #[false,true,false,false,false,false,false,false] rfl rfl (any_of HT_.out (by kernel_rfl)) (fun _ _ _ h=>h) (Or.inl ⟨by rfl,?_⟩) ?_ ?_
            rotate_left
            ·intro w'
             go_simp
             with_reducible rfl
            rotate_left
            ·simp only [Act.put,List.setIfInBounds_toArray,List.set_cons_zero,List.set_cons_succ,i64_w,i32_w]
             rfl
            refine pure_ (i:=2) (N:=some 42) (v:=?_) (a':=?_) #[false,true,true,false,false,false,false,false] rfl rfl (any_of HT_.out (by kernel_rfl)) (fun _ _ _ h=>h) (Or.inl ⟨by rfl,?_⟩) ?_ ?_
            rotate_left
            ·intro w'
             go_simp
             with_reducible rfl
            rotate_left
            ·simp only [Act.put,List.setIfInBounds_toArray,List.set_cons_zero,List.set_cons_succ,i64_w,i32_w]
             rfl
            refine pure_ (i:=3) (N:=some 43) (v:=?_) (a':=?_) #[false,true,true,true,false,false,false,false] rfl rfl (any_of HT_.out (by kernel_rfl)) (fun _ _ _ h=>h) (Or.inl ⟨by rfl,?_⟩) ?_ ?_
            rotate_left
            ·intro w'
             go_simp
             with_reducible rfl
            rotate_left
            ·simp only [Act.put,List.setIfInBounds_toArray,List.set_cons_zero,List.set_cons_succ,i64_w,i32_w]
             rfl
            refine take_ (i:=0) (N:=some 40) (v:=?_) (a':=?_) #[true,true,true,true,false,false,false,false] rfl rfl (take_ofW HT_.out HW_.out (by kernel_rfl)) (fun _ _ _ h=>h) (Or.inl ⟨by rfl,?_⟩) hHeld ?_ ?_
            rotate_left
            ·rintro w' ⟨s0,s1,s2⟩
             go_simp
             with_reducible rfl
            rotate_left
            ·simp only [Act.put,List.setIfInBounds_toArray,List.set_cons_zero,List.set_cons_succ,i64_w,i32_w]
             rfl
            refine take_ (i:=4) (N:=some 44) (v:=?_) (a':=?_) #[true,true,true,true,true,false,false,false] rfl rfl (take_ofW HT_.out HW_.out (by kernel_rfl)) (fun _ _ _ h=>h) (Or.inl ⟨by rfl,?_⟩) hHeld ?_ ?_
            rotate_left
            ·rintro w' ⟨s0,s1,s2⟩
             go_simp
             with_reducible rfl
            rotate_left
            ·simp only [Act.put,List.setIfInBounds_toArray,List.set_cons_zero,List.set_cons_succ,i64_w,i32_w]
             rfl
            refine join_ (σ:=Value × Value × Nat) 1 #[true,true,true,true,true,true,true,false] (fun s_=>[(45,.agg #[s_.1,s_.2.1]),(7,.pointer (some ⟨s_.2.2,0,none⟩))]) (fun s_ w'=>(w'.cell? ⟨gb288,0,none⟩ = some (.slice (some ad295) l0_0.length c0_0) ∧ w'.cell? ⟨gb288,1,none⟩ = some (.slice A0_1 l0_1.length c0_1) ∧ w'.cell? (ad308.add (x6_2).toNat) = some (.slice A308_0 (rd_L1 t305 x6_2).length c308_0)) ∧ (Kd.V (Kd.int .i64) 3 w' w.heap.size (fun k_=>(w.heap.size ≤ k_) ∧ some k_ ≠ (s_.1 : Value).ownBlock ∧ some k_ ≠ (s_.2.1 : Value).ownBlock ∧ some k_ ≠ (.slice (some ad308) t305.length co44 : Value).ownBlock ∧ k_ ≠ gb288 ∧ k_ ≠ s_.2.2) (.slice A308_0 (rd_L1 t305 x6_2).length c308_0) (rd_L1 t305 x6_2)) ∧ (Kd.N (Kd.slice 3 (Kd.int .i64)) 26 w' w.heap.size (fun k_=>(w.heap.size ≤ k_) ∧ some k_ ≠ (s_.2.1 : Value).ownBlock ∧ some k_ ≠ (.slice (some ad308) t305.length co44 : Value).ownBlock ∧ k_ ≠ gb288 ∧ k_ ≠ s_.2.2) s_.1 t309) ∧ (Kd.R (Kd.int .i64) 3 w' w.heap.size (fun k_=>(w.heap.size ≤ k_)) s_.2.1 t312) ∧ (Kd.N (Kd.slice 3 (Kd.int .i64)) 26 w' w.heap.size (fun k_=>(w.heap.size ≤ k_) ∧ some k_ ≠ (s_.1 : Value).ownBlock ∧ some k_ ≠ (s_.2.1 : Value).ownBlock ∧ k_ ≠ gb288 ∧ k_ ≠ s_.2.2) (.slice (some ad308) t305.length co44) t305) ∧ (w'.heap[gb288]? = some (.cells #[.slice (some ad295) l0_0.length c0_0,.slice A0_1 l0_1.length c0_1] 32 (0,0))) ∧ (w'.heap[s_.2.2]? = some (.cells #[.slice none 0 0,.slice none 0 0] 32 (0,0))) ∧ (w.heap.size ≤ s_.2.2) ∧ (w.heap.size ≤ s_.2.2) ∧ (gb288 ≠ s_.2.2) ∧ (s_.2.2 ≠ gb288) ∧ (Below w.heap.size w w')) ?_ ?_
            rotate_left
            ·intro hCont
             refine two_ (i:=5) (j:=6) (Ni:=some 45) (Nj:=some 7) #[true,true,true,true,true,true,false,false] #[true,true,true,true,true,false,true,false] rfl rfl rfl rfl (two_of HT_.out (by kernel_rfl)) (by decide) (by decide) (fun K hK=>?_) (fun K hK=>?_)
             ·skip
              refine goes_ Try.func102 (by kernel_rfl) rfl #[.agg #[.slice (some ad295) l0_0.length c0_0,.slice A0_1 l0_1.length c0_1],.slice A308_0 (rd_L1 t305 x6_2).length c308_0] (by rfl) rfl rfl (by (try simp only [List.map_toArray,List.map_cons,List.map_nil]);first|done|rfl|(simp only [List.length_drop,List.length_take];rfl)) ?_
              with_reducible refine (spec_l2Part.calls k2 _ _ l0_0 _ _ l0_1 _ _ (rd_L1 t305 x6_2) t309 t312 _ ?side1 ?side2 ?side3 ?side4 ?side5 ?side6 A21.out).mono ?_
              (case side1=>repeat (first|exact (Kd.C_below HR0_0.out HB.out)|(with_reducible refine Kd.C_alloc ?_ _)|(with_reducible refine Kd.C_drewN ?_ _)|(with_reducible refine Kd.C_drew ?_)))
              (case side2=>exact HC0_0.out)
              (case side3=>repeat (first|exact (Kd.C_below HR0_1.out HB.out)|(with_reducible refine Kd.C_alloc ?_ _)|(with_reducible refine Kd.C_drewN ?_ _)|(with_reducible refine Kd.C_drew ?_)))
              (case side4=>exact HC0_1.out)
              (case side5=>repeat (first|exact (by repeat (first|(with_reducible exact HR308_0.out)|(with_reducible refine Kd.C_alloc ?_ _)|(with_reducible refine Kd.C_drewN ?_ _)|(with_reducible refine Kd.C_drew ?_)|exact HR308_0.out))|(with_reducible refine Kd.C_alloc ?_ _)|(with_reducible refine Kd.C_drewN ?_ _)|(with_reducible refine Kd.C_drew ?_)))
              (case side6=>exact HC308_0.out)
              rintro e w46 ⟨v310,v313,rfl,ho0,ho1,hb⟩
              have HS2_:=(hb.cell (World.block_lt_of_cell? _ _ (hHeld.2.2))).trans (hHeld.2.2)
              refine ⟨_,rfl,?_⟩
              have n0_:=Aside0.mk (Kd.N_mono (Kd.N_told (Kd.N_told (Kd.N_old (by (with_reducible repeat (first|apply Kd.N_alloc|apply Kd.N_drewN|apply Kd.N_drew));exact HO_5.out) hb) (by first|exact Kd.N_base ho0|exact Kd.S_base ho0)) (Kd.R_base ho1)) (fun _ h_=>h_.1))
              have n1_:=Aside0.mk (Kd.V_mono (Kd.V_told (Kd.V_told (Kd.V_old (by (with_reducible repeat (first|apply Kd.V_alloc|apply Kd.V_drewN|apply Kd.V_drew));exact HL308_0.out) hb) (by first|exact Kd.N_base ho0|exact Kd.S_base ho0)) (Kd.R_base ho1)) (fun _ h_=>h_.1))
              have n2_:=Aside0.mk (Kd.N_lower (Kd.N_mono (ok':=fun k_=>(w.heap.size ≤ k_) ∧ some k_ ≠ (v313 : Value).ownBlock ∧ some k_ ≠ (.slice (some ad308) t305.length co44 : Value).ownBlock ∧ k_ ≠ gb288) (Kd.S_N (Kd.S_bound ho0)) (fun k_ hk_=>⟨(Nat.le_trans (below_size (by repeat (first|(with_reducible first|exact HB.out|apply below_alloc|apply pw_below_drewN|apply below_drew1|refine below_set ?_ GE288.out)|exact HB.out))) hk_.2.1),hk_.1,(Kd.fresh' (Kd.N_lt (by (with_reducible repeat (first|apply Kd.N_alloc|apply Kd.N_drewN|apply Kd.N_drew));exact HO_5.out)) k_ hk_.2.1),(Kd.freshB (g:=gb288) (o:=.cells #[.slice (some ad295) l0_0.length c0_0,.slice A0_1 l0_1.length c0_1] 32 (0,0)) (by (with_reducible repeat (first|refine blk_drewN ?_ _|refine blk_drew ?_|refine blk_alloc ?_ _));exact BK288.out) k_ hk_.2.1)⟩)) (below_size (by repeat (first|(with_reducible first|exact HB.out|apply below_alloc|apply pw_below_drewN|apply below_drew1|refine below_set ?_ GE288.out)|exact HB.out))))
              have n3_:=Aside0.mk (Kd.R_lower (Kd.R_newM (M:=fun k_=>(w.heap.size ≤ k_)) ho1 (below_size (by repeat (first|(with_reducible first|exact HB.out|apply below_alloc|apply pw_below_drewN|apply below_drew1|refine below_set ?_ GE288.out)|exact HB.out))) (fun k_ h_=>h_)) (below_size (by repeat (first|(with_reducible first|exact HB.out|apply below_alloc|apply pw_below_drewN|apply below_drew1|refine below_set ?_ GE288.out)|exact HB.out))))
              have n4_:=Aside0.mk (blk_below (g:=gb288) (o:=.cells #[.slice (some ad295) l0_0.length c0_0,.slice A0_1 l0_1.length c0_1] 32 (0,0)) (by (with_reducible repeat (first|refine blk_drewN ?_ _|refine blk_drew ?_|refine blk_alloc ?_ _));exact BK288.out) hb)
              have n5_:=Aside0.mk (Kd.C_below (by repeat (first|(with_reducible exact HR308_0.out)|(with_reducible refine Kd.C_alloc ?_ _)|(with_reducible refine Kd.C_drewN ?_ _)|(with_reducible refine Kd.C_drew ?_)|exact HR308_0.out)) hb)
              have n6_:=Aside0.mk (below_step (by repeat (first|(with_reducible first|exact HB.out|apply below_alloc|apply pw_below_drewN|apply below_drew1|refine below_set ?_ GE288.out)|exact HB.out)) hb)
              clear HO_5
              clear HL308_0
              clear BK288
              clear HR308_0
              clear HB
              have HO_5:=n0_
              have HL308_0:=n1_
              have HO311:=n2_
              have HO314:=n3_
              have BK288:=n4_
              have HR308_0:=n5_
              have HB:=n6_
              clear n0_ n1_ n2_ n3_ n4_ n5_ n6_
              (try clear hb)
              (try clear hb2)
              (try clear hk)
              (try clear hi)
              (try clear ho0)
              (try clear ho1)
              refine hK.out _ _ ⟨(blk_cell BK288.out 0).trans rfl,(blk_cell BK288.out 1).trans rfl,HS2_⟩ (fun hHeld=>?_)
              clear hK K
              refine norm_ (a':=?_) ?_ ?_
              rotate_left
              ·show Act.put _ (some 45) _ = _
               simp only [Act.put,List.setIfInBounds_toArray,List.set_cons_zero,List.set_cons_succ,i64_w,i32_w]
               rfl
              refine one_ (i:=6) (N:=some 7) #[true,true,true,true,true,true,true,false] rfl rfl (one_of HT_.out (by kernel_rfl)) (by decide) (fun K hK=>?_)
              refine box_step ?hg (N:=7) ?hd (cs:=#[.slice none 0 0,.slice none 0 0]) (t:=32) ?hr ?_;(case hd=>rfl);(case hg=>rfl);(case hr=>first|(go_simp;done)|(go_simp;rfl))
              intro gb315 hg w47 hbox hb
              have HS2_:=(hb.cell (World.block_lt_of_cell? _ _ (hHeld.2.2))).trans (hHeld.2.2)
              have n0_:=Aside0.mk (Kd.N_below (Kd.N_elderB (by (with_reducible repeat (first|apply Kd.N_alloc|apply Kd.N_drewN|apply Kd.N_drew));exact HO_5.out) gb315 (Nat.le_of_eq hg.symm)) hb)
              have n1_:=Aside0.mk (Kd.V_below (Kd.V_elderB (by (with_reducible repeat (first|apply Kd.V_alloc|apply Kd.V_drewN|apply Kd.V_drew));exact HL308_0.out) gb315 (Nat.le_of_eq hg.symm)) hb)
              have n2_:=Aside0.mk (Kd.N_below (Kd.N_elderB (by (with_reducible repeat (first|apply Kd.N_alloc|apply Kd.N_drewN|apply Kd.N_drew));exact HO311.out) gb315 (Nat.le_of_eq hg.symm)) hb)
              have n3_:=Aside0.mk (Kd.R_below (by (with_reducible repeat (first|apply Kd.R_alloc|apply Kd.R_drewN|apply Kd.R_drew));exact HO314.out) hb)
              have n4_:=Aside0.mk (blk_below (g:=gb288) (o:=.cells #[.slice (some ad295) l0_0.length c0_0,.slice A0_1 l0_1.length c0_1] 32 (0,0)) (by (with_reducible repeat (first|refine blk_drewN ?_ _|refine blk_drew ?_|refine blk_alloc ?_ _));exact BK288.out) hb)
              have n5_:=Aside0.mk (Kd.C_below (by repeat (first|(with_reducible exact HR308_0.out)|(with_reducible refine Kd.C_alloc ?_ _)|(with_reducible refine Kd.C_drewN ?_ _)|(with_reducible refine Kd.C_drew ?_)|exact HR308_0.out)) hb)
              have n6_:=Aside0.mk (below_step (by repeat (first|(with_reducible first|exact HB.out|apply below_alloc|apply pw_below_drewN|apply below_drew1|refine below_set ?_ GE288.out)|exact HB.out)) hb)
              have n7_:=Aside0.mk (hbox)
              have n8_:=Aside0.mk ((by rw [hg];exact (below_size (by repeat (first|(with_reducible first|exact HB.out|apply below_alloc|apply pw_below_drewN|apply below_drew1|refine below_set ?_ GE288.out)|exact HB.out))) : w.heap.size ≤ gb315))
              have n9_:=Aside0.mk ((by rw [hg];exact (below_size (by repeat (first|(with_reducible first|exact HB.out|apply below_alloc|apply pw_below_drewN|apply below_drew1|refine below_set ?_ GE288.out)|exact HB.out))) : w.heap.size ≤ gb315))
              have n10_:=Aside0.mk ((by rw [hg];exact Nat.ne_of_lt (blk_lt (g:=gb288) (o:=.cells #[.slice (some ad295) l0_0.length c0_0,.slice A0_1 l0_1.length c0_1] 32 (0,0)) (by (with_reducible repeat (first|refine blk_drewN ?_ _|refine blk_drew ?_|refine blk_alloc ?_ _));exact BK288.out)) : gb288 ≠ gb315))
              have n11_:=Aside0.mk ((by rw [hg];exact Nat.ne_of_gt (blk_lt (g:=gb288) (o:=.cells #[.slice (some ad295) l0_0.length c0_0,.slice A0_1 l0_1.length c0_1] 32 (0,0)) (by (with_reducible repeat (first|refine blk_drewN ?_ _|refine blk_drew ?_|refine blk_alloc ?_ _));exact BK288.out)) : gb315 ≠ gb288))
              clear HO_5
              clear HL308_0
              clear HO311
              clear HO314
              clear BK288
              clear HR308_0
              clear HB
              have HO_5:=n0_
              have HL308_0:=n1_
              have HO311:=n2_
              have HO314:=n3_
              have BK288:=n4_
              have HR308_0:=n5_
              have HB:=n6_
              have BK315:=n7_
              have GW315:=n8_
              have GE315:=n9_
              have NB288_315:=n10_
              have NB315_288:=n11_
              clear n0_ n1_ n2_ n3_ n4_ n5_ n6_ n7_ n8_ n9_ n10_ n11_
              clear hb hbox hg
              refine hK.out _ _ ⟨(blk_cell BK288.out 0).trans rfl,(blk_cell BK288.out 1).trans rfl,HS2_⟩ (fun hHeld=>?_)
              clear hK K
              refine norm_ (a':=?_) ?_ ?_
              rotate_left
              ·show Act.put _ (some 7) _ = _
               simp only [Act.put,List.setIfInBounds_toArray,List.set_cons_zero,List.set_cons_succ,i64_w,i32_w]
               rfl
              exact norm_ (by simp only [putAll,Act.put,List.setIfInBounds_toArray,List.set_cons_zero,List.set_cons_succ]) (hCont (v310,v313,gb315) _ ⟨hHeld,(by (with_reducible repeat (first|apply Kd.V_alloc|apply Kd.V_drewN|apply Kd.V_drew));exact Kd.V_mono HL308_0.out (fun _ hk=>by first|exact ⟨hk.1.1.1.1.1,⟨hk.1.1.2,⟨hk.1.2,⟨hk.1.1.1.2,⟨hk.1.1.1.1.2,hk.2⟩⟩⟩⟩⟩|grind)),(by (with_reducible repeat (first|apply Kd.N_alloc|apply Kd.N_drewN|apply Kd.N_drew));exact Kd.N_mono HO311.out (fun _ hk=>by first|exact ⟨hk.1.1,⟨hk.1.2.1,⟨hk.1.2.2.1,⟨hk.1.2.2.2,hk.2⟩⟩⟩⟩|grind)),(by (with_reducible repeat (first|apply Kd.R_alloc|apply Kd.R_drewN|apply Kd.R_drew));exact Kd.R_mono HO314.out (fun _ hk=>hk.1)),(by (with_reducible repeat (first|apply Kd.N_alloc|apply Kd.N_drewN|apply Kd.N_drew));exact Kd.N_mono HO_5.out (fun _ hk=>by first|exact ⟨hk.1.1.1.1,⟨hk.1.1.2,⟨hk.1.2,⟨hk.1.1.1.2,hk.2⟩⟩⟩⟩|grind)),(by (with_reducible repeat (first|refine blk_drewN ?_ _|refine blk_drew ?_|refine blk_alloc ?_ _));exact BK288.out),(by (with_reducible repeat (first|refine blk_drewN ?_ _|refine blk_drew ?_|refine blk_alloc ?_ _));exact BK315.out),GW315.out,GE315.out,NB288_315.out,NB315_288.out,(by repeat (first|(with_reducible first|exact HB.out|apply below_alloc|apply pw_below_drewN|apply below_drew1|refine below_set ?_ GE288.out|refine below_set ?_ GE315.out)|exact HB.out))⟩)
             ·skip
              refine box_step ?hg (N:=7) ?hd (cs:=#[.slice none 0 0,.slice none 0 0]) (t:=32) ?hr ?_;(case hd=>rfl);(case hg=>rfl);(case hr=>first|(go_simp;done)|(go_simp;rfl))
              intro gb315 hg w46 hbox hb
              have HS2_:=(hb.cell (World.block_lt_of_cell? _ _ (hHeld.2.2))).trans (hHeld.2.2)
              have n0_:=Aside0.mk (Kd.N_below (Kd.N_elderB (by (with_reducible repeat (first|apply Kd.N_alloc|apply Kd.N_drewN|apply Kd.N_drew));exact HO_5.out) gb315 (Nat.le_of_eq hg.symm)) hb)
              have n1_:=Aside0.mk (Kd.V_below (Kd.V_elderB (by (with_reducible repeat (first|apply Kd.V_alloc|apply Kd.V_drewN|apply Kd.V_drew));exact HL308_0.out) gb315 (Nat.le_of_eq hg.symm)) hb)
              have n2_:=Aside0.mk (blk_below (g:=gb288) (o:=.cells #[.slice (some ad295) l0_0.length c0_0,.slice A0_1 l0_1.length c0_1] 32 (0,0)) (by (with_reducible repeat (first|refine blk_drewN ?_ _|refine blk_drew ?_|refine blk_alloc ?_ _));exact BK288.out) hb)
              have n3_:=Aside0.mk (Kd.C_below (by repeat (first|(with_reducible exact HR308_0.out)|(with_reducible refine Kd.C_alloc ?_ _)|(with_reducible refine Kd.C_drewN ?_ _)|(with_reducible refine Kd.C_drew ?_)|exact HR308_0.out)) hb)
              have n4_:=Aside0.mk (below_step (by repeat (first|(with_reducible first|exact HB.out|apply below_alloc|apply pw_below_drewN|apply below_drew1|refine below_set ?_ GE288.out)|exact HB.out)) hb)
              have n5_:=Aside0.mk (hbox)
              have n6_:=Aside0.mk ((by rw [hg];exact (below_size (by repeat (first|(with_reducible first|exact HB.out|apply below_alloc|apply pw_below_drewN|apply below_drew1|refine below_set ?_ GE288.out)|exact HB.out))) : w.heap.size ≤ gb315))
              have n7_:=Aside0.mk ((by rw [hg];exact (below_size (by repeat (first|(with_reducible first|exact HB.out|apply below_alloc|apply pw_below_drewN|apply below_drew1|refine below_set ?_ GE288.out)|exact HB.out))) : w.heap.size ≤ gb315))
              have n8_:=Aside0.mk ((by rw [hg];exact Nat.ne_of_lt (blk_lt (g:=gb288) (o:=.cells #[.slice (some ad295) l0_0.length c0_0,.slice A0_1 l0_1.length c0_1] 32 (0,0)) (by (with_reducible repeat (first|refine blk_drewN ?_ _|refine blk_drew ?_|refine blk_alloc ?_ _));exact BK288.out)) : gb288 ≠ gb315))
              have n9_:=Aside0.mk ((by rw [hg];exact Nat.ne_of_gt (blk_lt (g:=gb288) (o:=.cells #[.slice (some ad295) l0_0.length c0_0,.slice A0_1 l0_1.length c0_1] 32 (0,0)) (by (with_reducible repeat (first|refine blk_drewN ?_ _|refine blk_drew ?_|refine blk_alloc ?_ _));exact BK288.out)) : gb315 ≠ gb288))
              clear HO_5
              clear HL308_0
              clear BK288
              clear HR308_0
              clear HB
              have HO_5:=n0_
              have HL308_0:=n1_
              have BK288:=n2_
              have HR308_0:=n3_
              have HB:=n4_
              have BK315:=n5_
              have GW315:=n6_
              have GE315:=n7_
              have NB288_315:=n8_
              have NB315_288:=n9_
              clear n0_ n1_ n2_ n3_ n4_ n5_ n6_ n7_ n8_ n9_
              clear hb hbox hg
              refine hK.out _ _ ⟨(blk_cell BK288.out 0).trans rfl,(blk_cell BK288.out 1).trans rfl,HS2_⟩ (fun hHeld=>?_)
              clear hK K
              refine norm_ (a':=?_) ?_ ?_
              rotate_left
              ·show Act.put _ (some 7) _ = _
               simp only [Act.put,List.setIfInBounds_toArray,List.set_cons_zero,List.set_cons_succ,i64_w,i32_w]
               rfl
              refine one_ (i:=5) (N:=some 45) #[true,true,true,true,true,true,true,false] rfl rfl (one_of HT_.out (by kernel_rfl)) (by decide) (fun K hK=>?_)
              refine goes_ Try.func102 (by kernel_rfl) rfl #[.agg #[.slice (some ad295) l0_0.length c0_0,.slice A0_1 l0_1.length c0_1],.slice A308_0 (rd_L1 t305 x6_2).length c308_0] (by rfl) rfl rfl (by (try simp only [List.map_toArray,List.map_cons,List.map_nil]);first|done|rfl|(simp only [List.length_drop,List.length_take];rfl)) ?_
              with_reducible refine (spec_l2Part.calls k2 _ _ l0_0 _ _ l0_1 _ _ (rd_L1 t305 x6_2) t309 t312 _ ?side1 ?side2 ?side3 ?side4 ?side5 ?side6 A21.out).mono ?_
              (case side1=>repeat (first|exact (Kd.C_below HR0_0.out HB.out)|(with_reducible refine Kd.C_alloc ?_ _)|(with_reducible refine Kd.C_drewN ?_ _)|(with_reducible refine Kd.C_drew ?_)))
              (case side2=>exact HC0_0.out)
              (case side3=>repeat (first|exact (Kd.C_below HR0_1.out HB.out)|(with_reducible refine Kd.C_alloc ?_ _)|(with_reducible refine Kd.C_drewN ?_ _)|(with_reducible refine Kd.C_drew ?_)))
              (case side4=>exact HC0_1.out)
              (case side5=>repeat (first|exact (by repeat (first|(with_reducible exact HR308_0.out)|(with_reducible refine Kd.C_alloc ?_ _)|(with_reducible refine Kd.C_drewN ?_ _)|(with_reducible refine Kd.C_drew ?_)|exact HR308_0.out))|(with_reducible refine Kd.C_alloc ?_ _)|(with_reducible refine Kd.C_drewN ?_ _)|(with_reducible refine Kd.C_drew ?_)))
              (case side6=>exact HC308_0.out)
              rintro e w47 ⟨v310,v313,rfl,ho0,ho1,hb⟩
              have HS2_:=(hb.cell (World.block_lt_of_cell? _ _ (hHeld.2.2))).trans (hHeld.2.2)
              refine ⟨_,rfl,?_⟩
              have n0_:=Aside0.mk (Kd.N_mono (Kd.N_told (Kd.N_told (Kd.N_old (by (with_reducible repeat (first|apply Kd.N_alloc|apply Kd.N_drewN|apply Kd.N_drew));exact HO_5.out) hb) (by first|exact Kd.N_base ho0|exact Kd.S_base ho0)) (Kd.R_base ho1)) (fun _ h_=>h_.1))
              have n1_:=Aside0.mk (Kd.V_mono (Kd.V_told (Kd.V_told (Kd.V_old (by (with_reducible repeat (first|apply Kd.V_alloc|apply Kd.V_drewN|apply Kd.V_drew));exact HL308_0.out) hb) (by first|exact Kd.N_base ho0|exact Kd.S_base ho0)) (Kd.R_base ho1)) (fun _ h_=>h_.1))
              have n2_:=Aside0.mk (Kd.N_lower (Kd.N_mono (ok':=fun k_=>(w.heap.size ≤ k_) ∧ some k_ ≠ (v313 : Value).ownBlock ∧ some k_ ≠ (.slice (some ad308) t305.length co44 : Value).ownBlock ∧ k_ ≠ gb288 ∧ k_ ≠ gb315) (Kd.S_N (Kd.S_bound ho0)) (fun k_ hk_=>⟨(Nat.le_trans (below_size (by repeat (first|(with_reducible first|exact HB.out|apply below_alloc|apply pw_below_drewN|apply below_drew1|refine below_set ?_ GE288.out|refine below_set ?_ GE315.out)|exact HB.out))) hk_.2.1),hk_.1,(Kd.fresh' (Kd.N_lt (by (with_reducible repeat (first|apply Kd.N_alloc|apply Kd.N_drewN|apply Kd.N_drew));exact HO_5.out)) k_ hk_.2.1),(Kd.freshB (g:=gb288) (o:=.cells #[.slice (some ad295) l0_0.length c0_0,.slice A0_1 l0_1.length c0_1] 32 (0,0)) (by (with_reducible repeat (first|refine blk_drewN ?_ _|refine blk_drew ?_|refine blk_alloc ?_ _));exact BK288.out) k_ hk_.2.1),(Kd.freshB (g:=gb315) (o:=.cells #[.slice none 0 0,.slice none 0 0] 32 (0,0)) (by (with_reducible repeat (first|refine blk_drewN ?_ _|refine blk_drew ?_|refine blk_alloc ?_ _));exact BK315.out) k_ hk_.2.1)⟩)) (below_size (by repeat (first|(with_reducible first|exact HB.out|apply below_alloc|apply pw_below_drewN|apply below_drew1|refine below_set ?_ GE288.out|refine below_set ?_ GE315.out)|exact HB.out))))
              have n3_:=Aside0.mk (Kd.R_lower (Kd.R_newM (M:=fun k_=>(w.heap.size ≤ k_)) ho1 (below_size (by repeat (first|(with_reducible first|exact HB.out|apply below_alloc|apply pw_below_drewN|apply below_drew1|refine below_set ?_ GE288.out|refine below_set ?_ GE315.out)|exact HB.out))) (fun k_ h_=>h_)) (below_size (by repeat (first|(with_reducible first|exact HB.out|apply below_alloc|apply pw_below_drewN|apply below_drew1|refine below_set ?_ GE288.out|refine below_set ?_ GE315.out)|exact HB.out))))
              have n4_:=Aside0.mk (blk_below (g:=gb288) (o:=.cells #[.slice (some ad295) l0_0.length c0_0,.slice A0_1 l0_1.length c0_1] 32 (0,0)) (by (with_reducible repeat (first|refine blk_drewN ?_ _|refine blk_drew ?_|refine blk_alloc ?_ _));exact BK288.out) hb)
              have n5_:=Aside0.mk (Kd.C_below (by repeat (first|(with_reducible exact HR308_0.out)|(with_reducible refine Kd.C_alloc ?_ _)|(with_reducible refine Kd.C_drewN ?_ _)|(with_reducible refine Kd.C_drew ?_)|exact HR308_0.out)) hb)
              have n6_:=Aside0.mk (blk_below (g:=gb315) (o:=.cells #[.slice none 0 0,.slice none 0 0] 32 (0,0)) (by (with_reducible repeat (first|refine blk_drewN ?_ _|refine blk_drew ?_|refine blk_alloc ?_ _));exact BK315.out) hb)
              have n7_:=Aside0.mk (below_step (by repeat (first|(with_reducible first|exact HB.out|apply below_alloc|apply pw_below_drewN|apply below_drew1|refine below_set ?_ GE288.out|refine below_set ?_ GE315.out)|exact HB.out)) hb)
              clear HO_5
              clear HL308_0
              clear BK288
              clear HR308_0
              clear BK315
              clear HB
              have HO_5:=n0_
              have HL308_0:=n1_
              have HO311:=n2_
              have HO314:=n3_
              have BK288:=n4_
              have HR308_0:=n5_
              have BK315:=n6_
              have HB:=n7_
              clear n0_ n1_ n2_ n3_ n4_ n5_ n6_ n7_
              (try clear hb)
              (try clear hb2)
              (try clear hk)
              (try clear hi)
              (try clear ho0)
              (try clear ho1)
              refine hK.out _ _ ⟨(blk_cell BK288.out 0).trans rfl,(blk_cell BK288.out 1).trans rfl,HS2_⟩ (fun hHeld=>?_)
              clear hK K
              refine norm_ (a':=?_) ?_ ?_
              rotate_left
              ·show Act.put _ (some 45) _ = _
               simp only [Act.put,List.setIfInBounds_toArray,List.set_cons_zero,List.set_cons_succ,i64_w,i32_w]
               rfl
              exact norm_ (by simp only [putAll,Act.put,List.setIfInBounds_toArray,List.set_cons_zero,List.set_cons_succ]) (hCont (v310,v313,gb315) _ ⟨hHeld,(by (with_reducible repeat (first|apply Kd.V_alloc|apply Kd.V_drewN|apply Kd.V_drew));exact Kd.V_mono HL308_0.out (fun _ hk=>by first|exact ⟨hk.1.1.1.1.1,⟨hk.1.2,⟨hk.2,⟨hk.1.1.1.2,⟨hk.1.1.1.1.2,hk.1.1.2⟩⟩⟩⟩⟩|grind)),(by (with_reducible repeat (first|apply Kd.N_alloc|apply Kd.N_drewN|apply Kd.N_drew));exact HO311.out),(by (with_reducible repeat (first|apply Kd.R_alloc|apply Kd.R_drewN|apply Kd.R_drew));exact Kd.R_mono HO314.out (fun _ hk=>hk.1)),(by (with_reducible repeat (first|apply Kd.N_alloc|apply Kd.N_drewN|apply Kd.N_drew));exact Kd.N_mono HO_5.out (fun _ hk=>by first|exact ⟨hk.1.1.1.1,⟨hk.1.2,⟨hk.2,⟨hk.1.1.1.2,hk.1.1.2⟩⟩⟩⟩|grind)),(by (with_reducible repeat (first|refine blk_drewN ?_ _|refine blk_drew ?_|refine blk_alloc ?_ _));exact BK288.out),(by (with_reducible repeat (first|refine blk_drewN ?_ _|refine blk_drew ?_|refine blk_alloc ?_ _));exact BK315.out),GW315.out,GE315.out,NB288_315.out,NB315_288.out,(by repeat (first|(with_reducible first|exact HB.out|apply below_alloc|apply pw_below_drewN|apply below_drew1|refine below_set ?_ GE288.out|refine below_set ?_ GE315.out)|exact HB.out))⟩)
            rintro ⟨v310,v313,gb315⟩ w48 ⟨hS_,h0_,h1_,h2_,h3_,h4_,h5_,h6_,h7_,h8_,h9_,h10_⟩
            have n0_ : Aside0 (Kd.V (Kd.int .i64) 3 w48 w.heap.size (fun k_=>(w.heap.size ≤ k_) ∧ some k_ ≠ (v310 : Value).ownBlock ∧ some k_ ≠ (v313 : Value).ownBlock ∧ some k_ ≠ (.slice (some ad308) t305.length co44 : Value).ownBlock ∧ k_ ≠ gb288 ∧ k_ ≠ gb315) (.slice A308_0 (rd_L1 t305 x6_2).length c308_0) (rd_L1 t305 x6_2)):=⟨h0_⟩
            have n1_ : Aside0 (Kd.N (Kd.slice 3 (Kd.int .i64)) 26 w48 w.heap.size (fun k_=>(w.heap.size ≤ k_) ∧ some k_ ≠ (v313 : Value).ownBlock ∧ some k_ ≠ (.slice (some ad308) t305.length co44 : Value).ownBlock ∧ k_ ≠ gb288 ∧ k_ ≠ gb315) v310 t309):=⟨h1_⟩
            have n2_ : Aside0 (Kd.R (Kd.int .i64) 3 w48 w.heap.size (fun k_=>(w.heap.size ≤ k_)) v313 t312):=⟨h2_⟩
            have n3_ : Aside0 (Kd.N (Kd.slice 3 (Kd.int .i64)) 26 w48 w.heap.size (fun k_=>(w.heap.size ≤ k_) ∧ some k_ ≠ (v310 : Value).ownBlock ∧ some k_ ≠ (v313 : Value).ownBlock ∧ k_ ≠ gb288 ∧ k_ ≠ gb315) (.slice (some ad308) t305.length co44) t305):=⟨h3_⟩
            have n4_ : Aside0 (w48.heap[gb288]? = some (.cells #[.slice (some ad295) l0_0.length c0_0,.slice A0_1 l0_1.length c0_1] 32 (0,0))):=⟨h4_⟩
            have n5_ : Aside0 (w48.heap[gb315]? = some (.cells #[.slice none 0 0,.slice none 0 0] 32 (0,0))):=⟨h5_⟩
            have n6_ : Aside0 (w.heap.size ≤ gb315):=⟨h6_⟩
            have n7_ : Aside0 (w.heap.size ≤ gb315):=⟨h7_⟩
            have n8_ : Aside0 (gb288 ≠ gb315):=⟨h8_⟩
            have n9_ : Aside0 (gb315 ≠ gb288):=⟨h9_⟩
            have n10_ : Aside0 (Below w.heap.size w w48):=⟨h10_⟩
            clear HO_5
            clear BK288
            clear HB
            clear h0_ h1_ h2_ h3_ h4_ h5_ h6_ h7_ h8_ h9_ h10_
            have HL308_0:=n0_
            have HO311:=n1_
            have HO314:=n2_
            have HO_5:=n3_
            have BK288:=n4_
            have BK315:=n5_
            have GW315:=n6_
            have GE315:=n7_
            have NB288_315:=n8_
            have NB315_288:=n9_
            have HB:=n10_
            clear n0_ n1_ n2_ n3_ n4_ n5_ n6_ n7_ n8_ n9_ n10_
            have hHeld : w48.cell? ⟨gb288,0,none⟩ = some (.slice (some ad295) l0_0.length c0_0) ∧ w48.cell? ⟨gb288,1,none⟩ = some (.slice A0_1 l0_1.length c0_1) ∧ w48.cell? (ad308.add (x6_2).toNat) = some (.slice A308_0 (rd_L1 t305 x6_2).length c308_0):=hS_
            obtain ⟨Ao49,co49,eo49⟩:=Kd.N_slice HO311.out
            (first|subst eo49|(injection eo49 with f1_ f2_ f3_;have f4_:=f1_.symm;have f5_:=f3_.symm;clear f1_ f2_ f3_;subst f4_;subst f5_))
            obtain ⟨Ao51,co51,eo51⟩:=Kd.R_slice HO314.out
            (first|subst eo51|(injection eo51 with f1_ f2_ f3_;have f4_:=f1_.symm;have f5_:=f3_.symm;clear f1_ f2_ f3_;subst f4_;subst f5_))
            refine norm_ (a':=?_) ?_ ?_
            rotate_left
            ·simp only [putAll,Act.put,List.setIfInBounds_toArray,List.set_cons_zero,List.set_cons_succ]
             rfl
            refine one_ (i:=7) (N:=none) #[true,true,true,true,true,true,true,true] rfl rfl (one_of HT_.out (by kernel_rfl)) (by decide) (fun K hK=>?_)
            have hs50 : w48.cell? ⟨gb315,0,none⟩ = some (.slice none 0 0):=(blk_cell BK315.out 0).trans rfl
            have hfs50:=blk_frozen BK315.out 0
            have hns50_0:=NB288_315.out
            have hms50_0:=NB315_288.out
            have hs52 : w48.cell? ⟨gb315,1,none⟩ = some (.slice none 0 0):=(blk_cell BK315.out 1).trans rfl
            have hfs52:=blk_frozen BK315.out 1
            have hns52_0:=NB288_315.out
            have hms52_0:=NB315_288.out
            refine skip_ (w1:=?_) (by rfl) rfl ?_ ?_
            rotate_left
            ·go_simp
             rfl
            refine hK.out _ _ ⟨((cell_far (p:=⟨gb315,_,none⟩) NB288_315.out _).trans (((cell_far (p:=⟨gb315,_,none⟩) NB288_315.out _).trans (hHeld.1)))),((cell_far (p:=⟨gb315,_,none⟩) NB288_315.out _).trans (((cell_far (p:=⟨gb315,_,none⟩) NB288_315.out _).trans (hHeld.2.1)))),((cell_far (p:=⟨gb315,_,none⟩) (by first|exact Kd.own_blk (Kd.N_away HO_5.out (fun _ hk=>hk.2.2.2.2))|(rw [add_block];exact Kd.own_blk (Kd.N_away HO_5.out (fun _ hk=>hk.2.2.2.2)))|(show (Addr.add _ _).block ≠ _;rw [add_block];exact Kd.own_blk (Kd.N_away HO_5.out (fun _ hk=>hk.2.2.2.2)))|(dsimp only;exact Kd.own_blk (Kd.N_away HO_5.out (fun _ hk=>hk.2.2.2.2)))) _).trans (((cell_far (p:=⟨gb315,_,none⟩) (by first|exact Kd.own_blk (Kd.N_away HO_5.out (fun _ hk=>hk.2.2.2.2))|(rw [add_block];exact Kd.own_blk (Kd.N_away HO_5.out (fun _ hk=>hk.2.2.2.2)))|(show (Addr.add _ _).block ≠ _;rw [add_block];exact Kd.own_blk (Kd.N_away HO_5.out (fun _ hk=>hk.2.2.2.2)))|(dsimp only;exact Kd.own_blk (Kd.N_away HO_5.out (fun _ hk=>hk.2.2.2.2)))) _).trans (hHeld.2.2))))⟩ (fun hHeld=>?_)
            clear hK K
            refine done_ (done_of HT_.out (by kernel_rfl)) ?_
            (try clear hHeld)
            (try clear hHeld)
            have hnb53:=NB315_288.out
            have hnc53:=NB288_315.out
            have hcz54_0 : w48.cell? ⟨gb315,0,none⟩ = some (.slice none 0 0):=(blk_cell BK315.out 0).trans rfl
            have hcz54_1 : w48.cell? ⟨gb315,1,none⟩ = some (.slice none 0 0):=(blk_cell BK315.out 1).trans rfl
            have hfz54_0:=blk_frozen BK315.out 0
            have hfz54_1:=blk_frozen BK315.out 1
            try go_wp2_with (first|((with_reducible refine gate_callee (f:=87) rfl ?_);refine goesL_ (some 49) rfl rfl Try.func87 (by kernel_rfl) rfl #[.slice Ao49 t309.length co49] rfl (by (try simp only [List.map_toArray,List.map_cons,List.map_nil]);first|done|rfl|(simp only [List.length_drop,List.length_take];rfl)) ?_;(with_reducible refine (spec_l4Equations.calls k2 _ _ t309 t316 _ ?side1 ?side2 A22.out).mono ?_);(case side1=>refine (Kd.N_reads' (e:=26) (base:=w.heap.size) (ok:=fun k_=>((w.heap.size ≤ k_) ∧ (some k_ ≠ (.slice Ao51 t312.length co51 : Value).ownBlock ∧ (some k_ ≠ (.slice (some ad308) t305.length co44 : Value).ownBlock ∧ (k_ ≠ gb288 ∧ k_ ≠ gb315))))) (n:=t309.length) (c:=co49) ?_).2.2;exact (by (with_reducible repeat (first|apply Kd.N_alloc|apply Kd.N_drewN|apply Kd.N_drew));exact (Kd.N_mono (Kd.N_far (p:=⟨gb315,1,none⟩) (Kd.N_far (p:=⟨gb315,0,none⟩) (Kd.N_mono HO311.out (fun k_ hk=>(⟨hk,hk.2.2.2.2⟩ : _ ∧ k_ ≠ gb315))) (fun _ hk=>hk.2) (.slice Ao49 t309.length co49)) (fun _ hk=>hk.2) (.slice Ao51 t312.length co51)) (fun _ h_=>h_.1))));(case side2=>exact (Kd.N_reads' HO311.out).2.1);rintro e w55 ⟨v317,rfl,ho0,hb⟩;refine ⟨_,rfl,?_⟩;have n0_:=Aside0.mk (Kd.N_elder' (by (with_reducible repeat (first|apply Kd.N_alloc|apply Kd.N_drewN|apply Kd.N_drew));exact (Kd.N_mono (Kd.N_far (p:=⟨gb315,1,none⟩) (Kd.N_far (p:=⟨gb315,0,none⟩) (Kd.N_mono HO_5.out (fun k_ hk=>(⟨hk,hk.2.2.2.2⟩ : _ ∧ k_ ≠ gb315))) (fun _ hk=>hk.2) (.slice Ao49 t309.length co49)) (fun _ hk=>hk.2) (.slice Ao51 t312.length co51)) (fun _ h_=>h_.1))) (by first|exact Kd.N_base ho0|exact Kd.S_base ho0) hb);have n1_:=Aside0.mk (Kd.V_elder' (by (with_reducible repeat (first|apply Kd.V_alloc|apply Kd.V_drewN|apply Kd.V_drew));exact (Kd.V_mono (Kd.V_far (p:=⟨gb315,1,none⟩) (Kd.V_far (p:=⟨gb315,0,none⟩) (Kd.V_mono HL308_0.out (fun k_ hk=>(⟨hk,hk.2.2.2.2.2⟩ : _ ∧ k_ ≠ gb315))) (fun _ hk=>hk.2) (.slice Ao49 t309.length co49)) (fun _ hk=>hk.2) (.slice Ao51 t312.length co51)) (fun _ h_=>h_.1))) (by first|exact Kd.N_base ho0|exact Kd.S_base ho0) hb);have n2_:=Aside0.mk (Kd.N_elder' (by (with_reducible repeat (first|apply Kd.N_alloc|apply Kd.N_drewN|apply Kd.N_drew));exact (Kd.N_mono (Kd.N_far (p:=⟨gb315,1,none⟩) (Kd.N_far (p:=⟨gb315,0,none⟩) (Kd.N_mono HO311.out (fun k_ hk=>(⟨hk,hk.2.2.2.2⟩ : _ ∧ k_ ≠ gb315))) (fun _ hk=>hk.2) (.slice Ao49 t309.length co49)) (fun _ hk=>hk.2) (.slice Ao51 t312.length co51)) (fun _ h_=>h_.1))) (by first|exact Kd.N_base ho0|exact Kd.S_base ho0) hb);have n3_:=Aside0.mk (Kd.R_below (by (with_reducible repeat (first|apply Kd.R_alloc|apply Kd.R_drewN|apply Kd.R_drew));exact (Kd.R_mono (Kd.R_far (p:=⟨gb315,1,none⟩) (Kd.R_far (p:=⟨gb315,0,none⟩) (Kd.R_types HO314.out BK315.out (by decide)) (fun _ hk=>hk.2) (.slice Ao49 t309.length co49)) (fun _ hk=>hk.2) (.slice Ao51 t312.length co51)) (fun _ h_=>h_.1))) hb);have n4_:=Aside0.mk (Kd.N_lower (Kd.N_mono (ok':=fun k_=>(w.heap.size ≤ k_) ∧ some k_ ≠ (.slice (some ad308) t305.length co44 : Value).ownBlock ∧ some k_ ≠ (.slice Ao49 t309.length co49 : Value).ownBlock ∧ some k_ ≠ (.slice Ao51 t312.length co51 : Value).ownBlock ∧ k_ ≠ gb288 ∧ k_ ≠ gb315) (Kd.S_N (Kd.S_bound ho0)) (fun k_ hk_=>⟨(Nat.le_trans (below_size (by repeat (first|(with_reducible first|exact HB.out|apply below_alloc|apply pw_below_drewN|apply below_drew1|refine below_set ?_ GE288.out|refine below_set ?_ GE315.out)|exact HB.out))) hk_.2.1),(Kd.fresh' (Kd.N_lt (by (with_reducible repeat (first|apply Kd.N_alloc|apply Kd.N_drewN|apply Kd.N_drew));exact (Kd.N_mono (Kd.N_far (p:=⟨gb315,1,none⟩) (Kd.N_far (p:=⟨gb315,0,none⟩) (Kd.N_mono HO_5.out (fun k_ hk=>(⟨hk,hk.2.2.2.2⟩ : _ ∧ k_ ≠ gb315))) (fun _ hk=>hk.2) (.slice Ao49 t309.length co49)) (fun _ hk=>hk.2) (.slice Ao51 t312.length co51)) (fun _ h_=>h_.1)))) k_ hk_.2.1),(Kd.fresh' (Kd.N_lt (by (with_reducible repeat (first|apply Kd.N_alloc|apply Kd.N_drewN|apply Kd.N_drew));exact (Kd.N_mono (Kd.N_far (p:=⟨gb315,1,none⟩) (Kd.N_far (p:=⟨gb315,0,none⟩) (Kd.N_mono HO311.out (fun k_ hk=>(⟨hk,hk.2.2.2.2⟩ : _ ∧ k_ ≠ gb315))) (fun _ hk=>hk.2) (.slice Ao49 t309.length co49)) (fun _ hk=>hk.2) (.slice Ao51 t312.length co51)) (fun _ h_=>h_.1)))) k_ hk_.2.1),(Kd.fresh' (Kd.R_lt (by (with_reducible repeat (first|apply Kd.R_alloc|apply Kd.R_drewN|apply Kd.R_drew));exact (Kd.R_mono (Kd.R_far (p:=⟨gb315,1,none⟩) (Kd.R_far (p:=⟨gb315,0,none⟩) (Kd.R_types HO314.out BK315.out (by decide)) (fun _ hk=>hk.2) (.slice Ao49 t309.length co49)) (fun _ hk=>hk.2) (.slice Ao51 t312.length co51)) (fun _ h_=>h_.1)))) k_ hk_.2.1),(Kd.freshB (g:=gb288) (o:=.cells #[.slice (some ad295) l0_0.length c0_0,.slice A0_1 l0_1.length c0_1] 32 (0,0)) (by (with_reducible repeat (first|refine blk_drewN ?_ _|refine blk_drew ?_|refine blk_alloc ?_ _));refine blk_far ?_ NB288_315.out _;(with_reducible repeat (first|refine blk_drewN ?_ _|refine blk_drew ?_|refine blk_alloc ?_ _));refine blk_far ?_ NB288_315.out _;(with_reducible repeat (first|refine blk_drewN ?_ _|refine blk_drew ?_|refine blk_alloc ?_ _));exact BK288.out) k_ hk_.2.1),(Kd.freshB (g:=gb315) (o:=.cells #[.slice Ao49 t309.length co49,.slice Ao51 t312.length co51] 32 (0,0)) (by (with_reducible repeat (first|refine blk_drewN ?_ _|refine blk_drew ?_|refine blk_alloc ?_ _));refine blk_put (cs:=#[.slice Ao49 t309.length co49,.slice none 0 0]) ?_ 1 _ rfl;(with_reducible repeat (first|refine blk_drewN ?_ _|refine blk_drew ?_|refine blk_alloc ?_ _));refine blk_put (cs:=#[.slice none 0 0,.slice none 0 0]) ?_ 0 _ rfl;(with_reducible repeat (first|refine blk_drewN ?_ _|refine blk_drew ?_|refine blk_alloc ?_ _));exact BK315.out) k_ hk_.2.1)⟩)) (below_size (by repeat (first|(with_reducible first|exact HB.out|apply below_alloc|apply pw_below_drewN|apply below_drew1|refine below_set ?_ GE288.out|refine below_set ?_ GE315.out)|exact HB.out))));have n5_:=Aside0.mk (blk_below (g:=gb288) (o:=.cells #[.slice (some ad295) l0_0.length c0_0,.slice A0_1 l0_1.length c0_1] 32 (0,0)) (by (with_reducible repeat (first|refine blk_drewN ?_ _|refine blk_drew ?_|refine blk_alloc ?_ _));refine blk_far ?_ NB288_315.out _;(with_reducible repeat (first|refine blk_drewN ?_ _|refine blk_drew ?_|refine blk_alloc ?_ _));refine blk_far ?_ NB288_315.out _;(with_reducible repeat (first|refine blk_drewN ?_ _|refine blk_drew ?_|refine blk_alloc ?_ _));exact BK288.out) hb);have n6_:=Aside0.mk (blk_below (g:=gb315) (o:=.cells #[.slice Ao49 t309.length co49,.slice Ao51 t312.length co51] 32 (0,0)) (by (with_reducible repeat (first|refine blk_drewN ?_ _|refine blk_drew ?_|refine blk_alloc ?_ _));refine blk_put (cs:=#[.slice Ao49 t309.length co49,.slice none 0 0]) ?_ 1 _ rfl;(with_reducible repeat (first|refine blk_drewN ?_ _|refine blk_drew ?_|refine blk_alloc ?_ _));refine blk_put (cs:=#[.slice none 0 0,.slice none 0 0]) ?_ 0 _ rfl;(with_reducible repeat (first|refine blk_drewN ?_ _|refine blk_drew ?_|refine blk_alloc ?_ _));exact BK315.out) hb);have n7_:=Aside0.mk (below_step (by repeat (first|(with_reducible first|exact HB.out|apply below_alloc|apply pw_below_drewN|apply below_drew1|refine below_set ?_ GE288.out|refine below_set ?_ GE315.out)|exact HB.out)) hb);clear HO_5;clear HL308_0;clear HO311;clear HO314;clear BK288;clear BK315;clear HB;have HO_5:=n0_;have HL308_0:=n1_;have HO311:=n2_;have HO314:=n3_;have HO318:=n4_;have BK288:=n5_;have BK315:=n6_;have HB:=n7_;clear n0_ n1_ n2_ n3_ n4_ n5_ n6_ n7_;(try clear hb);(try clear hb2);(try clear hk);(try clear hi);(try clear ho0);obtain ⟨Ao56,co56,eo56⟩:=Kd.N_slice HO318.out;subst eo56)|((with_reducible refine gate_callee (f:=137) rfl ?_);refine goesL_ (some 51) rfl rfl Try.func137 (by kernel_rfl) rfl #[.slice Ao56 t316.length co56,.int .i64 x4_1] rfl (by (try simp only [List.map_toArray,List.map_cons,List.map_nil]);first|done|rfl|(simp only [List.length_drop,List.length_take];rfl)) ?_;(with_reducible refine (spec_l4Relation.calls k2 _ _ t316 x4_1 t319 true _ ?side1 ?side2 A23.out).mono ?_);(case side1=>repeat (first|exact (Kd.N_reads' HO318.out).2.2|(with_reducible refine Kd.C_alloc ?_ _)|(with_reducible refine Kd.C_drewN ?_ _)|(with_reducible refine Kd.C_drew ?_)));(case side2=>exact (Kd.N_reads' HO318.out).2.1);rintro e w57 ⟨v321,rfl,ho0,hb⟩;refine ⟨_,rfl,?_⟩;have n0_:=Aside0.mk (Kd.N_elder' (by (with_reducible repeat (first|apply Kd.N_alloc|apply Kd.N_drewN|apply Kd.N_drew));exact HO_5.out) (Kd.R_base ho0) hb);have n1_:=Aside0.mk (Kd.V_elder' (by (with_reducible repeat (first|apply Kd.V_alloc|apply Kd.V_drewN|apply Kd.V_drew));exact HL308_0.out) (Kd.R_base ho0) hb);have n2_:=Aside0.mk (Kd.N_elder' (by (with_reducible repeat (first|apply Kd.N_alloc|apply Kd.N_drewN|apply Kd.N_drew));exact HO311.out) (Kd.R_base ho0) hb);have n3_:=Aside0.mk (Kd.R_elder' (by (with_reducible repeat (first|apply Kd.R_alloc|apply Kd.R_drewN|apply Kd.R_drew));exact HO314.out) (Kd.R_base ho0) hb);have n4_:=Aside0.mk (Kd.N_elder' (by (with_reducible repeat (first|apply Kd.N_alloc|apply Kd.N_drewN|apply Kd.N_drew));exact HO318.out) (Kd.R_base ho0) hb);have n5_:=Aside0.mk (Kd.R_lower (Kd.R_new' (Kd.R_newM (M:=fun k_=>(w.heap.size ≤ k_)) ho0 (below_size (by repeat (first|(with_reducible first|exact HB.out|apply below_alloc|apply pw_below_drewN|apply below_drew1|refine below_set ?_ GE288.out|refine below_set ?_ GE315.out)|exact HB.out))) (fun k_ h_=>h_)) (Kd.R_lt (by (with_reducible repeat (first|apply Kd.R_alloc|apply Kd.R_drewN|apply Kd.R_drew));exact HO314.out))) (below_size (by repeat (first|(with_reducible first|exact HB.out|apply below_alloc|apply pw_below_drewN|apply below_drew1|refine below_set ?_ GE288.out|refine below_set ?_ GE315.out)|exact HB.out))));have n6_:=Aside0.mk (blk_below (g:=gb288) (o:=.cells #[.slice (some ad295) l0_0.length c0_0,.slice A0_1 l0_1.length c0_1] 32 (0,0)) (by (with_reducible repeat (first|refine blk_drewN ?_ _|refine blk_drew ?_|refine blk_alloc ?_ _));exact BK288.out) hb);have n7_:=Aside0.mk (blk_below (g:=gb315) (o:=.cells #[.slice Ao49 t309.length co49,.slice Ao51 t312.length co51] 32 (0,0)) (by (with_reducible repeat (first|refine blk_drewN ?_ _|refine blk_drew ?_|refine blk_alloc ?_ _));exact BK315.out) hb);have n8_:=Aside0.mk (below_step (by repeat (first|(with_reducible first|exact HB.out|apply below_alloc|apply pw_below_drewN|apply below_drew1|refine below_set ?_ GE288.out|refine below_set ?_ GE315.out)|exact HB.out)) hb);clear HO_5;clear HL308_0;clear HO311;clear HO314;clear HO318;clear BK288;clear BK315;clear HB;have HO_5:=n0_;have HL308_0:=n1_;have HO311:=n2_;have HO314:=n3_;have HO318:=n4_;have HO322:=n5_;have BK288:=n6_;have BK315:=n7_;have HB:=n8_;clear n0_ n1_ n2_ n3_ n4_ n5_ n6_ n7_ n8_;(try clear hb);(try clear hb2);(try clear hk);(try clear hi);(try clear ho0);have hcz58_0 : w57.cell? ⟨gb315,0,none⟩ = some (.slice Ao49 t309.length co49):=(blk_cell BK315.out 0).trans rfl;have hcz58_1 : w57.cell? ⟨gb315,1,none⟩ = some (.slice Ao51 t312.length co51):=(blk_cell BK315.out 1).trans rfl;have hfz58_0:=blk_frozen BK315.out 0;have hfz58_1:=blk_frozen BK315.out 1;obtain ⟨Ao59,co59,eo59⟩:=Kd.R_slice HO322.out;subst eo59)|((with_reducible refine gate_callee (f:=138) rfl ?_);refine goesL_ (some 60) rfl rfl Try.func138 (by kernel_rfl) rfl #[.slice Ao59 t319.length co59,.slice Ao51 t312.length co51] rfl (by (try simp only [List.map_toArray,List.map_cons,List.map_nil]);first|done|rfl|(simp only [List.length_drop,List.length_take];rfl)) ?_;(with_reducible refine (spec_l4Signs.calls k2 _ _ t319 _ _ t312 t323 false _ ?side1 ?side2 ?side3 ?side4 A25.out).mono ?_);(case side1=>repeat (first|exact (Kd.R_reads' HO322.out).2.2|(with_reducible refine Kd.C_alloc ?_ _)|(with_reducible refine Kd.C_drewN ?_ _)|(with_reducible refine Kd.C_drew ?_)));(case side2=>exact (Kd.R_reads' HO322.out).2.1);(case side3=>repeat (first|exact (Kd.R_reads' HO314.out).2.2|(with_reducible refine Kd.C_alloc ?_ _)|(with_reducible refine Kd.C_drewN ?_ _)|(with_reducible refine Kd.C_drew ?_)));(case side4=>exact (Kd.R_reads' HO314.out).2.1);rintro e w60 ⟨v325,rfl,ho0,hb⟩;refine ⟨_,rfl,?_⟩;have n0_:=Aside0.mk (Kd.N_elder' (by (with_reducible repeat (first|apply Kd.N_alloc|apply Kd.N_drewN|apply Kd.N_drew));exact HO_5.out) (Kd.R_base ho0) hb);have n1_:=Aside0.mk (Kd.V_elder' (by (with_reducible repeat (first|apply Kd.V_alloc|apply Kd.V_drewN|apply Kd.V_drew));exact HL308_0.out) (Kd.R_base ho0) hb);have n2_:=Aside0.mk (Kd.N_elder' (by (with_reducible repeat (first|apply Kd.N_alloc|apply Kd.N_drewN|apply Kd.N_drew));exact HO311.out) (Kd.R_base ho0) hb);have n3_:=Aside0.mk (Kd.R_elder' (by (with_reducible repeat (first|apply Kd.R_alloc|apply Kd.R_drewN|apply Kd.R_drew));exact HO314.out) (Kd.R_base ho0) hb);have n4_:=Aside0.mk (Kd.N_elder' (by (with_reducible repeat (first|apply Kd.N_alloc|apply Kd.N_drewN|apply Kd.N_drew));exact HO318.out) (Kd.R_base ho0) hb);have n5_:=Aside0.mk (Kd.R_elder' (by (with_reducible repeat (first|apply Kd.R_alloc|apply Kd.R_drewN|apply Kd.R_drew));exact HO322.out) (Kd.R_base ho0) hb);have n6_:=Aside0.mk (Kd.R_lower (Kd.R_new' (Kd.R_new' (Kd.R_newM (M:=fun k_=>(w.heap.size ≤ k_)) ho0 (below_size (by repeat (first|(with_reducible first|exact HB.out|apply below_alloc|apply pw_below_drewN|apply below_drew1|refine below_set ?_ GE288.out|refine below_set ?_ GE315.out)|exact HB.out))) (fun k_ h_=>h_)) (Kd.R_lt (by (with_reducible repeat (first|apply Kd.R_alloc|apply Kd.R_drewN|apply Kd.R_drew));exact HO314.out))) (Kd.R_lt (by (with_reducible repeat (first|apply Kd.R_alloc|apply Kd.R_drewN|apply Kd.R_drew));exact HO322.out))) (below_size (by repeat (first|(with_reducible first|exact HB.out|apply below_alloc|apply pw_below_drewN|apply below_drew1|refine below_set ?_ GE288.out|refine below_set ?_ GE315.out)|exact HB.out))));have n7_:=Aside0.mk (blk_below (g:=gb288) (o:=.cells #[.slice (some ad295) l0_0.length c0_0,.slice A0_1 l0_1.length c0_1] 32 (0,0)) (by (with_reducible repeat (first|refine blk_drewN ?_ _|refine blk_drew ?_|refine blk_alloc ?_ _));exact BK288.out) hb);have n8_:=Aside0.mk (blk_below (g:=gb315) (o:=.cells #[.slice Ao49 t309.length co49,.slice Ao51 t312.length co51] 32 (0,0)) (by (with_reducible repeat (first|refine blk_drewN ?_ _|refine blk_drew ?_|refine blk_alloc ?_ _));exact BK315.out) hb);have n9_:=Aside0.mk (below_step (by repeat (first|(with_reducible first|exact HB.out|apply below_alloc|apply pw_below_drewN|apply below_drew1|refine below_set ?_ GE288.out|refine below_set ?_ GE315.out)|exact HB.out)) hb);clear HO_5;clear HL308_0;clear HO311;clear HO314;clear HO318;clear HO322;clear BK288;clear BK315;clear HB;have HO_5:=n0_;have HL308_0:=n1_;have HO311:=n2_;have HO314:=n3_;have HO318:=n4_;have HO322:=n5_;have HO326:=n6_;have BK288:=n7_;have BK315:=n8_;have HB:=n9_;clear n0_ n1_ n2_ n3_ n4_ n5_ n6_ n7_ n8_ n9_;(try clear hb);(try clear hb2);(try clear hk);(try clear hi);(try clear ho0)))
            go_roundg k2
            case measure=>have:=HK1.out;have:=HK2.out;omega
            case rel=>exact ⟨(wrap64 (x6_2 + 1)),(by first|rfl|(simp;done)|(simp [*];done)),H',⟨by have:=HK1.out;have:=HK2.out;omega⟩,⟨by (with_reducible repeat (first|apply Kd.N_alloc|apply Kd.N_drewN|apply Kd.N_drew));exact Kd.N_mono HO_5.out (fun _ hk=>by first|exact ⟨hk.1.1.1.1,hk.1.1.1.2.2.2.1⟩|grind)⟩,⟨by (with_reducible repeat (first|refine blk_drewN ?_ _|refine blk_drew ?_|refine blk_alloc ?_ _));exact BK288.out⟩,⟨by repeat (first|(with_reducible first|exact HB.out|apply below_alloc|apply pw_below_drewN|apply below_drew1|refine below_set ?_ GE288.out|refine below_set ?_ GE315.out)|exact HB.out)⟩⟩
          ·replace c24:=Bool.eq_false_iff.mpr c24
           subst c24
           have H1 : (spec_l4Find.l1 k2 x4_1 t305 (wrap64 (x6_2 + 1)) l0_0 l0_1) = some (r1,r2):=by rw [if_neg (show ¬ (false = true) by decide)] at H;exact H
           clear H
           have H:=H1
           clear H1
           have H':=Aside0.mk H
           clear H
           obtain ⟨Ao61,co61,eo61⟩:=Kd.N_slice HO_5.out
           subst eo61
           try go_wp2
           have n0_:=Aside0.mk (Kd.N_drew HO_5.out)
           have n1_:=Aside0.mk (blk_drew BK288.out)
           have n2_:=Aside0.mk (below_drew1 HB.out)
           clear HO_5
           clear BK288
           clear HB
           have HO_5:=n0_
           have BK288:=n1_
           have HB:=n2_
           clear n0_ n1_ n2_
           have p308 : 0 ≤ (x6_2 : Int):=of_decide_eq_true (by first|(with_reducible assumption)|assumption)
           have q308 : x6_2 < (t305.length : Int):=of_decide_eq_true (by first|(with_reducible assumption)|assumption)
           obtain ⟨ad308,A308_0,c308_0,e308,hx308_0,hl308_0,hi308_0⟩:=at_L1 (Kd.N_reads' HO_5.out).2.2 x6_2 p308 q308
           cases e308
           obtain ⟨ce308,hce308,hMe308,hcc308⟩:=Kd.N_get HO_5.out [] x6_2 p308 (by first|exact q308|exact of_decide_eq_true (by first|(with_reducible assumption)|assumption)|(have e_:=(Kd.N_reads' HO_5.out).1;omega))
           obtain ⟨ua308_0,uc308_0,rfl,ul308_0,ge308_0⟩:=Kd.FK_slice_open hMe308
           have hv308_0:=hcc308 0 _ rfl
           rw [Nat.add_zero,show ((Kd.slice 3 (Kd.int .i64))).sz = 1 from rfl,Nat.mul_one] at hv308_0
           replace hv308_0:=Option.some.inj (hv308_0.symm.trans hx308_0)
           injection hv308_0 with hva_ hvn_ hvc_
           rw [hva_] at ge308_0
           rw [hvc_] at ul308_0
           have HL308_0:=Aside0.mk (show Kd.V (Kd.int .i64) 3 _ w.heap.size _ _ (rd_L1 t305 x6_2) from Kd.V_mk ul308_0 ge308_0)
           clear hva_ hvn_ hvc_ ge308_0 ul308_0
           clear hcc308 hce308
           have HR308_0:=Aside0.mk hi308_0
           have HC308_0:=Aside0.mk hl308_0
           clear hi308_0 hl308_0
           replace p308:=eq_true p308
           replace q308:=eq_true q308
           refine start_ (n:=8) (S:=fun w'=>w'.cell? ⟨gb288,0,none⟩ = some (.slice (some ad295) l0_0.length c0_0) ∧ w'.cell? ⟨gb288,1,none⟩ = some (.slice A0_1 l0_1.length c0_1) ∧ w'.cell? (ad308.add (x6_2).toNat) = some (.slice A308_0 (rd_L1 t305 x6_2).length c308_0)) (ds:=[]) #[false,false,false,false,false,false,false,false] (by kernel_rfl) rfl rfl ⟨(blk_cell BK288.out 0).trans rfl,(blk_cell BK288.out 1).trans rfl,hx308_0⟩ (fun hHeld=>?_);refine with_tabW spec_l4Find.tab10 spec_l4Find.bits10 (fun HT_ HW_=>?_)
           generalize wr.drew = w62 at HO_5 BK288 HB HL308_0 HR308_0 hx308_0 hHeld ⊢
           refine pure_ (i:=1) (N:=some 41) (v:=?_) (a':=?_) #[false,true,false,false,false,false,false,false] rfl rfl (any_of HT_.out (by kernel_rfl)) (fun _ _ _ h=>h) (Or.inl ⟨by rfl,?_⟩) ?_ ?_
           rotate_left
           ·intro w'
            go_simp
            with_reducible rfl
           rotate_left
           ·simp only [Act.put,List.setIfInBounds_toArray,List.set_cons_zero,List.set_cons_succ,i64_w,i32_w]
            rfl
           refine pure_ (i:=2) (N:=some 42) (v:=?_) (a':=?_) #[false,true,true,false,false,false,false,false] rfl rfl (any_of HT_.out (by kernel_rfl)) (fun _ _ _ h=>h) (Or.inl ⟨by rfl,?_⟩) ?_ ?_
           rotate_left
           ·intro w'
            go_simp
            with_reducible rfl
           rotate_left
           ·simp only [Act.put,List.setIfInBounds_toArray,List.set_cons_zero,List.set_cons_succ,i64_w,i32_w]
            rfl
           refine pure_ (i:=3) (N:=some 43) (v:=?_) (a':=?_) #[false,true,true,true,false,false,false,false] rfl rfl (any_of HT_.out (by kernel_rfl)) (fun _ _ _ h=>h) (Or.inl ⟨by rfl,?_⟩) ?_ ?_
           rotate_left
           ·intro w'
            go_simp
            with_reducible rfl
           rotate_left
           ·simp only [Act.put,List.setIfInBounds_toArray,List.set_cons_zero,List.set_cons_succ,i64_w,i32_w]
            rfl
           refine take_ (i:=0) (N:=some 40) (v:=?_) (a':=?_) #[true,true,true,true,false,false,false,false] rfl rfl (take_ofW HT_.out HW_.out (by kernel_rfl)) (fun _ _ _ h=>h) (Or.inl ⟨by rfl,?_⟩) hHeld ?_ ?_
           rotate_left
           ·rintro w' ⟨s0,s1,s2⟩
            go_simp
            with_reducible rfl
           rotate_left
           ·simp only [Act.put,List.setIfInBounds_toArray,List.set_cons_zero,List.set_cons_succ,i64_w,i32_w]
            rfl
           refine take_ (i:=4) (N:=some 44) (v:=?_) (a':=?_) #[true,true,true,true,true,false,false,false] rfl rfl (take_ofW HT_.out HW_.out (by kernel_rfl)) (fun _ _ _ h=>h) (Or.inl ⟨by rfl,?_⟩) hHeld ?_ ?_
           rotate_left
           ·rintro w' ⟨s0,s1,s2⟩
            go_simp
            with_reducible rfl
           rotate_left
           ·simp only [Act.put,List.setIfInBounds_toArray,List.set_cons_zero,List.set_cons_succ,i64_w,i32_w]
            rfl
           refine join_ (σ:=Value × Value × Nat) 1 #[true,true,true,true,true,true,true,false] (fun s_=>[(45,.agg #[s_.1,s_.2.1]),(7,.pointer (some ⟨s_.2.2,0,none⟩))]) (fun s_ w'=>(w'.cell? ⟨gb288,0,none⟩ = some (.slice (some ad295) l0_0.length c0_0) ∧ w'.cell? ⟨gb288,1,none⟩ = some (.slice A0_1 l0_1.length c0_1) ∧ w'.cell? (ad308.add (x6_2).toNat) = some (.slice A308_0 (rd_L1 t305 x6_2).length c308_0)) ∧ (Kd.V (Kd.int .i64) 3 w' w.heap.size (fun k_=>(w.heap.size ≤ k_) ∧ some k_ ≠ (s_.1 : Value).ownBlock ∧ some k_ ≠ (s_.2.1 : Value).ownBlock ∧ some k_ ≠ (.slice (some ad308) t305.length co61 : Value).ownBlock ∧ k_ ≠ gb288 ∧ k_ ≠ s_.2.2) (.slice A308_0 (rd_L1 t305 x6_2).length c308_0) (rd_L1 t305 x6_2)) ∧ (Kd.N (Kd.slice 3 (Kd.int .i64)) 26 w' w.heap.size (fun k_=>(w.heap.size ≤ k_) ∧ some k_ ≠ (s_.2.1 : Value).ownBlock ∧ some k_ ≠ (.slice (some ad308) t305.length co61 : Value).ownBlock ∧ k_ ≠ gb288 ∧ k_ ≠ s_.2.2) s_.1 t309) ∧ (Kd.R (Kd.int .i64) 3 w' w.heap.size (fun k_=>(w.heap.size ≤ k_)) s_.2.1 t312) ∧ (Kd.N (Kd.slice 3 (Kd.int .i64)) 26 w' w.heap.size (fun k_=>(w.heap.size ≤ k_) ∧ some k_ ≠ (s_.1 : Value).ownBlock ∧ some k_ ≠ (s_.2.1 : Value).ownBlock ∧ k_ ≠ gb288 ∧ k_ ≠ s_.2.2) (.slice (some ad308) t305.length co61) t305) ∧ (w'.heap[gb288]? = some (.cells #[.slice (some ad295) l0_0.length c0_0,.slice A0_1 l0_1.length c0_1] 32 (0,0))) ∧ (w'.heap[s_.2.2]? = some (.cells #[.slice none 0 0,.slice none 0 0] 32 (0,0))) ∧ (w.heap.size ≤ s_.2.2) ∧ (w.heap.size ≤ s_.2.2) ∧ (gb288 ≠ s_.2.2) ∧ (s_.2.2 ≠ gb288) ∧ (Below w.heap.size w w')) ?_ ?_
           rotate_left
           ·intro hCont
            refine two_ (i:=5) (j:=6) (Ni:=some 45) (Nj:=some 7) #[true,true,true,true,true,true,false,false] #[true,true,true,true,true,false,true,false] rfl rfl rfl rfl (two_of HT_.out (by kernel_rfl)) (by decide) (by decide) (fun K hK=>?_) (fun K hK=>?_)
            ·skip
             refine goes_ Try.func102 (by kernel_rfl) rfl #[.agg #[.slice (some ad295) l0_0.length c0_0,.slice A0_1 l0_1.length c0_1],.slice A308_0 (rd_L1 t305 x6_2).length c308_0] (by rfl) rfl rfl (by (try simp only [List.map_toArray,List.map_cons,List.map_nil]);first|done|rfl|(simp only [List.length_drop,List.length_take];rfl)) ?_
             with_reducible refine (spec_l2Part.calls k2 _ _ l0_0 _ _ l0_1 _ _ (rd_L1 t305 x6_2) t309 t312 _ ?side1 ?side2 ?side3 ?side4 ?side5 ?side6 A21.out).mono ?_
             (case side1=>repeat (first|exact (Kd.C_below HR0_0.out HB.out)|(with_reducible refine Kd.C_alloc ?_ _)|(with_reducible refine Kd.C_drewN ?_ _)|(with_reducible refine Kd.C_drew ?_)))
             (case side2=>exact HC0_0.out)
             (case side3=>repeat (first|exact (Kd.C_below HR0_1.out HB.out)|(with_reducible refine Kd.C_alloc ?_ _)|(with_reducible refine Kd.C_drewN ?_ _)|(with_reducible refine Kd.C_drew ?_)))
             (case side4=>exact HC0_1.out)
             (case side5=>repeat (first|exact (by repeat (first|(with_reducible exact HR308_0.out)|(with_reducible refine Kd.C_alloc ?_ _)|(with_reducible refine Kd.C_drewN ?_ _)|(with_reducible refine Kd.C_drew ?_)|exact HR308_0.out))|(with_reducible refine Kd.C_alloc ?_ _)|(with_reducible refine Kd.C_drewN ?_ _)|(with_reducible refine Kd.C_drew ?_)))
             (case side6=>exact HC308_0.out)
             rintro e w63 ⟨v310,v313,rfl,ho0,ho1,hb⟩
             have HS2_:=(hb.cell (World.block_lt_of_cell? _ _ (hHeld.2.2))).trans (hHeld.2.2)
             refine ⟨_,rfl,?_⟩
             have n0_:=Aside0.mk (Kd.N_mono (Kd.N_told (Kd.N_told (Kd.N_old (by (with_reducible repeat (first|apply Kd.N_alloc|apply Kd.N_drewN|apply Kd.N_drew));exact HO_5.out) hb) (by first|exact Kd.N_base ho0|exact Kd.S_base ho0)) (Kd.R_base ho1)) (fun _ h_=>h_.1))
             have n1_:=Aside0.mk (Kd.V_mono (Kd.V_told (Kd.V_told (Kd.V_old (by (with_reducible repeat (first|apply Kd.V_alloc|apply Kd.V_drewN|apply Kd.V_drew));exact HL308_0.out) hb) (by first|exact Kd.N_base ho0|exact Kd.S_base ho0)) (Kd.R_base ho1)) (fun _ h_=>h_.1))
             have n2_:=Aside0.mk (Kd.N_lower (Kd.N_mono (ok':=fun k_=>(w.heap.size ≤ k_) ∧ some k_ ≠ (v313 : Value).ownBlock ∧ some k_ ≠ (.slice (some ad308) t305.length co61 : Value).ownBlock ∧ k_ ≠ gb288) (Kd.S_N (Kd.S_bound ho0)) (fun k_ hk_=>⟨(Nat.le_trans (below_size (by repeat (first|(with_reducible first|exact HB.out|apply below_alloc|apply pw_below_drewN|apply below_drew1|refine below_set ?_ GE288.out)|exact HB.out))) hk_.2.1),hk_.1,(Kd.fresh' (Kd.N_lt (by (with_reducible repeat (first|apply Kd.N_alloc|apply Kd.N_drewN|apply Kd.N_drew));exact HO_5.out)) k_ hk_.2.1),(Kd.freshB (g:=gb288) (o:=.cells #[.slice (some ad295) l0_0.length c0_0,.slice A0_1 l0_1.length c0_1] 32 (0,0)) (by (with_reducible repeat (first|refine blk_drewN ?_ _|refine blk_drew ?_|refine blk_alloc ?_ _));exact BK288.out) k_ hk_.2.1)⟩)) (below_size (by repeat (first|(with_reducible first|exact HB.out|apply below_alloc|apply pw_below_drewN|apply below_drew1|refine below_set ?_ GE288.out)|exact HB.out))))
             have n3_:=Aside0.mk (Kd.R_lower (Kd.R_newM (M:=fun k_=>(w.heap.size ≤ k_)) ho1 (below_size (by repeat (first|(with_reducible first|exact HB.out|apply below_alloc|apply pw_below_drewN|apply below_drew1|refine below_set ?_ GE288.out)|exact HB.out))) (fun k_ h_=>h_)) (below_size (by repeat (first|(with_reducible first|exact HB.out|apply below_alloc|apply pw_below_drewN|apply below_drew1|refine below_set ?_ GE288.out)|exact HB.out))))
             have n4_:=Aside0.mk (blk_below (g:=gb288) (o:=.cells #[.slice (some ad295) l0_0.length c0_0,.slice A0_1 l0_1.length c0_1] 32 (0,0)) (by (with_reducible repeat (first|refine blk_drewN ?_ _|refine blk_drew ?_|refine blk_alloc ?_ _));exact BK288.out) hb)
             have n5_:=Aside0.mk (Kd.C_below (by repeat (first|(with_reducible exact HR308_0.out)|(with_reducible refine Kd.C_alloc ?_ _)|(with_reducible refine Kd.C_drewN ?_ _)|(with_reducible refine Kd.C_drew ?_)|exact HR308_0.out)) hb)
             have n6_:=Aside0.mk (below_step (by repeat (first|(with_reducible first|exact HB.out|apply below_alloc|apply pw_below_drewN|apply below_drew1|refine below_set ?_ GE288.out)|exact HB.out)) hb)
             clear HO_5
             clear HL308_0
             clear BK288
             clear HR308_0
             clear HB
             have HO_5:=n0_
             have HL308_0:=n1_
             have HO311:=n2_
             have HO314:=n3_
             have BK288:=n4_
             have HR308_0:=n5_
             have HB:=n6_
             clear n0_ n1_ n2_ n3_ n4_ n5_ n6_
             (try clear hb)
             (try clear hb2)
             (try clear hk)
             (try clear hi)
             (try clear ho0)
             (try clear ho1)
             refine hK.out _ _ ⟨(blk_cell BK288.out 0).trans rfl,(blk_cell BK288.out 1).trans rfl,HS2_⟩ (fun hHeld=>?_)
             clear hK K
             refine norm_ (a':=?_) ?_ ?_
             rotate_left
             ·show Act.put _ (some 45) _ = _
              simp only [Act.put,List.setIfInBounds_toArray,List.set_cons_zero,List.set_cons_succ,i64_w,i32_w]
              rfl
             refine one_ (i:=6) (N:=some 7) #[true,true,true,true,true,true,true,false] rfl rfl (one_of HT_.out (by kernel_rfl)) (by decide) (fun K hK=>?_)
             refine box_step ?hg (N:=7) ?hd (cs:=#[.slice none 0 0,.slice none 0 0]) (t:=32) ?hr ?_;(case hd=>rfl);(case hg=>rfl);(case hr=>first|(go_simp;done)|(go_simp;rfl))
             intro gb315 hg w64 hbox hb
             have HS2_:=(hb.cell (World.block_lt_of_cell? _ _ (hHeld.2.2))).trans (hHeld.2.2)
             have n0_:=Aside0.mk (Kd.N_below (Kd.N_elderB (by (with_reducible repeat (first|apply Kd.N_alloc|apply Kd.N_drewN|apply Kd.N_drew));exact HO_5.out) gb315 (Nat.le_of_eq hg.symm)) hb)
             have n1_:=Aside0.mk (Kd.V_below (Kd.V_elderB (by (with_reducible repeat (first|apply Kd.V_alloc|apply Kd.V_drewN|apply Kd.V_drew));exact HL308_0.out) gb315 (Nat.le_of_eq hg.symm)) hb)
             have n2_:=Aside0.mk (Kd.N_below (Kd.N_elderB (by (with_reducible repeat (first|apply Kd.N_alloc|apply Kd.N_drewN|apply Kd.N_drew));exact HO311.out) gb315 (Nat.le_of_eq hg.symm)) hb)
             have n3_:=Aside0.mk (Kd.R_below (by (with_reducible repeat (first|apply Kd.R_alloc|apply Kd.R_drewN|apply Kd.R_drew));exact HO314.out) hb)
             have n4_:=Aside0.mk (blk_below (g:=gb288) (o:=.cells #[.slice (some ad295) l0_0.length c0_0,.slice A0_1 l0_1.length c0_1] 32 (0,0)) (by (with_reducible repeat (first|refine blk_drewN ?_ _|refine blk_drew ?_|refine blk_alloc ?_ _));exact BK288.out) hb)
             have n5_:=Aside0.mk (Kd.C_below (by repeat (first|(with_reducible exact HR308_0.out)|(with_reducible refine Kd.C_alloc ?_ _)|(with_reducible refine Kd.C_drewN ?_ _)|(with_reducible refine Kd.C_drew ?_)|exact HR308_0.out)) hb)
             have n6_:=Aside0.mk (below_step (by repeat (first|(with_reducible first|exact HB.out|apply below_alloc|apply pw_below_drewN|apply below_drew1|refine below_set ?_ GE288.out)|exact HB.out)) hb)
             have n7_:=Aside0.mk (hbox)
             have n8_:=Aside0.mk ((by rw [hg];exact (below_size (by repeat (first|(with_reducible first|exact HB.out|apply below_alloc|apply pw_below_drewN|apply below_drew1|refine below_set ?_ GE288.out)|exact HB.out))) : w.heap.size ≤ gb315))
             have n9_:=Aside0.mk ((by rw [hg];exact (below_size (by repeat (first|(with_reducible first|exact HB.out|apply below_alloc|apply pw_below_drewN|apply below_drew1|refine below_set ?_ GE288.out)|exact HB.out))) : w.heap.size ≤ gb315))
             have n10_:=Aside0.mk ((by rw [hg];exact Nat.ne_of_lt (blk_lt (g:=gb288) (o:=.cells #[.slice (some ad295) l0_0.length c0_0,.slice A0_1 l0_1.length c0_1] 32 (0,0)) (by (with_reducible repeat (first|refine blk_drewN ?_ _|refine blk_drew ?_|refine blk_alloc ?_ _));exact BK288.out)) : gb288 ≠ gb315))
             have n11_:=Aside0.mk ((by rw [hg];exact Nat.ne_of_gt (blk_lt (g:=gb288) (o:=.cells #[.slice (some ad295) l0_0.length c0_0,.slice A0_1 l0_1.length c0_1] 32 (0,0)) (by (with_reducible repeat (first|refine blk_drewN ?_ _|refine blk_drew ?_|refine blk_alloc ?_ _));exact BK288.out)) : gb315 ≠ gb288))
             clear HO_5
             clear HL308_0
             clear HO311
             clear HO314
             clear BK288
             clear HR308_0
             clear HB
             have HO_5:=n0_
             have HL308_0:=n1_
             have HO311:=n2_
             have HO314:=n3_
             have BK288:=n4_
             have HR308_0:=n5_
             have HB:=n6_
             have BK315:=n7_
             have GW315:=n8_
             have GE315:=n9_
             have NB288_315:=n10_
             have NB315_288:=n11_
             clear n0_ n1_ n2_ n3_ n4_ n5_ n6_ n7_ n8_ n9_ n10_ n11_
             clear hb hbox hg
             refine hK.out _ _ ⟨(blk_cell BK288.out 0).trans rfl,(blk_cell BK288.out 1).trans rfl,HS2_⟩ (fun hHeld=>?_)
             clear hK K
             refine norm_ (a':=?_) ?_ ?_
             rotate_left
             ·show Act.put _ (some 7) _ = _
              simp only [Act.put,List.setIfInBounds_toArray,List.set_cons_zero,List.set_cons_succ,i64_w,i32_w]
              rfl
             exact norm_ (by simp only [putAll,Act.put,List.setIfInBounds_toArray,List.set_cons_zero,List.set_cons_succ]) (hCont (v310,v313,gb315) _ ⟨hHeld,(by (with_reducible repeat (first|apply Kd.V_alloc|apply Kd.V_drewN|apply Kd.V_drew));exact Kd.V_mono HL308_0.out (fun _ hk=>by first|exact ⟨hk.1.1.1.1.1,⟨hk.1.1.2,⟨hk.1.2,⟨hk.1.1.1.2,⟨hk.1.1.1.1.2,hk.2⟩⟩⟩⟩⟩|grind)),(by (with_reducible repeat (first|apply Kd.N_alloc|apply Kd.N_drewN|apply Kd.N_drew));exact Kd.N_mono HO311.out (fun _ hk=>by first|exact ⟨hk.1.1,⟨hk.1.2.1,⟨hk.1.2.2.1,⟨hk.1.2.2.2,hk.2⟩⟩⟩⟩|grind)),(by (with_reducible repeat (first|apply Kd.R_alloc|apply Kd.R_drewN|apply Kd.R_drew));exact Kd.R_mono HO314.out (fun _ hk=>hk.1)),(by (with_reducible repeat (first|apply Kd.N_alloc|apply Kd.N_drewN|apply Kd.N_drew));exact Kd.N_mono HO_5.out (fun _ hk=>by first|exact ⟨hk.1.1.1.1,⟨hk.1.1.2,⟨hk.1.2,⟨hk.1.1.1.2,hk.2⟩⟩⟩⟩|grind)),(by (with_reducible repeat (first|refine blk_drewN ?_ _|refine blk_drew ?_|refine blk_alloc ?_ _));exact BK288.out),(by (with_reducible repeat (first|refine blk_drewN ?_ _|refine blk_drew ?_|refine blk_alloc ?_ _));exact BK315.out),GW315.out,GE315.out,NB288_315.out,NB315_288.out,(by repeat (first|(with_reducible first|exact HB.out|apply below_alloc|apply pw_below_drewN|apply below_drew1|refine below_set ?_ GE288.out|refine below_set ?_ GE315.out)|exact HB.out))⟩)
            ·skip
             refine box_step ?hg (N:=7) ?hd (cs:=#[.slice none 0 0,.slice none 0 0]) (t:=32) ?hr ?_;(case hd=>rfl);(case hg=>rfl);(case hr=>first|(go_simp;done)|(go_simp;rfl))
             intro gb315 hg w63 hbox hb
             have HS2_:=(hb.cell (World.block_lt_of_cell? _ _ (hHeld.2.2))).trans (hHeld.2.2)
             have n0_:=Aside0.mk (Kd.N_below (Kd.N_elderB (by (with_reducible repeat (first|apply Kd.N_alloc|apply Kd.N_drewN|apply Kd.N_drew));exact HO_5.out) gb315 (Nat.le_of_eq hg.symm)) hb)
             have n1_:=Aside0.mk (Kd.V_below (Kd.V_elderB (by (with_reducible repeat (first|apply Kd.V_alloc|apply Kd.V_drewN|apply Kd.V_drew));exact HL308_0.out) gb315 (Nat.le_of_eq hg.symm)) hb)
             have n2_:=Aside0.mk (blk_below (g:=gb288) (o:=.cells #[.slice (some ad295) l0_0.length c0_0,.slice A0_1 l0_1.length c0_1] 32 (0,0)) (by (with_reducible repeat (first|refine blk_drewN ?_ _|refine blk_drew ?_|refine blk_alloc ?_ _));exact BK288.out) hb)
             have n3_:=Aside0.mk (Kd.C_below (by repeat (first|(with_reducible exact HR308_0.out)|(with_reducible refine Kd.C_alloc ?_ _)|(with_reducible refine Kd.C_drewN ?_ _)|(with_reducible refine Kd.C_drew ?_)|exact HR308_0.out)) hb)
             have n4_:=Aside0.mk (below_step (by repeat (first|(with_reducible first|exact HB.out|apply below_alloc|apply pw_below_drewN|apply below_drew1|refine below_set ?_ GE288.out)|exact HB.out)) hb)
             have n5_:=Aside0.mk (hbox)
             have n6_:=Aside0.mk ((by rw [hg];exact (below_size (by repeat (first|(with_reducible first|exact HB.out|apply below_alloc|apply pw_below_drewN|apply below_drew1|refine below_set ?_ GE288.out)|exact HB.out))) : w.heap.size ≤ gb315))
             have n7_:=Aside0.mk ((by rw [hg];exact (below_size (by repeat (first|(with_reducible first|exact HB.out|apply below_alloc|apply pw_below_drewN|apply below_drew1|refine below_set ?_ GE288.out)|exact HB.out))) : w.heap.size ≤ gb315))
             have n8_:=Aside0.mk ((by rw [hg];exact Nat.ne_of_lt (blk_lt (g:=gb288) (o:=.cells #[.slice (some ad295) l0_0.length c0_0,.slice A0_1 l0_1.length c0_1] 32 (0,0)) (by (with_reducible repeat (first|refine blk_drewN ?_ _|refine blk_drew ?_|refine blk_alloc ?_ _));exact BK288.out)) : gb288 ≠ gb315))
             have n9_:=Aside0.mk ((by rw [hg];exact Nat.ne_of_gt (blk_lt (g:=gb288) (o:=.cells #[.slice (some ad295) l0_0.length c0_0,.slice A0_1 l0_1.length c0_1] 32 (0,0)) (by (with_reducible repeat (first|refine blk_drewN ?_ _|refine blk_drew ?_|refine blk_alloc ?_ _));exact BK288.out)) : gb315 ≠ gb288))
             clear HO_5
             clear HL308_0
             clear BK288
             clear HR308_0
             clear HB
             have HO_5:=n0_
             have HL308_0:=n1_
             have BK288:=n2_
             have HR308_0:=n3_
             have HB:=n4_
             have BK315:=n5_
             have GW315:=n6_
             have GE315:=n7_
             have NB288_315:=n8_
             have NB315_288:=n9_
             clear n0_ n1_ n2_ n3_ n4_ n5_ n6_ n7_ n8_ n9_
             clear hb hbox hg
             refine hK.out _ _ ⟨(blk_cell BK288.out 0).trans rfl,(blk_cell BK288.out 1).trans rfl,HS2_⟩ (fun hHeld=>?_)
             clear hK K
             refine norm_ (a':=?_) ?_ ?_
             rotate_left
             ·show Act.put _ (some 7) _ = _
              simp only [Act.put,List.setIfInBounds_toArray,List.set_cons_zero,List.set_cons_succ,i64_w,i32_w]
              rfl
             refine one_ (i:=5) (N:=some 45) #[true,true,true,true,true,true,true,false] rfl rfl (one_of HT_.out (by kernel_rfl)) (by decide) (fun K hK=>?_)
             refine goes_ Try.func102 (by kernel_rfl) rfl #[.agg #[.slice (some ad295) l0_0.length c0_0,.slice A0_1 l0_1.length c0_1],.slice A308_0 (rd_L1 t305 x6_2).length c308_0] (by rfl) rfl rfl (by (try simp only [List.map_toArray,List.map_cons,List.map_nil]);first|done|rfl|(simp only [List.length_drop,List.length_take];rfl)) ?_
             with_reducible refine (spec_l2Part.calls k2 _ _ l0_0 _ _ l0_1 _ _ (rd_L1 t305 x6_2) t309 t312 _ ?side1 ?side2 ?side3 ?side4 ?side5 ?side6 A21.out).mono ?_
             (case side1=>repeat (first|exact (Kd.C_below HR0_0.out HB.out)|(with_reducible refine Kd.C_alloc ?_ _)|(with_reducible refine Kd.C_drewN ?_ _)|(with_reducible refine Kd.C_drew ?_)))
             (case side2=>exact HC0_0.out)
             (case side3=>repeat (first|exact (Kd.C_below HR0_1.out HB.out)|(with_reducible refine Kd.C_alloc ?_ _)|(with_reducible refine Kd.C_drewN ?_ _)|(with_reducible refine Kd.C_drew ?_)))
             (case side4=>exact HC0_1.out)
             (case side5=>repeat (first|exact (by repeat (first|(with_reducible exact HR308_0.out)|(with_reducible refine Kd.C_alloc ?_ _)|(with_reducible refine Kd.C_drewN ?_ _)|(with_reducible refine Kd.C_drew ?_)|exact HR308_0.out))|(with_reducible refine Kd.C_alloc ?_ _)|(with_reducible refine Kd.C_drewN ?_ _)|(with_reducible refine Kd.C_drew ?_)))
             (case side6=>exact HC308_0.out)
             rintro e w64 ⟨v310,v313,rfl,ho0,ho1,hb⟩
             have HS2_:=(hb.cell (World.block_lt_of_cell? _ _ (hHeld.2.2))).trans (hHeld.2.2)
             refine ⟨_,rfl,?_⟩
             have n0_:=Aside0.mk (Kd.N_mono (Kd.N_told (Kd.N_told (Kd.N_old (by (with_reducible repeat (first|apply Kd.N_alloc|apply Kd.N_drewN|apply Kd.N_drew));exact HO_5.out) hb) (by first|exact Kd.N_base ho0|exact Kd.S_base ho0)) (Kd.R_base ho1)) (fun _ h_=>h_.1))
             have n1_:=Aside0.mk (Kd.V_mono (Kd.V_told (Kd.V_told (Kd.V_old (by (with_reducible repeat (first|apply Kd.V_alloc|apply Kd.V_drewN|apply Kd.V_drew));exact HL308_0.out) hb) (by first|exact Kd.N_base ho0|exact Kd.S_base ho0)) (Kd.R_base ho1)) (fun _ h_=>h_.1))
             have n2_:=Aside0.mk (Kd.N_lower (Kd.N_mono (ok':=fun k_=>(w.heap.size ≤ k_) ∧ some k_ ≠ (v313 : Value).ownBlock ∧ some k_ ≠ (.slice (some ad308) t305.length co61 : Value).ownBlock ∧ k_ ≠ gb288 ∧ k_ ≠ gb315) (Kd.S_N (Kd.S_bound ho0)) (fun k_ hk_=>⟨(Nat.le_trans (below_size (by repeat (first|(with_reducible first|exact HB.out|apply below_alloc|apply pw_below_drewN|apply below_drew1|refine below_set ?_ GE288.out|refine below_set ?_ GE315.out)|exact HB.out))) hk_.2.1),hk_.1,(Kd.fresh' (Kd.N_lt (by (with_reducible repeat (first|apply Kd.N_alloc|apply Kd.N_drewN|apply Kd.N_drew));exact HO_5.out)) k_ hk_.2.1),(Kd.freshB (g:=gb288) (o:=.cells #[.slice (some ad295) l0_0.length c0_0,.slice A0_1 l0_1.length c0_1] 32 (0,0)) (by (with_reducible repeat (first|refine blk_drewN ?_ _|refine blk_drew ?_|refine blk_alloc ?_ _));exact BK288.out) k_ hk_.2.1),(Kd.freshB (g:=gb315) (o:=.cells #[.slice none 0 0,.slice none 0 0] 32 (0,0)) (by (with_reducible repeat (first|refine blk_drewN ?_ _|refine blk_drew ?_|refine blk_alloc ?_ _));exact BK315.out) k_ hk_.2.1)⟩)) (below_size (by repeat (first|(with_reducible first|exact HB.out|apply below_alloc|apply pw_below_drewN|apply below_drew1|refine below_set ?_ GE288.out|refine below_set ?_ GE315.out)|exact HB.out))))
             have n3_:=Aside0.mk (Kd.R_lower (Kd.R_newM (M:=fun k_=>(w.heap.size ≤ k_)) ho1 (below_size (by repeat (first|(with_reducible first|exact HB.out|apply below_alloc|apply pw_below_drewN|apply below_drew1|refine below_set ?_ GE288.out|refine below_set ?_ GE315.out)|exact HB.out))) (fun k_ h_=>h_)) (below_size (by repeat (first|(with_reducible first|exact HB.out|apply below_alloc|apply pw_below_drewN|apply below_drew1|refine below_set ?_ GE288.out|refine below_set ?_ GE315.out)|exact HB.out))))
             have n4_:=Aside0.mk (blk_below (g:=gb288) (o:=.cells #[.slice (some ad295) l0_0.length c0_0,.slice A0_1 l0_1.length c0_1] 32 (0,0)) (by (with_reducible repeat (first|refine blk_drewN ?_ _|refine blk_drew ?_|refine blk_alloc ?_ _));exact BK288.out) hb)
             have n5_:=Aside0.mk (Kd.C_below (by repeat (first|(with_reducible exact HR308_0.out)|(with_reducible refine Kd.C_alloc ?_ _)|(with_reducible refine Kd.C_drewN ?_ _)|(with_reducible refine Kd.C_drew ?_)|exact HR308_0.out)) hb)
             have n6_:=Aside0.mk (blk_below (g:=gb315) (o:=.cells #[.slice none 0 0,.slice none 0 0] 32 (0,0)) (by (with_reducible repeat (first|refine blk_drewN ?_ _|refine blk_drew ?_|refine blk_alloc ?_ _));exact BK315.out) hb)
             have n7_:=Aside0.mk (below_step (by repeat (first|(with_reducible first|exact HB.out|apply below_alloc|apply pw_below_drewN|apply below_drew1|refine below_set ?_ GE288.out|refine below_set ?_ GE315.out)|exact HB.out)) hb)
             clear HO_5
             clear HL308_0
             clear BK288
             clear HR308_0
             clear BK315
             clear HB
             have HO_5:=n0_
             have HL308_0:=n1_
             have HO311:=n2_
             have HO314:=n3_
             have BK288:=n4_
             have HR308_0:=n5_
             have BK315:=n6_
             have HB:=n7_
             clear n0_ n1_ n2_ n3_ n4_ n5_ n6_ n7_
             (try clear hb)
             (try clear hb2)
             (try clear hk)
             (try clear hi)
             (try clear ho0)
             (try clear ho1)
             refine hK.out _ _ ⟨(blk_cell BK288.out 0).trans rfl,(blk_cell BK288.out 1).trans rfl,HS2_⟩ (fun hHeld=>?_)
             clear hK K
             refine norm_ (a':=?_) ?_ ?_
             rotate_left
             ·show Act.put _ (some 45) _ = _
              simp only [Act.put,List.setIfInBounds_toArray,List.set_cons_zero,List.set_cons_succ,i64_w,i32_w]
              rfl
             exact norm_ (by simp only [putAll,Act.put,List.setIfInBounds_toArray,List.set_cons_zero,List.set_cons_succ]) (hCont (v310,v313,gb315) _ ⟨hHeld,(by (with_reducible repeat (first|apply Kd.V_alloc|apply Kd.V_drewN|apply Kd.V_drew));exact Kd.V_mono HL308_0.out (fun _ hk=>by first|exact ⟨hk.1.1.1.1.1,⟨hk.1.2,⟨hk.2,⟨hk.1.1.1.2,⟨hk.1.1.1.1.2,hk.1.1.2⟩⟩⟩⟩⟩|grind)),(by (with_reducible repeat (first|apply Kd.N_alloc|apply Kd.N_drewN|apply Kd.N_drew));exact HO311.out),(by (with_reducible repeat (first|apply Kd.R_alloc|apply Kd.R_drewN|apply Kd.R_drew));exact Kd.R_mono HO314.out (fun _ hk=>hk.1)),(by (with_reducible repeat (first|apply Kd.N_alloc|apply Kd.N_drewN|apply Kd.N_drew));exact Kd.N_mono HO_5.out (fun _ hk=>by first|exact ⟨hk.1.1.1.1,⟨hk.1.2,⟨hk.2,⟨hk.1.1.1.2,hk.1.1.2⟩⟩⟩⟩|grind)),(by (with_reducible repeat (first|refine blk_drewN ?_ _|refine blk_drew ?_|refine blk_alloc ?_ _));exact BK288.out),(by (with_reducible repeat (first|refine blk_drewN ?_ _|refine blk_drew ?_|refine blk_alloc ?_ _));exact BK315.out),GW315.out,GE315.out,NB288_315.out,NB315_288.out,(by repeat (first|(with_reducible first|exact HB.out|apply below_alloc|apply pw_below_drewN|apply below_drew1|refine below_set ?_ GE288.out|refine below_set ?_ GE315.out)|exact HB.out))⟩)
           rintro ⟨v310,v313,gb315⟩ w65 ⟨hS_,h0_,h1_,h2_,h3_,h4_,h5_,h6_,h7_,h8_,h9_,h10_⟩
           have n0_ : Aside0 (Kd.V (Kd.int .i64) 3 w65 w.heap.size (fun k_=>(w.heap.size ≤ k_) ∧ some k_ ≠ (v310 : Value).ownBlock ∧ some k_ ≠ (v313 : Value).ownBlock ∧ some k_ ≠ (.slice (some ad308) t305.length co61 : Value).ownBlock ∧ k_ ≠ gb288 ∧ k_ ≠ gb315) (.slice A308_0 (rd_L1 t305 x6_2).length c308_0) (rd_L1 t305 x6_2)):=⟨h0_⟩
           have n1_ : Aside0 (Kd.N (Kd.slice 3 (Kd.int .i64)) 26 w65 w.heap.size (fun k_=>(w.heap.size ≤ k_) ∧ some k_ ≠ (v313 : Value).ownBlock ∧ some k_ ≠ (.slice (some ad308) t305.length co61 : Value).ownBlock ∧ k_ ≠ gb288 ∧ k_ ≠ gb315) v310 t309):=⟨h1_⟩
           have n2_ : Aside0 (Kd.R (Kd.int .i64) 3 w65 w.heap.size (fun k_=>(w.heap.size ≤ k_)) v313 t312):=⟨h2_⟩
           have n3_ : Aside0 (Kd.N (Kd.slice 3 (Kd.int .i64)) 26 w65 w.heap.size (fun k_=>(w.heap.size ≤ k_) ∧ some k_ ≠ (v310 : Value).ownBlock ∧ some k_ ≠ (v313 : Value).ownBlock ∧ k_ ≠ gb288 ∧ k_ ≠ gb315) (.slice (some ad308) t305.length co61) t305):=⟨h3_⟩
           have n4_ : Aside0 (w65.heap[gb288]? = some (.cells #[.slice (some ad295) l0_0.length c0_0,.slice A0_1 l0_1.length c0_1] 32 (0,0))):=⟨h4_⟩
           have n5_ : Aside0 (w65.heap[gb315]? = some (.cells #[.slice none 0 0,.slice none 0 0] 32 (0,0))):=⟨h5_⟩
           have n6_ : Aside0 (w.heap.size ≤ gb315):=⟨h6_⟩
           have n7_ : Aside0 (w.heap.size ≤ gb315):=⟨h7_⟩
           have n8_ : Aside0 (gb288 ≠ gb315):=⟨h8_⟩
           have n9_ : Aside0 (gb315 ≠ gb288):=⟨h9_⟩
           have n10_ : Aside0 (Below w.heap.size w w65):=⟨h10_⟩
           clear HO_5
           clear BK288
           clear HB
           clear h0_ h1_ h2_ h3_ h4_ h5_ h6_ h7_ h8_ h9_ h10_
           have HL308_0:=n0_
           have HO311:=n1_
           have HO314:=n2_
           have HO_5:=n3_
           have BK288:=n4_
           have BK315:=n5_
           have GW315:=n6_
           have GE315:=n7_
           have NB288_315:=n8_
           have NB315_288:=n9_
           have HB:=n10_
           clear n0_ n1_ n2_ n3_ n4_ n5_ n6_ n7_ n8_ n9_ n10_
           have hHeld : w65.cell? ⟨gb288,0,none⟩ = some (.slice (some ad295) l0_0.length c0_0) ∧ w65.cell? ⟨gb288,1,none⟩ = some (.slice A0_1 l0_1.length c0_1) ∧ w65.cell? (ad308.add (x6_2).toNat) = some (.slice A308_0 (rd_L1 t305 x6_2).length c308_0):=hS_
           obtain ⟨Ao66,co66,eo66⟩:=Kd.N_slice HO311.out
           (first|subst eo66|(injection eo66 with f1_ f2_ f3_;have f4_:=f1_.symm;have f5_:=f3_.symm;clear f1_ f2_ f3_;subst f4_;subst f5_))
           obtain ⟨Ao68,co68,eo68⟩:=Kd.R_slice HO314.out
           (first|subst eo68|(injection eo68 with f1_ f2_ f3_;have f4_:=f1_.symm;have f5_:=f3_.symm;clear f1_ f2_ f3_;subst f4_;subst f5_))
           refine norm_ (a':=?_) ?_ ?_
           rotate_left
           ·simp only [putAll,Act.put,List.setIfInBounds_toArray,List.set_cons_zero,List.set_cons_succ]
            rfl
           refine one_ (i:=7) (N:=none) #[true,true,true,true,true,true,true,true] rfl rfl (one_of HT_.out (by kernel_rfl)) (by decide) (fun K hK=>?_)
           have hs67 : w65.cell? ⟨gb315,0,none⟩ = some (.slice none 0 0):=(blk_cell BK315.out 0).trans rfl
           have hfs67:=blk_frozen BK315.out 0
           have hns67_0:=NB288_315.out
           have hms67_0:=NB315_288.out
           have hs69 : w65.cell? ⟨gb315,1,none⟩ = some (.slice none 0 0):=(blk_cell BK315.out 1).trans rfl
           have hfs69:=blk_frozen BK315.out 1
           have hns69_0:=NB288_315.out
           have hms69_0:=NB315_288.out
           refine skip_ (w1:=?_) (by rfl) rfl ?_ ?_
           rotate_left
           ·go_simp
            rfl
           refine hK.out _ _ ⟨((cell_far (p:=⟨gb315,_,none⟩) NB288_315.out _).trans (((cell_far (p:=⟨gb315,_,none⟩) NB288_315.out _).trans (hHeld.1)))),((cell_far (p:=⟨gb315,_,none⟩) NB288_315.out _).trans (((cell_far (p:=⟨gb315,_,none⟩) NB288_315.out _).trans (hHeld.2.1)))),((cell_far (p:=⟨gb315,_,none⟩) (by first|exact Kd.own_blk (Kd.N_away HO_5.out (fun _ hk=>hk.2.2.2.2))|(rw [add_block];exact Kd.own_blk (Kd.N_away HO_5.out (fun _ hk=>hk.2.2.2.2)))|(show (Addr.add _ _).block ≠ _;rw [add_block];exact Kd.own_blk (Kd.N_away HO_5.out (fun _ hk=>hk.2.2.2.2)))|(dsimp only;exact Kd.own_blk (Kd.N_away HO_5.out (fun _ hk=>hk.2.2.2.2)))) _).trans (((cell_far (p:=⟨gb315,_,none⟩) (by first|exact Kd.own_blk (Kd.N_away HO_5.out (fun _ hk=>hk.2.2.2.2))|(rw [add_block];exact Kd.own_blk (Kd.N_away HO_5.out (fun _ hk=>hk.2.2.2.2)))|(show (Addr.add _ _).block ≠ _;rw [add_block];exact Kd.own_blk (Kd.N_away HO_5.out (fun _ hk=>hk.2.2.2.2)))|(dsimp only;exact Kd.own_blk (Kd.N_away HO_5.out (fun _ hk=>hk.2.2.2.2)))) _).trans (hHeld.2.2))))⟩ (fun hHeld=>?_)
           clear hK K
           refine done_ (done_of HT_.out (by kernel_rfl)) ?_
           (try clear hHeld)
           (try clear hHeld)
           have hnb70:=NB315_288.out
           have hnc70:=NB288_315.out
           have hcz71_0 : w65.cell? ⟨gb315,0,none⟩ = some (.slice none 0 0):=(blk_cell BK315.out 0).trans rfl
           have hcz71_1 : w65.cell? ⟨gb315,1,none⟩ = some (.slice none 0 0):=(blk_cell BK315.out 1).trans rfl
           have hfz71_0:=blk_frozen BK315.out 0
           have hfz71_1:=blk_frozen BK315.out 1
           try go_wp2_with (first|((with_reducible refine gate_callee (f:=87) rfl ?_);refine goesL_ (some 49) rfl rfl Try.func87 (by kernel_rfl) rfl #[.slice Ao66 t309.length co66] rfl (by (try simp only [List.map_toArray,List.map_cons,List.map_nil]);first|done|rfl|(simp only [List.length_drop,List.length_take];rfl)) ?_;(with_reducible refine (spec_l4Equations.calls k2 _ _ t309 t316 _ ?side1 ?side2 A22.out).mono ?_);(case side1=>refine (Kd.N_reads' (e:=26) (base:=w.heap.size) (ok:=fun k_=>((w.heap.size ≤ k_) ∧ (some k_ ≠ (.slice Ao68 t312.length co68 : Value).ownBlock ∧ (some k_ ≠ (.slice (some ad308) t305.length co61 : Value).ownBlock ∧ (k_ ≠ gb288 ∧ k_ ≠ gb315))))) (n:=t309.length) (c:=co66) ?_).2.2;exact (by (with_reducible repeat (first|apply Kd.N_alloc|apply Kd.N_drewN|apply Kd.N_drew));exact (Kd.N_mono (Kd.N_far (p:=⟨gb315,1,none⟩) (Kd.N_far (p:=⟨gb315,0,none⟩) (Kd.N_mono HO311.out (fun k_ hk=>(⟨hk,hk.2.2.2.2⟩ : _ ∧ k_ ≠ gb315))) (fun _ hk=>hk.2) (.slice Ao66 t309.length co66)) (fun _ hk=>hk.2) (.slice Ao68 t312.length co68)) (fun _ h_=>h_.1))));(case side2=>exact (Kd.N_reads' HO311.out).2.1);rintro e w72 ⟨v317,rfl,ho0,hb⟩;refine ⟨_,rfl,?_⟩;have n0_:=Aside0.mk (Kd.N_elder' (by (with_reducible repeat (first|apply Kd.N_alloc|apply Kd.N_drewN|apply Kd.N_drew));exact (Kd.N_mono (Kd.N_far (p:=⟨gb315,1,none⟩) (Kd.N_far (p:=⟨gb315,0,none⟩) (Kd.N_mono HO_5.out (fun k_ hk=>(⟨hk,hk.2.2.2.2⟩ : _ ∧ k_ ≠ gb315))) (fun _ hk=>hk.2) (.slice Ao66 t309.length co66)) (fun _ hk=>hk.2) (.slice Ao68 t312.length co68)) (fun _ h_=>h_.1))) (by first|exact Kd.N_base ho0|exact Kd.S_base ho0) hb);have n1_:=Aside0.mk (Kd.V_elder' (by (with_reducible repeat (first|apply Kd.V_alloc|apply Kd.V_drewN|apply Kd.V_drew));exact (Kd.V_mono (Kd.V_far (p:=⟨gb315,1,none⟩) (Kd.V_far (p:=⟨gb315,0,none⟩) (Kd.V_mono HL308_0.out (fun k_ hk=>(⟨hk,hk.2.2.2.2.2⟩ : _ ∧ k_ ≠ gb315))) (fun _ hk=>hk.2) (.slice Ao66 t309.length co66)) (fun _ hk=>hk.2) (.slice Ao68 t312.length co68)) (fun _ h_=>h_.1))) (by first|exact Kd.N_base ho0|exact Kd.S_base ho0) hb);have n2_:=Aside0.mk (Kd.N_elder' (by (with_reducible repeat (first|apply Kd.N_alloc|apply Kd.N_drewN|apply Kd.N_drew));exact (Kd.N_mono (Kd.N_far (p:=⟨gb315,1,none⟩) (Kd.N_far (p:=⟨gb315,0,none⟩) (Kd.N_mono HO311.out (fun k_ hk=>(⟨hk,hk.2.2.2.2⟩ : _ ∧ k_ ≠ gb315))) (fun _ hk=>hk.2) (.slice Ao66 t309.length co66)) (fun _ hk=>hk.2) (.slice Ao68 t312.length co68)) (fun _ h_=>h_.1))) (by first|exact Kd.N_base ho0|exact Kd.S_base ho0) hb);have n3_:=Aside0.mk (Kd.R_below (by (with_reducible repeat (first|apply Kd.R_alloc|apply Kd.R_drewN|apply Kd.R_drew));exact (Kd.R_mono (Kd.R_far (p:=⟨gb315,1,none⟩) (Kd.R_far (p:=⟨gb315,0,none⟩) (Kd.R_types HO314.out BK315.out (by decide)) (fun _ hk=>hk.2) (.slice Ao66 t309.length co66)) (fun _ hk=>hk.2) (.slice Ao68 t312.length co68)) (fun _ h_=>h_.1))) hb);have n4_:=Aside0.mk (Kd.N_lower (Kd.N_mono (ok':=fun k_=>(w.heap.size ≤ k_) ∧ some k_ ≠ (.slice (some ad308) t305.length co61 : Value).ownBlock ∧ some k_ ≠ (.slice Ao66 t309.length co66 : Value).ownBlock ∧ some k_ ≠ (.slice Ao68 t312.length co68 : Value).ownBlock ∧ k_ ≠ gb288 ∧ k_ ≠ gb315) (Kd.S_N (Kd.S_bound ho0)) (fun k_ hk_=>⟨(Nat.le_trans (below_size (by repeat (first|(with_reducible first|exact HB.out|apply below_alloc|apply pw_below_drewN|apply below_drew1|refine below_set ?_ GE288.out|refine below_set ?_ GE315.out)|exact HB.out))) hk_.2.1),(Kd.fresh' (Kd.N_lt (by (with_reducible repeat (first|apply Kd.N_alloc|apply Kd.N_drewN|apply Kd.N_drew));exact (Kd.N_mono (Kd.N_far (p:=⟨gb315,1,none⟩) (Kd.N_far (p:=⟨gb315,0,none⟩) (Kd.N_mono HO_5.out (fun k_ hk=>(⟨hk,hk.2.2.2.2⟩ : _ ∧ k_ ≠ gb315))) (fun _ hk=>hk.2) (.slice Ao66 t309.length co66)) (fun _ hk=>hk.2) (.slice Ao68 t312.length co68)) (fun _ h_=>h_.1)))) k_ hk_.2.1),(Kd.fresh' (Kd.N_lt (by (with_reducible repeat (first|apply Kd.N_alloc|apply Kd.N_drewN|apply Kd.N_drew));exact (Kd.N_mono (Kd.N_far (p:=⟨gb315,1,none⟩) (Kd.N_far (p:=⟨gb315,0,none⟩) (Kd.N_mono HO311.out (fun k_ hk=>(⟨hk,hk.2.2.2.2⟩ : _ ∧ k_ ≠ gb315))) (fun _ hk=>hk.2) (.slice Ao66 t309.length co66)) (fun _ hk=>hk.2) (.slice Ao68 t312.length co68)) (fun _ h_=>h_.1)))) k_ hk_.2.1),(Kd.fresh' (Kd.R_lt (by (with_reducible repeat (first|apply Kd.R_alloc|apply Kd.R_drewN|apply Kd.R_drew));exact (Kd.R_mono (Kd.R_far (p:=⟨gb315,1,none⟩) (Kd.R_far (p:=⟨gb315,0,none⟩) (Kd.R_types HO314.out BK315.out (by decide)) (fun _ hk=>hk.2) (.slice Ao66 t309.length co66)) (fun _ hk=>hk.2) (.slice Ao68 t312.length co68)) (fun _ h_=>h_.1)))) k_ hk_.2.1),(Kd.freshB (g:=gb288) (o:=.cells #[.slice (some ad295) l0_0.length c0_0,.slice A0_1 l0_1.length c0_1] 32 (0,0)) (by (with_reducible repeat (first|refine blk_drewN ?_ _|refine blk_drew ?_|refine blk_alloc ?_ _));refine blk_far ?_ NB288_315.out _;(with_reducible repeat (first|refine blk_drewN ?_ _|refine blk_drew ?_|refine blk_alloc ?_ _));refine blk_far ?_ NB288_315.out _;(with_reducible repeat (first|refine blk_drewN ?_ _|refine blk_drew ?_|refine blk_alloc ?_ _));exact BK288.out) k_ hk_.2.1),(Kd.freshB (g:=gb315) (o:=.cells #[.slice Ao66 t309.length co66,.slice Ao68 t312.length co68] 32 (0,0)) (by (with_reducible repeat (first|refine blk_drewN ?_ _|refine blk_drew ?_|refine blk_alloc ?_ _));refine blk_put (cs:=#[.slice Ao66 t309.length co66,.slice none 0 0]) ?_ 1 _ rfl;(with_reducible repeat (first|refine blk_drewN ?_ _|refine blk_drew ?_|refine blk_alloc ?_ _));refine blk_put (cs:=#[.slice none 0 0,.slice none 0 0]) ?_ 0 _ rfl;(with_reducible repeat (first|refine blk_drewN ?_ _|refine blk_drew ?_|refine blk_alloc ?_ _));exact BK315.out) k_ hk_.2.1)⟩)) (below_size (by repeat (first|(with_reducible first|exact HB.out|apply below_alloc|apply pw_below_drewN|apply below_drew1|refine below_set ?_ GE288.out|refine below_set ?_ GE315.out)|exact HB.out))));have n5_:=Aside0.mk (blk_below (g:=gb288) (o:=.cells #[.slice (some ad295) l0_0.length c0_0,.slice A0_1 l0_1.length c0_1] 32 (0,0)) (by (with_reducible repeat (first|refine blk_drewN ?_ _|refine blk_drew ?_|refine blk_alloc ?_ _));refine blk_far ?_ NB288_315.out _;(with_reducible repeat (first|refine blk_drewN ?_ _|refine blk_drew ?_|refine blk_alloc ?_ _));refine blk_far ?_ NB288_315.out _;(with_reducible repeat (first|refine blk_drewN ?_ _|refine blk_drew ?_|refine blk_alloc ?_ _));exact BK288.out) hb);have n6_:=Aside0.mk (blk_below (g:=gb315) (o:=.cells #[.slice Ao66 t309.length co66,.slice Ao68 t312.length co68] 32 (0,0)) (by (with_reducible repeat (first|refine blk_drewN ?_ _|refine blk_drew ?_|refine blk_alloc ?_ _));refine blk_put (cs:=#[.slice Ao66 t309.length co66,.slice none 0 0]) ?_ 1 _ rfl;(with_reducible repeat (first|refine blk_drewN ?_ _|refine blk_drew ?_|refine blk_alloc ?_ _));refine blk_put (cs:=#[.slice none 0 0,.slice none 0 0]) ?_ 0 _ rfl;(with_reducible repeat (first|refine blk_drewN ?_ _|refine blk_drew ?_|refine blk_alloc ?_ _));exact BK315.out) hb);have n7_:=Aside0.mk (below_step (by repeat (first|(with_reducible first|exact HB.out|apply below_alloc|apply pw_below_drewN|apply below_drew1|refine below_set ?_ GE288.out|refine below_set ?_ GE315.out)|exact HB.out)) hb);clear HO_5;clear HL308_0;clear HO311;clear HO314;clear BK288;clear BK315;clear HB;have HO_5:=n0_;have HL308_0:=n1_;have HO311:=n2_;have HO314:=n3_;have HO318:=n4_;have BK288:=n5_;have BK315:=n6_;have HB:=n7_;clear n0_ n1_ n2_ n3_ n4_ n5_ n6_ n7_;(try clear hb);(try clear hb2);(try clear hk);(try clear hi);(try clear ho0);obtain ⟨Ao73,co73,eo73⟩:=Kd.N_slice HO318.out;subst eo73)|((with_reducible refine gate_callee (f:=137) rfl ?_);refine goesL_ (some 51) rfl rfl Try.func137 (by kernel_rfl) rfl #[.slice Ao73 t316.length co73,.int .i64 x4_1] rfl (by (try simp only [List.map_toArray,List.map_cons,List.map_nil]);first|done|rfl|(simp only [List.length_drop,List.length_take];rfl)) ?_;(with_reducible refine (spec_l4Relation.calls k2 _ _ t316 x4_1 t319 false _ ?side1 ?side2 A23.out).mono ?_);(case side1=>repeat (first|exact (Kd.N_reads' HO318.out).2.2|(with_reducible refine Kd.C_alloc ?_ _)|(with_reducible refine Kd.C_drewN ?_ _)|(with_reducible refine Kd.C_drew ?_)));(case side2=>exact (Kd.N_reads' HO318.out).2.1);rintro e w74 ⟨v321,rfl,ho0,hb⟩;refine ⟨_,rfl,?_⟩;have n0_:=Aside0.mk (Kd.N_elder' (by (with_reducible repeat (first|apply Kd.N_alloc|apply Kd.N_drewN|apply Kd.N_drew));exact HO_5.out) (Kd.R_base ho0) hb);have n1_:=Aside0.mk (Kd.V_elder' (by (with_reducible repeat (first|apply Kd.V_alloc|apply Kd.V_drewN|apply Kd.V_drew));exact HL308_0.out) (Kd.R_base ho0) hb);have n2_:=Aside0.mk (Kd.N_elder' (by (with_reducible repeat (first|apply Kd.N_alloc|apply Kd.N_drewN|apply Kd.N_drew));exact HO311.out) (Kd.R_base ho0) hb);have n3_:=Aside0.mk (Kd.R_elder' (by (with_reducible repeat (first|apply Kd.R_alloc|apply Kd.R_drewN|apply Kd.R_drew));exact HO314.out) (Kd.R_base ho0) hb);have n4_:=Aside0.mk (Kd.N_elder' (by (with_reducible repeat (first|apply Kd.N_alloc|apply Kd.N_drewN|apply Kd.N_drew));exact HO318.out) (Kd.R_base ho0) hb);have n5_:=Aside0.mk (Kd.R_lower (Kd.R_new' (Kd.R_newM (M:=fun k_=>(w.heap.size ≤ k_)) ho0 (below_size (by repeat (first|(with_reducible first|exact HB.out|apply below_alloc|apply pw_below_drewN|apply below_drew1|refine below_set ?_ GE288.out|refine below_set ?_ GE315.out)|exact HB.out))) (fun k_ h_=>h_)) (Kd.R_lt (by (with_reducible repeat (first|apply Kd.R_alloc|apply Kd.R_drewN|apply Kd.R_drew));exact HO314.out))) (below_size (by repeat (first|(with_reducible first|exact HB.out|apply below_alloc|apply pw_below_drewN|apply below_drew1|refine below_set ?_ GE288.out|refine below_set ?_ GE315.out)|exact HB.out))));have n6_:=Aside0.mk (blk_below (g:=gb288) (o:=.cells #[.slice (some ad295) l0_0.length c0_0,.slice A0_1 l0_1.length c0_1] 32 (0,0)) (by (with_reducible repeat (first|refine blk_drewN ?_ _|refine blk_drew ?_|refine blk_alloc ?_ _));exact BK288.out) hb);have n7_:=Aside0.mk (blk_below (g:=gb315) (o:=.cells #[.slice Ao66 t309.length co66,.slice Ao68 t312.length co68] 32 (0,0)) (by (with_reducible repeat (first|refine blk_drewN ?_ _|refine blk_drew ?_|refine blk_alloc ?_ _));exact BK315.out) hb);have n8_:=Aside0.mk (below_step (by repeat (first|(with_reducible first|exact HB.out|apply below_alloc|apply pw_below_drewN|apply below_drew1|refine below_set ?_ GE288.out|refine below_set ?_ GE315.out)|exact HB.out)) hb);clear HO_5;clear HL308_0;clear HO311;clear HO314;clear HO318;clear BK288;clear BK315;clear HB;have HO_5:=n0_;have HL308_0:=n1_;have HO311:=n2_;have HO314:=n3_;have HO318:=n4_;have HO322:=n5_;have BK288:=n6_;have BK315:=n7_;have HB:=n8_;clear n0_ n1_ n2_ n3_ n4_ n5_ n6_ n7_ n8_;(try clear hb);(try clear hb2);(try clear hk);(try clear hi);(try clear ho0)))
           go_roundg k2
           case measure=>have:=HK1.out;have:=HK2.out;omega
           case rel=>exact ⟨(wrap64 (x6_2 + 1)),(by first|rfl|(simp;done)|(simp [*];done)),H',⟨by have:=HK1.out;have:=HK2.out;omega⟩,⟨by (with_reducible repeat (first|apply Kd.N_alloc|apply Kd.N_drewN|apply Kd.N_drew));exact Kd.N_mono HO_5.out (fun _ hk=>by first|exact ⟨hk.1.1.1,hk.1.1.2.2.2.1⟩|grind)⟩,⟨by (with_reducible repeat (first|refine blk_drewN ?_ _|refine blk_drew ?_|refine blk_alloc ?_ _));exact BK288.out⟩,⟨by repeat (first|(with_reducible first|exact HB.out|apply below_alloc|apply pw_below_drewN|apply below_drew1|refine below_set ?_ GE288.out|refine below_set ?_ GE315.out)|exact HB.out)⟩⟩
         ·rw [if_neg c20] at H
          exact absurd H (by simp)
        ·rw [if_neg c19] at H
         have c19b0 : decide (x6_2 < (t305.length : Int)) = false:=decide_eq_false c19
         clear c19
         have H':=Aside0.mk H
         clear H
         obtain ⟨Ao75,co75,eo75⟩:=Kd.N_slice HO_5.out
         subst eo75
         go_wp2
         go_roundg k2
         case measure=>have:=HK1.out;have:=HK2.out;omega
         case rel=>exact ⟨(wrap64 (x4_1 + 1)),(by first|rfl|(simp;done)|(simp [*];done)),H',⟨by have:=HK1.out;have:=HK2.out;omega⟩,⟨by (with_reducible repeat (first|refine blk_drewN ?_ _|refine blk_drew ?_|refine blk_alloc ?_ _));exact BK288.out⟩,⟨by repeat (first|(with_reducible first|exact HB.out|apply below_alloc|apply pw_below_drewN|apply below_drew1|refine below_set ?_ GE288.out)|exact HB.out)⟩⟩
     ·rw [if_neg c12] at H
      have c12b0 : decide (x4_1 ≤ (wrap64 (((rd_L1 l0_0 0).length : Int) + 2))) = false:=decide_eq_false c12
      clear c12
      obtain ⟨y296,hy296⟩ : ∃ y_ : List Int,y_ = (([] : List Int)):=⟨_,rfl⟩
      replace H : (some (y296,(([] : List Int)))) = some (r1,r2):=by first|(rw [hy296];with_reducible exact H)|(have H2_:=(Option.bind_some _ _).symm.trans H;rw [hy296];with_reducible exact H2_)|(have H2_:=(Option.bind_some _ _).symm.trans H;with_reducible exact H2_)|with_reducible exact H|(rw [hy296];exact H)|exact H
      have Ny296:=Aside0.mk hy296
      clear hy296
      obtain ⟨y299,hy299⟩ : ∃ y_ : List Int,y_ = (([] : List Int)):=⟨_,rfl⟩
      replace H : (some (y296,y299)) = some (r1,r2):=by first|(rw [hy299];with_reducible exact H)|(have H2_:=(Option.bind_some _ _).symm.trans H;rw [hy299];with_reducible exact H2_)|(have H2_:=(Option.bind_some _ _).symm.trans H;with_reducible exact H2_)|with_reducible exact H|(rw [hy299];exact H)|exact H
      have Ny299:=Aside0.mk hy299
      clear hy299
      simp only [Option.some.injEq,Prod.mk.injEq] at H
      obtain ⟨rfl,rfl⟩:=H
      have hcz76_0 : wr.cell? ⟨gb288,0,none⟩ = some (.slice A0_0 l0_0.length c0_0):=(blk_cell BK288.out 0).trans rfl
      have hcz76_1 : wr.cell? ⟨gb288,1,none⟩ = some (.slice A0_1 l0_1.length c0_1):=(blk_cell BK288.out 1).trans rfl
      have hfz76_0:=blk_frozen BK288.out 0
      have hfz76_1:=blk_frozen BK288.out 1
      have p295 : 0 ≤ (0 : Int):=(by omega)
      have q295 : 0 < (l0_0.length : Int):=of_decide_eq_true (by first|(with_reducible assumption)|assumption)
      obtain ⟨ad295,A295_0,c295_0,e295,hx295_0,hl295_0,hi295_0⟩:=at_L1 HR0_0.out 0 p295 q295
      cases e295
      have qi295 : (0 < l0_0.length) = True:=eq_true (by omega)
      (try rw [show ((0 : Int)).toNat = 0 from rfl] at hx295_0)
      (try rw [Addr.add_zero'] at hx295_0)
      replace hx295_0:=(HB.out.cell (World.block_lt_of_cell? w _ hx295_0)).trans hx295_0
      have HR295_0:=Aside0.mk hi295_0
      have HC295_0:=Aside0.mk hl295_0
      clear hi295_0 hl295_0
      replace p295:=eq_true p295
      replace q295:=eq_true q295
      go_wp2_with (first|((with_reducible refine gate_dst (N:=69) rfl ?_);refine Kd.R_lit (Kd.int .i64) _ 3 ?hg (N:=69) ?hd (xs:=([] : List Int)) (inner:=[]) (ok:=fun _=>True) (okp:=fun _=>True) ?hr ?hp (fun _ hk=>hk) trivial (Below.refl _ _) (Nat.le_refl _) (by simp) ?_;(case hd=>rfl);(case hg=>rfl);(case hr=>first|(go_simp;done)|(go_simp;rfl));(case hp=>exact (Reps.none _ _));intro v297 w77 ho78 hb hg_ hnew_;clear hg_ hnew_;(first|rw [← Ny296.out] at ho78|(simp only [Int.reduceToNat] at ho78;rw [← Ny296.out] at ho78));have n0_:=Aside0.mk (Kd.R_lower (Kd.R_newM (M:=fun k_=>(w.heap.size ≤ k_)) ho78 (below_size (by repeat (first|(with_reducible first|exact HB.out|apply below_alloc|apply pw_below_drewN|apply below_drew1|refine below_set ?_ GE288.out)|exact HB.out))) (fun k_ h_=>h_)) (below_size (by repeat (first|(with_reducible first|exact HB.out|apply below_alloc|apply pw_below_drewN|apply below_drew1|refine below_set ?_ GE288.out)|exact HB.out))));have n1_:=Aside0.mk (blk_below (g:=gb288) (o:=.cells #[.slice (some ad295) l0_0.length c0_0,.slice A0_1 l0_1.length c0_1] 32 (0,0)) (by (with_reducible repeat (first|refine blk_drewN ?_ _|refine blk_drew ?_|refine blk_alloc ?_ _));exact BK288.out) hb);have n2_:=Aside0.mk (below_step (by repeat (first|(with_reducible first|exact HB.out|apply below_alloc|apply pw_below_drewN|apply below_drew1|refine below_set ?_ GE288.out)|exact HB.out)) hb);clear BK288;clear HB;have HO298:=n0_;have BK288:=n1_;have HB:=n2_;clear n0_ n1_ n2_;clear hb ho78)|((with_reducible refine gate_dst (N:=70) rfl ?_);refine Kd.R_lit (Kd.int .i64) _ 3 ?hg (N:=70) ?hd (xs:=([] : List Int)) (inner:=[]) (ok:=fun _=>True) (okp:=fun _=>True) ?hr ?hp (fun _ hk=>hk) trivial (Below.refl _ _) (Nat.le_refl _) (by simp) ?_;(case hd=>rfl);(case hg=>rfl);(case hr=>first|(go_simp;done)|(go_simp;rfl));(case hp=>exact (Reps.none _ _));intro v300 w79 ho80 hb hg_ hnew_;clear hg_ hnew_;(first|rw [← Ny299.out] at ho80|(simp only [Int.reduceToNat] at ho80;rw [← Ny299.out] at ho80));have n0_:=Aside0.mk (Kd.R_elder' (by (with_reducible repeat (first|apply Kd.R_alloc|apply Kd.R_drewN|apply Kd.R_drew));exact HO298.out) (Kd.R_base ho80) hb);have n1_:=Aside0.mk (Kd.R_lower (Kd.R_new' (Kd.R_newM (M:=fun k_=>(w.heap.size ≤ k_)) ho80 (below_size (by repeat (first|(with_reducible first|exact HB.out|apply below_alloc|apply pw_below_drewN|apply below_drew1|refine below_set ?_ GE288.out)|exact HB.out))) (fun k_ h_=>h_)) (Kd.R_lt (by (with_reducible repeat (first|apply Kd.R_alloc|apply Kd.R_drewN|apply Kd.R_drew));exact HO298.out))) (below_size (by repeat (first|(with_reducible first|exact HB.out|apply below_alloc|apply pw_below_drewN|apply below_drew1|refine below_set ?_ GE288.out)|exact HB.out))));have n2_:=Aside0.mk (blk_below (g:=gb288) (o:=.cells #[.slice (some ad295) l0_0.length c0_0,.slice A0_1 l0_1.length c0_1] 32 (0,0)) (by (with_reducible repeat (first|refine blk_drewN ?_ _|refine blk_drew ?_|refine blk_alloc ?_ _));exact BK288.out) hb);have n3_:=Aside0.mk (below_step (by repeat (first|(with_reducible first|exact HB.out|apply below_alloc|apply pw_below_drewN|apply below_drew1|refine below_set ?_ GE288.out)|exact HB.out)) hb);clear HO298;clear BK288;clear HB;have HO298:=n0_;have HO301:=n1_;have BK288:=n2_;have HB:=n3_;clear n0_ n1_ n2_ n3_;clear hb ho80))
      go_ret2
      exact ⟨_,_,by first|rfl|(simp [errW_none,errW_some] <;> rfl)|(simp [*,errW_none,errW_some] <;> rfl),Kd.R_V (by (with_reducible repeat (first|apply Kd.R_alloc|apply Kd.R_drewN|apply Kd.R_drew));exact Kd.R_mono HO298.out (fun _ hk=>by first|exact ⟨hk.1.1,hk.2⟩|grind)),by (with_reducible repeat (first|apply Kd.R_alloc|apply Kd.R_drewN|apply Kd.R_drew));exact Kd.R_mono HO301.out (fun _ hk=>hk.1.1),by repeat (first|(with_reducible first|exact HB.out|apply below_alloc|apply pw_below_drewN|apply below_drew1|refine below_set ?_ GE288.out)|exact HB.out)⟩
    ·rw [if_neg c11] at H
     exact absurd H (by simp)
end Go.Proofs.Ytdjclffkidoohaa.QFnExactCanPart
