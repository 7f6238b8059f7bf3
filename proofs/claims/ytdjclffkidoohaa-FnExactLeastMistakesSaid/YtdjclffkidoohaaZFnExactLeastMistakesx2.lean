/- Some of the functions that the law reaches, and what they tell; no condition. -/
import Derived.Test.YtdjclffkidoohaaVFnExactLeastMistakes
import Derived.Test.YtdjclffkidoohaaZFnExactLeastMistakesx0
import Derived.Test.YtdjclffkidoohaaZFnExactLeastMistakesx1
namespace Go.Proofs.Ytdjclffkidoohaa.QFnExactLeastMistakes
open Go.RowKit Go.Proofs.YtdjclffkidoohaaW.PrintWords Go.Proofs.YtdjclffkidoohaaW.PrintLast Go.Proofs.YtdjclffkidoohaaW.PrintMore
attribute [local go_sem] max2_int min2_int max_two min_two max_three min_three max_four min_four   -- for this text's walks alone
set_option linter.unusedVariables false
set_option linter.unusedSimpArgs false
def Kw.f (k : Nat) (l0_0 : List (List Int)) (l0_1 : List Int) (l1_0 : List (List Int)) (l1_1 : List Int) : Option (Bool):=(Jw.f k l0_0 l1_0).bind fun t135=>(if t135 = true then ((Gv.f k l0_1 l1_1).bind fun t136=>(if t136 = true then (some true) else (some false))) else (some false))
set_option maxHeartbeats 8000000 in
set_option maxRecDepth 100000 in
theorem Kw.calls (k : Nat) (A0_0 : Option Addr) (c0_0 : Nat) (l0_0 : List (List Int)) (A0_1 : Option Addr) (c0_1 : Nat) (l0_1 : List Int) (A1_0 : Option Addr) (c1_0 : Nat) (l1_0 : List (List Int)) (A1_1 : Option Addr) (c1_1 : Nat) (l1_1 : List Int) (r : Bool) (w : World) (hr0_0 : Kd.C (Kd.slice 3 (Kd.int .i64)) w A0_0 l0_0.length l0_0) (hc0_0 : l0_0.length ≤ c0_0) (hr0_1 : Kd.C (Kd.int .i64) w A0_1 l0_1.length l0_1) (hc0_1 : l0_1.length ≤ c0_1) (hr1_0 : Kd.C (Kd.slice 3 (Kd.int .i64)) w A1_0 l1_0.length l1_0) (hc1_0 : l1_0.length ≤ c1_0) (hr1_1 : Kd.C (Kd.int .i64) w A1_1 l1_1.length l1_1) (hc1_1 : l1_1.length ≤ c1_1) (h : Kw.f k l0_0 l0_1 l1_0 l1_1 = some r) :
  Calls Try.prog 22 #[.agg #[.slice A0_0 l0_0.length c0_0,.slice A0_1 l0_1.length c0_1],.agg #[.slice A1_0 l1_0.length c1_0,.slice A1_1 l1_1.length c1_1]] w fun e w'=>e = .returned (.bool r) ∧ Below w.heap.size w w':=by
 have hu32:=Try.underlying32;have HR0_0:=Jq.mk hr0_0;have HC0_0:=Jq.mk hc0_0;clear hr0_0 hc0_0;have HR0_1:=Jq.mk hr0_1;have HC0_1:=Jq.mk hc0_1;clear hr0_1 hc0_1;have HR1_0:=Jq.mk hr1_0;have HC1_0:=Jq.mk hc1_0;clear hr1_0 hc1_0;have HR1_1:=Jq.mk hr1_1;have HC1_1:=Jq.mk hc1_1;clear hr1_1 hc1_1;have HB:=Jq.mk (Below.refl w.heap.size w);have H : ((Jw.f k l0_0 l1_0).bind fun t135=>(if t135 = true then ((Gv.f k l0_1 l1_1).bind fun t136=>(if t136 = true then (some true) else (some false))) else (some false))) = some r:=h;clear h;replace H:=Option.bind_eq_some_iff.mp H;obtain ⟨t135,A30,H⟩:=H;replace H : (if t135 = true then ((Gv.f k l0_1 l1_1).bind fun t136=>(if t136 = true then (some true) else (some false))) else (some false)) = some r:=H;have A3:=Jq.mk A30;clear A30;(by_cases c4 : t135 = true);(·subst c4;(have H1 : ((Gv.f k l0_1 l1_1).bind fun t136=>(if t136 = true then (some true) else (some false))) = some r:=by rw [if_pos rfl] at H;exact H);clear H;have H:=H1;clear H1;replace H:=Option.bind_eq_some_iff.mp H;obtain ⟨t136,A50,H⟩:=H;replace H : (if t136 = true then (some true) else (some false)) = some r:=H;have A5:=Jq.mk A50;clear A50;(by_cases c6 : t136 = true);(·subst c6;(have H1 : (some true) = some r:=by rw [if_pos rfl] at H;exact H);clear H;have H:=H1;clear H1;obtain rfl:=Option.some.inj H;(go_enter Try.func22,Try.ntmps22);(go_wp2_with (first|((with_reducible refine Xz (N:=2) rfl ?_);refine Zz ?hg (N:=2) ?hd (cs:=#[.slice A0_0 l0_0.length c0_0,.slice A0_1 l0_1.length c0_1]) (t:=32) ?hr ?_;(case hd=>rfl);(case hg=>rfl);(case hr=>first|(go_simp;done)|(go_simp;rfl));intro gb133 hg w7 hbox hb;have BK133:=Jq.mk (hbox);have GW133:=Jq.mk ((by rw [hg];exact (Kj (by repeat (first|(with_reducible first|exact HB.out|apply Yq|apply Kq|apply Xq)|exact HB.out))) : w.heap.size ≤ gb133));have GE133:=Jq.mk ((by rw [hg];exact (Kj (by repeat (first|(with_reducible first|exact HB.out|apply Yq|apply Kq|apply Xq)|exact HB.out))) : w.heap.size ≤ gb133));replace HB:=Jq.mk (Yj (by repeat (first|(with_reducible first|exact HB.out|apply Yq|apply Kq|apply Xq)|exact HB.out)) hb);clear hb hbox hg)|((with_reducible refine Xz (N:=3) rfl ?_);refine Zz ?hg (N:=3) ?hd (cs:=#[.slice A1_0 l1_0.length c1_0,.slice A1_1 l1_1.length c1_1]) (t:=32) ?hr ?_;(case hd=>rfl);(case hg=>rfl);(case hr=>first|(go_simp;done)|(go_simp;rfl));intro gb134 hg w8 hbox hb;have BK134:=Jq.mk (hbox);have GW134:=Jq.mk ((by rw [hg];exact (Kj (by repeat (first|(with_reducible first|exact HB.out|apply Yq|apply Kq|apply Xq|refine Zq ?_ GE133.out)|exact HB.out))) : w.heap.size ≤ gb134));have GE134:=Jq.mk ((by rw [hg];exact (Kj (by repeat (first|(with_reducible first|exact HB.out|apply Yq|apply Kq|apply Xq|refine Zq ?_ GE133.out)|exact HB.out))) : w.heap.size ≤ gb134));replace HB:=Jq.mk (Yj (by repeat (first|(with_reducible first|exact HB.out|apply Yq|apply Kq|apply Xq|refine Zq ?_ GE133.out)|exact HB.out)) hb);have NB133_134:=Jq.mk ((by rw [hg];exact Nat.ne_of_lt (blk_lt (g:=gb133) (o:=.cells #[.slice A0_0 l0_0.length c0_0,.slice A0_1 l0_1.length c0_1] 32 (0,0)) BK133.out) : gb133 ≠ gb134));have NB134_133:=Jq.mk ((by rw [hg];exact Nat.ne_of_gt (blk_lt (g:=gb133) (o:=.cells #[.slice A0_0 l0_0.length c0_0,.slice A0_1 l0_1.length c0_1] 32 (0,0)) BK133.out) : gb134 ≠ gb133));replace BK133:=Jq.mk (Vj (g:=gb133) (o:=.cells #[.slice A0_0 l0_0.length c0_0,.slice A0_1 l0_1.length c0_1] 32 (0,0)) BK133.out hb);clear hb hbox hg;have hnb9:=NB133_134.out;have hnc9:=NB134_133.out;have hcz10_0 : w8.cell? ⟨gb133,0,none⟩ = some (.slice A0_0 l0_0.length c0_0):=(Xj BK133.out 0).trans rfl;have hcz10_1 : w8.cell? ⟨gb133,1,none⟩ = some (.slice A0_1 l0_1.length c0_1):=(Xj BK133.out 1).trans rfl;have hfz10_0:=Zj BK133.out 0;have hfz10_1:=Zj BK133.out 1;have hcz11_0 : w8.cell? ⟨gb134,0,none⟩ = some (.slice A1_0 l1_0.length c1_0):=(Xj BK134.out 0).trans rfl;have hcz11_1 : w8.cell? ⟨gb134,1,none⟩ = some (.slice A1_1 l1_1.length c1_1):=(Xj BK134.out 1).trans rfl;have hfz11_0:=Zj BK134.out 0;have hfz11_1:=Zj BK134.out 1)|((with_reducible refine Gj (f:=30) rfl ?_);refine Kx (some 9) rfl rfl Try.func30 (by kernel_rfl) rfl #[.slice A0_0 l0_0.length c0_0,.slice A1_0 l1_0.length c1_0] rfl (by (try simp only [List.map_toArray,List.map_cons,List.map_nil]);first|done|rfl|(simp only [List.length_drop,List.length_take];rfl)) ?_;(with_reducible refine (Jw.calls k _ _ l0_0 _ _ l1_0 true _ ?side1 ?side2 ?side3 ?side4 A3.out).mono ?_);(case side1=>repeat (first|exact (Kd.C_below HR0_0.out HB.out)|(with_reducible refine Kd.C_alloc ?_ _)|(with_reducible refine Kd.C_drewN ?_ _)|(with_reducible refine Kd.C_drew ?_)));(case side2=>exact HC0_0.out);(case side3=>repeat (first|exact (Kd.C_below HR1_0.out HB.out)|(with_reducible refine Kd.C_alloc ?_ _)|(with_reducible refine Kd.C_drewN ?_ _)|(with_reducible refine Kd.C_drew ?_)));(case side4=>exact HC1_0.out);rintro e w' ⟨rfl,⟨nd,rfl⟩⟩;refine ⟨_,rfl,?_⟩)|((with_reducible refine Gj (f:=21) rfl ?_);refine Kx (some 15) rfl rfl Try.func21 (by kernel_rfl) rfl #[.slice A0_1 l0_1.length c0_1,.slice A1_1 l1_1.length c1_1] rfl (by (try simp only [List.map_toArray,List.map_cons,List.map_nil]);first|done|rfl|(simp only [List.length_drop,List.length_take];rfl)) ?_;(with_reducible refine (Gv.calls k _ _ l0_1 _ _ l1_1 true _ ?side1 ?side2 ?side3 ?side4 A5.out).mono ?_);(case side1=>repeat (first|exact (Kd.C_below HR0_1.out (by repeat (first|(with_reducible first|exact HB.out|apply Yq|apply Kq|apply Xq|refine Zq ?_ GE133.out|refine Zq ?_ GE134.out)|exact HB.out)))|(with_reducible refine Kd.C_alloc ?_ _)|(with_reducible refine Kd.C_drewN ?_ _)|(with_reducible refine Kd.C_drew ?_)));(case side2=>exact HC0_1.out);(case side3=>repeat (first|exact (Kd.C_below HR1_1.out (by repeat (first|(with_reducible first|exact HB.out|apply Yq|apply Kq|apply Xq|refine Zq ?_ GE133.out|refine Zq ?_ GE134.out)|exact HB.out)))|(with_reducible refine Kd.C_alloc ?_ _)|(with_reducible refine Kd.C_drewN ?_ _)|(with_reducible refine Kd.C_drew ?_)));(case side4=>exact HC1_1.out);rintro e w' ⟨rfl,⟨nd,rfl⟩⟩;refine ⟨_,rfl,?_⟩)));(go_ret);exact ⟨by first|rfl|(simp [Kz,Jz] <;> rfl)|(simp [*,Kz,Jz] <;> rfl),by repeat (first|(with_reducible first|exact HB.out|apply Yq|apply Kq|apply Xq|refine Zq ?_ GE133.out|refine Zq ?_ GE134.out)|exact HB.out)⟩);(·replace c6:=Bool.eq_false_iff.mpr c6;subst c6;(have H1 : (some false) = some r:=by rw [if_neg (show ¬ (false = true) by decide)] at H;exact H);clear H;have H:=H1;clear H1;obtain rfl:=Option.some.inj H;(go_enter Try.func22,Try.ntmps22);(go_wp2_with (first|((with_reducible refine Xz (N:=2) rfl ?_);refine Zz ?hg (N:=2) ?hd (cs:=#[.slice A0_0 l0_0.length c0_0,.slice A0_1 l0_1.length c0_1]) (t:=32) ?hr ?_;(case hd=>rfl);(case hg=>rfl);(case hr=>first|(go_simp;done)|(go_simp;rfl));intro gb133 hg w12 hbox hb;have BK133:=Jq.mk (hbox);have GW133:=Jq.mk ((by rw [hg];exact (Kj (by repeat (first|(with_reducible first|exact HB.out|apply Yq|apply Kq|apply Xq)|exact HB.out))) : w.heap.size ≤ gb133));have GE133:=Jq.mk ((by rw [hg];exact (Kj (by repeat (first|(with_reducible first|exact HB.out|apply Yq|apply Kq|apply Xq)|exact HB.out))) : w.heap.size ≤ gb133));replace HB:=Jq.mk (Yj (by repeat (first|(with_reducible first|exact HB.out|apply Yq|apply Kq|apply Xq)|exact HB.out)) hb);clear hb hbox hg)|((with_reducible refine Xz (N:=3) rfl ?_);refine Zz ?hg (N:=3) ?hd (cs:=#[.slice A1_0 l1_0.length c1_0,.slice A1_1 l1_1.length c1_1]) (t:=32) ?hr ?_;(case hd=>rfl);(case hg=>rfl);(case hr=>first|(go_simp;done)|(go_simp;rfl));intro gb134 hg w13 hbox hb;have BK134:=Jq.mk (hbox);have GW134:=Jq.mk ((by rw [hg];exact (Kj (by repeat (first|(with_reducible first|exact HB.out|apply Yq|apply Kq|apply Xq|refine Zq ?_ GE133.out)|exact HB.out))) : w.heap.size ≤ gb134));have GE134:=Jq.mk ((by rw [hg];exact (Kj (by repeat (first|(with_reducible first|exact HB.out|apply Yq|apply Kq|apply Xq|refine Zq ?_ GE133.out)|exact HB.out))) : w.heap.size ≤ gb134));replace HB:=Jq.mk (Yj (by repeat (first|(with_reducible first|exact HB.out|apply Yq|apply Kq|apply Xq|refine Zq ?_ GE133.out)|exact HB.out)) hb);have NB133_134:=Jq.mk ((by rw [hg];exact Nat.ne_of_lt (blk_lt (g:=gb133) (o:=.cells #[.slice A0_0 l0_0.length c0_0,.slice A0_1 l0_1.length c0_1] 32 (0,0)) BK133.out) : gb133 ≠ gb134));have NB134_133:=Jq.mk ((by rw [hg];exact Nat.ne_of_gt (blk_lt (g:=gb133) (o:=.cells #[.slice A0_0 l0_0.length c0_0,.slice A0_1 l0_1.length c0_1] 32 (0,0)) BK133.out) : gb134 ≠ gb133));replace BK133:=Jq.mk (Vj (g:=gb133) (o:=.cells #[.slice A0_0 l0_0.length c0_0,.slice A0_1 l0_1.length c0_1] 32 (0,0)) BK133.out hb);clear hb hbox hg;have hnb14:=NB133_134.out;have hnc14:=NB134_133.out;have hcz15_0 : w13.cell? ⟨gb133,0,none⟩ = some (.slice A0_0 l0_0.length c0_0):=(Xj BK133.out 0).trans rfl;have hcz15_1 : w13.cell? ⟨gb133,1,none⟩ = some (.slice A0_1 l0_1.length c0_1):=(Xj BK133.out 1).trans rfl;have hfz15_0:=Zj BK133.out 0;have hfz15_1:=Zj BK133.out 1;have hcz16_0 : w13.cell? ⟨gb134,0,none⟩ = some (.slice A1_0 l1_0.length c1_0):=(Xj BK134.out 0).trans rfl;have hcz16_1 : w13.cell? ⟨gb134,1,none⟩ = some (.slice A1_1 l1_1.length c1_1):=(Xj BK134.out 1).trans rfl;have hfz16_0:=Zj BK134.out 0;have hfz16_1:=Zj BK134.out 1)|((with_reducible refine Gj (f:=30) rfl ?_);refine Kx (some 9) rfl rfl Try.func30 (by kernel_rfl) rfl #[.slice A0_0 l0_0.length c0_0,.slice A1_0 l1_0.length c1_0] rfl (by (try simp only [List.map_toArray,List.map_cons,List.map_nil]);first|done|rfl|(simp only [List.length_drop,List.length_take];rfl)) ?_;(with_reducible refine (Jw.calls k _ _ l0_0 _ _ l1_0 true _ ?side1 ?side2 ?side3 ?side4 A3.out).mono ?_);(case side1=>repeat (first|exact (Kd.C_below HR0_0.out HB.out)|(with_reducible refine Kd.C_alloc ?_ _)|(with_reducible refine Kd.C_drewN ?_ _)|(with_reducible refine Kd.C_drew ?_)));(case side2=>exact HC0_0.out);(case side3=>repeat (first|exact (Kd.C_below HR1_0.out HB.out)|(with_reducible refine Kd.C_alloc ?_ _)|(with_reducible refine Kd.C_drewN ?_ _)|(with_reducible refine Kd.C_drew ?_)));(case side4=>exact HC1_0.out);rintro e w' ⟨rfl,⟨nd,rfl⟩⟩;refine ⟨_,rfl,?_⟩)|((with_reducible refine Gj (f:=21) rfl ?_);refine Kx (some 15) rfl rfl Try.func21 (by kernel_rfl) rfl #[.slice A0_1 l0_1.length c0_1,.slice A1_1 l1_1.length c1_1] rfl (by (try simp only [List.map_toArray,List.map_cons,List.map_nil]);first|done|rfl|(simp only [List.length_drop,List.length_take];rfl)) ?_;(with_reducible refine (Gv.calls k _ _ l0_1 _ _ l1_1 false _ ?side1 ?side2 ?side3 ?side4 A5.out).mono ?_);(case side1=>repeat (first|exact (Kd.C_below HR0_1.out (by repeat (first|(with_reducible first|exact HB.out|apply Yq|apply Kq|apply Xq|refine Zq ?_ GE133.out|refine Zq ?_ GE134.out)|exact HB.out)))|(with_reducible refine Kd.C_alloc ?_ _)|(with_reducible refine Kd.C_drewN ?_ _)|(with_reducible refine Kd.C_drew ?_)));(case side2=>exact HC0_1.out);(case side3=>repeat (first|exact (Kd.C_below HR1_1.out (by repeat (first|(with_reducible first|exact HB.out|apply Yq|apply Kq|apply Xq|refine Zq ?_ GE133.out|refine Zq ?_ GE134.out)|exact HB.out)))|(with_reducible refine Kd.C_alloc ?_ _)|(with_reducible refine Kd.C_drewN ?_ _)|(with_reducible refine Kd.C_drew ?_)));(case side4=>exact HC1_1.out);rintro e w' ⟨rfl,⟨nd,rfl⟩⟩;refine ⟨_,rfl,?_⟩)));(go_ret);exact ⟨by first|rfl|(simp [Kz,Jz] <;> rfl)|(simp [*,Kz,Jz] <;> rfl),by repeat (first|(with_reducible first|exact HB.out|apply Yq|apply Kq|apply Xq|refine Zq ?_ GE133.out|refine Zq ?_ GE134.out)|exact HB.out)⟩));(·replace c4:=Bool.eq_false_iff.mpr c4;subst c4;(have H1 : (some false) = some r:=by rw [if_neg (show ¬ (false = true) by decide)] at H;exact H);clear H;have H:=H1;clear H1;obtain rfl:=Option.some.inj H;(go_enter Try.func22,Try.ntmps22);(go_wp2_with (first|((with_reducible refine Xz (N:=2) rfl ?_);refine Zz ?hg (N:=2) ?hd (cs:=#[.slice A0_0 l0_0.length c0_0,.slice A0_1 l0_1.length c0_1]) (t:=32) ?hr ?_;(case hd=>rfl);(case hg=>rfl);(case hr=>first|(go_simp;done)|(go_simp;rfl));intro gb133 hg w17 hbox hb;have BK133:=Jq.mk (hbox);have GW133:=Jq.mk ((by rw [hg];exact (Kj (by repeat (first|(with_reducible first|exact HB.out|apply Yq|apply Kq|apply Xq)|exact HB.out))) : w.heap.size ≤ gb133));have GE133:=Jq.mk ((by rw [hg];exact (Kj (by repeat (first|(with_reducible first|exact HB.out|apply Yq|apply Kq|apply Xq)|exact HB.out))) : w.heap.size ≤ gb133));replace HB:=Jq.mk (Yj (by repeat (first|(with_reducible first|exact HB.out|apply Yq|apply Kq|apply Xq)|exact HB.out)) hb);clear hb hbox hg)|((with_reducible refine Xz (N:=3) rfl ?_);refine Zz ?hg (N:=3) ?hd (cs:=#[.slice A1_0 l1_0.length c1_0,.slice A1_1 l1_1.length c1_1]) (t:=32) ?hr ?_;(case hd=>rfl);(case hg=>rfl);(case hr=>first|(go_simp;done)|(go_simp;rfl));intro gb134 hg w18 hbox hb;have BK134:=Jq.mk (hbox);have GW134:=Jq.mk ((by rw [hg];exact (Kj (by repeat (first|(with_reducible first|exact HB.out|apply Yq|apply Kq|apply Xq|refine Zq ?_ GE133.out)|exact HB.out))) : w.heap.size ≤ gb134));have GE134:=Jq.mk ((by rw [hg];exact (Kj (by repeat (first|(with_reducible first|exact HB.out|apply Yq|apply Kq|apply Xq|refine Zq ?_ GE133.out)|exact HB.out))) : w.heap.size ≤ gb134));replace HB:=Jq.mk (Yj (by repeat (first|(with_reducible first|exact HB.out|apply Yq|apply Kq|apply Xq|refine Zq ?_ GE133.out)|exact HB.out)) hb);have NB133_134:=Jq.mk ((by rw [hg];exact Nat.ne_of_lt (blk_lt (g:=gb133) (o:=.cells #[.slice A0_0 l0_0.length c0_0,.slice A0_1 l0_1.length c0_1] 32 (0,0)) BK133.out) : gb133 ≠ gb134));have NB134_133:=Jq.mk ((by rw [hg];exact Nat.ne_of_gt (blk_lt (g:=gb133) (o:=.cells #[.slice A0_0 l0_0.length c0_0,.slice A0_1 l0_1.length c0_1] 32 (0,0)) BK133.out) : gb134 ≠ gb133));replace BK133:=Jq.mk (Vj (g:=gb133) (o:=.cells #[.slice A0_0 l0_0.length c0_0,.slice A0_1 l0_1.length c0_1] 32 (0,0)) BK133.out hb);clear hb hbox hg;have hnb19:=NB133_134.out;have hnc19:=NB134_133.out;have hcz20_0 : w18.cell? ⟨gb133,0,none⟩ = some (.slice A0_0 l0_0.length c0_0):=(Xj BK133.out 0).trans rfl;have hcz20_1 : w18.cell? ⟨gb133,1,none⟩ = some (.slice A0_1 l0_1.length c0_1):=(Xj BK133.out 1).trans rfl;have hfz20_0:=Zj BK133.out 0;have hfz20_1:=Zj BK133.out 1;have hcz21_0 : w18.cell? ⟨gb134,0,none⟩ = some (.slice A1_0 l1_0.length c1_0):=(Xj BK134.out 0).trans rfl;have hcz21_1 : w18.cell? ⟨gb134,1,none⟩ = some (.slice A1_1 l1_1.length c1_1):=(Xj BK134.out 1).trans rfl;have hfz21_0:=Zj BK134.out 0;have hfz21_1:=Zj BK134.out 1)|((with_reducible refine Gj (f:=30) rfl ?_);refine Kx (some 9) rfl rfl Try.func30 (by kernel_rfl) rfl #[.slice A0_0 l0_0.length c0_0,.slice A1_0 l1_0.length c1_0] rfl (by (try simp only [List.map_toArray,List.map_cons,List.map_nil]);first|done|rfl|(simp only [List.length_drop,List.length_take];rfl)) ?_;(with_reducible refine (Jw.calls k _ _ l0_0 _ _ l1_0 false _ ?side1 ?side2 ?side3 ?side4 A3.out).mono ?_);(case side1=>repeat (first|exact (Kd.C_below HR0_0.out HB.out)|(with_reducible refine Kd.C_alloc ?_ _)|(with_reducible refine Kd.C_drewN ?_ _)|(with_reducible refine Kd.C_drew ?_)));(case side2=>exact HC0_0.out);(case side3=>repeat (first|exact (Kd.C_below HR1_0.out HB.out)|(with_reducible refine Kd.C_alloc ?_ _)|(with_reducible refine Kd.C_drewN ?_ _)|(with_reducible refine Kd.C_drew ?_)));(case side4=>exact HC1_0.out);rintro e w' ⟨rfl,⟨nd,rfl⟩⟩;refine ⟨_,rfl,?_⟩)));(go_ret);exact ⟨by first|rfl|(simp [Kz,Jz] <;> rfl)|(simp [*,Kz,Jz] <;> rfl),by repeat (first|(with_reducible first|exact HB.out|apply Yq|apply Kq|apply Xq|refine Zq ?_ GE133.out|refine Zq ?_ GE134.out)|exact HB.out)⟩)
def Yw.l0 : Nat → List Int → Int → Int → Option (Int × List Int)
|0,_,_,_=>none
|k + 1,x0,x1,x5=>if x5 < (x0.length : Int) then (if 0 ≤ x5 then (Yw.l0 k (x0.set (x5 : Int).toNat x1) (wrap64 (x1 + 1)) (wrap64 (x5 + 1))) else (none)) else (some (x1,x0))
def Yw.f (k : Nat) (l0 : List Int) (a1 : Int) : Option (Int × List Int):=Yw.l0 k l0 a1 0
theorem Yw.mono_l : ∀ k,(∀ y0 y1 y2,LeO (Yw.l0 k y0 y1 y2) (Yw.l0 (k + 1) y0 y1 y2))
|0=>fun _ _ _ r h=>by simp [Yw.l0] at h
|k + 1=>by
  have ih0:=Yw.mono_l k
  ·intro y0 y1 y2;(unfold Yw.l0)
   repeat' first
  |(with_reducible exact ih0 _ _ _)
  |(with_reducible exact LeO.refl _)
  |(with_reducible exact LeO.none _)
  |(with_reducible refine LeO.ite ?_ ?_)
  |(with_reducible refine LeO.bind ?_ (fun _=>?_))
  |exact ih0 _ _ _
  |exact LeO.none _
  |refine LeO.ite ?_ ?_
  |refine LeO.bind ?_ (fun _=>?_)
theorem Yw.mono : ∀ a0 a1 k,LeO (Yw.f k a0 a1) (Yw.f (k + 1) a0 a1):=by
 intro a0 a1 k;have ih0:=Yw.mono_l k;(unfold Yw.f)
 repeat' first
  |(with_reducible exact ih0 _ _ _)
  |(with_reducible exact LeO.refl _)
  |(with_reducible exact LeO.none _)
  |(with_reducible refine LeO.ite ?_ ?_)
  |(with_reducible refine LeO.bind ?_ (fun _=>?_))
  |exact ih0 _ _ _
  |exact LeO.none _
  |refine LeO.ite ?_ ?_
  |refine LeO.bind ?_ (fun _=>?_)
set_option maxHeartbeats 8000000 in
set_option maxRecDepth 100000 in
theorem Yw.calls (k : Nat) (P0_ : Nat → Prop) (u9000_ : Value) (l0 : List Int) (a1 : Int) (r1 : Int) (r2 : List Int) (w0 w : World) (hB : Below w0.heap.size w0 w) (ho0 : Kd.R (Kd.int .i64) 3 w w0.heap.size P0_ u9000_ l0) (h : Yw.f k l0 a1 = some (r1,r2)) :
  Calls Try.prog 24 #[u9000_,.int .i64 a1] w fun e w'=>e = .returned (.int .i64 r1) ∧ Kd.R (Kd.int .i64) 3 w' w0.heap.size (fun k_=>(P0_ k_ ∨ w.heap.size ≤ k_)) u9000_ r2 ∧ Below w0.heap.size w0 w' ∧ Kept w w' (fun k_=>P0_ k_):=by
 have HO0:=Jq.mk (show Kd.R (Kd.int .i64) 3 w w0.heap.size (fun k_=>(P0_ k_ ∨ w.heap.size ≤ k_)) u9000_ l0 from Kd.R_mono ho0 (fun k_ hk=>(.inl hk)));have HK:=Jq.mk (Kept.refl w (fun k_=>P0_ k_));have HW0:=Jq.mk hB.size;have HB:=Jq.mk hB;clear hB;have H : (Yw.l0 k l0 a1 0) = some (r1,r2):=h;clear h;have H':=Jq.mk H;clear H;(go_enter Try.func24,Try.ntmps24);(go_wp2);(go_loopg [1,5] k (fun kq v1 v5 w'=>∃ (x0_1 : List Int) (x1_1 : Int) (x5_1 : Int),v1 = .int .i64 x1_1 ∧ v5 = .int .i64 x5_1 ∧ Jq (Yw.l0 kq x0_1 x1_1 x5_1 = some (r1,r2)) ∧ Jq (kq ≤ k) ∧ Jq (Kd.R (Kd.int .i64) 3 w' w0.heap.size (fun k_=>(P0_ k_ ∨ w.heap.size ≤ k_)) u9000_ x0_1) ∧ Jq (Kept w w' (fun k_=>P0_ k_)) ∧ Jq (Below w0.heap.size w0 w')));(case atStart=>exact ⟨(l0),(a1),(0),rfl,rfl,H',⟨Nat.le_refl _⟩,⟨by (with_reducible repeat (first|apply Kd.R_alloc|apply Kd.R_drewN|apply Kd.R_drew));exact HO0.out⟩,⟨HK.out⟩,⟨HB.out⟩⟩)
 case round =>
  clear H';(try clear c2);(try clear p2);obtain ⟨x0_1,x1_1,x5_1,rfl,rfl,HA,HK1,HO_0,HK,HB⟩:=hrel
  cases gk with
 |zero=>exact absurd HA.out (by simp [Yw.l0])
 |succ k1 =>
   have H:=HA.out;clear HA;(simp only [Yw.l0] at H);(by_cases c3 : x5_1 < (x0_1.length : Int));(·rw [if_pos c3] at H;have c3b0 : decide (x5_1 < (x0_1.length : Int)) = true:=decide_eq_true c3;clear c3;(by_cases c4 : 0 ≤ x5_1);(·rw [if_pos c4] at H;have c4b0 : decide (0 ≤ x5_1) = true:=decide_eq_true c4;clear c4;obtain ⟨y137,hy137⟩ : ∃ y_ : List Int,y_ = (x0_1.set (x5_1 : Int).toNat x1_1):=⟨_,rfl⟩;rw [← hy137] at H;have Ny137:=Jq.mk hy137;clear hy137;have H':=Jq.mk H;clear H;obtain ⟨Ao6,co6,eo6⟩:=Kd.R_slice HO_0.out;subst eo6;have p5 : 0 ≤ (x5_1 : Int):=of_decide_eq_true ‹_›;have q5 : (x5_1 : Int) < ((x0_1.length : Int) : Int):=of_decide_eq_true ‹_›;obtain ⟨go5,co5,eo5,gb5,gl5,cl5,HG5⟩:=Kd.R_form HO_0.out (by omega);(first|cases eo5|(injection eo5 with ea_ en_ ec_;(first|subst ea_|(injection ea_ with ea_;subst ea_));subst ec_;clear en_));have GB5:=Jq.mk gb5;have GG5:=Jq.mk HG5;clear gb5 gl5 HG5;have HMgo5:=Jq.mk (show (P0_ go5 ∨ w.heap.size ≤ go5) from (HO_0.out.1 _ rfl));obtain ⟨hx5_0,hf5_0⟩:=Kd.R_celln 0 HO_0.out (x5_1 : Int) p5 q5;replace p5:=eq_true p5;replace q5:=eq_true q5;have HP7:=Kd.R_putg HO_0.out (x5_1 : Int) x1_1;(go_wp2_with (first|((with_reducible refine gate_store (t:=3) (p:=15) rfl ?_);refine store_event (t:=3) (p:=15) (v:=?vo_w8) (w1:=(wr.setCell ⟨go5,(x5_1 : Int).toNat,none⟩ (.int .i64 x1_1))) ?hg ?ho ?hn ?hr ?_;(case ho=>rfl);(case hg=>rfl);(case hn=>rfl);(case hr=>go_simp;try rfl);intro w8 hw;have hg : wr.grownBy w8 (some go5):=(by rw [hw];exact HP7.2);have hp_ : Kd.R (Kd.int .i64) 3 w8 w0.heap.size (fun k_=>(P0_ k_ ∨ w.heap.size ≤ k_)) (.slice (some ⟨go5,0,none⟩) x0_1.length co6) y137:=(by rw [hw,Ny137.out];exact HP7.1);clear HP7;replace HB:=Jq.mk ((by rw [hw];exact Zq (HB.out) GB5.out : Below w0.heap.size w0 w8));replace HK:=Jq.mk (Kept.of_grown (S:=(fun k_=>P0_ k_)) hg (by repeat (first|(with_reducible first|exact HK.out|apply Kept.alloc|apply Kept.drewN|apply Kept.drew)|exact HK.out)) (fun k_ e_=>(HO_0.out.1 k_ e_)));replace HO_0:=Jq.mk (hp_);clear hg hw hp_)));(go_roundg k1);(case measure=>have:=HK1.out;omega);(case rel=>exact ⟨(y137),(wrap64 (x1_1 + 1)),(wrap64 (x5_1 + 1)),rfl,rfl,H',⟨by have:=HK1.out;omega⟩,⟨by (with_reducible repeat (first|apply Kd.R_alloc|apply Kd.R_drewN|apply Kd.R_drew));exact HO_0.out⟩,⟨HK.out⟩,⟨HB.out⟩⟩));(·rw [if_neg c4] at H;exact absurd H (by simp)));(·rw [if_neg c3] at H;have c3b0 : decide (x5_1 < (x0_1.length : Int)) = false:=decide_eq_false c3;clear c3;(simp only [Option.some.injEq,Prod.mk.injEq] at H);obtain ⟨rfl,rfl⟩:=H;obtain ⟨Ao9,co9,eo9⟩:=Kd.R_slice HO_0.out;subst eo9;(go_wp2);(go_ret);exact ⟨by first|rfl|(simp [Kz,Jz] <;> rfl)|(simp [*,Kz,Jz] <;> rfl),by (with_reducible repeat (first|apply Kd.R_alloc|apply Kd.R_drewN|apply Kd.R_drew));exact HO_0.out,HB.out,HK.out⟩)
def Zw.l0 : Nat → List (List Int) → Int → Int → Option (Int × List (List Int))
|0,_,_,_=>none
|k + 1,x0,x1,x5=>if x5 < (x0.length : Int) then (if 0 ≤ x5 then ((Yw.f k (rd_L1 x0 x5) x1).bind fun bt=>(Zw.l0 k (x0.set (x5 : Int).toNat bt.2) bt.1 (wrap64 (x5 + 1)))) else (none)) else (some (x1,x0))
def Zw.f (k : Nat) (l0 : List (List Int)) (a1 : Int) : Option (Int × List (List Int)):=Zw.l0 k l0 a1 0
theorem Zw.mono_l : ∀ k,(∀ y0 y1 y2,LeO (Zw.l0 k y0 y1 y2) (Zw.l0 (k + 1) y0 y1 y2))
|0=>fun _ _ _ r h=>by simp [Zw.l0] at h
|k + 1=>by
  have ih0:=Zw.mono_l k
  ·intro y0 y1 y2;(unfold Zw.l0)
   repeat' first
  |(with_reducible exact ih0 _ _ _)
  |(with_reducible exact Yw.mono _ _ _)
  |(with_reducible exact LeO.refl _)
  |(with_reducible exact LeO.none _)
  |(with_reducible refine LeO.ite ?_ ?_)
  |(with_reducible refine LeO.bind ?_ (fun _=>?_))
  |exact ih0 _ _ _
  |exact Yw.mono _ _ _
  |exact LeO.none _
  |refine LeO.ite ?_ ?_
  |refine LeO.bind ?_ (fun _=>?_)
theorem Zw.mono : ∀ a0 a1 k,LeO (Zw.f k a0 a1) (Zw.f (k + 1) a0 a1):=by
 intro a0 a1 k;have ih0:=Zw.mono_l k;(unfold Zw.f)
 repeat' first
  |(with_reducible exact ih0 _ _ _)
  |(with_reducible exact Yw.mono _ _ _)
  |(with_reducible exact LeO.refl _)
  |(with_reducible exact LeO.none _)
  |(with_reducible refine LeO.ite ?_ ?_)
  |(with_reducible refine LeO.bind ?_ (fun _=>?_))
  |exact ih0 _ _ _
  |exact Yw.mono _ _ _
  |exact LeO.none _
  |refine LeO.ite ?_ ?_
  |refine LeO.bind ?_ (fun _=>?_)
set_option maxHeartbeats 8000000 in
set_option maxRecDepth 100000 in
theorem Zw.calls (k : Nat) (P0_ : Nat → Prop) (u9000_ : Value) (l0 : List (List Int)) (a1 : Int) (r1 : Int) (r2 : List (List Int)) (w0 w : World) (hB : Below w0.heap.size w0 w) (ho0 : Kd.S (Kd.slice 3 (Kd.int .i64)) 26 w w0.heap.size P0_ u9000_ l0) (h : Zw.f k l0 a1 = some (r1,r2)) :
  Calls Try.prog 83 #[u9000_,.int .i64 a1] w fun e w'=>e = .returned (.int .i64 r1) ∧ Kd.S (Kd.slice 3 (Kd.int .i64)) 26 w' w0.heap.size P0_ u9000_ r2 ∧ Below w0.heap.size w0 w' ∧ Kept w w' (fun k_=>P0_ k_):=by
 obtain ⟨A0,c0,e0⟩:=Kd.R_slice (Kd.S_R ho0);subst e0;have HO:=Jq.mk ho0;have HB:=Jq.mk hB;have HK:=Jq.mk (Kept.refl w P0_);have H':=Jq.mk h;clear ho0 hB h;obtain ⟨n0,hn0⟩ : ∃ n0 : Nat,n0 = l0.length:=⟨_,rfl⟩;have HN:=Jq.mk hn0;rw [← hn0];rw [← hn0] at HO;clear hn0;(go_enter Try.func83,Try.ntmps83);(go_wp2);(go_loopg [1,5] k (fun kq v1 v5 w'=>∃ (ll : List (List Int)) (a : Int) (i : Int),v1 = .int .i64 a ∧ v5 = .int .i64 i ∧ Jq (Zw.l0 kq ll a i = some (r1,r2)) ∧ Jq (kq ≤ k) ∧ Jq (Kd.S (Kd.slice 3 (Kd.int .i64)) 26 w' w0.heap.size P0_ (.slice A0 n0 c0) ll) ∧ Jq (Below w0.heap.size w0 w') ∧ Jq (Kept w w' P0_)));(case atStart=>exact ⟨l0,a1,0,rfl,rfl,H',⟨Nat.le_refl _⟩,⟨HO.out⟩,⟨HB.out⟩,⟨HK.out⟩⟩)
 case round =>
  clear H' HO HB HK HN;obtain ⟨ll,a,i,rfl,rfl,HA,HK1,HO,HB,HK⟩:=hrel
  cases gk with
 |zero=>exact absurd HA.out (by simp [Zw.l0])
 |succ k1 =>
   have H:=HA.out;clear HA;(simp only [Zw.l0] at H);have hn : n0 = ll.length:=(Kd.S_reads' HO.out).1;subst hn;(by_cases c : i < (ll.length : Int));(·rw [if_pos c] at H;have cb : decide (i < (ll.length : Int)) = true:=decide_eq_true c;(by_cases c2 : 0 ≤ i);(·rw [if_pos c2] at H;obtain ⟨⟨a2,r⟩,A80,H0⟩:=Option.bind_eq_some_iff.mp H;have A8:=Jq.mk A80;have H1 : Jq (Zw.l0 k1 (ll.set i.toNat r) a2 (wrap64 (i + 1)) = some (r1,r2)):=⟨H0⟩;clear A80 H0 H;have H:=H1;clear H1;obtain ⟨g,cap,e,hg1,hg2,_⟩:=Kd.S_form HO.out (by omega);(have eA : A0 = some ⟨g,0,none⟩:=by injection e);(have eC : c0 = cap:=by injection e);clear e;subst eA;subst eC;obtain ⟨oki,cs,hcl,hM,hcc,hok,hH⟩:=Kd.S_lend HO.out [] i c2 (by simpa using c);obtain ⟨ve,rfl,hR⟩:=hM;have hx:=hcc 0 ve rfl;(simp only [show (Kd.slice 3 (Kd.int .i64)).sz = 1 from rfl,Nat.mul_one,Nat.add_zero] at hx);obtain ⟨Ae,ce,rfl⟩:=Kd.R_slice hR;(go_wp2_with fail);have hRn : (ll.getD i.toNat []) = rd_L1 ll i:=rfl;have hwr:=hg2;have hR0 : Kd.R (Kd.int .i64) 3 wr w0.heap.size oki (.slice Ae (rd_L1 ll i).length ce) (rd_L1 ll i):=hR;have hC:=Yw.calls k1 oki (.slice Ae (rd_L1 ll i).length ce) (rd_L1 ll i) a a2 r w0 wr HB.out hR0 A8.out;(have hb9 : i.toNat < ll.length:=by omega);(have he9 : rd_L1 ll i = ll[i.toNat]'hb9:=by simp [rd_L1,hb9]);rw [he9] at hC;refine hC.mono ?_;rintro e w1 ⟨rfl,hR2,hB2,hK2⟩;rw [← he9] at hR2;have hR3 : Kd.R (Kd.int .i64) 3 w1 w0.heap.size oki (.slice Ae (rd_L1 ll i).length ce) r:=Kd.R_reok rfl hR2 (fun k_ e_=>hR0.1 k_ e_);have hH2:=Kd.H_kept hH hK2 (fun k_ _ hn=>hn);have hS2:=Kd.H_back hH2 (x':=r) (okp:=oki) ⟨_,rfl,hR3⟩ (fun _ h_=>h_);have hlen : (ll.set i.toNat r).length = ll.length:=List.length_set;have hKK:=HK.out.then_ hK2 (fun k_ h_=>Or.inl (hok k_ h_).1);clear HO HB HK hH hH2 hR hR0 hC he9 hb9 hR2 hR3 hx hcc hcl;have HO:=Jq.mk hS2;have HB:=Jq.mk hB2;have HK:=Jq.mk hKK;clear hS2 hB2 hKK hK2;(go_wp2);(go_roundg k1);(case measure=>have:=HK1.out;omega);(case rel=>exact ⟨ll.set i.toNat r,a2,wrap64 (i + 1),rfl,rfl,H,⟨by have:=HK1.out;omega⟩,HO,HB,HK⟩));(·rw [if_neg c2] at H;exact absurd H (by simp)));(·rw [if_neg c] at H;have cb : decide (i < (ll.length : Int)) = false:=decide_eq_false c;obtain ⟨rfl,rfl⟩:=Prod.mk.inj (Option.some.inj H);(go_wp2);(go_ret);exact ⟨rfl,HO.out,HB.out,HK.out⟩)
theorem alloc_at_ (w : World) (o : Obj) : (w.alloc o).heap[w.heap.size]? = some o:=by unfold World.alloc;exact Array.getElem?_push_size
def Vw.f (k : Nat) (l0_0 : List (List Int)) (l0_1 : List Int) (a1 : Int) : Option (Int × List (List Int) × List Int):=(Zw.f k l0_0 a1).bind fun bt=>((Yw.f k l0_1 bt.1).bind fun bu=>(some (bu.1,bt.2,bu.2)))
theorem Vw.mono : ∀ a0 a1 a2 k,LeO (Vw.f k a0 a1 a2) (Vw.f (k + 1) a0 a1 a2):=by
 intro a0 a1 a2 k;(unfold Vw.f)
 repeat' first
  |(with_reducible exact Zw.mono _ _ _)
  |(with_reducible exact Yw.mono _ _ _)
  |(with_reducible exact LeO.refl _)
  |(with_reducible exact LeO.none _)
  |(with_reducible refine LeO.ite ?_ ?_)
  |(with_reducible refine LeO.bind ?_ (fun _=>?_))
  |exact Zw.mono _ _ _
  |exact Yw.mono _ _ _
  |exact LeO.none _
  |refine LeO.ite ?_ ?_
  |refine LeO.bind ?_ (fun _=>?_)
set_option maxHeartbeats 8000000 in
set_option maxRecDepth 100000 in
theorem Vw.calls0 (k : Nat) (P0_0_ : Nat → Prop) (u9000_ : Value) (l0_0 : List (List Int)) (P0_1_ : Nat → Prop) (u9001_ : Value) (l0_1 : List Int) (a1 : Int) (r1 : Int) (r2 : List (List Int)) (r3 : List Int) (w0 w : World) (hB : Below w0.heap.size w0 w) (ho0_0 : Kd.S (Kd.slice 3 (Kd.int .i64)) 26 w w0.heap.size P0_0_ u9000_ l0_0) (ho0_1 : Kd.R (Kd.int .i64) 3 w w0.heap.size P0_1_ u9001_ l0_1) (hap : ∀ k_,P0_0_ k_ → ¬ P0_1_ k_) (hlt : ∀ k_,P0_0_ k_ ∨ P0_1_ k_ → k_ < w.heap.size) (h : Vw.f k l0_0 l0_1 a1 = some (r1,r2,r3)) :
  Calls Try.prog 23 #[.agg #[u9000_,u9001_],.int .i64 a1] w fun e w'=>e = .returned (.int .i64 r1) ∧ Kd.S (Kd.slice 3 (Kd.int .i64)) 26 w' w0.heap.size P0_0_ u9000_ r2 ∧ Kd.R (Kd.int .i64) 3 w' w0.heap.size (fun k_=>(P0_1_ k_ ∨ w.heap.size ≤ k_)) u9001_ r3 ∧ Below w0.heap.size w0 w' ∧ Kept w w' (fun k_=>P0_0_ k_ ∨ P0_1_ k_):=by
 obtain ⟨⟨a2,rr⟩,A10,H⟩:=Option.bind_eq_some_iff.mp h;obtain ⟨⟨a3,rs⟩,A20,H⟩:=Option.bind_eq_some_iff.mp H;(simp only [Option.some.injEq,Prod.mk.injEq] at H);obtain ⟨rfl,rfl,rfl⟩:=H;have A1:=Jq.mk A10;have A2:=Jq.mk (show Yw.f k l0_1 a2 = some (a3,rs) from A20);have HAP:=Jq.mk hap;clear h A10 A20 hap H;obtain ⟨A0,c0,e0⟩:=Kd.R_slice (Kd.S_R ho0_0);subst e0;obtain ⟨B0,d0,f0⟩:=Kd.R_slice ho0_1;subst f0;have HO:=Jq.mk ho0_0;have HL:=Jq.mk ho0_1;have HB:=Jq.mk hB;clear ho0_0 ho0_1 hB;have hu38:=Try.underlying32;have HK:=Jq.mk (Kept.refl w (fun k_=>P0_0_ k_ ∨ P0_1_ k_));have HLT:=Jq.mk hlt;clear hlt;(go_enter Try.func23,Try.ntmps23);(go_wp2_with fail);have hbw : Below w.heap.size w (w.alloc (.cells #[.slice A0 l0_0.length c0,.slice B0 l0_1.length d0] 32 (0,0))):=Yq (Below.refl _ _) _;have hbox : (w.alloc (.cells #[.slice A0 l0_0.length c0,.slice B0 l0_1.length d0] 32 (0,0))).heap[w.heap.size]? = some (.cells #[.slice A0 l0_0.length c0,.slice B0 l0_1.length d0] 32 (0,0)):=alloc_at_ w _;have n0_:=Jq.mk (Kd.S_below HO.out hbw);have n4_:=Jq.mk (Kd.R_below HL.out hbw);have n1_:=Jq.mk (Kept.below HK.out hbw);have n2_:=Jq.mk (Yj HB.out hbw);have n3_:=Jq.mk hbox;have BP : Jq (¬ P0_0_ w.heap.size):=⟨fun hs_=>absurd (HLT.out _ (.inl hs_)) (Nat.lt_irrefl _)⟩;have BQ : Jq (¬ P0_1_ w.heap.size):=⟨fun hs_=>absurd (HLT.out _ (.inr hs_)) (Nat.lt_irrefl _)⟩;clear HO HL HK HB;have HO:=n0_;have HL:=n4_;have HK:=n1_;have HB:=n2_;have BK:=n3_;clear n0_ n1_ n2_ n3_ n4_ hbw hbox;refine (Zw.calls k P0_0_ (.slice A0 l0_0.length c0) l0_0 a1 a2 rr w0 _ HB.out HO.out A1.out).mono ?_;rintro e w7 ⟨rfl,hy0,hb,hkp⟩;have n0_:=Jq.mk hy0;have n1_:=Jq.mk (Kd.R_mono (Kd.R_keptB (Kd.R_mono (ok':=fun k_=>P0_1_ k_ ∧ ¬ P0_0_ k_) (Kd.R_tight2 rfl HL.out) (fun k_ hk=>by first|exact ⟨hk.2,fun e_=>HAP.out k_ e_ hk.2⟩|grind)) hkp (fun k_ hk_ hs_=>hk_.2 hs_)) (fun k_ hk_=>hk_.1.1));have n2_:=Jq.mk (blk_kept BK.out hkp (fun hs_=>BP.out hs_));have n3_:=Jq.mk (Kept.then_ (S:=(fun k_=>P0_0_ k_ ∨ P0_1_ k_)) HK.out hkp (fun k_ hs_=>.inl (.inl hs_)));have n4_:=Jq.mk hb;clear HO HL BK HK HB;have HO:=n0_;have HL:=n1_;have BK:=n2_;have HK:=n3_;have HB:=n4_;clear n0_ n1_ n2_ n3_ n4_ hb hkp hy0;have hcz0 : w7.cell? ⟨w.heap.size,0,none⟩ = some (.slice A0 l0_0.length c0):=(Xj BK.out 0).trans rfl;have hcz1 : w7.cell? ⟨w.heap.size,1,none⟩ = some (.slice B0 l0_1.length d0):=(Xj BK.out 1).trans rfl;have hfz0:=Zj BK.out 0;have hfz1:=Zj BK.out 1;(go_wp2_with fail);clear hcz0 hcz1 hfz0 hfz1;refine (Yw.calls k P0_1_ (.slice B0 l0_1.length d0) l0_1 a2 a3 rs w0 _ HB.out HL.out A2.out).mono ?_;rintro e w8 ⟨rfl,hy0,hb,hkp⟩;have n0_:=Jq.mk (Kd.R_mono (Kd.R_reok rfl hy0 (fun k_ e_=>HL.out.1 k_ e_)) (fun k_ hk_=>(Or.inl hk_ : P0_1_ k_ ∨ w.heap.size ≤ k_)));have n1_:=Jq.mk (Kd.S_keptB (Kd.S_mono HO.out (fun k_ hk_=>(⟨hk_,HAP.out k_ hk_⟩ : P0_0_ k_ ∧ ¬ P0_1_ k_))) hkp (fun k_ hk_ hs_=>hk_.2 hs_));have n3_:=Jq.mk (Kept.then_ (S:=(fun k_=>P0_0_ k_ ∨ P0_1_ k_)) HK.out hkp (fun k_ hs_=>.inl (.inr hs_)));have n4_:=Jq.mk hb;clear HO HL BK HK HB;have HO:=n1_;have HL:=n0_;have HK:=n3_;have HB:=n4_;clear n0_ n1_ n3_ n4_ hb hkp hy0;(go_wp2);(go_ret);exact ⟨rfl,Kd.S_mono HO.out (fun k_ hk_=>hk_.1.1),HL.out,HB.out,HK.out⟩
set_option maxHeartbeats 8000000 in
theorem Vw.calls (k : Nat) (P0_0_ : Nat → Prop) (u9000_ : Value) (l0_0 : List (List Int)) (P0_1_ : Nat → Prop) (u9001_ : Value) (l0_1 : List Int) (a1 : Int) (r1 : Int) (r2 : List (List Int)) (r3 : List Int) (w0 w : World) (hB : Below w0.heap.size w0 w) (ho0_0 : Kd.S (Kd.slice 3 (Kd.int .i64)) 26 w w0.heap.size P0_0_ u9000_ l0_0) (ho0_1 : Kd.R (Kd.int .i64) 3 w w0.heap.size P0_1_ u9001_ l0_1) (hap : ∀ k_,P0_0_ k_ → ¬ P0_1_ k_) (h : Vw.f k l0_0 l0_1 a1 = some (r1,r2,r3)) :
  Calls Try.prog 23 #[.agg #[u9000_,u9001_],.int .i64 a1] w fun e w'=>e = .returned (.int .i64 r1) ∧ Kd.S (Kd.slice 3 (Kd.int .i64)) 26 w' w0.heap.size P0_0_ u9000_ r2 ∧ Kd.R (Kd.int .i64) 3 w' w0.heap.size (fun k_=>(P0_1_ k_ ∨ w.heap.size ≤ k_)) u9001_ r3 ∧ Below w0.heap.size w0 w' ∧ Kept w w' (fun k_=>P0_0_ k_ ∨ P0_1_ k_):=by
 have b0_:=Kd.S_bound ho0_0;have b1_:=Kd.R_bound ho0_1;refine (Vw.calls0 k (fun k_=>P0_0_ k_ ∧ k_ < w.heap.size) u9000_ l0_0 (fun k_=>P0_1_ k_ ∧ k_ < w.heap.size) u9001_ l0_1 a1 r1 r2 r3 w0 w hB (Kd.S_mono b0_ (fun k_ hk=>by first|exact ⟨hk.1,hk.2.2.1⟩|grind)) (Kd.R_mono b1_ (fun k_ hk=>by first|exact ⟨hk.1,hk.2.2.1⟩|grind)) (fun k_ ha hb=>hap k_ ha.1 hb.1) (fun k_ hk=>hk.elim And.right And.right) h).mono ?_;rintro e w' ⟨he,ha,hb,hc,hd⟩;exact ⟨he,Kd.S_mono ha (fun _ h_=>h_.1),Kd.R_mono hb (fun _ h_=>h_.imp And.left id),hc,Kept.mono hd (fun _ h_=>h_.imp And.left And.left)⟩
def Xw.l0 : Nat → List Int → Int → Int → Option (Int)
|0,_,_,_=>none
|k + 1,x0,x1,x5=>if x5 < (x0.length : Int) then (if 0 ≤ x5 then (if (rd x0 x5) = x1 then (Xw.l0 k x0 (wrap64 (x1 + 1)) (wrap64 (x5 + 1))) else (some (-1))) else (none)) else (some x1)
def Xw.f (k : Nat) (l0 : List Int) (a1 : Int) : Option (Int):=Xw.l0 k l0 a1 0
set_option maxHeartbeats 8000000 in
set_option maxRecDepth 100000 in
theorem Xw.calls (k : Nat) (A0 : Option Addr) (c0 : Nat) (l0 : List Int) (a1 : Int) (r : Int) (w : World) (hr0 : Kd.C (Kd.int .i64) w A0 l0.length l0) (hc0 : l0.length ≤ c0) (h : Xw.f k l0 a1 = some r) :
  Calls Try.prog 25 #[.slice A0 l0.length c0,.int .i64 a1] w fun e w'=>e = .returned (.int .i64 r) ∧ Drawn0 w w':=by
 have HR0:=Jq.mk hr0;have HC0:=Jq.mk hc0;clear hr0 hc0;have H : (Xw.l0 k l0 a1 0) = some r:=h;clear h;have H':=Jq.mk H;clear H;(go_enter Try.func25,Try.ntmps25);(go_wp2);(go_loopg [1,5] k (fun kq v1 v5 w'=>∃ (x1_1 : Int) (x5_1 : Int),v1 = .int .i64 x1_1 ∧ v5 = .int .i64 x5_1 ∧ Jq (Xw.l0 kq l0 x1_1 x5_1 = some r) ∧ Jq (kq ≤ k) ∧ Drawn0 w w'));(case atStart=>exact ⟨(a1),(0),rfl,rfl,H',⟨Nat.le_refl _⟩,by repeat (first|exact Drawn0.refl _|apply Drawn0.step)⟩)
 case round =>
  clear H';(try clear c2);(try clear p2);obtain ⟨x1_1,x5_1,rfl,rfl,HA,HK1,⟨m1,rfl⟩⟩:=hrel
  cases gk with
 |zero=>exact absurd HA.out (by simp [Xw.l0])
 |succ k1 =>
   have H:=HA.out;clear HA;(simp only [Xw.l0] at H);(by_cases c3 : x5_1 < (l0.length : Int));(·rw [if_pos c3] at H;have c3b0 : decide (x5_1 < (l0.length : Int)) = true:=decide_eq_true c3;clear c3;(by_cases c4 : 0 ≤ x5_1);(·rw [if_pos c4] at H;have c4b0 : decide (0 ≤ x5_1) = true:=decide_eq_true c4;clear c4;(by_cases c5 : (rd l0 x5_1) = x1_1);(·rw [if_pos c5] at H;have c5b0 : ((rd l0 x5_1) == x1_1) = true:=beq_iff_eq.mpr c5;have c5b1 : ((rd l0 x5_1) != x1_1) = false:=bne_eq_false_iff_eq.mpr c5;clear c5;have H':=Jq.mk H;clear H;have p138 : 0 ≤ (x5_1 : Int):=of_decide_eq_true ‹_›;have q138 : x5_1 < (l0.length : Int):=of_decide_eq_true ‹_›;obtain ⟨ad138,e138,hx138_0⟩:=Kd.at_int HR0.out x5_1 p138 q138;(cases e138);replace p138:=eq_true p138;replace q138:=eq_true q138;(go_wp2);(go_roundg k1);(case measure=>have:=HK1.out;omega);(case rel=>exact ⟨(wrap64 (x1_1 + 1)),(wrap64 (x5_1 + 1)),rfl,rfl,H',⟨by have:=HK1.out;omega⟩,by repeat (first|exact Drawn0.refl _|apply Drawn0.step)⟩));(·rw [if_neg c5] at H;have c5b0 : ((rd l0 x5_1) == x1_1) = false:=beq_eq_false_iff_ne.mpr c5;have c5b1 : ((rd l0 x5_1) != x1_1) = true:=bne_iff_ne.mpr c5;obtain rfl:=Option.some.inj H;have p138 : 0 ≤ (x5_1 : Int):=of_decide_eq_true ‹_›;have q138 : x5_1 < (l0.length : Int):=of_decide_eq_true ‹_›;obtain ⟨ad138,e138,hx138_0⟩:=Kd.at_int HR0.out x5_1 p138 q138;(cases e138);replace p138:=eq_true p138;replace q138:=eq_true q138;(go_wp2);(go_ret);exact ⟨by first|rfl|(simp;done)|(simp [*];done),by repeat (first|exact Drawn0.refl _|apply Drawn0.step)⟩));(·rw [if_neg c4] at H;exact absurd H (by simp)));(·rw [if_neg c3] at H;have c3b0 : decide (x5_1 < (l0.length : Int)) = false:=decide_eq_false c3;clear c3;obtain rfl:=Option.some.inj H;(go_wp2);(go_ret);exact ⟨by first|rfl|(simp;done)|(simp [*];done),by repeat (first|exact Drawn0.refl _|apply Drawn0.step)⟩)
def Yj1.f (l0 : List Int) : Option (List Int):=(some (([] : List Int) : List Int)).bind fun y139=>(if y139.length + l0.length < 17592186044416 then (some (y139 ++ l0)) else (none))
set_option maxHeartbeats 8000000 in
set_option maxRecDepth 100000 in
theorem Yj1.calls (A0 : Option Addr) (c0 : Nat) (l0 : List Int) (r : List Int) (w : World) (hr0 : Kd.C (Kd.int .i64) w A0 l0.length l0) (hc0 : l0.length ≤ c0) (h : Yj1.f l0 = some r) :
  Calls Try.prog 76 #[.slice A0 l0.length c0] w fun e w'=>∃ v0_ : Value,e = .returned (v0_) ∧ Kd.R (Kd.int .i64) 3 w' w.heap.size (fun _=>True) v0_ r ∧ Below w.heap.size w w':=by
 have HR0:=Jq.mk hr0;have HC0:=Jq.mk hc0;clear hr0 hc0;have HB:=Jq.mk (Below.refl w.heap.size w);have H : ((some (([] : List Int) : List Int)).bind fun y139=>(if y139.length + l0.length < 17592186044416 then (some (y139 ++ l0)) else (none))) = some r:=h;clear h;obtain ⟨y139,hy139⟩ : ∃ y_ : List Int,y_ = (([] : List Int)):=⟨_,rfl⟩;(replace H : (if y139.length + l0.length < 17592186044416 then (some (y139 ++ l0)) else (none)) = some r:=by first|(rw [hy139];with_reducible exact H)|(have H2_:=(Option.bind_some _ _).symm.trans H;rw [hy139];with_reducible exact H2_)|(have H2_:=(Option.bind_some _ _).symm.trans H;with_reducible exact H2_)|with_reducible exact H|(rw [hy139];exact H)|exact H);have Ny139:=Jq.mk hy139;clear hy139;(by_cases c2 : y139.length + l0.length < 17592186044416);(·rw [if_pos c2] at H;have LMc2:=Jq.mk c2;clear c2;obtain ⟨y142,hy142⟩ : ∃ y_ : List Int,y_ = (y139 ++ l0):=⟨_,rfl⟩;rw [← hy142] at H;have Ny142:=Jq.mk hy142;clear hy142;obtain rfl:=Option.some.inj H;(go_enter Try.func76,Try.ntmps76);(go_wp2_with (first|((with_reducible refine Xz (N:=3) rfl ?_);refine Kd.R_lit (Kd.int .i64) _ 3 ?hg (N:=3) ?hd (xs:=([] : List Int)) (inner:=[]) (ok:=fun _=>True) (okp:=fun _=>True) ?hr ?hp (fun _ hk=>hk) trivial (Below.refl _ _) (Nat.le_refl _) (by simp) ?_;(case hd=>rfl);(case hg=>rfl);(case hr=>go_simp;try rfl);(case hp=>exact (Reps.none _ _));intro v140 w3 ho4 hb hg_ hnew_;clear hg_ hnew_;(first|rw [← Ny139.out] at ho4|(simp only [Int.reduceToNat] at ho4;rw [← Ny139.out] at ho4));have HO141:=Jq.mk (Kd.R_lower ho4 (Kj (by repeat (first|(with_reducible first|exact HB.out|apply Yq|apply Kq|apply Xq)|exact HB.out))));replace HB:=Jq.mk (Yj (by repeat (first|(with_reducible first|exact HB.out|apply Yq|apply Kq|apply Xq)|exact HB.out)) hb);clear hb ho4)|((with_reducible refine gate_builtin (b:=.append) (xs:=#[.tmp 3,.tmp 4]) rfl ?_);at_builtin;refine Kd.R_append_rows (Kd.int .i64) (w0:=w) w.heap.size rfl (.tmp 3) (.tmp 4) 26 3 (.int .i64 0) 8 rfl Try.underlying26 info3 rfl (by decide) (by omega) v140 y139 l0 _ _ _ (fun _=>True) (fun _=>False) rfl rfl ?aO ?aR (fun _ _ h=>h) (fun _ h=>h.elim) ?aF ?aB ?aS ?aL ?_;(case aR=>repeat (first|exact (Kd.C_below HR0.out HB.out)|(with_reducible refine Kd.C_alloc ?_ _)|(with_reducible refine Kd.C_drewN ?_ _)|(with_reducible refine Kd.C_drew ?_)));(case aB=>exact (by repeat (first|(with_reducible first|exact HB.out|apply Yq|apply Kq|apply Xq)|exact HB.out)));(case aF=>exact (fun _ _=>trivial));(case aO=>exact HO141.out);(case aS=>exact (Kj (by repeat (first|(with_reducible first|exact HB.out|apply Yq|apply Kq|apply Xq)|exact HB.out))));(case aL=>have:=LMc2.out;omega);intro v143 w5 ho hb hg hat;rw [← Ny142.out] at ho;replace HB:=Jq.mk (hb);have HO144:=Jq.mk (ho);clear HO141;clear ho hb hg hat)));(go_ret);exact ⟨_,by first|rfl|(simp [Kz,Jz] <;> rfl)|(simp [*,Kz,Jz] <;> rfl),by (with_reducible repeat (first|apply Kd.R_alloc|apply Kd.R_drewN|apply Kd.R_drew));exact HO144.out,by repeat (first|(with_reducible first|exact HB.out|apply Yq|apply Kq|apply Xq)|exact HB.out)⟩);(·rw [if_neg c2] at H;exact absurd H (by simp))
mutual
def Vz1.j0 : Nat → Int → Int → List Int → List (List Int) → Int → Option ((List (List Int)))
|0,_,_,_,_,_=>none
|k + 1,x0,x1,x2,x7,x8=>Vz1.l0 k x0 x1 x2 x7 x8
def Vz1.l0 : Nat → Int → Int → List Int → List (List Int) → Int → Option ((List (List Int)))
|0,_,_,_,_,_=>none
|k + 1,x0,x1,x2,x7,x9=>if x9 < x0 then ((Yj1.f x2).bind fun t152=>(if t152.length < 17592186044416 then ((Vz1.f k x0 x1 (t152 ++ [x9])).bind fun t158=>(if x7.length + t158.length < 5864062014805 then (Vz1.l0 k x0 x1 x2 (x7 ++ t158) (wrap64 (x9 + 1))) else (none))) else (none))) else (some x7)
def Vz1.f : Nat → Int → Int → List Int → Option ((List (List Int)))
|0,_,_,_=>none
|k + 1,a0,a1,l2=>if (l2.length : Int) = a1 then (some (([l2] : List (List Int)))) else ((some (([] : List (List Int)) : List (List Int))).bind fun y148=>(if (l2.length : Int) > 0 then (if 0 ≤ (wrap64 ((l2.length : Int) - 1)) then (if (wrap64 ((l2.length : Int) - 1)) < (l2.length : Int) then (Vz1.j0 k a0 a1 l2 y148 (wrap64 ((rd l2 (wrap64 ((l2.length : Int) - 1))) + 1))) else (none)) else (none)) else (Vz1.j0 k a0 a1 l2 y148 0)))
end
set_option maxHeartbeats 8000000 in
set_option maxRecDepth 100000 in
theorem Vz1.calls (k : Nat) : ∀ (a0 : Int) (a1 : Int) (P2_ : Nat → Prop) (A2 : Option Addr) (c2 : Nat) (l2 : List Int) (r : List (List Int)) (w : World) (hs2 : Kd.V (Kd.int .i64) 3 w w.heap.size (fun k_=>P2_ k_) (.slice A2 l2.length c2) l2) (h : Vz1.f k a0 a1 l2 = some r),
  Calls Try.prog 85 #[.int .i64 a0,.int .i64 a1,.slice A2 l2.length c2] w fun e w'=>∃ v0_ : Value,e = .returned (v0_) ∧ Kd.N (Kd.slice 3 (Kd.int .i64)) 26 w' w.heap.size (fun k_=>(P2_ k_ ∨ w.heap.size ≤ k_)) v0_ r ∧ Below w.heap.size w w':=by
 induction k using Nat.strongRecOn with
|_ k ih =>
 intro a0 a1 P2_ A2 c2 l2 r w hs2 h
 cases k with
|zero=>exact absurd h (by simp [Vz1.f])
|succ k =>
 simp only [Vz1.f] at h
 have HO2:=Jq.mk (show Kd.V (Kd.int .i64) 3 w w.heap.size (fun k_=>(P2_ k_ ∨ w.heap.size ≤ k_)) (.slice A2 l2.length c2) l2 from Kd.V_mono hs2 (fun k_ hk=>.inl hk))
 have HB:=Jq.mk (Below.refl w.heap.size w)
 have H : (if (l2.length : Int) = a1 then (some (([l2] : List (List Int)))) else ((some (([] : List (List Int)) : List (List Int))).bind fun y148=>(if (l2.length : Int) > 0 then (if 0 ≤ (wrap64 ((l2.length : Int) - 1)) then (if (wrap64 ((l2.length : Int) - 1)) < (l2.length : Int) then (Vz1.j0 k a0 a1 l2 y148 (wrap64 ((rd l2 (wrap64 ((l2.length : Int) - 1))) + 1))) else (none)) else (none)) else (Vz1.j0 k a0 a1 l2 y148 0)))) = some r:=h
 clear h
 by_cases c4 : (l2.length : Int) = a1
 ·rw [if_pos c4] at H
  have c4b0 : ((l2.length : Int) == a1) = true:=beq_iff_eq.mpr c4
  have c4b1 : ((l2.length : Int) != a1) = false:=bne_eq_false_iff_eq.mpr c4
  clear c4
  obtain ⟨y145,hy145⟩ : ∃ y_ : List (List Int),y_ = (([l2] : List (List Int))):=⟨_,rfl⟩
  rw [← hy145] at H
  have Ny145:=Jq.mk hy145
  clear hy145
  obtain rfl:=Option.some.inj H
  go_enter Try.func85,Try.ntmps85
  go_wp2_with (first|((with_reducible refine Xz (N:=15) rfl ?_);refine Kd.N_lit (Kd.slice 3 (Kd.int .i64)) _ 26 ?hg (N':=15) ?hd (xs:=([l2] : List (List Int))) (inner:=[.slice A2 l2.length c2]) (ok:=(fun k_=>(P2_ k_ ∨ w.heap.size ≤ k_))) (okp:=(fun k_=>(P2_ k_ ∨ w.heap.size ≤ k_))) ?hr ?hp (fun _ hk=>hk) ((show ∀ k_,w.heap.size ≤ k_ → (fun k_=>(P2_ k_ ∨ w.heap.size ≤ k_)) k_ from fun k_ hk=>(.inr (Nat.le_trans (Kj (by repeat (first|(with_reducible first|exact HB.out|apply Yq|apply Kq|apply Xq)|exact HB.out))) hk))) _ (Nat.le_refl _)) (Below.refl _ _) (Nat.le_refl _) (by simp) ?_;(case hd=>rfl);(case hg=>rfl);(case hr=>go_simp;try rfl);(case hp=>exact (Reps.one (show Kd.FK (Kd.slice 3 (Kd.int .i64)) _ _ l2 [.slice A2 l2.length c2] from (Kd.FK_slice_mk (Kd.V_reads' (Kd.V_mono (ok':=(fun k_=>(P2_ k_ ∨ w.heap.size ≤ k_))) (HO2.out) (fun k_ hk=>hk))).2.1 (Kd.V_F (Kd.V_mono (ok':=(fun k_=>(P2_ k_ ∨ w.heap.size ≤ k_))) (HO2.out) (fun k_ hk=>hk))))) (Reps.none _ _)));intro v146 w5 ho6 hb hg_ hnew_;clear hg_ hnew_;(first|rw [← Ny145.out] at ho6|(simp only [Int.reduceToNat] at ho6;rw [← Ny145.out] at ho6));replace HO2:=Jq.mk (Kd.V_elder' HO2.out (by first|exact Kd.N_base ho6|exact Kd.S_base ho6) hb);have HO147:=Jq.mk (Kd.N_lower ho6 (Kj (by repeat (first|(with_reducible first|exact HB.out|apply Yq|apply Kq|apply Xq)|exact HB.out))));replace HB:=Jq.mk (Yj (by repeat (first|(with_reducible first|exact HB.out|apply Yq|apply Kq|apply Xq)|exact HB.out)) hb);clear hb ho6))
  go_ret
  exact ⟨_,by first|rfl|(simp [Kz,Jz] <;> rfl)|(simp [*,Kz,Jz] <;> rfl),by (with_reducible repeat (first|apply Kd.N_alloc|apply Kd.N_drewN|apply Kd.N_drew));exact HO147.out,HB.out⟩
 ·rw [if_neg c4] at H
  have c4b0 : ((l2.length : Int) == a1) = false:=beq_eq_false_iff_ne.mpr c4
  have c4b1 : ((l2.length : Int) != a1) = true:=bne_iff_ne.mpr c4
  obtain ⟨y148,hy148⟩ : ∃ y_ : List (List Int),y_ = (([] : List (List Int))):=⟨_,rfl⟩
  replace H : (if (l2.length : Int) > 0 then (if 0 ≤ (wrap64 ((l2.length : Int) - 1)) then (if (wrap64 ((l2.length : Int) - 1)) < (l2.length : Int) then (Vz1.j0 k a0 a1 l2 y148 (wrap64 ((rd l2 (wrap64 ((l2.length : Int) - 1))) + 1))) else (none)) else (none)) else (Vz1.j0 k a0 a1 l2 y148 0)) = some r:=by first|(rw [hy148];with_reducible exact H)|(have H2_:=(Option.bind_some _ _).symm.trans H;rw [hy148];with_reducible exact H2_)|(have H2_:=(Option.bind_some _ _).symm.trans H;with_reducible exact H2_)|with_reducible exact H|(rw [hy148];exact H)|exact H
  have Ny148:=Jq.mk hy148
  clear hy148
  have HC7:=Jq.mk H
  clear H
  go_enter Try.func85,Try.ntmps85
  go_upto_if 19 with (first|((with_reducible refine Xz (N:=16) rfl ?_);refine Kd.N_lit (Kd.slice 3 (Kd.int .i64)) _ 26 ?hg (N':=16) ?hd (xs:=([] : List (List Int))) (inner:=[]) (ok:=(fun k_=>(P2_ k_ ∨ w.heap.size ≤ k_))) (okp:=(fun k_=>(P2_ k_ ∨ w.heap.size ≤ k_))) ?hr ?hp (fun _ hk=>hk) ((show ∀ k_,w.heap.size ≤ k_ → (fun k_=>(P2_ k_ ∨ w.heap.size ≤ k_)) k_ from fun k_ hk=>(.inr (Nat.le_trans (Kj (by repeat (first|(with_reducible first|exact HB.out|apply Yq|apply Kq|apply Xq)|exact HB.out))) hk))) _ (Nat.le_refl _)) (Below.refl _ _) (Nat.le_refl _) (by simp) ?_;(case hd=>rfl);(case hg=>rfl);(case hr=>first|(go_simp;done)|(go_simp;rfl));(case hp=>exact (Reps.none _ _));intro v149 w8 ho9 hb hg_ hnew_;clear hg_ hnew_;(first|rw [← Ny148.out] at ho9|(simp only [Int.reduceToNat] at ho9;rw [← Ny148.out] at ho9));replace HO2:=Jq.mk (Kd.V_elder' (by (with_reducible repeat (first|apply Kd.V_alloc|apply Kd.V_drewN|apply Kd.V_drew));exact HO2.out) (by first|exact Kd.N_base ho9|exact Kd.S_base ho9) hb);have HO150:=Jq.mk (Kd.N_lower ho9 (Kj (by repeat (first|(with_reducible first|exact HB.out|apply Yq|apply Kq|apply Xq)|exact HB.out))));replace HB:=Jq.mk (Yj (by repeat (first|(with_reducible first|exact HB.out|apply Yq|apply Kq|apply Xq)|exact HB.out)) hb);clear hb ho9))
  (try simp only [Act.put,List.setIfInBounds_toArray,List.set_cons_zero,List.set_cons_succ])
  go_cut [8] (fun v8 wc=>∃ (kq : Nat) (x8_6 : Int),v8 = .int .i64 x8_6 ∧ Jq (Vz1.j0 kq a0 a1 l2 y148 x8_6 = some r) ∧ Jq (kq ≤ k) ∧ Jq (Kd.V (Kd.int .i64) 3 wc w.heap.size (fun k_=>(P2_ k_ ∨ w.heap.size ≤ k_) ∧ some k_ ≠ (v149 : Value).ownBlock) (.slice A2 l2.length c2) l2) ∧ Jq (Kd.N (Kd.slice 3 (Kd.int .i64)) 26 wc w.heap.size (fun k_=>(P2_ k_ ∨ w.heap.size ≤ k_)) v149 y148) ∧ Jq (Below w.heap.size w wc))
  case first =>
   have H:=HC7.out
   clear HC7
   by_cases c10 : (l2.length : Int) > 0
   ·rw [if_pos c10] at H
    have c10b0 : decide (0 < (l2.length : Int)) = true:=decide_eq_true c10
    have c10b1 : decide (0 < l2.length) = true:=decide_eq_true (by omega)
    clear c10
    (first|rw [c10b0]|rw [c10b1]|(simp only [i64_w,i32_w];rw [c10b0])|skip)
    obtain ⟨ji11,hji11⟩ : ∃ j_ : Int,(wrap64 ((l2.length : Int) - 1)) = j_:=⟨_,rfl⟩
    replace H : (if 0 ≤ (ji11) then (if (ji11) < (l2.length : Int) then (Vz1.j0 k a0 a1 l2 y148 (wrap64 ((rd l2 (ji11)) + 1))) else (none)) else (none)) = some r:=by first|(rw [hji11] at H;exact H)|(simp only [hji11] at H ⊢;exact H)
    have hji11w : (IntKind.i64.wrap ((l2.length : Int) - 1)) = ji11:=(i64_w _).trans hji11
    by_cases c12 : 0 ≤ (ji11)
    ·rw [if_pos c12] at H
     have c12b0 : decide (0 ≤ (ji11)) = true:=decide_eq_true c12
     clear c12
     by_cases c13 : (ji11) < (l2.length : Int)
     ·rw [if_pos c13] at H
      have c13b0 : decide ((ji11) < (l2.length : Int)) = true:=decide_eq_true c13
      clear c13
      have H':=Jq.mk H
      clear H
      have p151 : 0 ≤ ((ji11) : Int):=of_decide_eq_true (by first|(with_reducible assumption)|assumption)
      have q151 : (ji11) < (l2.length : Int):=of_decide_eq_true (by first|(with_reducible assumption)|assumption)
      obtain ⟨ad151,e151,hx151_0⟩:=Kd.at_int (Kd.V_reads' HO2.out).2.2 (ji11) p151 q151
      cases e151
      replace p151:=eq_true p151
      replace q151:=eq_true q151
      go_wp2
      go_meet
      case rel=>exact ⟨_,(wrap64 ((rd l2 (ji11)) + 1)),(by first|rfl|(simp;done)|(simp only [← hji11] <;> (first|rfl|simp))|(simp [*];done)),H',⟨by first|omega|exact Nat.le_refl _⟩,⟨by (with_reducible repeat (first|apply Kd.V_alloc|apply Kd.V_drewN|apply Kd.V_drew));exact HO2.out⟩,⟨by (with_reducible repeat (first|apply Kd.N_alloc|apply Kd.N_drewN|apply Kd.N_drew));exact HO150.out⟩,⟨by repeat (first|(with_reducible first|exact HB.out|apply Yq|apply Kq|apply Xq)|exact HB.out)⟩⟩
     ·rw [if_neg c13] at H
      exact absurd H (by simp)
    ·rw [if_neg c12] at H
     exact absurd H (by simp)
   ·rw [if_neg c10] at H
    have c10b0 : decide (0 < (l2.length : Int)) = false:=decide_eq_false c10
    have c10b1 : decide (0 < l2.length) = false:=decide_eq_false (by omega)
    clear c10
    (first|rw [c10b0]|rw [c10b1]|(simp only [i64_w,i32_w];rw [c10b0])|skip)
    have H':=Jq.mk H
    clear H
    go_wp2
    go_meet
    case rel=>exact ⟨_,(0),rfl,H',⟨by first|omega|exact Nat.le_refl _⟩,⟨by (with_reducible repeat (first|apply Kd.V_alloc|apply Kd.V_drewN|apply Kd.V_drew));exact HO2.out⟩,⟨by (with_reducible repeat (first|apply Kd.N_alloc|apply Kd.N_drewN|apply Kd.N_drew));exact HO150.out⟩,⟨HB.out⟩⟩
  case rest =>
   clear HC7
   try clear c1
   try clear p1
   try clear q1
   try clear hx1
   try clear c2
   try clear p2
   try clear c4
   try clear c4b0
   try clear c4b1
   try clear p6
   try clear c8
   try clear c10
   try clear c10b0
   try clear c10b1
   try clear c12
   try clear c12b0
   try clear c13
   try clear c13b0
   try clear hx151_0
   try clear p151
   try clear q151
   obtain ⟨kq,x8_6,rfl,HA,HJ6,HO_2,HO_7,HB⟩:=hcut
   cases kq with
  |zero=>exact absurd HA.out (by simp [Vz1.j0])
  |succ kj6 =>
    have H:=HA.out
    clear HA
    simp only [Vz1.j0] at H
    have H':=Jq.mk H
    clear H
    go_wp2
    go_loopg [7,9] kj6 (fun kq v7 v9 w'=>∃ (x7_2 : List (List Int)) (x9_2 : Int),v9 = .int .i64 x9_2 ∧ Jq (Vz1.l0 kq a0 a1 l2 x7_2 x9_2 = some r) ∧ Jq (kq ≤ kj6) ∧ Jq (Kd.V (Kd.int .i64) 3 w' w.heap.size (fun k_=>(P2_ k_ ∨ w.heap.size ≤ k_) ∧ some k_ ≠ (v7 : Value).ownBlock) (.slice A2 l2.length c2) l2) ∧ Jq (Kd.N (Kd.slice 3 (Kd.int .i64)) 26 w' w.heap.size (fun k_=>(P2_ k_ ∨ w.heap.size ≤ k_)) v7 x7_2) ∧ Jq (Below w.heap.size w w'))
    case atStart=>exact ⟨(y148),(x8_6),rfl,H',⟨Nat.le_refl _⟩,⟨by (with_reducible repeat (first|apply Kd.V_alloc|apply Kd.V_drewN|apply Kd.V_drew));exact HO_2.out⟩,⟨by (with_reducible repeat (first|apply Kd.N_alloc|apply Kd.N_drewN|apply Kd.N_drew));exact HO_7.out⟩,⟨HB.out⟩⟩
    case round =>
     clear H'
     try clear c1
     try clear p1
     try clear q1
     try clear hx1
     try clear c2
     try clear p2
     try clear c4
     try clear c4b0
     try clear c4b1
     try clear p6
     try clear c8
     try clear c10
     try clear c10b0
     try clear c10b1
     try clear c12
     try clear c12b0
     try clear c13
     try clear c13b0
     try clear hx151_0
     try clear p1
     try clear p151
     try clear p2
     try clear p6
     try clear q1
     try clear q151
     obtain ⟨x7_2,x9_2,rfl,HA,HK2,HO_2,HO_7,HB⟩:=hrel
     cases gk with
    |zero=>exact absurd HA.out (by simp [Vz1.l0])
    |succ k2 =>
      have H:=HA.out
      clear HA
      simp only [Vz1.l0] at H
      by_cases c14 : x9_2 < a0
      ·rw [if_pos c14] at H
       have c14b0 : decide (x9_2 < a0) = true:=decide_eq_true c14
       clear c14
       replace H:=Option.bind_eq_some_iff.mp H
       obtain ⟨t152,A150,H⟩:=H
       replace H : (if t152.length < 17592186044416 then ((Vz1.f k2 a0 a1 (t152 ++ [x9_2])).bind fun t158=>(if x7_2.length + t158.length < 5864062014805 then (Vz1.l0 k2 a0 a1 l2 (x7_2 ++ t158) (wrap64 (x9_2 + 1))) else (none))) else (none)) = some r:=H
       have A15:=Jq.mk A150
       clear A150
       by_cases c16 : t152.length < 17592186044416
       ·rw [if_pos c16] at H
        have LMc16:=Jq.mk c16
        clear c16
        obtain ⟨y155,hy155⟩ : ∃ y_ : List Int,y_ = (t152 ++ [x9_2]):=⟨_,rfl⟩
        rw [← hy155] at H
        have Ny155:=Jq.mk hy155
        clear hy155
        replace H:=Option.bind_eq_some_iff.mp H
        obtain ⟨t158,A170,H⟩:=H
        replace H : (if x7_2.length + t158.length < 5864062014805 then (Vz1.l0 k2 a0 a1 l2 (x7_2 ++ t158) (wrap64 (x9_2 + 1))) else (none)) = some r:=H
        have A17:=Jq.mk A170
        clear A170
        by_cases c18 : x7_2.length + t158.length < 5864062014805
        ·rw [if_pos c18] at H
         have LMc18:=Jq.mk c18
         clear c18
         obtain ⟨y161,hy161⟩ : ∃ y_ : List (List Int),y_ = (x7_2 ++ t158):=⟨_,rfl⟩
         rw [← hy161] at H
         have Ny161:=Jq.mk hy161
         clear hy161
         have H':=Jq.mk H
         clear H
         go_wp2_with (first|((with_reducible refine Gj (f:=76) rfl ?_);refine Kx (some 37) rfl rfl Try.func76 (by kernel_rfl) rfl #[.slice A2 l2.length c2] rfl (by (try simp only [List.map_toArray,List.map_cons,List.map_nil]);first|done|rfl|(simp only [List.length_drop,List.length_take];rfl)) ?_;(with_reducible refine (Yj1.calls _ _ l2 t152 _ ?side1 ?side2 A15.out).mono ?_);(case side1=>repeat (first|exact (Kd.V_reads' HO_2.out).2.2|(with_reducible refine Kd.C_alloc ?_ _)|(with_reducible refine Kd.C_drewN ?_ _)|(with_reducible refine Kd.C_drew ?_)));(case side2=>exact (Kd.V_reads' HO_2.out).2.1);rintro e w19 ⟨v153,rfl,ho0,hb⟩;refine ⟨_,rfl,?_⟩;replace HO_2:=Jq.mk (Kd.V_elder' HO_2.out (Kd.R_base ho0) hb);replace HO_7:=Jq.mk (Kd.N_elder' HO_7.out (Kd.R_base ho0) hb);have HO154:=Jq.mk (Kd.R_lower (Kd.R_newM (M:=fun k_=>(w.heap.size ≤ k_)) ho0 (Kj (by repeat (first|(with_reducible first|exact HB.out|apply Yq|apply Kq|apply Xq)|exact HB.out))) (fun k_ h_=>h_)) (Kj (by repeat (first|(with_reducible first|exact HB.out|apply Yq|apply Kq|apply Xq)|exact HB.out))));replace HB:=Jq.mk (Yj (by repeat (first|(with_reducible first|exact HB.out|apply Yq|apply Kq|apply Xq)|exact HB.out)) hb);(try clear hb);(try clear hb2);(try clear hk);(try clear hi);(try clear ho0))|((with_reducible refine gate_builtin (b:=.append) (xs:=#[.tmp 37,.tmp 39]) rfl ?_);at_builtin;refine Kd.R_append (Kd.int .i64) (w0:=w) w.heap.size rfl (.tmp 37) (.tmp 39) 26 3 (.int .i64 0) 8 rfl Try.underlying26 info3 rfl (by decide) (by omega) v153 t152 x9_2 [.int .i64 x9_2] (fun k_=>(w.heap.size ≤ k_)) (fun _=>False) rfl rfl ?aP (fun _ hk=>hk.elim) ?aF ?aO ?aB ?aS ?aL ?_;(case aP=>exact rfl);(case aB=>exact (by repeat (first|(with_reducible first|exact HB.out|apply Yq|apply Kq|apply Xq)|exact HB.out)));(case aF=>exact (fun k_ hk=>(Nat.le_trans (Kj (by repeat (first|(with_reducible first|exact HB.out|apply Yq|apply Kq|apply Xq)|exact HB.out))) hk)));(case aO=>exact (by (with_reducible repeat (first|apply Kd.R_alloc|apply Kd.R_drewN|apply Kd.R_drew));exact Kd.R_mono HO154.out (fun _ hk=>hk.1)));(case aS=>exact (Kj (by repeat (first|(with_reducible first|exact HB.out|apply Yq|apply Kq|apply Xq)|exact HB.out))));(case aL=>have:=LMc16.out;omega);intro v156 w20 ho hb hg hat;rw [← Ny155.out] at ho;replace HO_2:=Jq.mk (Kd.V_afterv (ok:=(fun k_=>(P2_ k_ ∨ w.heap.size ≤ k_) ∧ some k_ ≠ (u7 : Value).ownBlock)) HO_2.out hg hat);replace HO_7:=Jq.mk (Kd.N_afterv (ok:=(fun k_=>(P2_ k_ ∨ w.heap.size ≤ k_))) HO_7.out hg hat);replace HB:=Jq.mk (hb);have HO157:=Jq.mk (ho);clear HO154;clear ho hb hg hat;obtain ⟨Ao21,co21,eo21⟩:=Kd.R_slice HO157.out;subst eo21)|((with_reducible refine Gj (f:=85) rfl ?_);refine Kx (some 41) rfl rfl Try.func85 (by kernel_rfl) rfl #[.int .i64 a0,.int .i64 a1,.slice Ao21 y155.length co21] rfl (by (try simp only [List.map_toArray,List.map_cons,List.map_nil]);first|done|rfl|(simp only [List.length_drop,List.length_take];rfl)) ?_;(with_reducible refine (ih k2 (by have:=HJ6.out;have:=HK2.out;omega) a0 a1 (fun k_=>some k_ = (.slice Ao21 y155.length co21 : Value).ownBlock) _ _ y155 t158 _ ?side1 A17.out).mono ?_);(case side1=>exact Kd.R_V (Kd.R_tight rfl (Kd.R_apart' (HO157.out) (Kd.N_typed HO_7.out) (by decide))));rintro e w22 ⟨v159,rfl,ho0,hb⟩;refine ⟨_,rfl,?_⟩;replace HO_2:=Jq.mk (Kd.V_elder' HO_2.out (by first|exact Kd.N_base ho0|exact Kd.S_base ho0) hb);have HO160:=Jq.mk (Kd.N_lower (Kd.N_mono (ok':=fun k_=>(P2_ k_ ∨ w.heap.size ≤ k_) ∧ some k_ ≠ (u7 : Value).ownBlock) ho0 (fun k_ hk_=>⟨Or.elim hk_ (fun hs_=>(.inr (((Kd.R_apart' (HO157.out) (Kd.N_typed HO_7.out) (by decide)).1 k_ hs_.symm).1))) (fun hn_=>(.inr (Nat.le_trans (Kj (by repeat (first|(with_reducible first|exact HB.out|apply Yq|apply Kq|apply Xq)|exact HB.out))) hn_))),Or.elim hk_ (fun hs_=>((Kd.R_apart' (HO157.out) (Kd.N_typed HO_7.out) (by decide)).1 k_ hs_.symm).2) (fun hn_=>(Kd.fresh' (Kd.N_lt HO_7.out) k_ hn_))⟩)) (Kj (by repeat (first|(with_reducible first|exact HB.out|apply Yq|apply Kq|apply Xq)|exact HB.out))));replace HO_7:=Jq.mk (Kd.N_elder' HO_7.out (by first|exact Kd.N_base ho0|exact Kd.S_base ho0) hb);replace HO157:=Jq.mk (Kd.R_below HO157.out hb);replace HB:=Jq.mk (Yj (by repeat (first|(with_reducible first|exact HB.out|apply Yq|apply Kq|apply Xq)|exact HB.out)) hb);(try clear hb);(try clear hb2);(try clear hk);(try clear hi);(try clear ho0);obtain ⟨Ao24,co24,eo24⟩:=Kd.N_slice HO160.out;subst eo24)|((with_reducible refine gate_builtin (b:=.append) (xs:=#[.tmp 33,.tmp 41]) rfl ?_);at_builtin;refine Kd.N_append_rows (Kd.slice 3 (Kd.int .i64)) (w0:=w) w.heap.size rfl (.tmp 33) (.tmp 41) 25 26 (.slice none 0 0) 24 rfl Try.underlying25 info26 rfl (by decide) (by omega) u7 x7_2 t158 _ _ _ (fun k_=>(P2_ k_ ∨ w.heap.size ≤ k_)) (fun k_=>((fun k_=>(P2_ k_ ∨ w.heap.size ≤ k_))) k_ ∧ some k_ ≠ (u7 : Value).ownBlock) rfl rfl ?aO ?aR (fun _ hk=>hk) ?aF ?aB ?aS ?aL ?_;(case aR=>exact (by skip;exact Kd.N_F (Kd.N_mono (ok':=(fun k_=>((fun k_=>(P2_ k_ ∨ w.heap.size ≤ k_))) k_ ∧ some k_ ≠ (u7 : Value).ownBlock)) (HO160.out) (fun k_ hk=>by first|exact ⟨hk.1,hk.2⟩|grind))));(case aB=>exact (by repeat (first|(with_reducible first|exact HB.out|apply Yq|apply Kq|apply Xq)|exact HB.out)));(case aF=>exact (fun k_ hk=>(.inr (Nat.le_trans (Kj (by repeat (first|(with_reducible first|exact HB.out|apply Yq|apply Kq|apply Xq)|exact HB.out))) hk))));(case aO=>exact (by (with_reducible repeat (first|apply Kd.N_alloc|apply Kd.N_drewN|apply Kd.N_drew));exact Kd.N_mono HO_7.out (fun _ hk=>hk.1.1)));(case aS=>exact (Kj (by repeat (first|(with_reducible first|exact HB.out|apply Yq|apply Kq|apply Xq)|exact HB.out))));(case aL=>have:=LMc18.out;omega);intro v162 w23 ho hb hg hat;rw [← Ny161.out] at ho;replace HO_2:=Jq.mk (Kd.V_afterv (ok:=(fun k_=>(P2_ k_ ∨ w.heap.size ≤ k_) ∧ some k_ ≠ (.slice Ao21 y155.length co21 : Value).ownBlock ∧ some k_ ≠ (.slice Ao24 t158.length co24 : Value).ownBlock)) (by (with_reducible repeat (first|apply Kd.V_alloc|apply Kd.V_drewN|apply Kd.V_drew));exact Kd.V_mono HO_2.out (fun _ hk=>⟨⟨hk.1.1.1,⟨hk.1.2,hk.2⟩⟩,hk.1.1.2⟩)) hg hat);replace HO157:=Jq.mk (Kd.R_over' HO157.out (Kd.N_typed HO_7.out) (by decide) hg);replace HO160:=Jq.mk (Kd.N_afterv (ok:=(fun k_=>(P2_ k_ ∨ w.heap.size ≤ k_))) HO160.out hg hat);replace HB:=Jq.mk (hb);have HO163:=Jq.mk (ho);clear HO_7;clear ho hb hg hat))
         go_roundg k2
         case measure=>have:=HJ6.out;have:=HK2.out;omega
         case rel=>exact ⟨(y161),(wrap64 (x9_2 + 1)),rfl,H',⟨by have:=HJ6.out;have:=HK2.out;omega⟩,⟨by (with_reducible repeat (first|apply Kd.V_alloc|apply Kd.V_drewN|apply Kd.V_drew));exact Kd.V_mono HO_2.out (fun _ hk=>by first|exact ⟨hk.1.1,hk.2⟩|grind)⟩,⟨by (with_reducible repeat (first|apply Kd.N_alloc|apply Kd.N_drewN|apply Kd.N_drew));exact HO163.out⟩,⟨HB.out⟩⟩
        ·rw [if_neg c18] at H
         exact absurd H (by simp)
       ·rw [if_neg c16] at H
        exact absurd H (by simp)
      ·rw [if_neg c14] at H
       have c14b0 : decide (x9_2 < a0) = false:=decide_eq_false c14
       clear c14
       obtain rfl:=Option.some.inj H
       go_wp2
       go_ret
       exact ⟨_,by first|rfl|(simp [Kz,Jz] <;> rfl)|(simp [*,Kz,Jz] <;> rfl),by (with_reducible repeat (first|apply Kd.N_alloc|apply Kd.N_drewN|apply Kd.N_drew));exact HO_7.out,HB.out⟩
end Go.Proofs.Ytdjclffkidoohaa.QFnExactLeastMistakes
