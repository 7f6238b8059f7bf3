/- Some of the functions that the law reaches, and what they tell; no condition. -/
import Derived.Maps.OwnSet
import Derived.Test.YtdjclffkidoohaaVFnPartings
import Derived.Test.YtdjclffkidoohaaZFnPartingsH
import Derived.Test.YtdjclffkidoohaaZFnPartingsx0
import Derived.Test.YtdjclffkidoohaaZFnPartingsx2
namespace Go.Proofs.Ytdjclffkidoohaa.QFnPartings
open Go.RowKit Go.Proofs.YtdjclffkidoohaaW.PrintWords Go.Proofs.YtdjclffkidoohaaW.PrintLast Go.Proofs.YtdjclffkidoohaaW.PrintMore
attribute [local go_sem] max2_int min2_int max_two min_two max_three min_three max_four min_four   -- for this text's walks alone
set_option linter.unusedVariables false
set_option linter.unusedSimpArgs false
def Gv.l0:Nat→List Int→Int→List Int→Int→Int→Option (Int)
|0,_,_,_,_,_=>none
|k+1,x1,x5,x8,x9,x10=>if x10<x9 then(if 0≤x10 then(if x10<(x8.length:Int) then(if x10<(x1.length:Int) then(Gv.l0 k x1 (wrap64 (x5+(wrap64 ((rd x8 x10) * (rd x1 x10))))) x8 x9 (wrap64 (x10+1))) else(none)) else(none)) else(none)) else(some x5)
def Gv.f (k:Nat) (l0:List Int) (l1:List Int):Option (Int):=Gv.l0 k l1 0 l0 (l0.length:Int) 0
set_option maxHeartbeats 8000000 in
set_option maxRecDepth 100000 in
theorem Gv.calls (k:Nat) (A0:Option Addr) (c0:Nat) (l0:List Int) (A1:Option Addr) (c1:Nat) (l1:List Int) (r:Int) (w:World) (hr0:Kd.C (Kd.int .i64) w A0 l0.length l0) (hc0:l0.length≤c0) (hr1:Kd.C (Kd.int .i64) w A1 l1.length l1) (hc1:l1.length≤c1) (h:Gv.f k l0 l1=some r) :
  Calls Try.prog 81 #[.slice A0 l0.length c0,.slice A1 l1.length c1] w fun e w'=>e=.returned (.int .i64 r)∧Drawn0 w w':=by
 have HR0:=Jq.mk hr0;have HC0:=Jq.mk hc0;clear hr0 hc0;have HR1:=Jq.mk hr1;have HC1:=Jq.mk hc1;clear hr1 hc1;have H:(Gv.l0 k l1 0 l0 (l0.length:Int) 0)=some r:=h;clear h;have H':=Jq.mk H;clear H;(go_enter Try.func81,Try.ntmps81);(go_wp2);(go_loopg [5,10] k (fun kq v5 v10 w'=>∃ (x5_1:Int) (x10_1:Int),v5=.int .i64 x5_1∧v10=.int .i64 x10_1∧Jq (Gv.l0 kq l1 x5_1 l0 (l0.length:Int) x10_1=some r)∧Jq (kq≤k)∧Drawn0 w w'));(case atStart=>exact⟨(0),(0),d7_,d7_,H',⟨Nat.le_refl _⟩,d12_⟩)
 case round =>
  clear H';(try clear c1);(try clear p2);obtain⟨x5_1,x10_1,rfl,rfl,HA,HK1,⟨m1,rfl⟩⟩:=hrel
  cases gk with
 |zero=>exact absurd HA.out (by simp[Gv.l0])
 |succ k1 =>
   have H:=HA.out;clear HA;(simp only[Gv.l0] at H);(by_cases c3:x10_1<(l0.length:Int));(·rw[if_pos c3] at H;have c3b0:decide (x10_1<(l0.length:Int))=true:=decide_eq_true c3;clear c3;(by_cases c4:0≤x10_1);(·rw[if_pos c4] at H;have c4b0:decide (0≤x10_1)=true:=decide_eq_true c4;clear c4;(by_cases c5:x10_1<(l0.length:Int));(·rw[if_pos c5] at H;have c5b0:decide (x10_1<(l0.length:Int))=true:=decide_eq_true c5;clear c5;(by_cases c6:x10_1<(l1.length:Int));(·rw[if_pos c6] at H;have c6b0:decide (x10_1<(l1.length:Int))=true:=decide_eq_true c6;clear c6;have H':=Jq.mk H;clear H;have p164:0≤(x10_1:Int):=r6_;have q164:x10_1<(l0.length:Int):=r6_;obtain⟨ad164,e164,hx164_0⟩:=Kd.at_int HR0.out x10_1 p164 q164;(cases e164);replace p164:=eq_true p164;replace q164:=eq_true q164;have p165:0≤(x10_1:Int):=r6_;have q165:x10_1<(l1.length:Int):=r6_;obtain⟨ad165,e165,hx165_0⟩:=Kd.at_int HR1.out x10_1 p165 q165;(cases e165);replace p165:=eq_true p165;replace q165:=eq_true q165;(go_wp2);(go_roundg k1);(case measure=>exact d21_);(case rel=>exact⟨(wrap64 (x5_1+(wrap64 ((rd l0 x10_1) * (rd l1 x10_1))))),(wrap64 (x10_1+1)),d7_,d7_,H',⟨d21_⟩,d12_⟩));(·exact r5_ c6 H));(·exact r5_ c5 H));(·exact r5_ c4 H));(·rw[if_neg c3] at H;have c3b0:decide (x10_1<(l0.length:Int))=false:=decide_eq_false c3;clear c3;obtain rfl:=Option.some.inj H;(go_wp2);(go_ret);exact⟨d7_,d12_⟩)
def Jv.l0:Nat→Int→List Int→Int→Int→Option (List Int)
|0,_,_,_,_=>none
|k+1,x1,x5,x8,x9=>if x9<x8 then(if 0≤x9 then(if x5.length<17592186044416 then(Jv.l0 k x1 (x5++[Go.bits .and .i64 (shr .i64 x1 x9) 1]) x8 (wrap64 (x9+1))) else(none)) else(none)) else(some x5)
def Jv.f (k:Nat) (a0:Int) (a1:Int):Option (List Int):=Jv.l0 k a1 (([]:List Int)) a0 0
set_option maxHeartbeats 8000000 in
set_option maxRecDepth 100000 in
theorem Jv.calls (k:Nat) (a0:Int) (a1:Int) (r:List Int) (w:World) (h:Jv.f k a0 a1=some r) :
  Calls Try.prog 150 #[.int .i64 a0,.int .i64 a1] w fun e w'=>∃ v0_:Value,e=.returned (v0_)∧Kd.R (Kd.int .i64) 3 w' w.heap.size (fun _=>True) v0_ r∧Below w.heap.size w w':=by
 have HB:=Jq.mk (Below.refl w.heap.size w);have H:(Jv.l0 k a1 (([]:List Int)) a0 0)=some r:=h;clear h;obtain⟨y166,hy166⟩:∃ y_:List Int,y_=(([]:List Int)):=⟨_,rfl⟩;(replace H:(Jv.l0 k a1 y166 a0 0)=some r:=r7_ hy166 H);have Ny166:=Jq.mk hy166;clear hy166;have H':=Jq.mk H;clear H;(go_enter Try.func150,Try.ntmps150);(go_wp2_with (first|((with_reducible refine Xz (N:=7) rfl ?_);refine Kd.R_lit (Kd.int .i64) _ 3 ?hg (N:=7) ?hd (xs:=([]:List Int)) (inner:=[]) (ok:=fun _=>True) (okp:=fun _=>True) ?hr ?hp (fun _ hk=>hk) trivial (Below.refl _ _) (Nat.le_refl _) (by simp) ?_;(case hd=>rfl);(case hg=>rfl);(case hr=>exact d11_);(case hp=>exact d34_);intro v167 w3 ho4 hb hg_ hnew_;clear hg_ hnew_;(first|rw[←Ny166.out] at ho4|(simp only[Int.reduceToNat] at ho4;rw[←Ny166.out] at ho4));have HO168:=Jq.mk (Kd.R_lower ho4 (Kj d1_));replace HB:=Jq.mk (Yj d1_ hb);clear hb ho4)));(go_loopg [5,9] k (fun kq v5 v9 w'=>∃ (x5_1:List Int) (x9_1:Int),v9=.int .i64 x9_1∧Jq (Jv.l0 kq a1 x5_1 a0 x9_1=some r)∧Jq (kq≤k)∧Jq (Kd.R (Kd.int .i64) 3 w' w.heap.size (fun _=>True) v5 x5_1)∧Jq (Below w.heap.size w w')));(case atStart=>exact⟨(y166),(0),d7_,H',⟨Nat.le_refl _⟩,⟨r0_ HO168.out⟩,⟨d1_⟩⟩)
 case round =>
  clear H';(try clear c1);(try clear p2);obtain⟨x5_1,x9_1,rfl,HA,HK1,HO_5,HB⟩:=hrel
  cases gk with
 |zero=>exact absurd HA.out (by simp[Jv.l0])
 |succ k1 =>
   have H:=HA.out;clear HA;(simp only[Jv.l0] at H);(by_cases c5:x9_1<a0);(·rw[if_pos c5] at H;have c5b0:decide (x9_1<a0)=true:=decide_eq_true c5;clear c5;(by_cases c6:0≤x9_1);(·rw[if_pos c6] at H;have c6b0:=eq_true c6;have c6b1:decide (0≤x9_1)=true:=decide_eq_true c6;clear c6;obtain⟨ji7,hji7⟩:∃ j_:Int,(shr .i64 a1 x9_1)=j_:=⟨_,rfl⟩;(replace H:(if x5_1.length<17592186044416 then(Jv.l0 k1 a1 (x5_1++[Go.bits .and .i64 (ji7) 1]) a0 (wrap64 (x9_1+1))) else(none))=some r:=by first|(rw[hji7] at H;exact H)|(simp only[hji7] at H ⊢;exact H));have hji7_:(a1 / 2 ^ min x9_1.toNat 64)=ji7:=hji7;have hji7z:x9_1≤64→(a1 / 2 ^ x9_1.toNat)=ji7:=shr_small hji7;(by_cases c8:x5_1.length<17592186044416);(·rw[if_pos c8] at H;have LMc8:=Jq.mk c8;clear c8;obtain⟨y169,hy169⟩:∃ y_:List Int,y_=(x5_1++[Go.bits .and .i64 (ji7) 1]):=⟨_,rfl⟩;(replace H:(Jv.l0 k1 a1 y169 a0 (wrap64 (x9_1+1)))=some r:=r7_ hy169 H);have Ny169:=Jq.mk hy169;clear hy169;have H':=Jq.mk H;clear H;(go_wp2_with (first|((with_reducible refine gate_builtin (b:=.append) (xs:=#[.tmp 12,.tmp 17]) rfl ?_);at_builtin;refine Kd.R_append (Kd.int .i64) (w0:=w) w.heap.size rfl (.tmp 12) (.tmp 17) 26 3 (.int .i64 0) 8 rfl Try.underlying26 info3 rfl (by decide) (by omega) u5 x5_1 (Go.bits .and .i64 (ji7) 1) [.int .i64 (Go.bits .and .i64 (ji7) 1)] (fun _=>True) (fun _=>False) rfl rfl ?aP (fun _ hk=>hk.elim) ?aF ?aO ?aB ?aS ?aL ?_;(case aP=>exact rfl);(case aB=>exact d1_);(case aF=>exact d39_);(case aO=>exact(r0_ HO_5.out));(case aS=>exact d83_);(case aL=>have:=LMc8.out;omega);intro v170 w9 ho hb hg hat;rw[←Ny169.out] at ho;replace HB:=Jq.mk (hb);have HO171:=Jq.mk (ho);clear HO_5;clear ho hb hg hat)));(go_roundg k1);(case measure=>exact d21_);(case rel=>exact⟨(y169),(wrap64 (x9_1+1)),d7_,H',⟨d21_⟩,⟨r0_ HO171.out⟩,⟨d1_⟩⟩));(·exact r5_ c8 H));(·exact r5_ c6 H));(·rw[if_neg c5] at H;have c5b0:decide (x9_1<a0)=false:=decide_eq_false c5;clear c5;obtain rfl:=Option.some.inj H;(go_wp2);(go_ret);exact⟨_,d9_,r0_ HO_5.out,d1_⟩)
def Jw.l0:Nat→Int→List Int→List Int→Int→Int→Option (List Int)
|0,_,_,_,_,_=>none
|k+1,x0,x1,x5,x9,x10=>if x10<x9 then((Jv.f k x0 x10).bind fun t175=>((Gv.f k x1 t175).bind fun t178=>(if x5.length<17592186044416 then(Jw.l0 k x0 x1 (x5++[t178]) x9 (wrap64 (x10+1))) else(none)))) else(some x5)
def Jw.f (k:Nat) (a0:Int) (l1:List Int):Option (List Int):=if 0≤a0 then(Jw.l0 k a0 l1 (([]:List Int)) (shl .i64 1 a0) 0) else(none)
set_option maxHeartbeats 8000000 in
set_option maxRecDepth 100000 in
theorem Jw.calls (k:Nat) (a0:Int) (A1:Option Addr) (c1:Nat) (l1:List Int) (r:List Int) (w:World) (hr1:Kd.C (Kd.int .i64) w A1 l1.length l1) (hc1:l1.length≤c1) (h:Jw.f k a0 l1=some r) :
  Calls Try.prog 127 #[.int .i64 a0,.slice A1 l1.length c1] w fun e w'=>∃ v0_:Value,e=.returned (v0_)∧Kd.R (Kd.int .i64) 3 w' w.heap.size (fun _=>True) v0_ r∧Below w.heap.size w w':=by
 have HR1:=Jq.mk hr1;have HC1:=Jq.mk hc1;clear hr1 hc1;have HB:=Jq.mk (Below.refl w.heap.size w);have H:(if 0≤a0 then(Jw.l0 k a0 l1 (([]:List Int)) (shl .i64 1 a0) 0) else(none))=some r:=h;clear h;obtain⟨y172,hy172⟩:∃ y_:List Int,y_=(([]:List Int)):=⟨_,rfl⟩;(replace H:(if 0≤a0 then(Jw.l0 k a0 l1 y172 (shl .i64 1 a0) 0) else(none))=some r:=r7_ hy172 H);have Ny172:=Jq.mk hy172;clear hy172;(by_cases c3:0≤a0)
 ·rw[if_pos c3] at H;have c3b0:=eq_true c3;have c3b1:decide (0≤a0)=true:=decide_eq_true c3;clear c3;obtain⟨ji4,hji4⟩:∃ j_:Int,(shl .i64 1 a0)=j_:=⟨_,rfl⟩;(replace H:(Jw.l0 k a0 l1 y172 ji4 0)=some r:=by first|(rw[hji4] at H;exact H)|(simp only[hji4] at H ⊢;exact H));have hji4_:(IntKind.i64.wrap (1 * 2 ^ min a0.toNat 64))=ji4:=hji4;have hji4z:a0≤64→(IntKind.i64.wrap (1 * 2 ^ a0.toNat))=ji4:=shl_small hji4;(have hji4u:(IntKind.i64.wrap (2 ^ min a0.toNat 64))=ji4:=by have h_:=hji4_;rw[Int.one_mul] at h_;exact h_);(have hji4v:a0≤64→(IntKind.i64.wrap (2 ^ a0.toNat))=ji4:=fun hle_=>by have h_:=hji4z hle_;rw[Int.one_mul] at h_;exact h_);have hji4y:(wrap64 (1 * 2 ^ min a0.toNat 64))=ji4:=(i64_w _).symm.trans hji4_;have hji4x:a0≤64→(wrap64 (1 * 2 ^ a0.toNat))=ji4:=fun h_=>(i64_w _).symm.trans (hji4z h_);have H':=Jq.mk H;clear H;(go_enter Try.func127,Try.ntmps127);(go_wp2_with (first|((with_reducible refine Xz (N:=7) rfl ?_);refine Kd.R_lit (Kd.int .i64) _ 3 ?hg (N:=7) ?hd (xs:=([]:List Int)) (inner:=[]) (ok:=fun _=>True) (okp:=fun _=>True) ?hr ?hp (fun _ hk=>hk) trivial (Below.refl _ _) (Nat.le_refl _) (by simp) ?_;(case hd=>rfl);(case hg=>rfl);(case hr=>exact d11_);(case hp=>exact d34_);intro v173 w5 ho6 hb hg_ hnew_;clear hg_ hnew_;(first|rw[←Ny172.out] at ho6|(simp only[Int.reduceToNat] at ho6;rw[←Ny172.out] at ho6));have HO174:=Jq.mk (Kd.R_lower ho6 (Kj d1_));replace HB:=Jq.mk (Yj d1_ hb);clear hb ho6)));(go_loopg [5,10] k (fun kq v5 v10 w'=>∃ (x5_1:List Int) (x10_1:Int),v10=.int .i64 x10_1∧Jq (Jw.l0 kq a0 l1 x5_1 ji4 x10_1=some r)∧Jq (kq≤k)∧Jq (Kd.R (Kd.int .i64) 3 w' w.heap.size (fun _=>True) v5 x5_1)∧Jq (Below w.heap.size w w')));(case atStart=>exact⟨(y172),(0),d7_,H',⟨Nat.le_refl _⟩,⟨r0_ HO174.out⟩,⟨d1_⟩⟩)
  case round =>
   clear H';(try clear c1);(try clear p2);(try clear c3);(try clear c3b0);(try clear c3b1);(try clear p6);obtain⟨x5_1,x10_1,rfl,HA,HK1,HO_5,HB⟩:=hrel
   cases gk with
  |zero=>exact absurd HA.out (by simp[Jw.l0])
  |succ k1 =>
    have H:=HA.out;clear HA;(simp only[Jw.l0] at H);(by_cases c7:x10_1<ji4);(·rw[if_pos c7] at H;have c7b0:decide (x10_1<ji4)=true:=decide_eq_true c7;clear c7;replace H:=Option.bind_eq_some_iff.mp H;obtain⟨t175,A80,H⟩:=H;replace H:((Gv.f k1 l1 t175).bind fun t178=>(if x5_1.length<17592186044416 then(Jw.l0 k1 a0 l1 (x5_1++[t178]) ji4 (wrap64 (x10_1+1))) else(none)))=some r:=H;have A8:=Jq.mk A80;clear A80;replace H:=Option.bind_eq_some_iff.mp H;obtain⟨t178,A90,H⟩:=H;replace H:(if x5_1.length<17592186044416 then(Jw.l0 k1 a0 l1 (x5_1++[t178]) ji4 (wrap64 (x10_1+1))) else(none))=some r:=H;have A9:=Jq.mk A90;clear A90;(by_cases c10:x5_1.length<17592186044416);(·rw[if_pos c10] at H;have LMc10:=Jq.mk c10;clear c10;obtain⟨y179,hy179⟩:∃ y_:List Int,y_=(x5_1++[t178]):=⟨_,rfl⟩;(replace H:(Jw.l0 k1 a0 l1 y179 ji4 (wrap64 (x10_1+1)))=some r:=r7_ hy179 H);have Ny179:=Jq.mk hy179;clear hy179;have H':=Jq.mk H;clear H;(go_wp2_with (first|((with_reducible refine Gj (f:=150) rfl ?_);refine Kx (some 17) rfl rfl Try.func150 (by kernel_rfl) rfl #[.int .i64 a0,.int .i64 x10_1] rfl d2_ ?_;(with_reducible refine(Jv.calls k1 a0 x10_1 t175 _ A8.out).mono ?_);rintro e w11 ⟨v176,rfl,ho0,hb⟩;refine⟨_,rfl,?_⟩;have HO177:=Jq.mk (Kd.R_lower (Kd.R_new' ho0 (Kd.R_lt (r0_ HO_5.out))) (Kj d1_));replace HO_5:=Jq.mk (Kd.R_elder' (r0_ HO_5.out) (Kd.R_base ho0) hb);replace HB:=Jq.mk (Yj d1_ hb);(try clear hb);(try clear hb2);(try clear hk);(try clear hi);(try clear ho0);obtain⟨Ao12,co12,eo12⟩:=Kd.R_slice HO177.out;subst eo12)|((with_reducible refine Gj (f:=81) rfl ?_);refine Kx (some 18) rfl rfl Try.func81 (by kernel_rfl) rfl #[.slice A1 l1.length c1,.slice Ao12 t175.length co12] rfl d2_ ?_;(with_reducible refine(Gv.calls k1 _ _ l1 _ _ t175 t178 _ ?side1 ?side2 ?side3 ?side4 A9.out).mono ?_);(case side1=>exact d89_);(case side2=>exact HC1.out);(case side3=>exact r4_ (Kd.R_reads' HO177.out).2.2);(case side4=>exact(Kd.R_reads' HO177.out).2.1);rintro e w' ⟨rfl,⟨nd,rfl⟩⟩;refine⟨_,rfl,?_⟩)|((with_reducible refine gate_builtin (b:=.append) (xs:=#[.tmp 13,.tmp 19]) rfl ?_);at_builtin;refine Kd.R_append (Kd.int .i64) (w0:=w) w.heap.size rfl (.tmp 13) (.tmp 19) 26 3 (.int .i64 0) 8 rfl Try.underlying26 info3 rfl (by decide) (by omega) u5 x5_1 t178 [.int .i64 t178] (fun k_=>some k_≠(.slice Ao12 t175.length co12:Value).ownBlock) (fun _=>False) rfl rfl ?aP (fun _ hk=>hk.elim) ?aF ?aO ?aB ?aS ?aL ?_;(case aP=>exact rfl);(case aB=>exact d1_);(case aF=>exact(fun k_ hk=>Kd.fresh' (Kd.R_lt (r0_ HO177.out)) k_ hk));(case aO=>exact d116_);(case aS=>exact d83_);(case aL=>have:=LMc10.out;omega);intro v180 w13 ho hb hg hat;rw[←Ny179.out] at ho;replace HO177:=Jq.mk (Kd.R_after (ok:=(fun _=>True)) (r0_ HO177.out) hg hat);replace HB:=Jq.mk (hb);have HO181:=Jq.mk (ho);clear HO_5;clear ho hb hg hat)));(go_roundg k1);(case measure=>exact d21_);(case rel=>exact⟨(y179),(wrap64 (x10_1+1)),d7_,H',⟨d21_⟩,⟨by(with_reducible repeat(first|apply Kd.R_alloc|apply Kd.R_drewN|apply Kd.R_drew));exact Kd.R_mono HO181.out (fun _ hk=>trivial)⟩,⟨d1_⟩⟩));(·exact r5_ c10 H));(·rw[if_neg c7] at H;have c7b0:decide (x10_1<ji4)=false:=decide_eq_false c7;clear c7;obtain rfl:=Option.some.inj H;(go_wp2);(go_ret);exact⟨_,d103_,r0_ HO_5.out,d1_⟩)
 ·rw[if_neg c3] at H;exact absurd H (by simp)
open Go.Proofs.Ytdjclffkidoohaa.Clos
def Yw.f0 (N m:Int):Nat→List Int→Int→Option (List Int)
|0,_,_=>none
|k+1,x,i=>if i<N then(if 0≤i then Yw.f0 N m k (x.set i.toNat (wrap64 (-m))) (wrap64 (i+1)) else none) else some x
def Yw.g0 (N m:Int):Nat→List Int→Int→Option (List Int×Int)
|0,_,_=>none
|k+1,x,i=>if 0≤i then(if i<N then(if rd x i=m then Yw.g0 N m k (x.set i.toNat (wrap64 (-m))) (wrap64 (i - 1)) else some (x,i)) else none) else some (x,i)
def Yw.l0 {σ:Type} (V:Nat→σ→List Int→Option σ) (N m:Int):Nat→σ→List Int→Option σ
|0,_,_=>none
|k+1,s,x=>(V k s x).bind fun s1=>(Yw.g0 N m k x (wrap64 (N - 1))).bind fun r=>(if r.2<0 then some s1 else(if r.2<N then Yw.l0 V N m k s1 (r.1.set r.2.toNat (wrap64 (rd r.1 r.2+1))) else none))
def Yw.f {σ:Type} (V:Nat→σ→List Int→Option σ) (k:Nat) (s:σ) (n m:Int):Option σ:=if 1≤n then(if n.toNat≤35184372088832 then((Yw.f0 n m k (List.replicate n.toNat 0) 0).bind fun x=>Yw.l0 V n m k s x) else none) else none
set_option maxHeartbeats 8000000 in
set_option maxRecDepth 100000 in
theorem Yw.calls {σ:Type} (V:Nat→σ→List Int→Option σ) (G:FuncId) (C:Array Value) (hent:Ent Try.prog G) (I:Nat→σ→World→Prop) (S:Nat→Prop)
  (hIs:∀ g s w j u,I g s w→(∃ cells,w.heap[g]?=some (.cells cells 3 (0,0)))→I g s (w.setCell ⟨g,j,none⟩ u))
  (hat:∀ g k s set s' c w,I g s w→(∀ W',Kept w W' S→(Kd.int .i64).C W' (some ⟨g,0,none⟩) set.length set)→set.length≤c→V k s set=some s'→Calls Try.prog G (#[.slice (some ⟨g,0,none⟩) set.length c]++C) w fun e w'=>e=.returned (.tuple #[])∧I g s' w'∧Kept w w' S)
  (k:Nat) (s:σ) (n m:Int) (s':σ) (w:World) (hi:∀ g w1,w.heap.size≤g→g<w1.heap.size→Below w.heap.size w w1→I g s w1) (hSb:∀ k,S k→k<w.heap.size) (h:Yw.f V k s n m=some s') :
  Calls Try.prog 78 #[.int .i64 n,.int .i64 m,.func (.func G) #[] C] w fun e w'=>e=.returned (.tuple #[])∧(∃ g,w.heap.size≤g∧I g s' w')∧Kept w w' S:=by
 have HB:=Jq.mk (Below.refl w.heap.size w);have HAT:=Jq.mk hat;have HIS:=Jq.mk hIs;have HE:=Jq.mk hent;have HSB:=Jq.mk hSb;have HW:=Jq.mk hi;clear hat hIs hent hSb hi;(unfold Yw.f at h);(by_cases c1:1≤n)
 ·rw[if_pos c1] at h;(by_cases c2:n.toNat≤35184372088832)
  ·rw[if_pos c2] at h;obtain⟨N,rfl⟩:=Int.eq_ofNat_of_zero_le (show 0≤n by omega);rw[Int.toNat_natCast] at c2;obtain⟨X,A10,H⟩:=Option.bind_eq_some_iff.mp h;rw[Int.toNat_natCast] at A10;have H':=Jq.mk A10;have HL:=Jq.mk H;have C1:=Jq.mk c1;have C2:=Jq.mk c2;have c0b:decide (0≤(N:Int))=true:=decide_eq_true (by omega);have c0n:decide ((N:Int)<0)=false:=decide_eq_false (by omega);have c0t:(0≤(N:Int))=True:=eq_true (by omega);clear h A10 H c1 c2;(go_enter Try.func78,Try.ntmps78)
   go_wp2_with (first
   |((with_reducible refine Xz (N:=10) rfl ?_);refine Kd.R_make (Kd.int .i64) _ 3 rfl (N:=10) rfl 26 _ _ rfl (N:Int) rfl rfl Try.underlying26 (.int .i64 0) 8 info3 rfl (by decide) (by omega) 0 (ok:=fun _=>True) (okp:=fun _=>True) rfl (fun _ hk=>hk) trivial (by have:=C1.out;omega) (by rw[Int.toNat_natCast];have:=C2.out;omega) (Below.refl _ _) (Nat.le_refl _) ?_;intro v10 w4 ho hb hg_ hnew_;clear hg_ hnew_;rw[Int.toNat_natCast] at ho;have n0_:=Jq.mk (Kd.R_lower ho (Kj HB.out));have n1_:=Jq.mk (Yj HB.out hb);obtain⟨g,c,ev,hgb,hgl,hgc⟩:=Kd.R_form n0_.out (by rw[List.length_replicate];have:=C1.out;omega);subst ev;rw[List.length_replicate] at n0_;have HG:=Jq.mk hgb;have HGC:=Jq.mk hgc;clear HB hb ho hgb hgl hgc;have HO:=n0_;have HB:=n1_;clear n0_ n1_)
   |fail)
   (go_loopg [13] k (fun kq v13 w'=>∃ (x:List Int) (i:Int),v13=.int .i64 i∧Jq (Yw.f0 (N:Int) m kq x i=some X)∧Jq (kq≤k)∧Jq (Kd.R (Kd.int .i64) 3 w' w.heap.size (fun _=>True) (.slice (some ⟨g,0,none⟩) N c) x)∧Jq (Below w.heap.size w w')));(case atStart=>exact⟨_,0,rfl,H',⟨Nat.le_refl _⟩,HO,HB⟩)
   case round =>
    clear H' HO HB;obtain⟨x,i,rfl,HA,HK1,HO,HB⟩:=hrel
    cases gk with
   |zero=>exact absurd HA.out (by simp[Yw.f0])
   |succ k1 =>
     have H:=HA.out;clear HA;(simp only[Yw.f0] at H);(by_cases c1:i<(N:Int));(·rw[if_pos c1] at H;have c1b:decide (i<(N:Int))=true:=decide_eq_true c1;(by_cases c2:0≤i);(·rw[if_pos c2] at H;obtain⟨y,hy⟩:∃ y_:List Int,y_=x.set i.toNat (wrap64 (-m)):=⟨_,rfl⟩;rw[←hy] at H;have NY:=Jq.mk hy;have H':=Jq.mk H;obtain⟨hx,hf⟩:=Kd.R_celln 0 HO.out i c2 c1;have p1:=eq_true c1;have p2:=eq_true c2;have HP:=Jq.mk (Kd.R_putn HO.out i (wrap64 (-m)));have HGG:=Jq.mk (show w.heap.size≤g from HG.out);clear c1 c2 H hy;(go_wp2);(go_roundg k1);(case measure=>exact d21_);(case rel=>exact⟨y,wrap64 (i+1),rfl,H',⟨d21_⟩,⟨by rw[NY.out];exact HP.out⟩,⟨Zq HB.out HGG.out⟩⟩));(·exact r5_ c2 H))
     ·rw[if_neg c1] at H;have c1b:decide (i<(N:Int))=false:=decide_eq_false c1;obtain rfl:=Option.some.inj H;clear H c1;have HI:=Jq.mk (HW.out g wr HG.out (by obtain⟨g',c',e,_,hl,_⟩:=Kd.R_form HO.out (by have:=(Kd.R_reads' HO.out).1;have:=C1.out;omega);injection e with e1 _ _;injection e1 with e1;injection e1 with e1;rw[e1];exact hl) HB.out);have HK:=Jq.mk (Kept.of_below HB.out S);clear HB HW;(try go_wp2);(go_loopg [8] k (fun kq v8 w'=>∃ (s1:σ) (x1:List Int),Jq (Yw.l0 V (N:Int) m kq s1 x1=some s')∧Jq (kq≤k)∧Jq (Kd.R (Kd.int .i64) 3 w' w.heap.size (fun _=>True) (.slice (some ⟨g,0,none⟩) N c) x1)∧Jq (I g s1 w')∧Jq (Kept w w' S)));(case atStart=>exact⟨s,x,HL,⟨Nat.le_refl _⟩,HO,HI,HK⟩)
      case round =>
       clear HL HO HI HK HK1;obtain⟨s1,x1,HA,HK1,HO,HI,HK⟩:=hrel
       cases gk with
      |zero=>exact absurd HA.out (by simp[Yw.l0])
      |succ k2 =>
        have H:=HA.out;clear HA;(simp only[Yw.l0] at H);obtain⟨s2,A10,H⟩:=Option.bind_eq_some_iff.mp H;obtain⟨⟨y,i2⟩,A20,H⟩:=Option.bind_eq_some_iff.mp H;have A2:=Jq.mk A20;have HF:=Jq.mk H;have hN:=(Kd.R_reads' HO.out).1;have hNc:=(Kd.R_reads' HO.out).2.1;have A3:=HAT.out g k2 s1 x1 s2 c wr HI.out (by rw[←hN];exact Kd.C_kept_own (Kd.R_bound HO.out) (fun k_ hk hs=>by have:=HSB.out _ hs;have:=hk.2.1;omega)) (by omega) A10;rw[←hN] at A3;have A4:=Jq.mk A3;clear A10 A20 H hN hNc A3
        go_wp2_with (first
        |(refine goesC_ (some 24) rfl rfl HE.out #[.slice (some ⟨g,0,none⟩) N c] rfl rfl d17_ ?_;(with_reducible refine A4.out.mono ?_);rintro e w9 ⟨rfl,hi9,hk9⟩;refine⟨_,rfl,?_⟩;have n0_:=Jq.mk hi9;have n1_:=Jq.mk (HK.out.then_ hk9 (fun _ h=>.inl h));have n2_:=Jq.mk (Kd.R_mono (ok':=fun _=>True) (Kd.R_kept (Kd.R_bound HO.out) hk9 (fun k_ hk hs=>by have:=HSB.out _ hs;have:=hk.2.1;omega)) (fun _ _=>trivial));clear hi9 hk9 HI HK HO A4;have HI:=n0_;have HK:=n1_;have HO:=n2_;clear n0_ n1_ n2_)
        |fail)
        (go_loopg [8] k2 (fun kq v8 w'=>∃ (x2:List Int) (i:Int),v8=.int .i64 i∧Jq (Yw.g0 (N:Int) m kq x2 i=some (y,i2))∧Jq (kq≤k2)∧Jq (Kd.R (Kd.int .i64) 3 w' w.heap.size (fun _=>True) (.slice (some ⟨g,0,none⟩) N c) x2)∧Jq (I g s2 w')∧Jq (Kept w w' S)));(case atStart=>exact⟨x1,_,rfl,A2,⟨Nat.le_refl _⟩,HO,HI,HK⟩)
        case round =>
         clear A2 HO HI HK;obtain⟨x2,i,rfl,HA,HK3,HO,HI,HK⟩:=hrel
         cases gk with
        |zero=>exact absurd HA.out (by simp[Yw.g0])
        |succ k3 =>
          have H:=HA.out;clear HA;(simp only[Yw.g0] at H);(by_cases c1:0≤i);(·rw[if_pos c1] at H;have c1b:decide (0≤i)=true:=decide_eq_true c1;have c1c:decide (i ≥ 0)=true:=decide_eq_true c1;(by_cases c2:i<(N:Int));(·rw[if_pos c2] at H;obtain⟨hx,hf⟩:=Kd.R_celln 0 HO.out i c1 c2;replace hx:wr.cell? ⟨g,i.toNat,none⟩=some (.int .i64 (rd x2 i)):=hx;have p1:=eq_true c1;have p2:=eq_true c2;(by_cases c3:rd x2 i=m);(·rw[if_pos c3] at H;have c3b:(rd x2 i == m)=true:=beq_iff_eq.mpr c3;obtain⟨z,hz⟩:∃ z_:List Int,z_=x2.set i.toNat (wrap64 (-m)):=⟨_,rfl⟩;rw[←hz] at H;have NZ:=Jq.mk hz;have H':=Jq.mk H;have HP:=Jq.mk (Kd.R_putn HO.out i (wrap64 (-m)));have HGG:=Jq.mk (show w.heap.size≤g from HG.out);have HQ:=Jq.mk (HIS.out g s2 wr i.toNat (.int .i64 (wrap64 (-m))) HI.out d99_);have HKS:=Jq.mk (HK.out.setCell (p:=⟨g,i.toNat,none⟩) (.inr HG.out) (.int .i64 (wrap64 (-m))));clear c1 c2 c3 H hz;(go_wp2);(go_roundg k3);(case measure=>have:=HK3.out;omega);(case rel=>exact⟨z,wrap64 (i - 1),rfl,H',⟨by have:=HK3.out;omega⟩,⟨by rw[NZ.out];exact HP.out⟩,HQ,HKS⟩));(·rw[if_neg c3] at H;have c3b:(rd x2 i == m)=false:=beq_eq_false_iff_ne.mpr c3;(obtain⟨rfl,rfl⟩:x2=y∧i=i2:=by simpa using H);have H:=HF.out;(have ci:¬ i<0:=by omega);have cib:decide (i<0)=false:=decide_eq_false ci;(simp only[if_neg ci,if_pos c2] at H);obtain⟨z,hz⟩:∃ z_:List Int,z_=x2.set i.toNat (wrap64 (rd x2 i+1)):=⟨_,rfl⟩;rw[←hz] at H;have NZ:=Jq.mk hz;have H':=Jq.mk H;have HP:=Jq.mk (Kd.R_putn HO.out i (wrap64 (rd x2 i+1)));have HGG:=Jq.mk (show w.heap.size≤g from HG.out);have HKS:=Jq.mk (HK.out.setCell (p:=⟨g,i.toNat,none⟩) (.inr HG.out) (.int .i64 (wrap64 (rd x2 i+1))));have HQ:=Jq.mk (HIS.out g s2 wr i.toNat (.int .i64 (wrap64 (rd x2 i+1))) HI.out d99_);clear c1 c2 c3 ci H hz;(go_wp2);(go_roundg k2);(case measure=>exact d21_);(case rel=>exact⟨s2,z,H',⟨d21_⟩,⟨by rw[NZ.out];exact HP.out⟩,HQ,HKS⟩)));(·exact r5_ c2 H));(·rw[if_neg c1] at H;have c1b:decide (0≤i)=false:=decide_eq_false c1;have c1c:decide (i ≥ 0)=false:=decide_eq_false c1;(obtain⟨rfl,rfl⟩:x2=y∧i=i2:=by simpa using H);have H:=HF.out;(have ci:i<0:=by omega);have cib:decide (i<0)=true:=decide_eq_true ci;(simp only[if_pos ci] at H);obtain rfl:=Option.some.inj H;clear c1 ci H;(go_wp2);(first|go_end0|((try simp only[Exit.inBlock,Exit.then]);refine bodyPost_ret (results_none rfl _ _ _) rfl ?_));exact⟨rfl,⟨g,HG.out,HI.out⟩,HK.out⟩)
  ·rw[if_neg c2] at h;exact absurd h (by simp)
 ·rw[if_neg c1] at h;exact absurd h (by simp)
def Zw.ins (s:List Int) (t:Int):List Int:=if t∈s then s else t :: s
def Zw.g0 (qs:List Int) (b:Int):Nat→Int→Int→Option Int
|0,_,_=>none
|k+1,t,j=>if j<(qs.length:Int) then(if 0≤j then(if rd qs j ≥ b then Zw.g0 qs b k (Go.bits .or .i64 t (shl .i64 1 j)) (wrap64 (j+1)) else Zw.g0 qs b k t (wrap64 (j+1))) else none) else some t
def Zw.l0 (N:Int) (set X:List Int):Nat→List Int→Int→Option (List Int)
|0,_,_=>none
|k+1,s,i=>if i<(X.length:Int) then(if 0≤i then(Jw.f k N set).bind fun qs=>(Zw.g0 qs (rd X i) k 0 0).bind fun t=>(if s.length<1000000000∧(Lit.int .i64 t).wf=true then Zw.l0 N set X k (Zw.ins s t) (wrap64 (i+1)) else none) else none) else some s
def Zw.v (N:Int) (k:Nat) (s:List Int) (set:List Int):Option (List Int):=(Jw.f k N set).bind fun ps=>(if ps.length<17592186044416 then Zw.l0 N set (ps++[99]) k s 0 else none)
def Zw.en (t:Int):Lit×DataW Unit:=(.int .i64 t,.lit (.bool true))
def Zw.Has (bm:Nat) (s:List Int) (w:World):Prop:=s.Nodup∧∃ l:List (Lit×DataW Unit),w.ownsMap Try.prog 3 (plainElem Try.prog 4) bm s.length (.map l)∧l.Perm (s.map Zw.en)
theorem Zw.Has.of_eq {bm:Nat} {s:List Int} {w w':World} (h:Zw.Has bm s w) (e:w'.heap[bm]?=w.heap[bm]?):Zw.Has bm s w':=by
 obtain⟨hn,l,⟨es,clock,hb,r⟩,hp⟩:=h;exact⟨hn,l,⟨es,clock,e.trans hb,r⟩,hp⟩
theorem Zw.Has.lt {bm:Nat} {s:List Int} {w:World} (h:Zw.Has bm s w):bm<w.heap.size:=by
 obtain⟨_,l,ho,_⟩:=h;exact ho.lt
theorem Zw.put_perm (s:List Int) (hn:s.Nodup) (t:Int) (l:List (Lit×DataW Unit)) (h:l.Perm (s.map Zw.en)):(Go.ChangeMaps.putKey (.int .i64 t) (.lit (.bool true)) l).Perm ((Zw.ins s t).map Zw.en)∧(Zw.ins s t).Nodup:=by
 have e1:(s.map Zw.en).filter (Go.ChangeMaps.notKey (.int .i64 t))=(s.filter (fun u=>u != t)).map Zw.en:=by
  rw[List.filter_map];(congr 1);(apply List.filter_congr);intro u _;(by_cases hu:u=t <;> simp[Function.comp,Zw.en,Go.ChangeMaps.notKey,Lit.sameKey,hu])
 have p1:(Go.ChangeMaps.putKey (.int .i64 t) (.lit (.bool true)) l).Perm (Zw.en t :: (s.filter (fun u=>u != t)).map Zw.en):=by
  (unfold Go.ChangeMaps.putKey);rw[←e1];exact(Go.WideShapes.insert_perm _ _).trans ((h.filter _).cons _)
 (unfold Zw.ins);(by_cases hm:t∈s);(·rw[if_pos hm];refine⟨p1.trans ?_,hn⟩;rw[←List.map_cons];(apply List.Perm.map);have e2:s.filter (fun u=>u != t)=s.erase t:=(List.Nodup.erase_eq_filter hn t).symm;rw[e2];exact(List.perm_cons_erase hm).symm);(·rw[if_neg hm];have e3:s.filter (fun u=>u != t)=s:=List.filter_eq_self.mpr (fun u hu=>by simp;rintro rfl;exact hm hu);rw[e3] at p1;exact⟨p1,List.nodup_cons.mpr ⟨hm,hn⟩⟩)
theorem Zw.Has.put {bm:Nat} {s:List Int} {w':World} {l:List (Lit×DataW Unit)} {t:Int} (hn:s.Nodup) (hp:l.Perm (s.map Zw.en)) (h:w'.ownsMap Try.prog 3 (plainElem Try.prog 4) bm (s.length+1) ((DataW.map l).put (.int .i64 t) (.lit (.bool true)))):Zw.Has bm (Zw.ins s t) w':=by
 obtain⟨q1,q2⟩:=Zw.put_perm s hn t l hp;rw[DataW.put_eq] at h;refine⟨q2,_,?_,q1⟩;obtain⟨es,clock,hb,F,hs,hD⟩:=h;refine⟨es,clock,hb,F,?_,hD⟩;have e1:=q1.length_eq;(injection hD with e2);have e3:=congrArg List.length e2;rw[length_sorted] at e3;(simp only[List.length_map,Array.length_toList] at e1 e3);(omega)
theorem Zw.Has.size {bm:Nat} {s:List Int} {w:World} (h:Zw.Has bm s w):∃ D:DataW Unit,w.ownsMap Try.prog 3 (plainElem Try.prog 4) bm s.length D∧Go.Maps.size D=s.length:=by
 obtain⟨_,l,ho,hp⟩:=h;refine⟨_,ho,?_⟩;(have:=hp.length_eq);(simp only[List.length_map] at this);(simpa [Go.Maps.size] using this)
theorem Zw.Has.made (w:World):Zw.Has w.heap.size [] (w.alloc (.map #[] 0)):=⟨List.nodup_nil,[],World.ownsMap_made _ _ _ _,by simp⟩
def Zw.I (w0:World) (N:Int) (b2 b5 bm:Nat) (g:Nat) (s:List Int) (w:World):Prop :=
 g≠b2∧g≠b5∧g≠bm∧b2≠bm∧b5≠bm∧w.heap[b2]?=some (.cells #[.int .i64 N] 3 (0,0))∧w.heap[b5]?=some (.cells #[.map (some bm)] 81 (0,0))∧Zw.Has bm s w∧w0.heap.size≤g∧w0.heap.size≤bm∧Below w0.heap.size w0 w
theorem Zw.I_below {w0:World} {N:Int} {b2 b5 bm g:Nat} {s:List Int} {w w':World} (h:Zw.I w0 N b2 b5 bm g s w) (hb:Below w.heap.size w w'):Zw.I w0 N b2 b5 bm g s w':=by
 obtain⟨n1,n2,n3,n4,n5,h1,h2,h3,h4,h5,h6⟩:=h;exact⟨n1,n2,n3,n4,n5,Vj h1 hb,Vj h2 hb,h3.of_eq (hb.block _ h3.lt),h4,h5,Yj h6 hb⟩
theorem Zw.I_set {w0:World} {N:Int} {b2 b5 bm g:Nat} {s:List Int} {w:World} (h:Zw.I w0 N b2 b5 bm g s w) (j:Nat) (u:Value):Zw.I w0 N b2 b5 bm g s (w.setCell ⟨g,j,none⟩ u):=by
 obtain⟨n1,n2,n3,n4,n5,h1,h2,h3,h4,h5,h6⟩:=h;exact⟨n1,n2,n3,n4,n5,Gz h1 n1.symm u,Gz h2 n2.symm u,h3.of_eq (RowKit.Below.heap_setCell _ _ _ _ n3.symm),h4,h5,Zq h6 h4⟩
theorem Zw.I_put {w0:World} {N:Int} {b2 b5 bm g:Nat} {s:List Int} {w w':World} {l:List (Lit×DataW Unit)} {t:Int} (h:Zw.I w0 N b2 b5 bm g s w) (hp:l.Perm (s.map Zw.en)) (hg:w.grownBy w' (some bm)) (ho:w'.ownsMap Try.prog 3 (plainElem Try.prog 4) bm (s.length+1) ((DataW.map l).put (.int .i64 t) (.lit (.bool true)))):Zw.I w0 N b2 b5 bm g (Zw.ins s t) w':=by
 obtain⟨n1,n2,n3,n4,n5,h1,h2,h3,h4,h5,h6⟩:=h;exact⟨n1,n2,n3,n4,n5,(hg.block b2 (blk_lt h1) (by simpa using n4)).trans h1,(hg.block b5 (blk_lt h2) (by simpa using n5)).trans h2,Zw.Has.put h3.1 hp ho,h4,h5,⟨hg.os.trans h6.os,hg.tape.trans h6.tape,hg.output.trans h6.output,Nat.le_trans h6.size hg.size,fun i hi=>(hg.block i (Nat.lt_of_lt_of_le hi h6.size) (fun e=>by injection e with e;omega)).trans (h6.block i hi)⟩⟩
set_option maxHeartbeats 8000000 in
set_option maxRecDepth 100000 in
theorem Zw.vcalls (w0:World) (N:Int) (b2 b5 bm:Nat) (g:Nat) (k:Nat) (s:List Int) (set:List Int) (s':List Int) (c:Nat) (w:World) (hi:Zw.I w0 N b2 b5 bm g s w) (hset:∀ W',Kept w W' (fun k_=>k_=bm)→(Kd.int .i64).C W' (some ⟨g,0,none⟩) set.length set) (hc:set.length≤c) (h:Zw.v N k s set=some s') :
  Calls Try.prog 126 (#[.slice (some ⟨g,0,none⟩) set.length c]++#[.pointer (some ⟨b2,0,none⟩),.pointer (some ⟨b5,0,none⟩)]) w fun e w'=>e=.returned (.tuple #[])∧Zw.I w0 N b2 b5 bm g s' w'∧Kept w w' (fun k_=>k_=bm):=by
 have HW:=Jq.mk hi;have HS:=Jq.mk hset;have HL:=Jq.mk hc;have HB:=Jq.mk (Below.refl w.heap.size w);have HM:=Jq.mk hi.2.2.2.2.2.2.2.1.lt;(unfold Zw.v at h);obtain⟨ps,A10,H⟩:=Option.bind_eq_some_iff.mp h;have A1:=Jq.mk A10;have hz0:w.cell? ⟨b2,0,none⟩=some (.int .i64 N):=(Xj hi.2.2.2.2.2.1 0).trans rfl;(by_cases c1:ps.length<17592186044416)
 ·rw[if_pos c1] at H;have LM:=Jq.mk c1;obtain⟨X,hX⟩:∃ y_:List Int,y_=ps++[99]:=⟨_,rfl⟩;rw[←hX] at H;have NX:=Jq.mk hX;have HH:=Jq.mk H;clear hset hc h hi A10 H hX c1;(go_enter Try.func126,Try.ntmps126)
  go_wp2_with (first
  |((with_reducible refine Gj (f:=127) rfl ?_);refine Kx (some 11) rfl rfl Try.func127 (by kernel_rfl) rfl #[.int .i64 N,.slice (some ⟨g,0,none⟩) set.length c] rfl d17_ ?_;(with_reducible refine(Jw.calls k N _ _ set ps _ ?s1 HL.out A1.out).mono ?_);(case s1=>exact HS.out _ (Kept.of_below HB.out _));rintro e w9 ⟨v11,rfl,ho0,hb⟩;refine⟨_,rfl,?_⟩;have HO:=Jq.mk ho0;replace HB:=Jq.mk (Yj HB.out hb);clear hb hz0 ho0)
  |((with_reducible refine gate_builtin (b:=.append) (xs:=#[.tmp 11,.tmp 12]) rfl ?_);at_builtin;refine Kd.R_append (Kd.int .i64) (w0:=w) w.heap.size rfl (.tmp 11) (.tmp 12) 26 3 (.int .i64 0) 8 rfl Try.underlying26 info3 rfl (by decide) (by omega) v11 ps 99 [.int .i64 99] (fun _=>True) (fun _=>False) rfl rfl ?aP (fun _ hk=>hk.elim) ?aF ?aO ?aB ?aS ?aL ?_;(case aP=>exact rfl);(case aB=>exact d1_);(case aF=>exact d39_);(case aO=>exact(r0_ HO.out));(case aS=>exact d83_);(case aL=>have:=LM.out;omega);intro v13 w10 ho hb hg hat;rw[←NX.out] at ho;have n0_:=Jq.mk hb;have n1_:=Jq.mk ho;clear HB HO ho hb hg hat;have HB:=n0_;have HO:=n1_;clear n0_ n1_;obtain⟨gx,cx,ev,hgb,hgl,hgc⟩:=Kd.R_form HO.out (by rw[NX.out];simp);subst ev;clear hgb hgl hgc)
  |fail)
  (go_loopg [15] k (fun kq v15 w'=>∃ (s1:List Int) (i:Int),v15=.int .i64 i∧Jq (Zw.l0 N set X kq s1 i=some s')∧Jq (kq≤k)∧Jq (Kd.R (Kd.int .i64) 3 w' w.heap.size (fun _=>True) (.slice (some ⟨gx,0,none⟩) X.length cx) X)∧Jq (Zw.I w0 N b2 b5 bm g s1 w')∧Jq (Kept w w' (fun k_=>k_=bm))));(case atStart=>exact⟨s,0,rfl,HH,⟨Nat.le_refl _⟩,HO,⟨Zw.I_below HW.out HB.out⟩,⟨Kept.of_below HB.out _⟩⟩)
  case round =>
   clear HH HO HW HB;obtain⟨s1,i,rfl,HA,HK1,HO,HI,HK⟩:=hrel
   cases gk with
  |zero=>exact absurd HA.out (by simp[Zw.l0])
  |succ k1 =>
    have H:=HA.out;clear HA;(simp only[Zw.l0] at H);(by_cases c1:i<(X.length:Int))
    ·rw[if_pos c1] at H;have c1b:decide (i<(X.length:Int))=true:=decide_eq_true c1;(by_cases c2:0≤i)
     ·rw[if_pos c2] at H;obtain⟨qs,A20,H⟩:=Option.bind_eq_some_iff.mp H;obtain⟨t,A30,H⟩:=Option.bind_eq_some_iff.mp H;(by_cases c3:s1.length<1000000000∧(Lit.int .i64 t).wf=true)
      ·rw[if_pos c3] at H;have A2:=Jq.mk A20;have A3:=Jq.mk A30;have C3:=Jq.mk c3;have H':=Jq.mk H;obtain⟨hx,hf⟩:=Kd.R_celln 0 HO.out i c2 c1;replace hx:wr.cell? ⟨gx,i.toNat,none⟩=some (.int .i64 (rd X i)):=hx;have p1:=eq_true c1;have p2:=eq_true c2;have hz0:wr.cell? ⟨b2,0,none⟩=some (.int .i64 N):=(Xj HI.out.2.2.2.2.2.1 0).trans rfl;clear c1 c2 c3 A20 A30 H hf
       go_wp2_with (first
       |((with_reducible refine Gj (f:=127) rfl ?_);refine Kx (some 21) rfl rfl Try.func127 (by kernel_rfl) rfl #[.int .i64 N,.slice (some ⟨g,0,none⟩) set.length c] rfl d17_ ?_;(with_reducible refine(Jw.calls k1 N _ _ set qs _ ?s1 HL.out A2.out).mono ?_);(case s1=>exact HS.out _ HK.out);rintro e w19 ⟨v21,rfl,ho0,hb⟩;refine⟨_,rfl,?_⟩;have HQ:=Jq.mk ho0;replace HO:=Jq.mk (Kd.R_below HO.out hb);replace HI:=Jq.mk (Zw.I_below HI.out hb);replace HK:=Jq.mk (HK.out.below hb);clear hb hx hz0 ho0;obtain⟨Aq,cq,eq_⟩:=Kd.R_slice HQ.out;subst eq_)
       |fail)
       (go_loopg [6,23] k1 (fun kq v6 v23 w'=>∃ (t0 j:Int),v6=.int .i64 t0∧v23=.int .i64 j∧Jq (Zw.g0 qs (rd X i) kq t0 j=some t)∧Jq (kq≤k1)∧Jq (Kd.R (Kd.int .i64) 3 w' wr.heap.size (fun _=>True) (.slice Aq qs.length cq) qs)∧Jq (Kd.R (Kd.int .i64) 3 w' w.heap.size (fun _=>True) (.slice (some ⟨gx,0,none⟩) X.length cx) X)∧Jq (Zw.I w0 N b2 b5 bm g s1 w')∧Jq (Kept w w' (fun k_=>k_=bm))));(case atStart=>exact⟨0,0,rfl,rfl,A3,⟨Nat.le_refl _⟩,HQ,HO,HI,HK⟩)
       case round =>
        clear A3 HQ HO HI HK;obtain⟨t0,j,rfl,rfl,HA,HK2,HQ,HO,HI,HK⟩:=hrel
        cases gk with
       |zero=>exact absurd HA.out (by simp[Zw.g0])
       |succ k2 =>
         have H:=HA.out;clear HA;(simp only[Zw.g0] at H);(by_cases d1:j<(qs.length:Int));(·rw[if_pos d1] at H;have d1b:decide (j<(qs.length:Int))=true:=decide_eq_true d1;(by_cases d2:0≤j);(·rw[if_pos d2] at H;obtain⟨gq,cq',e,_,_,_⟩:=Kd.R_form HQ.out (by omega);(injection e with e1 _ e3);subst e1 e3;obtain⟨hx,hf⟩:=Kd.R_celln 0 HQ.out j d2 d1;replace hx:wr.cell? ⟨gq,j.toNat,none⟩=some (.int .i64 (rd qs j)):=hx;have p1:=eq_true d1;have p2:=eq_true d2;have p2b:decide (0≤j)=true:=decide_eq_true d2;clear hf;(by_cases d3:rd qs j ≥ rd X i);(·rw[if_pos d3] at H;have d3b:decide (rd qs j ≥ rd X i)=true:=decide_eq_true d3;have d3c:decide (rd X i≤rd qs j)=true:=decide_eq_true d3;obtain⟨ji,hji⟩:∃ j_:Int,(shl .i64 1 j)=j_:=⟨_,rfl⟩;rw[hji] at H;have hji_:(IntKind.i64.wrap (1 * 2 ^ min j.toNat 64))=ji:=hji;(have hjiu:(IntKind.i64.wrap (2 ^ min j.toNat 64))=ji:=by have h_:=hji_;rw[Int.one_mul] at h_;exact h_);have hjiy:(wrap64 (1 * 2 ^ min j.toNat 64))=ji:=(i64_w _).symm.trans hji_;have hjiz:(wrap64 (2 ^ min j.toNat 64))=ji:=(i64_w _).symm.trans hjiu;have H':=Jq.mk H;clear d1 d2 d3 H hji;(go_wp2);(go_roundg k2);(case measure=>have:=HK2.out;omega);(case rel=>exact⟨_,_,rfl,rfl,H',⟨by have:=HK2.out;omega⟩,HQ,HO,HI,HK⟩));(·rw[if_neg d3] at H;have d3b:decide (rd qs j ≥ rd X i)=false:=decide_eq_false d3;have d3c:decide (rd X i≤rd qs j)=false:=decide_eq_false d3;have H':=Jq.mk H;clear d1 d2 d3 H;(go_wp2);(go_roundg k2);(case measure=>have:=HK2.out;omega);(case rel=>exact⟨_,_,rfl,rfl,H',⟨by have:=HK2.out;omega⟩,HQ,HO,HI,HK⟩)));(·rw[if_neg d2] at H;exact absurd H (by simp)))
         ·rw[if_neg d1] at H;have d1b:decide (j<(qs.length:Int))=false:=decide_eq_false d1;obtain rfl:=Option.some.inj H;have hz5:wr.cell? ⟨b5,0,none⟩=some (.map (some bm)):=(Xj HI.out.2.2.2.2.2.2.1 0).trans rfl;obtain⟨l,ho,hp⟩:=HI.out.2.2.2.2.2.2.2.1.2;have HOW:=Jq.mk ho;have HP:=Jq.mk hp;clear d1 H ho hp
          go_wp2_with (first
          |(at_mapUpdate;refine wpList_mapUpdate_own _ rfl _ _ _ 81 rfl 3 4 (Go.Maps.int_keyed Try.underlying3) Try.underlying81 _ bm s1.length (.map l) rfl HOW.out (by have:=C3.out.1;unfold maxLen;omega) _ _ (.int .i64 t0) rfl rfl (Go.Maps.keyOf_int_mk Try.underlying3 C3.out.2) (.lit (.bool true)) [] (plainElem_bool Try.underlying4 true) ?_;intro w29 hown1 hgrow1;replace HI:=Jq.mk (Zw.I_put HI.out HP.out hgrow1 hown1);replace HK:=Jq.mk (HK.out.of_grown hgrow1 (fun _ h_=>by injection h_ with h_;exact .inl h_.symm));replace HO:=Jq.mk (Kd.R_mono (ok':=fun _=>True) (Kd.R_kept (Kd.R_bound HO.out) ((Kept.refl _ (fun k_=>k_=bm)).of_grown hgrow1 (fun _ h_=>by injection h_ with h_;exact .inl h_.symm)) (fun k_ hk hs=>by have:=HM.out;have:=hk.2.1;omega)) (fun _ _=>trivial));clear HQ HOW HP hown1 hgrow1 hz5)
          |fail)
          (go_roundg k1);(case measure=>exact d21_);(case rel=>exact⟨_,_,rfl,H',⟨d21_⟩,HO,HI,HK⟩)
      ·rw[if_neg c3] at H;exact absurd H (by simp)
     ·rw[if_neg c2] at H;exact absurd H (by simp)
    ·rw[if_neg c1] at H;have c1b:decide (i<(X.length:Int))=false:=decide_eq_false c1;obtain rfl:=Option.some.inj H;clear c1 H;(go_wp2);(first|go_end0|((try simp only[Exit.inBlock,Exit.then]);refine bodyPost_ret (results_none rfl _ _ _) rfl ?_));exact⟨rfl,HI.out,HK.out⟩
 ·rw[if_neg c1] at H;exact absurd H (by simp)
def Zw.f (k:Nat) (n m:Int):Option (List Int):=Yw.f (Zw.v n) k [] n m
set_option maxHeartbeats 8000000 in
set_option maxRecDepth 100000 in
theorem Zw.calls (k:Nat) (n m:Int) (r:List Int) (w:World) (h:Zw.f k n m=some r) :
  Calls Try.prog 70 #[.int .i64 n,.int .i64 m] w fun e w'=>∃ bm:Nat,e=.returned (.map (some bm))∧Zw.Has bm r w'∧Below w.heap.size w w':=by
 have hu81:=Try.underlying81;have hmf:∀ (fn:Fn) (first cap:Array Value) (w:World),(Instr.makeFunc fn first cap).run Try.prog w=.ok (.func fn first cap) w:=fun _ _ _ _=>rfl;have hmm:∀ (w:World),(Instr.makeMap 81 none).run Try.prog w=.ok (.map (some w.heap.size)) (w.alloc (.map #[] 0)):=fun _=>rfl;have HB:=Jq.mk (Below.refl w.heap.size w);have A1:=Jq.mk h;clear h;(unfold Zw.f at A1);(go_enter Try.func70,Try.ntmps70)
 go_wp2_with (first
 |((with_reducible refine Xz (N:=2) rfl ?_);refine Zz ?hg (N:=2) ?hd (cs:=#[.int .i64 n]) (t:=3) ?hr ?_;(case hd=>rfl);(case hg=>rfl);(case hr=>exact d11_);intro b2 hg w9 hbox hb;have B0:=Jq.mk (Yj HB.out hb);have K0:=Jq.mk hbox;have Z2:=Jq.mk (show w.heap.size≤b2 by rw[hg];exact HB.out.size);have hb9:Below w9.heap.size w9 ((w9.alloc (.map #[] 0)).alloc (.cells #[.map (some w9.heap.size)] 81)):=Yq (Yq (Below.refl _ _) _) _;have KF:=Jq.mk (Vj K0.out hb9);have BF:=Jq.mk (Yj B0.out hb9);have hz2:((w9.alloc (.map #[] 0)).alloc (.cells #[.map (some w9.heap.size)] 81)).cell? ⟨b2,0,none⟩=some (.int .i64 n):=(Xj KF.out 0).trans rfl;clear HB hb hbox hg hb9)
 |fail)
 have hs1:(w9.alloc (.map #[] 0)).heap.size=w9.heap.size+1:=by simp
 have K5:((w9.alloc (.map #[] 0)).alloc (.cells #[.map (some w9.heap.size)] 81)).heap[w9.heap.size+1]?=some (.cells #[.map (some w9.heap.size)] 81 (0,0)):=by
  rw[←hs1];exact(MapKept.heap_alloc _ _).1
 have K6:Zw.Has w9.heap.size [] ((w9.alloc (.map #[] 0)).alloc (.cells #[.map (some w9.heap.size)] 81)):=(Zw.Has.made w9).of_eq ((Yq (Below.refl _ _) _:Below (w9.alloc (.map #[] 0)).heap.size (w9.alloc (.map #[] 0)) _).block _ (by rw[hs1];omega));have hb2:=blk_lt K0.out;refine(Yw.calls (Zw.v n) 126 #[.pointer (some ⟨b2,0,none⟩),.pointer (some ⟨w9.heap.size+1,0,none⟩)] (ent_of Try.func126 (by kernel_rfl) rfl) (Zw.I w n b2 (w9.heap.size+1) w9.heap.size) (fun k_=>k_=w9.heap.size) (fun g s w j u hI_ _=>Zw.I_set hI_ j u) (Zw.vcalls w n b2 (w9.heap.size+1) w9.heap.size) k [] n m r _ ?pi ?ps A1.out).mono ?_;(case pi=>exact fun g w1 hg hg1 hb=>⟨by have:=blk_lt KF.out;omega,by have:=blk_lt K5;omega,by have:=K6.lt;omega,by omega,by omega,Vj KF.out hb,Vj K5 hb,K6.of_eq (hb.block _ K6.lt),Nat.le_trans BF.out.size hg,B0.out.size,Yj BF.out hb⟩);(case ps=>exact fun k_ hk_=>by subst hk_;exact K6.lt);rintro e w31 ⟨rfl,⟨g,hg,hi9⟩,hk9⟩;obtain⟨_,_,_,_,_,J1,J2,J3,_,_,J6⟩:=hi9;have Q3:=Jq.mk J3;have Q6:=Jq.mk J6;have hp2:w31.cell? ⟨w9.heap.size+1,0,none⟩=some (.map (some w9.heap.size)):=(Xj J2 0).trans rfl;clear hk9 hg J1 J2 J3 J6 hz2 K5 K6 KF BF B0 K0;(go_wp2);(first|go_end0|((try simp only[Exit.inBlock,Exit.then]);refine bodyPost_ret (v:=.map (some w9.heap.size)) (by simp[results,Try.results70,go_sem, *]) rfl ?_));exact⟨_,rfl,Q3.out,Q6.out⟩
def Yk.f (k:Nat) (n m:Int):Option (Int×Bool):=(Vw.f n 1 3).bind fun t=>(if t=true then((Vw.f m 0 5).bind fun u=>(if u=true then((Zw.f k n m).bind fun s=>some ((s.length:Int),true)) else some (0,false))) else some (0,false))
set_option maxHeartbeats 8000000 in
set_option maxRecDepth 100000 in
theorem Yk.calls (k:Nat) (n m:Int) (r1:Int) (r2:Bool) (w:World) (h:Yk.f k n m=some (r1,r2)) :
  Calls Try.prog 16 #[.int .i64 n,.int .i64 m] w fun e w'=>e=.returned (.tuple #[.int .i64 r1,.bool r2])∧Below w.heap.size w w':=by
 have HB:=Jq.mk (Below.refl w.heap.size w);(unfold Yk.f at h);obtain⟨t,A10,H⟩:=Option.bind_eq_some_iff.mp h;have A1:=Jq.mk A10;clear h A10
 cases t with
|false =>
  simp only[Bool.false_eq_true,if_false,Option.some.injEq,Prod.mk.injEq] at H
  obtain⟨rfl,rfl⟩:=H
  go_enter Try.func16,Try.ntmps16
  go_wp2_with (first
  |((with_reducible refine Gj (f:=69) rfl ?_);refine Kx (some 7) rfl rfl Try.func69 (by kernel_rfl) rfl #[.int .i64 n,.int .i64 1,.int .i64 3] rfl d17_ ?_;(with_reducible refine(Vw.calls n 1 3 false _ A1.out).mono ?_);rintro e w' ⟨rfl,⟨nd,rfl⟩⟩;refine⟨_,rfl,?_⟩)
  |fail)
  first|go_end0|(refine bodyPost_ret (v:=.tuple #[.int .i64 0,.bool false]) (by simp[results,Try.results16,go_sem, *]) rfl ?_)
  exact⟨rfl,d82_⟩
|true =>
  simp only[if_true] at H
  obtain⟨u,A20,H⟩:=Option.bind_eq_some_iff.mp H
  have A2:=Jq.mk A20
  clear A20
  cases u with
 |false =>
   simp only[Bool.false_eq_true,if_false,Option.some.injEq,Prod.mk.injEq] at H
   obtain⟨rfl,rfl⟩:=H
   go_enter Try.func16,Try.ntmps16
   go_wp2_with (first
   |((with_reducible refine Gj (f:=69) rfl ?_);refine Kx (some 7) rfl rfl Try.func69 (by kernel_rfl) rfl #[.int .i64 n,.int .i64 1,.int .i64 3] rfl d17_ ?_;(with_reducible refine(Vw.calls n 1 3 true _ A1.out).mono ?_);rintro e w' ⟨rfl,⟨nd,rfl⟩⟩;refine⟨_,rfl,?_⟩)
   |fail)
   refine(Vw.calls m 0 5 false _ A2.out).mono ?_
   rintro e w12 ⟨rfl,⟨nd2,rfl⟩⟩
   go_wp2
   first|go_end0|(refine bodyPost_ret (v:=.tuple #[.int .i64 0,.bool false]) (by simp[results,Try.results16,go_sem, *]) rfl ?_)
   exact⟨rfl,d82_⟩
 |true =>
   simp only[if_true] at H
   obtain⟨s,A40,H⟩:=Option.bind_eq_some_iff.mp H
   have A4:=Jq.mk A40
   obtain⟨rfl,rfl⟩:(s.length:Int)=r1∧true=r2:=by simpa using H
   clear A40 H
   go_enter Try.func16,Try.ntmps16
   go_wp2_with (first
   |((with_reducible refine Gj (f:=69) rfl ?_);refine Kx (some 7) rfl rfl Try.func69 (by kernel_rfl) rfl #[.int .i64 n,.int .i64 1,.int .i64 3] rfl d17_ ?_;(with_reducible refine(Vw.calls n 1 3 true _ A1.out).mono ?_);rintro e w' ⟨rfl,⟨nd,rfl⟩⟩;refine⟨_,rfl,?_⟩)
   |fail)
   refine(Vw.calls m 0 5 true _ A2.out).mono ?_
   rintro e w12 ⟨rfl,⟨nd2,rfl⟩⟩
   go_wp2_with (first
   |((with_reducible refine Gj (f:=70) rfl ?_);refine Kx (some 16) rfl rfl Try.func70 (by kernel_rfl) rfl #[.int .i64 n,.int .i64 m] rfl d17_ ?_;(with_reducible refine(Zw.calls k n m s _ A4.out).mono ?_);rintro e w31 ⟨bm,rfl,hh,hb⟩;refine⟨_,rfl,?_⟩;have n1_:=Jq.mk (Yj d82_ hb);obtain⟨D,ho,hsz⟩:=hh.size;have hlen:∀ ty,(Builtin.len_ #[81] ty #[.map (some bm)]).run Try.prog w31=.ok (.int .i64 (s.length:Int)) w31:=(fun ty=>by rw[←hsz];exact ho.len Try.underlying81 ty);clear HB hh hb ho hsz;have HB:=n1_;clear n1_)
   |fail)
   first|go_end0|(refine bodyPost_ret (v:=.tuple #[.int .i64 (s.length:Int),.bool true]) (by simp[results,Try.results16,go_sem, *]) rfl ?_)
   exact⟨rfl,d82_⟩
end Go.Proofs.Ytdjclffkidoohaa.QFnPartings
