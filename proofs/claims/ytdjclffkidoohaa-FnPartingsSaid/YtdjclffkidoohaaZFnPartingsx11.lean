/- Some of the functions that the law reaches, and what they tell; no condition. -/
import Derived.BigRegion
import Derived.Laws.Cover3
import Derived.Outline
import Derived.StillTailTactics
import Derived.Test.YtdjclffkidoohaaVFnPartings
import Derived.Test.YtdjclffkidoohaaZFnPartingsH
import Derived.Test.YtdjclffkidoohaaZFnPartingsx0
import Derived.Test.YtdjclffkidoohaaZFnPartingsx10
import Derived.Test.YtdjclffkidoohaaZFnPartingsx18
import Derived.Test.YtdjclffkidoohaaZFnPartingsx9
namespace Go.Proofs.Ytdjclffkidoohaa.QFnPartings
open Go.RowKit Go.Proofs.YtdjclffkidoohaaW.PrintWords Go.Proofs.YtdjclffkidoohaaW.PrintLast Go.Proofs.YtdjclffkidoohaaW.PrintMore
attribute [local go_sem] max2_int min2_int max_two min_two max_three min_three max_four min_four   -- for this text's walks alone
set_option linter.unusedVariables false
set_option linter.unusedSimpArgs false
open Go.Proofs.Ytdjclffkidoohaa.Hof
open Go.Proofs.Ytdjclffkidoohaa.Clos
def Yx.v0 (l0:List (List Int)) (set:List Int):Nat→List (List Int)→Int→Option (List (List Int))
|0,_,_=>none
|k+1,acc,i=>if i<(set.length:Int) then(if 0≤i then(if 0≤rd set i then(if rd set i<(l0.length:Int) then(if(rd_L1 l0 (rd set i)).length<17592186044415 then(if acc.length<5864062014805 then Yx.v0 l0 set k (acc++[[1]++rd_L1 l0 (rd set i)]) (wrap64 (i+1)) else none) else none) else none) else none) else none) else some acc
def Yx.v (l0:List (List Int)) (kk:Int) (k:Nat) (s:Unit) (set:List Int):Option (Bool×Unit) :=
 (Yx.v0 l0 set k [] 0).bind fun vs=>(if 0<(vs.length:Int) then((Kw.f k vs ((rd_L1 vs 0).length:Int)).bind fun bt=>some (decide ((bt.1.length:Int)<kk),s)) else none)
def Yx.I (w0:World) (A0:Option Addr) (c0:Nat) (l0:List (List Int)) (kk:Int) (bp bk:Nat) (_:Unit) (w:World):Prop :=
 Below w0.heap.size w0 w∧w.heap[bp]?=some (.cells #[.slice A0 l0.length c0] 25 (0,0))∧w.heap[bk]?=some (.cells #[.int .i64 kk] 3 (0,0))
theorem Yx.I_below {w0:World} {A0:Option Addr} {c0:Nat} {l0:List (List Int)} {kk:Int} {bp bk:Nat} {s:Unit} {w w':World} (h:Yx.I w0 A0 c0 l0 kk bp bk s w) (hb:Below w.heap.size w w'):Yx.I w0 A0 c0 l0 kk bp bk s w' :=
 ⟨Yj h.1 hb,Vj h.2.1 hb,Vj h.2.2 hb⟩
set_option maxHeartbeats 8000000 in
set_option maxRecDepth 100000 in
theorem Yx.vcalls (w0:World) (A0:Option Addr) (c0:Nat) (l0:List (List Int)) (hr0:Kd.C (Kd.slice 3 (Kd.int .i64)) w0 A0 l0.length l0) (kk:Int) (bp bk:Nat)
  (k:Nat) (s:Unit) (set:List Int) (b:Bool) (s':Unit) (A:Option Addr) (c:Nat) (w:World) (hi:Yx.I w0 A0 c0 l0 kk bp bk s w) (hset:∀ W',Kept w W' (fun _=>False)→(Kd.int .i64).C W' A set.length set) (hc:set.length≤c) (h:Yx.v l0 kk k s set=some (b,s')) :
  Calls Try.prog 90 (#[.slice A set.length c]++#[.pointer (some ⟨bp,0,none⟩),.pointer (some ⟨bk,0,none⟩)]) w fun e w'=>e=.returned (.bool b)∧Yx.I w0 A0 c0 l0 kk bp bk s' w'∧Kept w w' (fun _=>False):=by
 have HR0:=Jq.mk hr0;have HW:=Jq.mk hi;have HS:=Jq.mk hset;have HB:=Jq.mk (Below.refl w.heap.size w);(unfold Yx.v at h);obtain⟨vs,A10,H⟩:=Option.bind_eq_some_iff.mp h;have HF:=Jq.mk H;clear hr0 hi hset hc h H;obtain⟨y0,hy0⟩:∃ y_:List (List Int),y_=([]:List (List Int)):=⟨_,rfl⟩;rw[←hy0] at A10;have NY:=Jq.mk hy0;have H':=Jq.mk A10;clear hy0 A10;(go_enter Try.func90,Try.ntmps90);(go_wp2_with (first|((with_reducible refine Xz (N:=8) rfl ?_);refine Kd.S_lit (Kd.slice 3 (Kd.int .i64)) _ 26 ?hg (N:=8) ?hd (xs:=([]:List (List Int))) (inner:=[]) (ok:=fun _=>True) (okp:=fun _=>True) ?hr ?hp (fun _ hk=>hk) trivial (Below.refl _ _) (Nat.le_refl _) (by simp) ?_;(case hd=>rfl);(case hg=>rfl);(case hr=>exact d11_);(case hp=>exact d34_);intro v11 w2 ho3 hb hg_ hnew_;clear hg_ hnew_;rw[←NY.out] at ho3;have HOv:=Jq.mk (Kd.S_lower ho3 (Kj HB.out));replace HB:=Jq.mk (Yj HB.out hb);clear hb ho3)));(go_loopg [5,11] k (fun kq v5 v11 w'=>∃ (acc:List (List Int)) (i:Int),v11=.int .i64 i∧Jq (Yx.v0 l0 set kq acc i=some vs)∧Jq (kq≤k)∧Jq (Kd.S (Kd.slice 3 (Kd.int .i64)) 26 w' w.heap.size (fun _=>True) v5 acc)∧Jq (Below w.heap.size w w')));(case atStart=>exact⟨y0,0,rfl,H',⟨Nat.le_refl _⟩,HOv,HB⟩)
 case round =>
  clear H' HOv NY HB;obtain⟨acc,i,rfl,HA,HK1,HOv,HB⟩:=hrel
  cases gk with
 |zero=>exact absurd HA.out (by simp[Yx.v0])
 |succ k1 =>
   have H:=HA.out;clear HA;(simp only[Yx.v0] at H);(by_cases c1:i<(set.length:Int))
   ·rw[if_pos c1] at H;have c1b:decide (i<(set.length:Int))=true:=decide_eq_true c1;(by_cases c2:0≤i)
    ·rw[if_pos c2] at H;(by_cases c3:0≤rd set i)
     ·rw[if_pos c3] at H;(by_cases c4:rd set i<(l0.length:Int))
      ·rw[if_pos c4] at H;(by_cases c5:(rd_L1 l0 (rd set i)).length<17592186044415)
       ·rw[if_pos c5] at H;(by_cases c6:acc.length<5864062014805)
        ·rw[if_pos c6] at H;have L5:=Jq.mk c5;have L6:=Jq.mk c6;clear c5 c6;obtain⟨yr,hyr⟩:∃ y_:List Int,y_=[1]++rd_L1 l0 (rd set i):=⟨_,rfl⟩;rw[←hyr] at H;obtain⟨y1,hy1⟩:∃ y_:List (List Int),y_=acc++[yr]:=⟨_,rfl⟩;rw[←hy1] at H;have NY:=Jq.mk hy1;have NR:=Jq.mk hyr;have H':=Jq.mk H;clear H hy1 hyr;obtain⟨ad,ea,hx⟩:=Kd.at_int (HS.out wr (Kept.of_below HB.out _)) i c2 c1;(cases ea);have HI:=Jq.mk (Yx.I_below HW.out HB.out);have hz0:wr.cell? ⟨bp,0,none⟩=some (.slice A0 l0.length c0):=(Xj HI.out.2.1 0).trans rfl;obtain⟨ad2,A2,cc2,ea2,hx2,hl2,hi2⟩:=at_L1 HR0.out (rd set i) c3 c4;(cases ea2);replace hx2:=(HI.out.1.cell (World.block_lt_of_cell? w0 _ hx2)).trans hx2;have HR2:=Jq.mk (Kd.C_below hi2 HI.out.1);have p1:=eq_true c2;have p2:=eq_true c1;have p3:=eq_true c3;have p4:=eq_true c4;clear c1 c2 c3 c4 hl2 hi2
         go_wp2_with (first
         |((with_reducible refine Xz (N:=16) rfl ?_);refine Kd.R_lit (Kd.int .i64) _ 3 ?hg (N:=16) ?hd (xs:=([1]:List Int)) (inner:=[.int .i64 1]) (ok:=fun _=>True) (okp:=fun _=>True) ?hr ?hp (fun _ hk=>hk) trivial (Below.refl _ _) (Nat.le_refl _) (by simp) ?_;(case hd=>rfl);(case hg=>rfl);(case hr=>exact d11_);(case hp=>exact(Reps.one (show Kd.M (Kd.int .i64) _ _ _ 1 [.int .i64 1] from rfl) (Reps.none _ _)));intro v16 w16 ho9 hb hg_ hnew_;clear hg_ hnew_;have n0_:=Jq.mk (Kd.S_elder' HOv.out (Kd.R_base ho9) hb);have n2_:=Jq.mk (Kd.R_lower ho9 (Kj HB.out));have n3_:=Jq.mk (Yj HB.out hb);have n4_:=Jq.mk (Kd.C_below HR2.out hb);have n5_:=Jq.mk (Yx.I_below HI.out hb);have hz0':w16.cell? ⟨bp,0,none⟩=some (.slice (some ad2) l0.length c0):=(Xj n5_.out.2.1 0).trans rfl;have hx2':=(hb.cell (World.block_lt_of_cell? wr _ hx2)).trans hx2;clear HOv HB HR2 HI hb ho9 hz0 hx2;have HOv:=n0_;have HOt:=n2_;have HB:=n3_;have HR2:=n4_;have HI:=n5_;clear n0_ n2_ n3_ n4_ n5_)
         |((with_reducible refine gate_builtin (b:=.append) (xs:=#[.tmp 16,.tmp 20]) rfl ?_);at_builtin;refine Kd.R_append_rows (Kd.int .i64) (w0:=w) w.heap.size rfl (.tmp 16) (.tmp 20) 26 3 (.int .i64 0) 8 rfl Try.underlying26 info3 rfl (by decide) (by omega) v16 ([1]:List Int) (rd_L1 l0 (rd set i)) _ _ _ (fun k_=>True∧some k_≠(u5:Value).ownBlock) (fun _=>False) rfl rfl ?aO ?aR (fun _ _ h=>h) (fun _ h=>h.elim) ?aF ?aB ?aS ?aL ?_;(case aR=>exact HR2.out);(case aB=>exact HB.out);(case aF=>exact(fun k_ hk=>⟨trivial,Kd.fresh' (Kd.S_lt HOv.out) k_ hk⟩));(case aO=>exact Kd.R_apart' HOt.out (Kd.S_typed HOv.out) (by decide));(case aS=>exact(Kj HB.out));(case aL=>have:=L5.out;simp only[List.length_singleton];omega);intro v21 w21 ho hb hg hat;rw[←NR.out] at ho;have n0_:=Jq.mk hb;have n1_:=Jq.mk ho;have n2_:=Jq.mk (Kd.S_after (ok:=fun _=>True) HOv.out hg hat);clear HB HOt HOv;have HB:=n0_;have HOt:=n1_;have HOv:=n2_;clear n0_ n1_ n2_;clear ho hb hg hat;obtain⟨Ao,co,eo⟩:=Kd.R_slice HOt.out;subst eo)
         |((with_reducible refine gate_builtin (b:=.append) (xs:=#[.tmp 15,.tmp 22]) rfl ?_);at_builtin;refine Kd.S_append (Kd.slice 3 (Kd.int .i64)) (w0:=w) w.heap.size rfl (.tmp 15) (.tmp 22) 25 26 (.slice none 0 0) 24 rfl Try.underlying25 info26 rfl (by decide) (by omega) u5 acc yr [.slice Ao yr.length co] (fun _=>True) (fun k_=>some k_=(.slice Ao yr.length co:Value).ownBlock) rfl rfl ?aP (fun k_ hk_=>(Kd.R_apart' (HOt.out) (Kd.S_typed HOv.out) (by decide)).1 k_ hk_.symm |>.imp_left fun _=>trivial) ?aF ?aO ?aB ?aS ?aL ?_;(case aP=>exact Kd.M_row (Kd.R_mono (Kd.R_tight rfl HOt.out) (fun _ h_=>h_)));(case aB=>exact HB.out);(case aF=>exact d39_);(case aO=>exact Kd.S_mono HOv.out (fun k_ hk=>⟨trivial,fun e_=>hk.2 e_⟩));(case aS=>exact(Kj HB.out));(case aL=>have:=L6.out;omega);intro v23 w25 ho hb hg hat;rw[←NY.out] at ho;replace HB:=Jq.mk (hb);replace HOv:=Jq.mk (ho);clear HOt;clear ho hb hg hat))
         (go_roundg k1);(case measure=>exact d21_);(case rel=>exact⟨y1,wrap64 (i+1),rfl,H',⟨d21_⟩,HOv,HB⟩)
        ·rw[if_neg c6] at H;exact absurd H (by simp)
       ·rw[if_neg c5] at H;exact absurd H (by simp)
      ·rw[if_neg c4] at H;exact absurd H (by simp)
     ·rw[if_neg c3] at H;exact absurd H (by simp)
    ·rw[if_neg c2] at H;exact absurd H (by simp)
   ·rw[if_neg c1] at H;have c1b:decide (i<(set.length:Int))=false:=decide_eq_false c1;obtain rfl:=Option.some.inj H;clear H c1;have H:=HF.out;(by_cases c2:0<(acc.length:Int));(·rw[if_pos c2] at H;obtain⟨⟨pv,rr⟩,A20,H⟩:=Option.bind_eq_some_iff.mp H;have A2:=Jq.mk A20;have hbv2:decide ((pv.length:Int)<kk)=b:=congrArg Prod.fst (Option.some.inj H);have HBV:=Jq.mk hbv2;clear A20 hbv2 H;obtain⟨Av,cv,ev⟩:=Kd.S_slice HOv.out;subst ev;have HI:=Jq.mk (Yx.I_below HW.out HB.out);have hzk:wr.cell? ⟨bk,0,none⟩=some (.int .i64 kk):=(Xj HI.out.2.2 0).trans rfl;obtain⟨ad,A1,c1_,ea,hx,hl,hi⟩:=at_L1 (Kd.S_reads' HOv.out).2.2 0 (by omega) c2;(cases ea);have qi:(0<acc.length)=True:=eq_true (by omega);(try rw[show ((0:Int)).toNat=0 from rfl] at hx);(try rw[Addr.add_zero'] at hx);have c2t:=eq_true c2;have c2b:decide (0<(acc.length:Int))=true:=decide_eq_true c2;clear hl hi c2;(go_wp2);refine start_ (n:=10) (S:=fun w'=>w'.cell? ad=some (.slice A1 (rd_L1 acc 0).length c1_)∧w'.cell? ⟨bk,0,none⟩=some (.int .i64 kk)) (ds:=[5]) #[F_,F_,F_,F_,F_,F_,F_,F_,F_,F_] (by kernel_rfl) rfl rfl ⟨hx,hzk⟩ (fun hHeld=>?_);have n1_:=Jq.mk (Kd.S_drewN HOv.out 1);have n2_:=Jq.mk (Kq HB.out 1);have n3_:=Jq.mk (Yx.I_below HI.out (Kq (Below.refl _ _) 1));clear HOv HB HI hx hzk;obtain⟨wd,hwd⟩:∃ wd:World,wr.drew=wd:=⟨_,rfl⟩;have hwe:wr.drewN 1=wd:=hwd;rw[hwe] at n1_ n2_ n3_;rw[hwd] at hHeld ⊢;clear hwe hwd;have HOv:=n1_;have HB:=n2_;have HI:=n3_;clear n1_ n2_ n3_;obtain⟨hx,hzk⟩:=hHeld;have hHeld:=And.intro hx hzk;refine pu_ (i:=0) (N:=some 25) #[T_,F_,F_,F_,F_,F_,F_,F_,F_,F_] ?_;refine pu_ (i:=1) (N:=some 26) #[T_,T_,F_,F_,F_,F_,F_,F_,F_,F_] ?_;refine pu_ (i:=2) (N:=some 27) #[T_,T_,T_,F_,F_,F_,F_,F_,F_,F_] ?_;refine tk_ (i:=3) (N:=some 28) #[T_,T_,T_,T_,F_,F_,F_,F_,F_,F_] rfl (by rintro w' ⟨s0,s1⟩;(go_simp);(with_reducible rfl)) ?_;refine pu_ (i:=4) (N:=some 29) #[T_,T_,T_,T_,T_,F_,F_,F_,F_,F_] ?_;refine split_ (i:=5) (j:=7) (Ni:=some 30) (Nj:=some 32) (v:=?_) #[T_,T_,T_,T_,T_,T_,F_,F_,F_,F_] #[T_,T_,T_,T_,T_,F_,F_,T_,F_,F_] rfl rfl rfl rfl (by kernel_rfl) (by decide) (fun K hK=>?_) (by rfl) ?_ ?_;rotate_left;(·have HO2:=Jq.mk (Kd.S_mono (ok':=fun k_=>w.heap.size≤k_) (Kd.S_bound HOv.out) (fun k_ hk=>hk.2.1));refine Jx Try.func91 (by kernel_rfl) rfl #[.slice (some ad) acc.length cv,.int .i64 ((rd_L1 acc 0).length:Int)] (by rfl) rfl rfl d17_ ?_;(with_reducible refine(Kw.calls k (fun k_=>w.heap.size≤k_) _ acc _ pv rr w _ HB.out HO2.out A2.out).mono ?_);rintro e w9 ⟨v9,rfl,hr9,_,hb9,_⟩;refine⟨_,rfl,?_⟩;have HB9:=Jq.mk hb9;have HI9:=Jq.mk (Yx.I_below HW.out hb9);have hzk9:w9.cell? ⟨bk,0,none⟩=some (.int .i64 kk):=(Xj HI9.out.2.2 0).trans rfl;obtain⟨Ap,cp,rfl⟩:=Kd.R_slice hr9;clear hr9 hb9 hHeld hx hzk;refine hK _ _ ?_;clear hK K;refine norm_ (a':=?_) ?_ ?_;rotate_left;(·(show Act.put _ (some 30) _=_);(simp only[Z_]);(rfl));refine pu_ (i:=6) (N:=some 31) #[T_,T_,T_,T_,T_,T_,T_,F_,F_,F_] ?_;refine here_ (i:=7) (N:=some 32) (v:=?_) #[T_,T_,T_,T_,T_,T_,T_,T_,F_,F_] rfl rfl (by kernel_rfl) (by rfl) ?_ ?_;rotate_left;(·exact d111_);refine norm_ (a':=?_) ?_ ?_;rotate_left;(·(simp only[Z_]);(rfl));refine pu_ (i:=8) (N:=some 33) #[T_,T_,T_,T_,T_,T_,T_,T_,T_,F_] ?_;refine pu_ (i:=9) (N:=some 4) #[T_,T_,T_,T_,T_,T_,T_,T_,T_,T_] ?_;refine done_ (by kernel_rfl) ?_;have hbt:=HBV.out;(try rw[hbt]);(go_wp2);(go_ret);exact⟨by first|rfl|(rw[HBV.out]),HI9.out,Kept.of_below HB9.out _⟩);(·exact d111_);(·refine norm_ (a':=?_) ?_ ?_;rotate_left;(·(simp only[Z_]);(rfl));refine last_ (i:=5) (N:=some 30) #[T_,T_,T_,T_,T_,T_,F_,T_,F_,F_] rfl rfl (by kernel_rfl) (by decide) (fun K hK=>?_);have HO2:=Jq.mk (Kd.S_mono (ok':=fun k_=>w.heap.size≤k_) (Kd.S_bound HOv.out) (fun k_ hk=>hk.2.1));refine Jx Try.func91 (by kernel_rfl) rfl #[.slice (some ad) acc.length cv,.int .i64 ((rd_L1 acc 0).length:Int)] (by rfl) rfl rfl d17_ ?_;(with_reducible refine(Kw.calls k (fun k_=>w.heap.size≤k_) _ acc _ pv rr w _ HB.out HO2.out A2.out).mono ?_);rintro e w9 ⟨v9,rfl,hr9,_,hb9,_⟩;refine⟨_,rfl,?_⟩;have HB9:=Jq.mk hb9;have HI9:=Jq.mk (Yx.I_below HW.out hb9);have hzk9:w9.cell? ⟨bk,0,none⟩=some (.int .i64 kk):=(Xj HI9.out.2.2 0).trans rfl;obtain⟨Ap,cp,rfl⟩:=Kd.R_slice hr9;clear hr9 hb9 hHeld hx hzk;refine hK _ _ ?_;clear hK K;refine norm_ (a':=?_) ?_ ?_;rotate_left;(·(show Act.put _ (some 30) _=_);(simp only[Z_]);(rfl));refine pu_ (i:=6) (N:=some 31) #[T_,T_,T_,T_,T_,T_,T_,T_,F_,F_] ?_;refine pu_ (i:=8) (N:=some 33) #[T_,T_,T_,T_,T_,T_,T_,T_,T_,F_] ?_;refine pu_ (i:=9) (N:=some 4) #[T_,T_,T_,T_,T_,T_,T_,T_,T_,T_] ?_;refine done_ (by kernel_rfl) ?_;have hbt:=HBV.out;(try rw[hbt]);(go_wp2);(go_ret);exact⟨by first|rfl|(rw[HBV.out]),HI9.out,Kept.of_below HB9.out _⟩));(·exact r5_ c2 H)
def Yx.f (k:Nat) (l0:List (List Int)):Option (Bool×Bool):=(Vk.f k l0).bind fun t=>(if t=true then(if(l0.length:Int)=0 then some (true,true) else(if 0<(l0.length:Int) then((Kv.f (Yx.v l0 (mn (l0.length:Int) (wrap64 (((rd_L1 l0 0).length:Int)+1)))) k () (l0.length:Int) (mn (l0.length:Int) (wrap64 (((rd_L1 l0 0).length:Int)+1)))).bind fun t2=>some (!t2.1,true)) else none)) else some (false,false))
set_option maxHeartbeats 8000000 in
set_option maxRecDepth 100000 in
theorem Yx.calls (k:Nat) (A0:Option Addr) (c0:Nat) (l0:List (List Int)) (r1:Bool) (r2:Bool) (w:World) (hr0:Kd.C (Kd.slice 3 (Kd.int .i64)) w A0 l0.length l0) (hc0:l0.length≤c0) (h:Yx.f k l0=some (r1,r2)) :
  Calls Try.prog 29 #[.slice A0 l0.length c0] w fun e w'=>e=.returned (.tuple #[.bool r1,.bool r2])∧Below w.heap.size w w':=by
 have hmf:∀ (fn:Fn) (first cap:Array Value) (w:World),(Instr.makeFunc fn first cap).run Try.prog w=.ok (.func fn first cap) w:=fun _ _ _ _=>rfl;have HR0:=Jq.mk hr0;have HC0:=Jq.mk hc0;have HB:=Jq.mk (Below.refl w.heap.size w);(unfold Yx.f at h);obtain⟨t,A10,H⟩:=Option.bind_eq_some_iff.mp h;clear hr0 hc0 h
 cases t with
|false =>
  have A1:=Jq.mk A10
  simp only[Bool.false_eq_true,if_false,Option.some.injEq,Prod.mk.injEq] at H
  obtain⟨rfl,rfl⟩:=H
  clear A10
  go_enter Try.func29,Try.ntmps29
  go_wp2_with (first
  |((with_reducible refine Xz (N:=1) rfl ?_);refine Zz ?hg (N:=1) ?hd (cs:=#[.slice A0 l0.length c0]) (t:=25) ?hr ?_;(case hd=>rfl);(case hg=>rfl);(case hr=>exact d11_);intro bp hg w9 hbox hb;have B1:=Jq.mk (Yj HB.out hb);have K1:=Jq.mk hbox;have hz0:w9.cell? ⟨bp,0,none⟩=some (.slice A0 l0.length c0):=(Xj hbox 0).trans rfl;clear HB hb hbox hg)
  |((with_reducible refine Gj (f:=88) rfl ?_);refine Kx (some 6) rfl rfl Try.func88 (by kernel_rfl) rfl #[.slice A0 l0.length c0] rfl d17_ ?_;(with_reducible refine(Vk.calls _ _ _ l0 false _ ?s1 HC0.out A1.out).mono ?_);(case s1=>exact Kd.C_below HR0.out B1.out);rintro e w10 ⟨rfl,hb⟩;refine⟨_,rfl,?_⟩;have B2:=Jq.mk (Yj B1.out hb);have K2:=Jq.mk (Vj K1.out hb);have hz1:w10.cell? ⟨bp,0,none⟩=some (.slice A0 l0.length c0):=(Xj K2.out 0).trans rfl;clear B1 K1 hz0 hb)
  |fail)
  refine bodyPost_ret (v:=.tuple #[.bool false,.bool false]) (by simp[results,Try.results29,go_sem]) rfl ?_
  exact⟨rfl,B2.out⟩
|true =>
  have A1:=Jq.mk A10
  simp only[if_true] at H
  clear A10
  by_cases c1:(l0.length:Int)=0
  ·rw[if_pos c1] at H
   obtain⟨rfl,rfl⟩:true=r1∧true=r2:=by simpa using H
   have hl0:l0.length=0:=by omega
   have c1b:(l0.length == 0)=true:=by simp[hl0]
   have c1d:((l0.length:Int) == 0)=true:=by simp[hl0]
   have c1e:decide ((l0.length:Int)=0)=true:=by simp[hl0]
   clear c1 H hl0
   go_enter Try.func29,Try.ntmps29
   go_wp2_with (first
   |((with_reducible refine Xz (N:=1) rfl ?_);refine Zz ?hg (N:=1) ?hd (cs:=#[.slice A0 l0.length c0]) (t:=25) ?hr ?_;(case hd=>rfl);(case hg=>rfl);(case hr=>exact d11_);intro bp hg w9 hbox hb;have B1:=Jq.mk (Yj HB.out hb);have K1:=Jq.mk hbox;have hz0:w9.cell? ⟨bp,0,none⟩=some (.slice A0 l0.length c0):=(Xj hbox 0).trans rfl;clear HB hb hbox hg)
   |((with_reducible refine Gj (f:=88) rfl ?_);refine Kx (some 6) rfl rfl Try.func88 (by kernel_rfl) rfl #[.slice A0 l0.length c0] rfl d17_ ?_;(with_reducible refine(Vk.calls _ _ _ l0 true _ ?s1 HC0.out A1.out).mono ?_);(case s1=>exact Kd.C_below HR0.out B1.out);rintro e w10 ⟨rfl,hb⟩;refine⟨_,rfl,?_⟩;have B2:=Jq.mk (Yj B1.out hb);have K2:=Jq.mk (Vj K1.out hb);have hz1:w10.cell? ⟨bp,0,none⟩=some (.slice A0 l0.length c0):=(Xj K2.out 0).trans rfl;clear B1 K1 hz0 hb)
   |fail)
   refine bodyPost_ret (v:=.tuple #[.bool true,.bool true]) (by simp[results,Try.results29,go_sem]) rfl ?_
   exact⟨rfl,B2.out⟩
  ·rw[if_neg c1] at H
   by_cases c2:0<(l0.length:Int)
   ·rw[if_pos c2] at H
    obtain⟨M,hM⟩:∃ M:Int,(if wrap64 (((rd_L1 l0 0).length:Int)+1)<(l0.length:Int) then wrap64 (((rd_L1 l0 0).length:Int)+1) else(l0.length:Int))=M:=⟨_,rfl⟩
    rw[show mn (l0.length:Int) (wrap64 (((rd_L1 l0 0).length:Int)+1))=M from hM] at H
    have HM:=Jq.mk hM
    obtain⟨⟨b,s2⟩,A40,H⟩:=Option.bind_eq_some_iff.mp H
    have A4:=Jq.mk A40
    obtain⟨rfl,rfl⟩:(!b)=r1∧true=r2:=by simpa using H
    have c1b:(l0.length == 0)=false:=beq_eq_false_iff_ne.mpr (by omega)
    have c1c:¬ l0=[]:=by rintro rfl;simp at c2
    have c1d:((l0.length:Int) == 0)=false:=beq_eq_false_iff_ne.mpr c1
    have c1e:decide ((l0.length:Int)=0)=false:=decide_eq_false c1
    obtain⟨ad,A1_,c1_,ea,hx,hl,hi⟩:=at_L1 HR0.out 0 (by omega) c2
    cases ea
    have qi:(0<l0.length)=True:=eq_true (by omega)
    (try rw[show ((0:Int)).toNat=0 from rfl] at hx)
    (try rw[Addr.add_zero'] at hx)
    have c2t:=eq_true c2
    have c2b:decide (0<(l0.length:Int))=true:=decide_eq_true c2
    have hAd:=Jq.mk (World.block_lt_of_cell? w _ hx)
    have hX:=Jq.mk hx
    clear hl hi c1 c2 A40 H hx hM
    go_enter Try.func29,Try.ntmps29
    go_wp2_with (first
    |((with_reducible refine Xz (N:=1) rfl ?_);refine Zz ?hg (N:=1) ?hd (cs:=#[.slice (some ad) l0.length c0]) (t:=25) ?hr ?_;(case hd=>rfl);(case hg=>rfl);(case hr=>exact d11_);intro bp hg w9 hbox hb;have B1:=Jq.mk (Yj HB.out hb);have K1:=Jq.mk hbox;have hz0:w9.cell? ⟨bp,0,none⟩=some (.slice (some ad) l0.length c0):=(Xj hbox 0).trans rfl;clear HB hb hbox hg)
    |((with_reducible refine Gj (f:=88) rfl ?_);refine Kx (some 6) rfl rfl Try.func88 (by kernel_rfl) rfl #[.slice (some ad) l0.length c0] rfl d17_ ?_;(with_reducible refine(Vk.calls _ _ _ l0 true _ ?s1 HC0.out A1.out).mono ?_);(case s1=>exact Kd.C_below HR0.out B1.out);rintro e w10 ⟨rfl,hb⟩;refine⟨_,rfl,?_⟩;have B2:=Jq.mk (Yj B1.out hb);have K2:=Jq.mk (Vj K1.out hb);have hz1:w10.cell? ⟨bp,0,none⟩=some (.slice (some ad) l0.length c0):=(Xj K2.out 0).trans rfl;clear B1 K1 hz0 hb)
    |fail)
    have hx:w10.cell? ad=some (.slice A1_ (rd_L1 l0 0).length c1_):=(B2.out.cell hAd.out).trans hX.out
    refine start_ (n:=10) (S:=fun w'=>w'.cell? ad=some (.slice A1_ (rd_L1 l0 0).length c1_)∧w'.cell? ⟨bp,0,none⟩=some (.slice (some ad) l0.length c0)) (ds:=[9]) #[F_,F_,F_,F_,F_,F_,F_,F_,F_,F_] (by kernel_rfl) rfl rfl ⟨hx,hz1⟩ (fun hHeld=>?_)
    have n2_:=Jq.mk (Kq B2.out 1)
    have n3_:=Jq.mk (Vj K2.out (Kq (Below.refl _ _) 1))
    clear B2 K2 hx hz1
    obtain⟨wd,hwd⟩:∃ wd:World,w10.drew=wd:=⟨_,rfl⟩
    have hwe:w10.drewN 1=wd:=hwd
    rw[hwe] at n2_ n3_
    rw[hwd] at hHeld ⊢
    clear hwe hwd
    have B2:=n2_
    have K2:=n3_
    clear n2_ n3_
    obtain⟨hx,hz1⟩:=hHeld
    have hHeld:=And.intro hx hz1
    refine take_ (i:=0) (N:=some 11) (v:=?_) (a':=?_) #[T_,F_,F_,F_,F_,F_,F_,F_,F_,F_] rfl rfl (by kernel_rfl) (fun _ _ _ h=>h) (Or.inl ⟨by rfl,?_⟩) hHeld ?_ ?_
    rotate_left
    ·rintro w' ⟨s0,s1⟩
     go_simp
     with_reducible rfl
    rotate_left
    ·simp only[Z_]
     rfl
    refine pure_ (i:=1) (N:=some 12) (v:=?_) (a':=?_) #[T_,T_,F_,F_,F_,F_,F_,F_,F_,F_] rfl rfl (by kernel_rfl) (fun _ _ _ h=>h) (Or.inl ⟨by rfl,?_⟩) ?_ ?_
    rotate_left
    ·intro w'
     go_simp
     first|(with_reducible rfl)|(simp only[ByteArray.size_extract] at *;simp only[show ∀ (d_:Array UInt8),(⟨d_⟩:ByteArray).size=d_.size from fun _=>rfl,List.size_toArray,List.length_cons,List.length_nil] at *;rw[if_neg (by omega)])
    rotate_left
    ·simp only[Z_]
     rfl
    refine take_ (i:=2) (N:=some 13) (v:=?_) (a':=?_) #[T_,T_,T_,F_,F_,F_,F_,F_,F_,F_] rfl rfl (by kernel_rfl) (fun _ _ _ h=>h) (Or.inl ⟨by rfl,?_⟩) hHeld ?_ ?_
    rotate_left
    ·rintro w' ⟨s0,s1⟩
     go_simp
     with_reducible rfl
    rotate_left
    ·simp only[Z_]
     rfl
    refine pure_ (i:=3) (N:=some 14) (v:=?_) (a':=?_) #[T_,T_,T_,T_,F_,F_,F_,F_,F_,F_] rfl rfl (by kernel_rfl) (fun _ _ _ h=>h) (Or.inl ⟨by rfl,?_⟩) ?_ ?_
    rotate_left
    ·intro w'
     go_simp
     first|(with_reducible rfl)|(simp only[ByteArray.size_extract] at *;simp only[show ∀ (d_:Array UInt8),(⟨d_⟩:ByteArray).size=d_.size from fun _=>rfl,List.size_toArray,List.length_cons,List.length_nil] at *;rw[if_neg (by omega)])
    rotate_left
    ·simp only[Z_]
     rfl
    refine take_ (i:=4) (N:=some 15) (v:=?_) (a':=?_) #[T_,T_,T_,T_,T_,F_,F_,F_,F_,F_] rfl rfl (by kernel_rfl) (fun _ _ _ h=>h) (Or.inl ⟨by rfl,?_⟩) hHeld ?_ ?_
    rotate_left
    ·rintro w' ⟨s0,s1⟩
     go_simp
     with_reducible rfl
    rotate_left
    ·simp only[Z_]
     rfl
    refine pure_ (i:=5) (N:=some 16) (v:=?_) (a':=?_) #[T_,T_,T_,T_,T_,T_,F_,F_,F_,F_] rfl rfl (by kernel_rfl) (fun _ _ _ h=>h) (Or.inl ⟨by rfl,?_⟩) ?_ ?_
    rotate_left
    ·intro w'
     go_simp
     first|(with_reducible rfl)|(simp only[ByteArray.size_extract] at *;simp only[show ∀ (d_:Array UInt8),(⟨d_⟩:ByteArray).size=d_.size from fun _=>rfl,List.size_toArray,List.length_cons,List.length_nil] at *;rw[if_neg (by omega)])
    rotate_left
    ·simp only[Z_]
     rfl
    refine pure_ (i:=6) (N:=some 17) (v:=?_) (a':=?_) #[T_,T_,T_,T_,T_,T_,T_,F_,F_,F_] rfl rfl (by kernel_rfl) (fun _ _ _ h=>h) (Or.inl ⟨by rfl,?_⟩) ?_ ?_
    rotate_left
    ·intro w'
     go_simp
     first|(with_reducible rfl)|(simp only[ByteArray.size_extract] at *;simp only[show ∀ (d_:Array UInt8),(⟨d_⟩:ByteArray).size=d_.size from fun _=>rfl,List.size_toArray,List.length_cons,List.length_nil] at *;rw[if_neg (by omega)])
    rotate_left
    ·simp only[Z_]
     rfl
    refine pure_ (i:=7) (N:=some 18) (v:=?_) (a':=?_) #[T_,T_,T_,T_,T_,T_,T_,T_,F_,F_] rfl rfl (by kernel_rfl) (fun _ _ _ h=>h) (Or.inl ⟨by rfl,?_⟩) ?_ ?_
    rotate_left
    ·intro w'
     go_simp
     first|(with_reducible rfl)|(simp only[ByteArray.size_extract] at *;simp only[show ∀ (d_:Array UInt8),(⟨d_⟩:ByteArray).size=d_.size from fun _=>rfl,List.size_toArray,List.length_cons,List.length_nil] at *;rw[if_neg (by omega)])
    rotate_left
    ·simp only[Z_]
     rfl
    refine one_ (i:=8) (N:=some 4) #[T_,T_,T_,T_,T_,T_,T_,T_,T_,F_] rfl rfl (by kernel_rfl) (by decide) (fun K hK=>?_)
    refine value_ (w1:=?_) (v:=?_) (by rfl) rfl ?_ ?_
    rotate_left 2
    ·go_simp
     constructor
     ·rfl
     ·rfl
    refine hK.out _ _ ⟨((Yq B2.out _).cell hAd.out).trans hX.out,(Xj (Vq K2.out _) 0).trans rfl⟩ (fun hHeld=>?_)
    clear hK K
    refine norm_ (a':=?_) ?_ ?_
    rotate_left
    ·show Act.put _ (some 4) _=_
     simp only[Z_]
     rfl
    refine last_ (i:=9) (N:=none) #[T_,T_,T_,T_,T_,T_,T_,T_,T_,T_] rfl rfl (by kernel_rfl) (by decide) (fun K hK=>?_)
    have N9:=Jq.mk (Vz wd (.cells #[.int .i64 0] 3 (0,0)))
    have hn9:(wd.alloc (.cells #[.int .i64 0] 3 (0,0))).cell? ⟨wd.heap.size,0,none⟩=some (.int .i64 0):=(Xj N9.out 0).trans rfl
    refine skip_ (w1:=?_) (by rfl) rfl ?_ ?_
    rotate_left
    ·go_simp
     rfl
    rw[HM.out]
    refine hK.out _ _ ?_
    clear hK K
    refine done_ (by kernel_rfl) ?_
    have HI:Jq (Yx.I w (some ad) c0 l0 M bp wd.heap.size () (wd.alloc (.cells #[.int .i64 M] 3 (0,0)))) :=
     ⟨⟨Yq B2.out _,Vq K2.out _,Vz wd _⟩⟩
    clear hHeld hx hz1 hn9 N9 B2 K2
    obtain⟨W9,hW9⟩:∃ W9:World,wd.alloc (.cells #[.int .i64 M] 3 (0,0))=W9:=⟨_,rfl⟩
    obtain⟨bk,hbk⟩:∃ bk:Nat,wd.heap.size=bk:=⟨_,rfl⟩
    rw[hW9] at HI ⊢
    rw[hbk] at HI ⊢
    clear hW9 hbk
    have hz1:W9.cell? ⟨bp,0,none⟩=some (.slice (some ad) l0.length c0):=(Xj HI.out.2.1 0).trans rfl
    have hzk:W9.cell? ⟨bk,0,none⟩=some (.int .i64 M):=(Xj HI.out.2.2 0).trans rfl
    go_wp2_with fail
    refine(Kv.calls (Yx.v l0 M) 90 #[.pointer (some ⟨bp,0,none⟩),.pointer (some ⟨bk,0,none⟩)] (ent_of Try.func90 (by kernel_rfl) rfl) (Yx.I w (some ad) c0 l0 M bp bk) (fun _=>False) (fun s_ wa wb hi_ hb_=>Yx.I_below hi_ hb_) (Yx.vcalls w (some ad) c0 l0 HR0.out M bp bk) k () (l0.length:Int) M b s2 W9 HI.out (fun k_ hk_=>hk_.elim) A4.out).mono ?_
    rintro e w9 ⟨rfl,hi9,hk9⟩
    have Q1:=Jq.mk hi9.1
    clear hi9 hk9 HI hz1 hzk
    go_wp2
    refine bodyPost_ret (v:=.tuple #[.bool (!b),.bool true]) (by simp[results,Try.results29,go_sem]) rfl ?_
    exact⟨rfl,Q1.out⟩
   ·rw[if_neg c2] at H
    exact absurd H (by simp)
end Go.Proofs.Ytdjclffkidoohaa.QFnPartings
