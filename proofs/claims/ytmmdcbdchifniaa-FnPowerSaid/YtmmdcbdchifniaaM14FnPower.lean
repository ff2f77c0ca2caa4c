/- Walks of Go functions and lemmas on what they compute, for the row of FnPower (a part of several): each call ends as the Lean function of its name tells; the conditions are those of each theorem. -/
import Derived.Test.YtmmdcbdchifniaaM1FnPower
import Derived.Test.YtmmdcbdchifniaaM2FnPower
import Derived.Test.YtmmdcbdchifniaaM3FnPower
import Derived.Test.YtmmdcbdchifniaaM6FnPower
import Derived.Test.YtmmdcbdchifniaaM8FnPower
import Derived.Test.YtmmdcbdchifniaaM9FnPower
import Derived.Test.YtmmdcbdchifniaaM10FnPower
import Derived.Test.YtmmdcbdchifniaaM11FnPower
import Derived.Test.YtmmdcbdchifniaaM12FnPower
import Derived.Test.YtmmdcbdchifniaaM13FnPower
namespace Go.Proofs.Ytmmdcbdchifniaa.F
open Go.RowKit Go.Proofs.YtmmdcbdchifniaaW.PrintWords Go.Proofs.YtmmdcbdchifniaaW.PrintLast Go.Proofs.YtmmdcbdchifniaaW.PrintMore
attribute [local go_sem] max2_int min2_int max_two min_two max_three min_three max_four min_four 
set_option linter.unusedVariables false
set_option linter.unusedSimpArgs false
def fcN : Nat → Nat
 | 0 => 1
 | n + 1 => (n + 1) * fcN n
theorem fcN_le : ∀ n : Fin 6,fcN n.val ≤ 120 := by decide
structure PowPair (k : Nat) (a u : Int) (s b : List Int) (i q : Nat) (x : Int) : Prop where
 des : impl_DesirabilityOf.f k a u (i : Int) (q : Int) = some x
 val : x = 0 ∨ x = 1 ∨ x = -1 ∨ x = 2
 zero : x = 0 → rd b (i : Int) = rd b (q : Int) ∧ rd s (i : Int) = rd s (q : Int)
 one : x = 1 → ¬ rd b (i : Int) < rd b (q : Int) ∧ ¬ rd s (i : Int) < rd s (q : Int)
 back : x < 2 → impl_DesirabilityOf.f k a u (q : Int) (i : Int) = some (-x)
 exch : impl_AreExchangeable.f k a u (i : Int) (q : Int) = some (decide (x = 0))
structure PowGame (k n : Nat) (u : Int) (s b v d : List Int) (pp : Bool) (c : Int) : Prop where
 n1 : 1 ≤ n
 n5 : n ≤ 5
 tot : laws_total.f k s = some ((fcN n : Nat) : Int)
 ls : s.length = n
 lb : b.length = n
 vp : 0 < v.length → pp = true
 cnt : impl_CountOnes.f (n : Int) u = some c
 one : ∀ i : Nat,i < n → ∃ dd vv : Bool,laws_has.f k d (i : Int) = some dd ∧ laws_has.f k v (i : Int) = some vv ∧ (rd b (i : Int) == 0) = dd ∧ (rd s (i : Int) == 0) = dd ∧ (vv = true → rd b (i : Int) = c)
 two : ∀ i q : Nat,i < n → q < n → ∃ x : Int,PowPair k (n : Int) u s b i q x
structure PowGo (k : Nat) (code : List Int) (a u : Int) (s b v d : List Int) (g pp : Bool) (g1 g2 i j y h1 h2 : Int) (z : Bool) : Prop where
 small : laws_big.f code = some false
 draw : spec_DrawShapleyNumbers.f k code = some (a,u)
 sh : impl_ShapleyNumbers.f a u = some s
 sh2 : spec_ShapleyNumbers.f k a u = some s
 ss : laws_sameInts.f k s s = some true
 ba : impl_BanzhafNumbers.f a u = some b
 ba2 : spec_BanzhafNumbers.f k a u = some b
 bs : laws_sameInts.f k b b = some true
 ve : impl_VetoPlayers.f k a u = some v
 ve2 : spec_VetoPlayers.f k a u = some v
 vs : laws_sameInts.f k v v = some true
 du : impl_DummyPlayers.f k a u = some d
 du2 : spec_DummyPlayers.f k a u = some d
 ds : laws_sameInts.f k d d = some true
 ga : impl_IsSimpleGame.f k a u = some g
 ga2 : spec_IsSimpleGame.f k a u = some g
 pr : impl_IsProperGame.f k a u = some pp
 pr2 : spec_IsProperGame.f k a u = some pp
 game : g = true → ∃ (n : Nat) (c : Int),a = n ∧ PowGame k n u s b v d pp c
 dd : spec_DrawDesirabilityOf.f k code = some (g1,g2,i,j)
 de : impl_DesirabilityOf.f k g1 g2 i j = some y
 de2 : spec_DesirabilityOf.f k g1 g2 i j = some y
 dh : spec_DrawIsProperGame.f k code = some (h1,h2)
 ph : impl_IsProperGame.f k h1 h2 = some z
 ph2 : spec_IsProperGame.f k h1 h2 = some z
def laws_FnPower.T9 : Bool × List (List Nat × List Nat) := (true,[([],[]),([],[]),([1],[1]),([0,2,2],[0,2]),([3],[3]),([4,3],[4]),([5],[5]),([5],[5]),([7,5,5],[5,7]),([6,8,8,5],[5,6,8]),([9,5],[5,9]),([5,10],[5,10]),([11,9],[11]),([12],[12]),([12],[12]),([14,12,12],[12,14]),([13,15,15,12],[12,13,15]),([16,12],[12,16]),([12,17],[12,17]),([18,16],[18]),([19],[19]),([19],[19]),([21,19,19],[19,21]),([20,22,22,19],[19,20,22]),([23,19],[19,23]),([19,24],[19,24]),([25,23],[25]),([26],[26]),([26],[26]),([28,26,26],[26,28]),([27,29,26],[26,27,29]),([26,30],[26,30]),([31,29],[31]),([32],[32]),([33,32,32],[32,33]),([32],[32]),([35,34,32],[32,35]),([34,36,32],[32,34,36]),([32,37],[32,37])])
def laws_FnPower.B9 : List Nat := [0,0,2,7,15,31,63,63,191,511,1023,2047,4095,8191,8191,24575,65535,131071,262143,524287,1048575,1048575,3145727,8388607,16777215,33554431,67108863,134217727,134217727,402653183,1073741823,2147483647,4294967295,8589934591,17179869183,8589934591,68719476735,137438953471,274877906943]
theorem laws_FnPower.tab9 : rtab .any (opsOf Try.f3 9) = laws_FnPower.T9 := by kernel_rfl
theorem laws_FnPower.bits9 : waitsOk laws_FnPower.T9.2 laws_FnPower.B9 = true := by kernel_rfl
def laws_FnPower.T22 : Bool × List (List Nat × List Nat) := (true,[([],[]),([],[]),([0,1],[0,1]),([],[]),([],[]),([3,4],[3,4]),([5],[5]),([6],[6]),([2,7],[2,7]),([8,2],[8]),([9],[9]),([9],[9]),([10,11,9,9],[9,10,11]),([9],[9]),([9],[9]),([13,14,9],[9,13,14]),([15,9],[9,15]),([16,9],[9,16]),([12,17,9],[9,12,17]),([9,18],[9,18]),([19,12],[19]),([20],[20]),([20],[20]),([21,22,20,20],[20,21,22]),([23,23,20],[20,23]),([24],[24]),([24],[24]),([25,26,24],[24,25,26]),([27,24],[24,27]),([24],[24]),([29,24,24],[24,29]),([28,30,24],[24,28,30]),([24,31,20],[20,24,31]),([20,32],[20,32])])
def laws_FnPower.B22 : List Nat := [0,0,3,0,0,24,56,120,255,511,1023,1023,4095,1023,1023,25599,58367,123903,262143,524287,1048575,2097151,2097151,8388607,16777215,33554431,33554431,134217727,268435455,33554431,570425343,2147483647,4294967295,8589934591]
theorem laws_FnPower.tab22 : rtab .any (opsOf Try.f3 22) = laws_FnPower.T22 := by kernel_rfl
theorem laws_FnPower.bits22 : waitsOk laws_FnPower.T22.2 laws_FnPower.B22 = true := by kernel_rfl
def laws_FnPower.T28 : Bool × List (List Nat × List Nat) := (true,[([],[]),([0],[0]),([1],[1]),([2],[2]),([2],[2]),([3,4,2],[2,3,4]),([5,2],[2,5]),([2],[2]),([2],[2]),([7,8,2],[2,7,8]),([9,2],[2,9]),([6,10,2],[2,6,10]),([11,2,2],[2,11]),([12],[12]),([12],[12]),([13,14,12],[12,13,14]),([15,12],[12,15]),([12],[12]),([12],[12]),([17,18,12],[12,17,18]),([19,12],[12,19]),([16,20,12],[12,16,20]),([12,21,2],[2,12,21]),([2,22],[2,22]),([23,12],[23]),([24],[24]),([25,24],[24,25]),([26,24,24],[24,26]),([27],[27]),([27],[27]),([28,29,27],[27,28,29]),([30,27],[27,30]),([27],[27]),([27],[27]),([32,33,27],[27,32,33]),([34,27],[27,34]),([31,35,27],[27,31,35]),([36,27,27],[27,36]),([37],[37]),([37],[37]),([38,39,37],[37,38,39]),([40,37],[37,40]),([37],[37]),([37],[37]),([42,43,37],[37,42,43]),([44,37],[37,44]),([41,45,37],[37,41,45]),([37,46,27],[27,37,46]),([27,47,24],[24,27,47]),([24,48],[24,48]),([49,37],[49]),([50],[50]),([51,50],[50,51]),([52,50,50],[50,52]),([53],[53]),([53],[53]),([53],[53]),([53],[53]),([55,56,57,53,53],[53,55,56,57]),([58,53],[53,58]),([54,59,53],[53,54,59]),([53,60,50],[50,53,60]),([50,61],[50,61]),([62,58],[62]),([63],[63]),([64,63],[63,64]),([63],[63]),([63],[63]),([63],[63]),([66,67,68,63,63],[63,66,67,68]),([65,69,63],[63,65,69]),([63,70],[63,70])])
def laws_FnPower.B28 : List Nat := [0,1,3,7,7,31,63,7,7,391,903,2047,4095,8191,8191,32767,65535,8191,8191,401407,925695,2097151,4194303,8388607,16777215,33554431,67108863,134217727,268435455,268435455,1073741823,2147483647,268435455,268435455,13153337343,30333206527,68719476735,137438953471,274877906943,274877906943,1099511627775,2199023255551,274877906943,274877906943,13469017440255,31061203484671,70368744177663,140737488355327,281474976710655,562949953421311,1125899906842623,2251799813685247,4503599627370495,9007199254740991,18014398509481983,18014398509481983,18014398509481983,18014398509481983,270215977642229759,558446353793941503,1152921504606846975,2305843009213693951,4611686018427387903,9223372036854775807,18446744073709551615,36893488147419103231,18446744073709551615,18446744073709551615,18446744073709551615,534955578137576996863,1180591620717411303423,2361183241434822606847]
theorem laws_FnPower.tab28 : rtab .any (opsOf Try.f3 28) = laws_FnPower.T28 := by kernel_rfl
theorem laws_FnPower.bits28 : waitsOk laws_FnPower.T28.2 laws_FnPower.B28 = true := by kernel_rfl
def laws_FnPower.T32 : Bool × List (List Nat × List Nat) := (true,[([],[]),([],[]),([],[]),([0,1,2],[0,1,2]),([],[]),([],[]),([],[]),([4,5,6,3],[4,5,6]),([3,7],[3,7]),([8,7],[8]),([9],[9]),([10,9,9],[9,10]),([9],[9]),([12,11,9],[9,12]),([11,13,9],[9,11,13]),([9,14],[9,14]),([15,13,0,1,2,3,4,5,6,7,8,9,10,11,12,13,14,15],[15])])
def laws_FnPower.B32 : List Nat := [0,0,0,7,0,0,0,127,255,511,1023,2047,1023,8191,16383,32767,65535]
theorem laws_FnPower.tab32 : rtab .any (opsOf Try.f3 32) = laws_FnPower.T32 := by kernel_rfl
theorem laws_FnPower.bits32 : waitsOk laws_FnPower.T32.2 laws_FnPower.B32 = true := by kernel_rfl
open Classical in
noncomputable def laws_FnPower.f (k : Nat) (code : List Int) : Option Bool :=
 if laws_big.f code = some true ∨ ∃ a u s b v d g pp g1 g2 i j y h1 h2 z,PowGo k code a u s b v d g pp g1 g2 i j y h1 h2 z then some true else none
set_option maxHeartbeats 16000000 in
set_option maxRecDepth 100000 in
theorem laws_FnPower.calls (k : Nat) (A0 : Option Addr) (c0 : Nat) (l0 : List Int) (r : Bool) (w : World) (hr0 : Kd.C (Kd.int .u8) w A0 l0.length l0) (hc0 : l0.length ≤ c0) (h : laws_FnPower.f k l0 = some r) :
  Calls Try.prog 3 #[.slice A0 l0.length c0] w fun e w' => e = .returned (.bool r) ∧ Below w.heap.size w w' := by
 have hut := Try.underlying25
 unfold laws_FnPower.f at h
 split at h
 next hgo =>
  cases h
  rcases hgo with hbig | ⟨a,u,s,b,v,d,g,pp,g1,g2,i,j,y,h1,h2,z,G⟩
  ·have HB := aZ_ hbig
   clear hbig
   go_enter Try.func3,Try.ntmps3
   go_wp2_with (go_at_call 4;refine (laws_big.calls A0 c0 l0 true _ hr0 hc0 HB.out).mono ?_;rintro e w1 ⟨rfl,⟨nd,rfl⟩⟩)
   go_ret
   exact ⟨rfl,pw_below_drewN (Below.refl _ _) _⟩
  ·have HG := aZ_ G
   have HR := aZ_ hr0
   have HC0 := aZ_ hc0
   have HB := aZ_ (Below.refl w.heap.size w)
   clear G hr0 hc0
   go_enter Try.func3,Try.ntmps3
   go_upto_region 3 with (go_at_call 4;refine (laws_big.calls A0 c0 l0 false _ HR.out HC0.out HG.out.small).mono ?_;rintro e w1 ⟨rfl,hd⟩;have hb := hd.below;clear hd;have n_ := aZ_ (Kd.Heap.C (Kd.heap_int .u8) hb.block HR.out);clear HR;have HR := n_;clear n_;have n_ := aZ_ (below_step HB.out hb);clear HB;have HB := n_;clear n_;clear hb )
   go_upto_region 4 with (go_at_call 5;refine (spec_DrawShapleyNumbers.calls k A0 c0 l0 a u _ HR.out HC0.out HG.out.draw).mono ?_;rintro e w2 ⟨rfl,hb⟩;have n_ := aZ_ (Kd.Heap.C (Kd.heap_int .u8) hb.block HR.out);clear HR;have HR := n_;clear n_;have n_ := aZ_ (below_step HB.out hb);clear HB;have HB := n_;clear n_;clear hb )
   have BF := aZ_ (blk_new w2 (.cells #[.int .i64 a,.int .i64 u] 25 (0,0)))
   have hb := below_alloc (Below.refl w2.heap.size w2) (.cells #[.int .i64 a,.int .i64 u] 25 (0,0))
   have n_ := aZ_ (Kd.Heap.C (Kd.heap_int .u8) hb.block HR.out)
   clear HR
   have HR := n_
   clear n_
   have n_ := aZ_ (below_step HB.out hb)
   clear HB
   have HB := n_
   clear n_
   clear hb
   obtain ⟨gf,hgf_⟩ : ∃ gf,gf = w2.heap.size := ⟨_,rfl⟩
   rw [← hgf_] at BF ⊢
   clear hgf_
   generalize w2.alloc (.cells #[.int .i64 a,.int .i64 u] 25 (0,0)) = w3 at HR HB BF ⊢
   have hc_BF_0 : w3.cell? ⟨gf,0,none⟩ = some (.int .i64 a) := (blk_cell BF.out 0).trans rfl
   have hc_BF_1 : w3.cell? ⟨gf,1,none⟩ = some (.int .i64 u) := (blk_cell BF.out 1).trans rfl
   go_upto_region 5 with (go_at_call 6;refine (impl_ShapleyNumbers.calls a u s _ HG.out.sh).mono ?_;rintro e w4 ⟨vq,rfl,hq,hb⟩;have n_ := aZ_ (Kd.Heap.C (Kd.heap_int .u8) hb.block HR.out);clear HR;have HR := n_;clear n_;have n_ := aZ_ (below_step HB.out hb);clear HB;have HB := n_;clear n_;have n_ := aZ_ (blk_below BF.out hb);clear BF;have BF := n_;clear n_;obtain ⟨As,cs,rfl,hlc_,hr_⟩ := Kd.R_reads hq;have HS := aZ_ hr_;have HSc := aZ_ hlc_;clear hr_ hlc_;clear hq;clear hb ;clear hc_BF_0 hc_BF_1;have hc_BF_0 : w4.cell? ⟨gf,0,none⟩ = some (.int .i64 a) := (blk_cell BF.out 0).trans rfl;have hc_BF_1 : w4.cell? ⟨gf,1,none⟩ = some (.int .i64 u) := (blk_cell BF.out 1).trans rfl)
   go_upto_region 6 with (go_at_call 7;refine (impl_BanzhafNumbers.calls a u b _ HG.out.ba).mono ?_;rintro e w5 ⟨vq,rfl,hq,hb⟩;have n_ := aZ_ (Kd.Heap.C (Kd.heap_int .u8) hb.block HR.out);clear HR;have HR := n_;clear n_;have n_ := aZ_ (below_step HB.out hb);clear HB;have HB := n_;clear n_;have n_ := aZ_ (blk_below BF.out hb);clear BF;have BF := n_;clear n_;have n_ := aZ_ (Kd.Heap.C (Kd.heap_int .i64) hb.block HS.out);clear HS;have HS := n_;clear n_;obtain ⟨Ab,cb,rfl,hlc_,hr_⟩ := Kd.R_reads hq;have HZ := aZ_ hr_;have HZc := aZ_ hlc_;clear hr_ hlc_;clear hq;clear hb ;clear hc_BF_0 hc_BF_1;have hc_BF_0 : w5.cell? ⟨gf,0,none⟩ = some (.int .i64 a) := (blk_cell BF.out 0).trans rfl;have hc_BF_1 : w5.cell? ⟨gf,1,none⟩ = some (.int .i64 u) := (blk_cell BF.out 1).trans rfl)
   go_upto_region 7 with (go_at_call 8;refine (impl_VetoPlayers.calls k a u v _ HG.out.ve).mono ?_;rintro e w6 ⟨vq,rfl,hq,hb⟩;have n_ := aZ_ (Kd.Heap.C (Kd.heap_int .u8) hb.block HR.out);clear HR;have HR := n_;clear n_;have n_ := aZ_ (below_step HB.out hb);clear HB;have HB := n_;clear n_;have n_ := aZ_ (blk_below BF.out hb);clear BF;have BF := n_;clear n_;have n_ := aZ_ (Kd.Heap.C (Kd.heap_int .i64) hb.block HS.out);clear HS;have HS := n_;clear n_;have n_ := aZ_ (Kd.Heap.C (Kd.heap_int .i64) hb.block HZ.out);clear HZ;have HZ := n_;clear n_;obtain ⟨Av,cv,rfl,hlc_,hr_⟩ := Kd.R_reads hq;have HV := aZ_ hr_;have HVc := aZ_ hlc_;clear hr_ hlc_;clear hq;clear hb ;clear hc_BF_0 hc_BF_1;have hc_BF_0 : w6.cell? ⟨gf,0,none⟩ = some (.int .i64 a) := (blk_cell BF.out 0).trans rfl;have hc_BF_1 : w6.cell? ⟨gf,1,none⟩ = some (.int .i64 u) := (blk_cell BF.out 1).trans rfl)
   go_upto_region 8 with (go_at_call 9;refine (impl_DummyPlayers.calls k a u d _ HG.out.du).mono ?_;rintro e w7 ⟨vq,rfl,hq,hb⟩;have n_ := aZ_ (Kd.Heap.C (Kd.heap_int .u8) hb.block HR.out);clear HR;have HR := n_;clear n_;have n_ := aZ_ (below_step HB.out hb);clear HB;have HB := n_;clear n_;have n_ := aZ_ (blk_below BF.out hb);clear BF;have BF := n_;clear n_;have n_ := aZ_ (Kd.Heap.C (Kd.heap_int .i64) hb.block HS.out);clear HS;have HS := n_;clear n_;have n_ := aZ_ (Kd.Heap.C (Kd.heap_int .i64) hb.block HZ.out);clear HZ;have HZ := n_;clear n_;have n_ := aZ_ (Kd.Heap.C (Kd.heap_int .i64) hb.block HV.out);clear HV;have HV := n_;clear n_;obtain ⟨Ad,cd,rfl,hlc_,hr_⟩ := Kd.R_reads hq;have HD := aZ_ hr_;have HDc := aZ_ hlc_;clear hr_ hlc_;clear hq;clear hb ;clear hc_BF_0 hc_BF_1;have hc_BF_0 : w7.cell? ⟨gf,0,none⟩ = some (.int .i64 a) := (blk_cell BF.out 0).trans rfl;have hc_BF_1 : w7.cell? ⟨gf,1,none⟩ = some (.int .i64 u) := (blk_cell BF.out 1).trans rfl)
   go_upto_region 9 with (go_at_call 10;refine (impl_IsSimpleGame.calls k a u g _ HG.out.ga).mono ?_;rintro e w8 ⟨rfl,hb⟩;have n_ := aZ_ (Kd.Heap.C (Kd.heap_int .u8) hb.block HR.out);clear HR;have HR := n_;clear n_;have n_ := aZ_ (below_step HB.out hb);clear HB;have HB := n_;clear n_;have n_ := aZ_ (blk_below BF.out hb);clear BF;have BF := n_;clear n_;have n_ := aZ_ (Kd.Heap.C (Kd.heap_int .i64) hb.block HS.out);clear HS;have HS := n_;clear n_;have n_ := aZ_ (Kd.Heap.C (Kd.heap_int .i64) hb.block HZ.out);clear HZ;have HZ := n_;clear n_;have n_ := aZ_ (Kd.Heap.C (Kd.heap_int .i64) hb.block HV.out);clear HV;have HV := n_;clear n_;have n_ := aZ_ (Kd.Heap.C (Kd.heap_int .i64) hb.block HD.out);clear HD;have HD := n_;clear n_;clear hb ;clear hc_BF_0 hc_BF_1;have hc_BF_0 : w8.cell? ⟨gf,0,none⟩ = some (.int .i64 a) := (blk_cell BF.out 0).trans rfl;have hc_BF_1 : w8.cell? ⟨gf,1,none⟩ = some (.int .i64 u) := (blk_cell BF.out 1).trans rfl)
   have C0 := aZ_ hc_BF_0
   have C1 := aZ_ hc_BF_1
   clear hc_BF_0 hc_BF_1
   have hgg : (g != g) = false := bne_self_eq_false g
   have hpp : (pp != pp) = false := bne_self_eq_false pp
   have hb := below_drew (Below.refl w8.heap.size w8)
   have n_ : Aside0 (w8.drew.cell? ⟨gf,0,none⟩ = some (.int .i64 a)) := ⟨pw_cell_below hb C0.out⟩
   clear C0
   have C0 := n_
   clear n_
   have n_ : Aside0 (w8.drew.cell? ⟨gf,1,none⟩ = some (.int .i64 u)) := ⟨pw_cell_below hb C1.out⟩
   clear C1
   have C1 := n_
   clear n_
   have n_ := aZ_ (Kd.Heap.C (Kd.heap_int .u8) hb.block HR.out)
   clear HR
   have HR := n_
   clear n_
   have n_ := aZ_ (below_step HB.out hb)
   clear HB
   have HB := n_
   clear n_
   have n_ := aZ_ (blk_below BF.out hb)
   clear BF
   have BF := n_
   clear n_
   have n_ := aZ_ (Kd.Heap.C (Kd.heap_int .i64) hb.block HS.out)
   clear HS
   have HS := n_
   clear n_
   have n_ := aZ_ (Kd.Heap.C (Kd.heap_int .i64) hb.block HZ.out)
   clear HZ
   have HZ := n_
   clear n_
   have n_ := aZ_ (Kd.Heap.C (Kd.heap_int .i64) hb.block HV.out)
   clear HV
   have HV := n_
   clear n_
   have n_ := aZ_ (Kd.Heap.C (Kd.heap_int .i64) hb.block HD.out)
   clear HD
   have HD := n_
   clear n_
   clear hb
   refine start_ (n := 39) (S := (fun w_ => w_.cell? ⟨gf,0,none⟩ = some (.int .i64 a) ∧ w_.cell? ⟨gf,1,none⟩ = some (.int .i64 u))) (ds := []) #[false,false,false,false,false,false,false,false,false,false,false,false,false,false,false,false,false,false,false,false,false,false,false,false,false,false,false,false,false,false,false,false,false,false,false,false,false,false,false] T12_ rfl rfl ⟨C0.out,C1.out⟩ (fun hHeld => ?_)
   refine with_tabW laws_FnPower.tab9 laws_FnPower.bits9 (fun HT_ HW_ => ?_)
   generalize w8.drew = W0_ at C0 C1 HR HB BF HS HZ HV HD hHeld ⊢
   refine pZ_ 0 (some 32) #[true,false,false,false,false,false,false,false,false,false,false,false,false,false,false,false,false,false,false,false,false,false,false,false,false,false,false,false,false,false,false,false,false,false,false,false,false,false,false] ?_
   refine tZ2_ 1 (some 33) #[true,true,false,false,false,false,false,false,false,false,false,false,false,false,false,false,false,false,false,false,false,false,false,false,false,false,false,false,false,false,false,false,false,false,false,false,false,false,false] hHeld ?_
   refine one_ (i := 2) (N := some 34) #[true,true,true,false,false,false,false,false,false,false,false,false,false,false,false,false,false,false,false,false,false,false,false,false,false,false,false,false,false,false,false,false,false,false,false,false,false,false,false] rfl rfl (one_of HT_.out T12_) T35_ (fun K hK => ?_)
   refine gZ_ Try.func12 #[.agg #[.int .i64 a,.int .i64 u]] ?_
   with_reducible refine (spec_ShapleyNumbers.calls k a u s _ HG.out.sh2).mono ?_
   rintro e W1_ ⟨vq,rfl,hq,hb⟩
   obtain ⟨Ap,cp,rfl,hlc_,hr_⟩ := Kd.R_reads hq
   clear hq
   refine ⟨_,rfl,?_⟩
   have n_ : Aside0 (W1_.cell? ⟨gf,0,none⟩ = some (.int .i64 a)) := ⟨pw_cell_below hb C0.out⟩
   clear C0
   have C0 := n_
   clear n_
   have n_ : Aside0 (W1_.cell? ⟨gf,1,none⟩ = some (.int .i64 u)) := ⟨pw_cell_below hb C1.out⟩
   clear C1
   have C1 := n_
   clear n_
   have n_ := aZ_ (Kd.Heap.C (Kd.heap_int .u8) hb.block HR.out)
   clear HR
   have HR := n_
   clear n_
   have n_ := aZ_ (below_step HB.out hb)
   clear HB
   have HB := n_
   clear n_
   have n_ := aZ_ (blk_below BF.out hb)
   clear BF
   have BF := n_
   clear n_
   have n_ := aZ_ (Kd.Heap.C (Kd.heap_int .i64) hb.block HS.out)
   clear HS
   have HS := n_
   clear n_
   have n_ := aZ_ (Kd.Heap.C (Kd.heap_int .i64) hb.block HZ.out)
   clear HZ
   have HZ := n_
   clear n_
   have n_ := aZ_ (Kd.Heap.C (Kd.heap_int .i64) hb.block HV.out)
   clear HV
   have HV := n_
   clear n_
   have n_ := aZ_ (Kd.Heap.C (Kd.heap_int .i64) hb.block HD.out)
   clear HD
   have HD := n_
   clear n_
   clear hb
   have HP := aZ_ hr_
   have HPc := aZ_ hlc_
   clear hr_ hlc_
   refine hK.out _ _ ⟨C0.out,C1.out⟩ (fun hHeld => ?_)
   clear hK K
   refine norm_ (a' := ?_) ?_ ?_
   rotate_left
   ·show Act.put _ (some 34) _ = _
    simp only [Act.put,List.setIfInBounds_toArray,List.set_cons_zero,List.set_cons_succ,i64_w,i32_w]
    rfl
   refine one_ (i := 3) (N := some 35) #[true,true,true,true,false,false,false,false,false,false,false,false,false,false,false,false,false,false,false,false,false,false,false,false,false,false,false,false,false,false,false,false,false,false,false,false,false,false,false] rfl rfl (one_of HT_.out T12_) T35_ (fun K hK => ?_)
   refine gZ_ Try.func11 #[.slice As s.length cs,.slice Ap s.length cp] ?_
   with_reducible refine (laws_sameInts.calls k As cs s Ap cp s true _ HS.out HSc.out HP.out HPc.out HG.out.ss).mono ?_
   rintro e W2_ ⟨rfl,hd⟩
   have hb := hd.below
   clear hd
   refine ⟨_,rfl,?_⟩
   have n_ : Aside0 (W2_.cell? ⟨gf,0,none⟩ = some (.int .i64 a)) := ⟨pw_cell_below hb C0.out⟩
   clear C0
   have C0 := n_
   clear n_
   have n_ : Aside0 (W2_.cell? ⟨gf,1,none⟩ = some (.int .i64 u)) := ⟨pw_cell_below hb C1.out⟩
   clear C1
   have C1 := n_
   clear n_
   have n_ := aZ_ (Kd.Heap.C (Kd.heap_int .u8) hb.block HR.out)
   clear HR
   have HR := n_
   clear n_
   have n_ := aZ_ (below_step HB.out hb)
   clear HB
   have HB := n_
   clear n_
   have n_ := aZ_ (blk_below BF.out hb)
   clear BF
   have BF := n_
   clear n_
   have n_ := aZ_ (Kd.Heap.C (Kd.heap_int .i64) hb.block HS.out)
   clear HS
   have HS := n_
   clear n_
   have n_ := aZ_ (Kd.Heap.C (Kd.heap_int .i64) hb.block HZ.out)
   clear HZ
   have HZ := n_
   clear n_
   have n_ := aZ_ (Kd.Heap.C (Kd.heap_int .i64) hb.block HV.out)
   clear HV
   have HV := n_
   clear n_
   have n_ := aZ_ (Kd.Heap.C (Kd.heap_int .i64) hb.block HD.out)
   clear HD
   have HD := n_
   clear n_
   have n_ := aZ_ (Kd.Heap.C (Kd.heap_int .i64) hb.block HP.out)
   clear HP
   have HP := n_
   clear n_
   clear hb
   refine hK.out _ _ ⟨C0.out,C1.out⟩ (fun hHeld => ?_)
   clear hK K
   refine norm_ (a' := ?_) ?_ ?_
   rotate_left
   ·show Act.put _ (some 35) _ = _
    simp only [Act.put,List.setIfInBounds_toArray,List.set_cons_zero,List.set_cons_succ,i64_w,i32_w]
    rfl
   clear HP HPc
   refine pZ_ 4 (some 36) #[true,true,true,true,true,false,false,false,false,false,false,false,false,false,false,false,false,false,false,false,false,false,false,false,false,false,false,false,false,false,false,false,false,false,false,false,false,false,false] ?_
   refine pZ_ 5 (some 37) #[true,true,true,true,true,true,false,false,false,false,false,false,false,false,false,false,false,false,false,false,false,false,false,false,false,false,false,false,false,false,false,false,false,false,false,false,false,false,false] ?_
   refine pZ_ 6 (some 38) #[true,true,true,true,true,true,true,false,false,false,false,false,false,false,false,false,false,false,false,false,false,false,false,false,false,false,false,false,false,false,false,false,false,false,false,false,false,false,false] ?_
   refine tZ2_ 7 (some 39) #[true,true,true,true,true,true,true,true,false,false,false,false,false,false,false,false,false,false,false,false,false,false,false,false,false,false,false,false,false,false,false,false,false,false,false,false,false,false,false] hHeld ?_
   refine one_ (i := 8) (N := some 40) #[true,true,true,true,true,true,true,true,true,false,false,false,false,false,false,false,false,false,false,false,false,false,false,false,false,false,false,false,false,false,false,false,false,false,false,false,false,false,false] rfl rfl (one_of HT_.out T12_) T35_ (fun K hK => ?_)
   refine gZ_ Try.func13 #[.agg #[.int .i64 a,.int .i64 u]] ?_
   with_reducible refine (spec_BanzhafNumbers.calls k a u b _ HG.out.ba2).mono ?_
   rintro e W3_ ⟨vq,rfl,hq,hb⟩
   obtain ⟨Ap,cp,rfl,hlc_,hr_⟩ := Kd.R_reads hq
   clear hq
   refine ⟨_,rfl,?_⟩
   have n_ : Aside0 (W3_.cell? ⟨gf,0,none⟩ = some (.int .i64 a)) := ⟨pw_cell_below hb C0.out⟩
   clear C0
   have C0 := n_
   clear n_
   have n_ : Aside0 (W3_.cell? ⟨gf,1,none⟩ = some (.int .i64 u)) := ⟨pw_cell_below hb C1.out⟩
   clear C1
   have C1 := n_
   clear n_
   have n_ := aZ_ (Kd.Heap.C (Kd.heap_int .u8) hb.block HR.out)
   clear HR
   have HR := n_
   clear n_
   have n_ := aZ_ (below_step HB.out hb)
   clear HB
   have HB := n_
   clear n_
   have n_ := aZ_ (blk_below BF.out hb)
   clear BF
   have BF := n_
   clear n_
   have n_ := aZ_ (Kd.Heap.C (Kd.heap_int .i64) hb.block HS.out)
   clear HS
   have HS := n_
   clear n_
   have n_ := aZ_ (Kd.Heap.C (Kd.heap_int .i64) hb.block HZ.out)
   clear HZ
   have HZ := n_
   clear n_
   have n_ := aZ_ (Kd.Heap.C (Kd.heap_int .i64) hb.block HV.out)
   clear HV
   have HV := n_
   clear n_
   have n_ := aZ_ (Kd.Heap.C (Kd.heap_int .i64) hb.block HD.out)
   clear HD
   have HD := n_
   clear n_
   clear hb
   have HP := aZ_ hr_
   have HPc := aZ_ hlc_
   clear hr_ hlc_
   refine hK.out _ _ ⟨C0.out,C1.out⟩ (fun hHeld => ?_)
   clear hK K
   refine norm_ (a' := ?_) ?_ ?_
   rotate_left
   ·show Act.put _ (some 40) _ = _
    simp only [Act.put,List.setIfInBounds_toArray,List.set_cons_zero,List.set_cons_succ,i64_w,i32_w]
    rfl
   refine one_ (i := 9) (N := some 41) #[true,true,true,true,true,true,true,true,true,true,false,false,false,false,false,false,false,false,false,false,false,false,false,false,false,false,false,false,false,false,false,false,false,false,false,false,false,false,false] rfl rfl (one_of HT_.out T12_) T35_ (fun K hK => ?_)
   refine gZ_ Try.func11 #[.slice Ab b.length cb,.slice Ap b.length cp] ?_
   with_reducible refine (laws_sameInts.calls k Ab cb b Ap cp b true _ HZ.out HZc.out HP.out HPc.out HG.out.bs).mono ?_
   rintro e W4_ ⟨rfl,hd⟩
   have hb := hd.below
   clear hd
   refine ⟨_,rfl,?_⟩
   have n_ : Aside0 (W4_.cell? ⟨gf,0,none⟩ = some (.int .i64 a)) := ⟨pw_cell_below hb C0.out⟩
   clear C0
   have C0 := n_
   clear n_
   have n_ : Aside0 (W4_.cell? ⟨gf,1,none⟩ = some (.int .i64 u)) := ⟨pw_cell_below hb C1.out⟩
   clear C1
   have C1 := n_
   clear n_
   have n_ := aZ_ (Kd.Heap.C (Kd.heap_int .u8) hb.block HR.out)
   clear HR
   have HR := n_
   clear n_
   have n_ := aZ_ (below_step HB.out hb)
   clear HB
   have HB := n_
   clear n_
   have n_ := aZ_ (blk_below BF.out hb)
   clear BF
   have BF := n_
   clear n_
   have n_ := aZ_ (Kd.Heap.C (Kd.heap_int .i64) hb.block HS.out)
   clear HS
   have HS := n_
   clear n_
   have n_ := aZ_ (Kd.Heap.C (Kd.heap_int .i64) hb.block HZ.out)
   clear HZ
   have HZ := n_
   clear n_
   have n_ := aZ_ (Kd.Heap.C (Kd.heap_int .i64) hb.block HV.out)
   clear HV
   have HV := n_
   clear n_
   have n_ := aZ_ (Kd.Heap.C (Kd.heap_int .i64) hb.block HD.out)
   clear HD
   have HD := n_
   clear n_
   have n_ := aZ_ (Kd.Heap.C (Kd.heap_int .i64) hb.block HP.out)
   clear HP
   have HP := n_
   clear n_
   clear hb
   refine hK.out _ _ ⟨C0.out,C1.out⟩ (fun hHeld => ?_)
   clear hK K
   refine norm_ (a' := ?_) ?_ ?_
   rotate_left
   ·show Act.put _ (some 41) _ = _
    simp only [Act.put,List.setIfInBounds_toArray,List.set_cons_zero,List.set_cons_succ,i64_w,i32_w]
    rfl
   clear HP HPc
   refine pZ_ 10 (some 42) #[true,true,true,true,true,true,true,true,true,true,true,false,false,false,false,false,false,false,false,false,false,false,false,false,false,false,false,false,false,false,false,false,false,false,false,false,false,false,false] ?_
   refine pZ_ 11 (some 43) #[true,true,true,true,true,true,true,true,true,true,true,true,false,false,false,false,false,false,false,false,false,false,false,false,false,false,false,false,false,false,false,false,false,false,false,false,false,false,false] ?_
   refine pZ_ 12 (some 44) #[true,true,true,true,true,true,true,true,true,true,true,true,true,false,false,false,false,false,false,false,false,false,false,false,false,false,false,false,false,false,false,false,false,false,false,false,false,false,false] ?_
   refine pZ_ 13 (some 45) #[true,true,true,true,true,true,true,true,true,true,true,true,true,true,false,false,false,false,false,false,false,false,false,false,false,false,false,false,false,false,false,false,false,false,false,false,false,false,false] ?_
   refine tZ2_ 14 (some 46) #[true,true,true,true,true,true,true,true,true,true,true,true,true,true,true,false,false,false,false,false,false,false,false,false,false,false,false,false,false,false,false,false,false,false,false,false,false,false,false] hHeld ?_
   refine one_ (i := 15) (N := some 47) #[true,true,true,true,true,true,true,true,true,true,true,true,true,true,true,true,false,false,false,false,false,false,false,false,false,false,false,false,false,false,false,false,false,false,false,false,false,false,false] rfl rfl (one_of HT_.out T12_) T35_ (fun K hK => ?_)
   refine gZ_ Try.func14 #[.agg #[.int .i64 a,.int .i64 u]] ?_
   with_reducible refine (spec_VetoPlayers.calls k a u v _ HG.out.ve2).mono ?_
   rintro e W5_ ⟨vq,rfl,hq,hb⟩
   obtain ⟨Ap,cp,rfl,hlc_,hr_⟩ := Kd.R_reads hq
   clear hq
   refine ⟨_,rfl,?_⟩
   have n_ : Aside0 (W5_.cell? ⟨gf,0,none⟩ = some (.int .i64 a)) := ⟨pw_cell_below hb C0.out⟩
   clear C0
   have C0 := n_
   clear n_
   have n_ : Aside0 (W5_.cell? ⟨gf,1,none⟩ = some (.int .i64 u)) := ⟨pw_cell_below hb C1.out⟩
   clear C1
   have C1 := n_
   clear n_
   have n_ := aZ_ (Kd.Heap.C (Kd.heap_int .u8) hb.block HR.out)
   clear HR
   have HR := n_
   clear n_
   have n_ := aZ_ (below_step HB.out hb)
   clear HB
   have HB := n_
   clear n_
   have n_ := aZ_ (blk_below BF.out hb)
   clear BF
   have BF := n_
   clear n_
   have n_ := aZ_ (Kd.Heap.C (Kd.heap_int .i64) hb.block HS.out)
   clear HS
   have HS := n_
   clear n_
   have n_ := aZ_ (Kd.Heap.C (Kd.heap_int .i64) hb.block HZ.out)
   clear HZ
   have HZ := n_
   clear n_
   have n_ := aZ_ (Kd.Heap.C (Kd.heap_int .i64) hb.block HV.out)
   clear HV
   have HV := n_
   clear n_
   have n_ := aZ_ (Kd.Heap.C (Kd.heap_int .i64) hb.block HD.out)
   clear HD
   have HD := n_
   clear n_
   clear hb
   have HP := aZ_ hr_
   have HPc := aZ_ hlc_
   clear hr_ hlc_
   refine hK.out _ _ ⟨C0.out,C1.out⟩ (fun hHeld => ?_)
   clear hK K
   refine norm_ (a' := ?_) ?_ ?_
   rotate_left
   ·show Act.put _ (some 47) _ = _
    simp only [Act.put,List.setIfInBounds_toArray,List.set_cons_zero,List.set_cons_succ,i64_w,i32_w]
    rfl
   refine one_ (i := 16) (N := some 48) #[true,true,true,true,true,true,true,true,true,true,true,true,true,true,true,true,true,false,false,false,false,false,false,false,false,false,false,false,false,false,false,false,false,false,false,false,false,false,false] rfl rfl (one_of HT_.out T12_) T35_ (fun K hK => ?_)
   refine gZ_ Try.func11 #[.slice Av v.length cv,.slice Ap v.length cp] ?_
   with_reducible refine (laws_sameInts.calls k Av cv v Ap cp v true _ HV.out HVc.out HP.out HPc.out HG.out.vs).mono ?_
   rintro e W6_ ⟨rfl,hd⟩
   have hb := hd.below
   clear hd
   refine ⟨_,rfl,?_⟩
   have n_ : Aside0 (W6_.cell? ⟨gf,0,none⟩ = some (.int .i64 a)) := ⟨pw_cell_below hb C0.out⟩
   clear C0
   have C0 := n_
   clear n_
   have n_ : Aside0 (W6_.cell? ⟨gf,1,none⟩ = some (.int .i64 u)) := ⟨pw_cell_below hb C1.out⟩
   clear C1
   have C1 := n_
   clear n_
   have n_ := aZ_ (Kd.Heap.C (Kd.heap_int .u8) hb.block HR.out)
   clear HR
   have HR := n_
   clear n_
   have n_ := aZ_ (below_step HB.out hb)
   clear HB
   have HB := n_
   clear n_
   have n_ := aZ_ (blk_below BF.out hb)
   clear BF
   have BF := n_
   clear n_
   have n_ := aZ_ (Kd.Heap.C (Kd.heap_int .i64) hb.block HS.out)
   clear HS
   have HS := n_
   clear n_
   have n_ := aZ_ (Kd.Heap.C (Kd.heap_int .i64) hb.block HZ.out)
   clear HZ
   have HZ := n_
   clear n_
   have n_ := aZ_ (Kd.Heap.C (Kd.heap_int .i64) hb.block HV.out)
   clear HV
   have HV := n_
   clear n_
   have n_ := aZ_ (Kd.Heap.C (Kd.heap_int .i64) hb.block HD.out)
   clear HD
   have HD := n_
   clear n_
   have n_ := aZ_ (Kd.Heap.C (Kd.heap_int .i64) hb.block HP.out)
   clear HP
   have HP := n_
   clear n_
   clear hb
   refine hK.out _ _ ⟨C0.out,C1.out⟩ (fun hHeld => ?_)
   clear hK K
   refine norm_ (a' := ?_) ?_ ?_
   rotate_left
   ·show Act.put _ (some 48) _ = _
    simp only [Act.put,List.setIfInBounds_toArray,List.set_cons_zero,List.set_cons_succ,i64_w,i32_w]
    rfl
   clear HP HPc
   refine pZ_ 17 (some 49) #[true,true,true,true,true,true,true,true,true,true,true,true,true,true,true,true,true,true,false,false,false,false,false,false,false,false,false,false,false,false,false,false,false,false,false,false,false,false,false] ?_
   refine pZ_ 18 (some 50) #[true,true,true,true,true,true,true,true,true,true,true,true,true,true,true,true,true,true,true,false,false,false,false,false,false,false,false,false,false,false,false,false,false,false,false,false,false,false,false] ?_
   refine pZ_ 19 (some 51) #[true,true,true,true,true,true,true,true,true,true,true,true,true,true,true,true,true,true,true,true,false,false,false,false,false,false,false,false,false,false,false,false,false,false,false,false,false,false,false] ?_
   refine pZ_ 20 (some 52) #[true,true,true,true,true,true,true,true,true,true,true,true,true,true,true,true,true,true,true,true,true,false,false,false,false,false,false,false,false,false,false,false,false,false,false,false,false,false,false] ?_
   refine tZ2_ 21 (some 53) #[true,true,true,true,true,true,true,true,true,true,true,true,true,true,true,true,true,true,true,true,true,true,false,false,false,false,false,false,false,false,false,false,false,false,false,false,false,false,false] hHeld ?_
   refine one_ (i := 22) (N := some 54) #[true,true,true,true,true,true,true,true,true,true,true,true,true,true,true,true,true,true,true,true,true,true,true,false,false,false,false,false,false,false,false,false,false,false,false,false,false,false,false] rfl rfl (one_of HT_.out T12_) T35_ (fun K hK => ?_)
   refine gZ_ Try.func15 #[.agg #[.int .i64 a,.int .i64 u]] ?_
   with_reducible refine (spec_DummyPlayers.calls k a u d _ HG.out.du2).mono ?_
   rintro e W7_ ⟨vq,rfl,hq,hb⟩
   obtain ⟨Ap,cp,rfl,hlc_,hr_⟩ := Kd.R_reads hq
   clear hq
   refine ⟨_,rfl,?_⟩
   have n_ : Aside0 (W7_.cell? ⟨gf,0,none⟩ = some (.int .i64 a)) := ⟨pw_cell_below hb C0.out⟩
   clear C0
   have C0 := n_
   clear n_
   have n_ : Aside0 (W7_.cell? ⟨gf,1,none⟩ = some (.int .i64 u)) := ⟨pw_cell_below hb C1.out⟩
   clear C1
   have C1 := n_
   clear n_
   have n_ := aZ_ (Kd.Heap.C (Kd.heap_int .u8) hb.block HR.out)
   clear HR
   have HR := n_
   clear n_
   have n_ := aZ_ (below_step HB.out hb)
   clear HB
   have HB := n_
   clear n_
   have n_ := aZ_ (blk_below BF.out hb)
   clear BF
   have BF := n_
   clear n_
   have n_ := aZ_ (Kd.Heap.C (Kd.heap_int .i64) hb.block HS.out)
   clear HS
   have HS := n_
   clear n_
   have n_ := aZ_ (Kd.Heap.C (Kd.heap_int .i64) hb.block HZ.out)
   clear HZ
   have HZ := n_
   clear n_
   have n_ := aZ_ (Kd.Heap.C (Kd.heap_int .i64) hb.block HV.out)
   clear HV
   have HV := n_
   clear n_
   have n_ := aZ_ (Kd.Heap.C (Kd.heap_int .i64) hb.block HD.out)
   clear HD
   have HD := n_
   clear n_
   clear hb
   have HP := aZ_ hr_
   have HPc := aZ_ hlc_
   clear hr_ hlc_
   refine hK.out _ _ ⟨C0.out,C1.out⟩ (fun hHeld => ?_)
   clear hK K
   refine norm_ (a' := ?_) ?_ ?_
   rotate_left
   ·show Act.put _ (some 54) _ = _
    simp only [Act.put,List.setIfInBounds_toArray,List.set_cons_zero,List.set_cons_succ,i64_w,i32_w]
    rfl
   refine one_ (i := 23) (N := some 55) #[true,true,true,true,true,true,true,true,true,true,true,true,true,true,true,true,true,true,true,true,true,true,true,true,false,false,false,false,false,false,false,false,false,false,false,false,false,false,false] rfl rfl (one_of HT_.out T12_) T35_ (fun K hK => ?_)
   refine gZ_ Try.func11 #[.slice Ad d.length cd,.slice Ap d.length cp] ?_
   with_reducible refine (laws_sameInts.calls k Ad cd d Ap cp d true _ HD.out HDc.out HP.out HPc.out HG.out.ds).mono ?_
   rintro e W8_ ⟨rfl,hd⟩
   have hb := hd.below
   clear hd
   refine ⟨_,rfl,?_⟩
   have n_ : Aside0 (W8_.cell? ⟨gf,0,none⟩ = some (.int .i64 a)) := ⟨pw_cell_below hb C0.out⟩
   clear C0
   have C0 := n_
   clear n_
   have n_ : Aside0 (W8_.cell? ⟨gf,1,none⟩ = some (.int .i64 u)) := ⟨pw_cell_below hb C1.out⟩
   clear C1
   have C1 := n_
   clear n_
   have n_ := aZ_ (Kd.Heap.C (Kd.heap_int .u8) hb.block HR.out)
   clear HR
   have HR := n_
   clear n_
   have n_ := aZ_ (below_step HB.out hb)
   clear HB
   have HB := n_
   clear n_
   have n_ := aZ_ (blk_below BF.out hb)
   clear BF
   have BF := n_
   clear n_
   have n_ := aZ_ (Kd.Heap.C (Kd.heap_int .i64) hb.block HS.out)
   clear HS
   have HS := n_
   clear n_
   have n_ := aZ_ (Kd.Heap.C (Kd.heap_int .i64) hb.block HZ.out)
   clear HZ
   have HZ := n_
   clear n_
   have n_ := aZ_ (Kd.Heap.C (Kd.heap_int .i64) hb.block HV.out)
   clear HV
   have HV := n_
   clear n_
   have n_ := aZ_ (Kd.Heap.C (Kd.heap_int .i64) hb.block HD.out)
   clear HD
   have HD := n_
   clear n_
   have n_ := aZ_ (Kd.Heap.C (Kd.heap_int .i64) hb.block HP.out)
   clear HP
   have HP := n_
   clear n_
   clear hb
   refine hK.out _ _ ⟨C0.out,C1.out⟩ (fun hHeld => ?_)
   clear hK K
   refine norm_ (a' := ?_) ?_ ?_
   rotate_left
   ·show Act.put _ (some 55) _ = _
    simp only [Act.put,List.setIfInBounds_toArray,List.set_cons_zero,List.set_cons_succ,i64_w,i32_w]
    rfl
   clear HP HPc
   refine pZ_ 24 (some 56) #[true,true,true,true,true,true,true,true,true,true,true,true,true,true,true,true,true,true,true,true,true,true,true,true,true,false,false,false,false,false,false,false,false,false,false,false,false,false,false] ?_
   refine pZ_ 25 (some 57) #[true,true,true,true,true,true,true,true,true,true,true,true,true,true,true,true,true,true,true,true,true,true,true,true,true,true,false,false,false,false,false,false,false,false,false,false,false,false,false] ?_
   refine pZ_ 26 (some 58) #[true,true,true,true,true,true,true,true,true,true,true,true,true,true,true,true,true,true,true,true,true,true,true,true,true,true,true,false,false,false,false,false,false,false,false,false,false,false,false] ?_
   refine pZ_ 27 (some 59) #[true,true,true,true,true,true,true,true,true,true,true,true,true,true,true,true,true,true,true,true,true,true,true,true,true,true,true,true,false,false,false,false,false,false,false,false,false,false,false] ?_
   refine tZ2_ 28 (some 60) #[true,true,true,true,true,true,true,true,true,true,true,true,true,true,true,true,true,true,true,true,true,true,true,true,true,true,true,true,true,false,false,false,false,false,false,false,false,false,false] hHeld ?_
   refine one_ (i := 29) (N := some 61) #[true,true,true,true,true,true,true,true,true,true,true,true,true,true,true,true,true,true,true,true,true,true,true,true,true,true,true,true,true,true,false,false,false,false,false,false,false,false,false] rfl rfl (one_of HT_.out T12_) T35_ (fun K hK => ?_)
   refine gZ_ Try.func16 #[.agg #[.int .i64 a,.int .i64 u]] ?_
   with_reducible refine (spec_IsSimpleGame.calls k a u g _ HG.out.ga2).mono ?_
   rintro e W9_ ⟨rfl,hb⟩
   refine ⟨_,rfl,?_⟩
   have n_ : Aside0 (W9_.cell? ⟨gf,0,none⟩ = some (.int .i64 a)) := ⟨pw_cell_below hb C0.out⟩
   clear C0
   have C0 := n_
   clear n_
   have n_ : Aside0 (W9_.cell? ⟨gf,1,none⟩ = some (.int .i64 u)) := ⟨pw_cell_below hb C1.out⟩
   clear C1
   have C1 := n_
   clear n_
   have n_ := aZ_ (Kd.Heap.C (Kd.heap_int .u8) hb.block HR.out)
   clear HR
   have HR := n_
   clear n_
   have n_ := aZ_ (below_step HB.out hb)
   clear HB
   have HB := n_
   clear n_
   have n_ := aZ_ (blk_below BF.out hb)
   clear BF
   have BF := n_
   clear n_
   have n_ := aZ_ (Kd.Heap.C (Kd.heap_int .i64) hb.block HS.out)
   clear HS
   have HS := n_
   clear n_
   have n_ := aZ_ (Kd.Heap.C (Kd.heap_int .i64) hb.block HZ.out)
   clear HZ
   have HZ := n_
   clear n_
   have n_ := aZ_ (Kd.Heap.C (Kd.heap_int .i64) hb.block HV.out)
   clear HV
   have HV := n_
   clear n_
   have n_ := aZ_ (Kd.Heap.C (Kd.heap_int .i64) hb.block HD.out)
   clear HD
   have HD := n_
   clear n_
   clear hb
   refine hK.out _ _ ⟨C0.out,C1.out⟩ (fun hHeld => ?_)
   clear hK K
   refine norm_ (a' := ?_) ?_ ?_
   rotate_left
   ·show Act.put _ (some 61) _ = _
    simp only [Act.put,List.setIfInBounds_toArray,List.set_cons_zero,List.set_cons_succ,i64_w,i32_w]
    rfl
   refine pZ_ 30 (some 62) #[true,true,true,true,true,true,true,true,true,true,true,true,true,true,true,true,true,true,true,true,true,true,true,true,true,true,true,true,true,true,true,false,false,false,false,false,false,false,false] ?_
   refine pZ_ 31 (some 63) #[true,true,true,true,true,true,true,true,true,true,true,true,true,true,true,true,true,true,true,true,true,true,true,true,true,true,true,true,true,true,true,true,false,false,false,false,false,false,false] ?_
   refine pZ_ 32 (some 64) #[true,true,true,true,true,true,true,true,true,true,true,true,true,true,true,true,true,true,true,true,true,true,true,true,true,true,true,true,true,true,true,true,true,false,false,false,false,false,false] ?_
   refine tZ2_ 33 (some 65) #[true,true,true,true,true,true,true,true,true,true,true,true,true,true,true,true,true,true,true,true,true,true,true,true,true,true,true,true,true,true,true,true,true,true,false,false,false,false,false] hHeld ?_
   refine tZ2_ 35 (some 67) #[true,true,true,true,true,true,true,true,true,true,true,true,true,true,true,true,true,true,true,true,true,true,true,true,true,true,true,true,true,true,true,true,true,true,false,true,false,false,false] hHeld ?_
   refine one_ (i := 34) (N := some 66) #[true,true,true,true,true,true,true,true,true,true,true,true,true,true,true,true,true,true,true,true,true,true,true,true,true,true,true,true,true,true,true,true,true,true,true,true,false,false,false] rfl rfl (one_of HT_.out T12_) T35_ (fun K hK => ?_)
   refine gZ_ Try.func17 #[.agg #[.int .i64 a,.int .i64 u]] ?_
   with_reducible refine (impl_IsProperGame.calls k a u pp _ HG.out.pr).mono ?_
   rintro e W10_ ⟨rfl,hb⟩
   refine ⟨_,rfl,?_⟩
   have n_ : Aside0 (W10_.cell? ⟨gf,0,none⟩ = some (.int .i64 a)) := ⟨pw_cell_below hb C0.out⟩
   clear C0
   have C0 := n_
   clear n_
   have n_ : Aside0 (W10_.cell? ⟨gf,1,none⟩ = some (.int .i64 u)) := ⟨pw_cell_below hb C1.out⟩
   clear C1
   have C1 := n_
   clear n_
   have n_ := aZ_ (Kd.Heap.C (Kd.heap_int .u8) hb.block HR.out)
   clear HR
   have HR := n_
   clear n_
   have n_ := aZ_ (below_step HB.out hb)
   clear HB
   have HB := n_
   clear n_
   have n_ := aZ_ (blk_below BF.out hb)
   clear BF
   have BF := n_
   clear n_
   have n_ := aZ_ (Kd.Heap.C (Kd.heap_int .i64) hb.block HS.out)
   clear HS
   have HS := n_
   clear n_
   have n_ := aZ_ (Kd.Heap.C (Kd.heap_int .i64) hb.block HZ.out)
   clear HZ
   have HZ := n_
   clear n_
   have n_ := aZ_ (Kd.Heap.C (Kd.heap_int .i64) hb.block HV.out)
   clear HV
   have HV := n_
   clear n_
   have n_ := aZ_ (Kd.Heap.C (Kd.heap_int .i64) hb.block HD.out)
   clear HD
   have HD := n_
   clear n_
   clear hb
   refine hK.out _ _ ⟨C0.out,C1.out⟩ (fun hHeld => ?_)
   clear hK K
   refine norm_ (a' := ?_) ?_ ?_
   rotate_left
   ·show Act.put _ (some 66) _ = _
    simp only [Act.put,List.setIfInBounds_toArray,List.set_cons_zero,List.set_cons_succ,i64_w,i32_w]
    rfl
   refine one_ (i := 36) (N := some 68) #[true,true,true,true,true,true,true,true,true,true,true,true,true,true,true,true,true,true,true,true,true,true,true,true,true,true,true,true,true,true,true,true,true,true,true,true,true,false,false] rfl rfl (one_of HT_.out T12_) T35_ (fun K hK => ?_)
   refine gZ_ Try.func18 #[.agg #[.int .i64 a,.int .i64 u]] ?_
   with_reducible refine (spec_IsProperGame.calls k a u pp _ HG.out.pr2).mono ?_
   rintro e W11_ ⟨rfl,hb⟩
   refine ⟨_,rfl,?_⟩
   have n_ : Aside0 (W11_.cell? ⟨gf,0,none⟩ = some (.int .i64 a)) := ⟨pw_cell_below hb C0.out⟩
   clear C0
   have C0 := n_
   clear n_
   have n_ : Aside0 (W11_.cell? ⟨gf,1,none⟩ = some (.int .i64 u)) := ⟨pw_cell_below hb C1.out⟩
   clear C1
   have C1 := n_
   clear n_
   have n_ := aZ_ (Kd.Heap.C (Kd.heap_int .u8) hb.block HR.out)
   clear HR
   have HR := n_
   clear n_
   have n_ := aZ_ (below_step HB.out hb)
   clear HB
   have HB := n_
   clear n_
   have n_ := aZ_ (blk_below BF.out hb)
   clear BF
   have BF := n_
   clear n_
   have n_ := aZ_ (Kd.Heap.C (Kd.heap_int .i64) hb.block HS.out)
   clear HS
   have HS := n_
   clear n_
   have n_ := aZ_ (Kd.Heap.C (Kd.heap_int .i64) hb.block HZ.out)
   clear HZ
   have HZ := n_
   clear n_
   have n_ := aZ_ (Kd.Heap.C (Kd.heap_int .i64) hb.block HV.out)
   clear HV
   have HV := n_
   clear n_
   have n_ := aZ_ (Kd.Heap.C (Kd.heap_int .i64) hb.block HD.out)
   clear HD
   have HD := n_
   clear n_
   clear hb
   refine hK.out _ _ ⟨C0.out,C1.out⟩ (fun hHeld => ?_)
   clear hK K
   refine norm_ (a' := ?_) ?_ ?_
   rotate_left
   ·show Act.put _ (some 68) _ = _
    simp only [Act.put,List.setIfInBounds_toArray,List.set_cons_zero,List.set_cons_succ,i64_w,i32_w]
    rfl
   refine pZ_ 37 (some 69) #[true,true,true,true,true,true,true,true,true,true,true,true,true,true,true,true,true,true,true,true,true,true,true,true,true,true,true,true,true,true,true,true,true,true,true,true,true,true,false] ?_
   refine pZ_ 38 (some 70) #[true,true,true,true,true,true,true,true,true,true,true,true,true,true,true,true,true,true,true,true,true,true,true,true,true,true,true,true,true,true,true,true,true,true,true,true,true,true,true] ?_
   refine done_ (done_of HT_.out T12_) ?_
   clear C0 C1 hgg hpp hHeld HT_ HW_
   go_upto_if 71 with (fail)
   go_cut [] (fun wx => Aside0 (Kd.C (Kd.int .u8) wx A0 l0.length l0) ∧ Aside0 (Below w.heap.size w wx))
   case first =>
    as_aux_lemma =>
     cases g
     case true =>
      obtain ⟨n,c,rfl,gm⟩ := HG.out.game rfl
      have HM := aZ_ gm
      clear gm
      have hn5 := HM.out.n5
      go_wp2_with (fail)
      go_loopg [9,10] n (fun gg v9 v10 wr => ∃ y m : Nat,m = y + 2 ∧ (y + 1 ≤ n) ∧ n - y ≤ gg ∧ v9 = .int .i64 ((fcN (y + 1) : Nat) : Int) ∧ v10 = .int .i64 (m : Int) ∧ wr = W11_)
      case atStart => exact ⟨0,2,rfl,HM.out.n1,by omega,rfl,rfl,rfl⟩
      case round =>
       obtain ⟨y,m,hm,hy,hg,rfl,rfl,rfl⟩ := hrel
       have hc_BF_0 : wr.cell? ⟨gf,0,none⟩ = some (.int .i64 n) := (blk_cell BF.out 0).trans rfl
       have hc_BF_1 : wr.cell? ⟨gf,1,none⟩ = some (.int .i64 u) := (blk_cell BF.out 1).trans rfl
       by_cases hlt : m ≤ n
       case pos =>
        have hltz : (m : Int) ≤ (n : Int) := by omega
        have hfl := fcN_le ⟨y + 2,by omega⟩
        have hf1 := fcN_le ⟨y + 1,by omega⟩
        have hfe : ((fcN (y + 1) : Nat) : Int) * (m : Int) = ((fcN (y + 2) : Nat) : Int) := by subst hm;show _ = (((y + 1 + 1) * fcN (y + 1) : Nat) : Int);rw [Nat.mul_comm];rfl
        have hfw : wrap64 (((fcN (y + 1) : Nat) : Int) * (m : Int)) = ((fcN (y + 2) : Nat) : Int) := by rw [hfe];dsimp only at hfl;rw [B.wrap64_of T50_ T50_]
        dsimp only at hfl hf1
        have HQQ := aZ_ (And.intro hm (And.intro hlt (And.intro hg hn5)))
        clear hfl hf1 hfe hm hlt hg hy
        go_wp2_with (fail)
        go_roundg (n - (y + 1))
        case measure => have := HQQ.out;omega
        case rel => exact ⟨y + 1,m + 1,by have := HQQ.out;omega,by have := HQQ.out;omega,by have := HQQ.out;omega,by go_simp,by have := HQQ.out;first | (rw [B.wrap64_of T50_ T50_];congr 1) | congr 1,rfl⟩
       case neg =>
        have hltz : ¬ (m : Int) ≤ (n : Int) := by omega
        have hyn : y + 1 = n := by omega
        rw [hyn]
        clear hm hy hg hlt
        have htt : (((fcN n : Nat) : Int) != ((fcN n : Nat) : Int)) = false := bne_self_eq_false _
        have hls : ((s.length : Int) != (n : Int)) = false := by rw [HM.out.ls];exact bne_self_eq_false _
        have hlb : ((b.length : Int) != (n : Int)) = false := by rw [HM.out.lb];exact bne_self_eq_false _
        go_upto_region 17 with (fail)
        go_cut [108] (fun s108 wx => s108 = .bool false ∧ Aside0 (Kd.C (Kd.int .u8) wx A0 l0.length l0) ∧ Aside0 (Below w.heap.size w wx) ∧ Aside0 (wx.heap[gf]? = some (.cells #[.int .i64 n,.int .i64 u] 25 (0,0))) ∧ Aside0 (Kd.C (Kd.int .i64) wx As s.length s) ∧ Aside0 (Kd.C (Kd.int .i64) wx Ab b.length b) ∧ Aside0 (Kd.C (Kd.int .i64) wx Av v.length v) ∧ Aside0 (Kd.C (Kd.int .i64) wx Ad d.length d))
        case first =>
         by_cases hv : 0 < v.length
         case pos =>
          obtain rfl : pp = true := HM.out.vp hv
          have hvz : (0 : Int) < (v.length : Int) := by omega
          go_wp2_with (first | (go_at_call 19;refine (laws_total.calls k As cs s _ _ HS.out HSc.out HM.out.tot).mono ?_;rintro e wx ⟨rfl,hd⟩;have hb := hd.below;clear hd;have n_ := aZ_ (Kd.Heap.C (Kd.heap_int .u8) hb.block HR.out);clear HR;have HR := n_;clear n_;have n_ := aZ_ (below_step HB.out hb);clear HB;have HB := n_;clear n_;have n_ := aZ_ (blk_below BF.out hb);clear BF;have BF := n_;clear n_;have n_ := aZ_ (Kd.Heap.C (Kd.heap_int .i64) hb.block HS.out);clear HS;have HS := n_;clear n_;have n_ := aZ_ (Kd.Heap.C (Kd.heap_int .i64) hb.block HZ.out);clear HZ;have HZ := n_;clear n_;have n_ := aZ_ (Kd.Heap.C (Kd.heap_int .i64) hb.block HV.out);clear HV;have HV := n_;clear n_;have n_ := aZ_ (Kd.Heap.C (Kd.heap_int .i64) hb.block HD.out);clear HD;have HD := n_;clear n_;clear hb ;clear hc_BF_0 hc_BF_1;have hc_BF_0 : wx.cell? ⟨gf,0,none⟩ = some (.int .i64 n) := (blk_cell BF.out 0).trans rfl;have hc_BF_1 : wx.cell? ⟨gf,1,none⟩ = some (.int .i64 u) := (blk_cell BF.out 1).trans rfl) | (go_at_call 17;refine (impl_IsProperGame.calls k n u true _ HG.out.pr).mono ?_;rintro e wy ⟨rfl,hb⟩;have n_ := aZ_ (Kd.Heap.C (Kd.heap_int .u8) hb.block HR.out);clear HR;have HR := n_;clear n_;have n_ := aZ_ (below_step HB.out hb);clear HB;have HB := n_;clear n_;have n_ := aZ_ (blk_below BF.out hb);clear BF;have BF := n_;clear n_;have n_ := aZ_ (Kd.Heap.C (Kd.heap_int .i64) hb.block HS.out);clear HS;have HS := n_;clear n_;have n_ := aZ_ (Kd.Heap.C (Kd.heap_int .i64) hb.block HZ.out);clear HZ;have HZ := n_;clear n_;have n_ := aZ_ (Kd.Heap.C (Kd.heap_int .i64) hb.block HV.out);clear HV;have HV := n_;clear n_;have n_ := aZ_ (Kd.Heap.C (Kd.heap_int .i64) hb.block HD.out);clear HD;have HD := n_;clear n_;clear hb ;clear hc_BF_0 hc_BF_1;have hc_BF_0 : wy.cell? ⟨gf,0,none⟩ = some (.int .i64 n) := (blk_cell BF.out 0).trans rfl;have hc_BF_1 : wy.cell? ⟨gf,1,none⟩ = some (.int .i64 u) := (blk_cell BF.out 1).trans rfl))
          go_meet
          exact ⟨rfl,HR,HB,BF,HS,HZ,HV,HD⟩
         case neg =>
          have hvz : ¬ (0 : Int) < (v.length : Int) := by omega
          have hvd : decide (0 < v.length) = false := decide_eq_false hv
          go_wp2_with (go_at_call 19;refine (laws_total.calls k As cs s _ _ HS.out HSc.out HM.out.tot).mono ?_;rintro e wy ⟨rfl,hd⟩;have hb := hd.below;clear hd;have n_ := aZ_ (Kd.Heap.C (Kd.heap_int .u8) hb.block HR.out);clear HR;have HR := n_;clear n_;have n_ := aZ_ (below_step HB.out hb);clear HB;have HB := n_;clear n_;have n_ := aZ_ (blk_below BF.out hb);clear BF;have BF := n_;clear n_;have n_ := aZ_ (Kd.Heap.C (Kd.heap_int .i64) hb.block HS.out);clear HS;have HS := n_;clear n_;have n_ := aZ_ (Kd.Heap.C (Kd.heap_int .i64) hb.block HZ.out);clear HZ;have HZ := n_;clear n_;have n_ := aZ_ (Kd.Heap.C (Kd.heap_int .i64) hb.block HV.out);clear HV;have HV := n_;clear n_;have n_ := aZ_ (Kd.Heap.C (Kd.heap_int .i64) hb.block HD.out);clear HD;have HD := n_;clear n_;clear hb ;clear hc_BF_0 hc_BF_1;have hc_BF_0 : wy.cell? ⟨gf,0,none⟩ = some (.int .i64 n) := (blk_cell BF.out 0).trans rfl;have hc_BF_1 : wy.cell? ⟨gf,1,none⟩ = some (.int .i64 u) := (blk_cell BF.out 1).trans rfl)
          go_meet
          exact ⟨rfl,HR,HB,BF,HS,HZ,HV,HD⟩
        case rest =>
         clear htt hls hlb hc_BF_0 hc_BF_1 HR HB BF HS HZ HV HD
         obtain ⟨rfl,HR,HB,BF,HS,HZ,HV,HD⟩ := hcut
         go_wp2_with (fail)
         go_loopg [11] n (fun gg v11 wr => ∃ e : Nat,e ≤ n ∧ n - e ≤ gg ∧ v11 = .int .i64 (e : Int) ∧ Aside0 (Kd.C (Kd.int .u8) wr A0 l0.length l0) ∧ Aside0 (Below w.heap.size w wr) ∧ Aside0 (wr.heap[gf]? = some (.cells #[.int .i64 n,.int .i64 u] 25 (0,0))) ∧ Aside0 (Kd.C (Kd.int .i64) wr As s.length s) ∧ Aside0 (Kd.C (Kd.int .i64) wr Ab b.length b) ∧ Aside0 (Kd.C (Kd.int .i64) wr Av v.length v) ∧ Aside0 (Kd.C (Kd.int .i64) wr Ad d.length d))
         case atStart => exact ⟨0,Nat.zero_le _,by omega,rfl,HR,HB,BF,HS,HZ,HV,HD⟩
         case round =>
          clear HR HB BF HS HZ HV HD
          obtain ⟨e,he,hg,rfl,HR,HB,BF,HS,HZ,HV,HD⟩ := hrel
          have hc_BF_0 : wr.cell? ⟨gf,0,none⟩ = some (.int .i64 n) := (blk_cell BF.out 0).trans rfl
          have hc_BF_1 : wr.cell? ⟨gf,1,none⟩ = some (.int .i64 u) := (blk_cell BF.out 1).trans rfl
          by_cases hlt : e < n
          case pos =>
           have hltz : (e : Int) < (n : Int) := by omega
           have h0z : (0 : Int) ≤ (e : Int) := by omega
           have hbz : (e : Int) < (b.length : Int) := by have := HM.out.lb;omega
           have hsz : (e : Int) < (s.length : Int) := by have := HM.out.ls;omega
           obtain ⟨dd,vv,hq1,hq2,hq3,hq4,hq5⟩ := HM.out.one e hlt
           have HQ1 := aZ_ hq1
           have HQ2 := aZ_ hq2
           have HQ3 := aZ_ hq3
           have HQ4 := aZ_ hq4
           have HQ5 := aZ_ hq5
           have HE := aZ_ (And.intro hlt hg)
           clear hq1 hq2 hq3 hq4 hq5 hlt hg he
           obtain ⟨ab,rfl,hce⟩ := Kd.at_int HZ.out (e : Int) T50_ (by have := HM.out.lb;omega)
           obtain ⟨as_,rfl,hcs⟩ := Kd.at_int HS.out (e : Int) T50_ (by have := HM.out.ls;omega)
           rw [Int.toNat_natCast] at hce hcs
           go_upto_region 22 with (fail)
           go_cut [148] (fun s148 wx => s148 = .bool false ∧ Aside0 (Kd.C (Kd.int .u8) wx A0 l0.length l0) ∧ Aside0 (Below w.heap.size w wx) ∧ Aside0 (wx.heap[gf]? = some (.cells #[.int .i64 n,.int .i64 u] 25 (0,0))) ∧ Aside0 (Kd.C (Kd.int .i64) wx (some as_) s.length s) ∧ Aside0 (Kd.C (Kd.int .i64) wx (some ab) b.length b) ∧ Aside0 (Kd.C (Kd.int .i64) wx Av v.length v) ∧ Aside0 (Kd.C (Kd.int .i64) wx Ad d.length d))
           case first =>
            as_aux_lemma =>
             have C0 := aZ_ hc_BF_0
             have C1 := aZ_ hc_BF_1
             have C2 := aZ_ hce
             have C3 := aZ_ hcs
             clear hc_BF_0 hc_BF_1 hce hcs
             have hb := below_drew (Below.refl wr.heap.size wr)
             have n_ : Aside0 (wr.drew.cell? ⟨gf,0,none⟩ = some (.int .i64 n)) := ⟨pw_cell_below hb C0.out⟩
             clear C0
             have C0 := n_
             clear n_
             have n_ : Aside0 (wr.drew.cell? ⟨gf,1,none⟩ = some (.int .i64 u)) := ⟨pw_cell_below hb C1.out⟩
             clear C1
             have C1 := n_
             clear n_
             have n_ : Aside0 (wr.drew.cell? (ab.add e) = some (.int .i64 (rd b (e : Int)))) := ⟨pw_cell_below hb C2.out⟩
             clear C2
             have C2 := n_
             clear n_
             have n_ : Aside0 (wr.drew.cell? (as_.add e) = some (.int .i64 (rd s (e : Int)))) := ⟨pw_cell_below hb C3.out⟩
             clear C3
             have C3 := n_
             clear n_
             have n_ := aZ_ (Kd.Heap.C (Kd.heap_int .u8) hb.block HR.out)
             clear HR
             have HR := n_
             clear n_
             have n_ := aZ_ (below_step HB.out hb)
             clear HB
             have HB := n_
             clear n_
             have n_ := aZ_ (blk_below BF.out hb)
             clear BF
             have BF := n_
             clear n_
             have n_ := aZ_ (Kd.Heap.C (Kd.heap_int .i64) hb.block HS.out)
             clear HS
             have HS := n_
             clear n_
             have n_ := aZ_ (Kd.Heap.C (Kd.heap_int .i64) hb.block HZ.out)
             clear HZ
             have HZ := n_
             clear n_
             have n_ := aZ_ (Kd.Heap.C (Kd.heap_int .i64) hb.block HV.out)
             clear HV
             have HV := n_
             clear n_
             have n_ := aZ_ (Kd.Heap.C (Kd.heap_int .i64) hb.block HD.out)
             clear HD
             have HD := n_
             clear n_
             clear hb
             refine start_ (n := 34) (S := (fun w_ => w_.cell? ⟨gf,0,none⟩ = some (.int .i64 n) ∧ w_.cell? ⟨gf,1,none⟩ = some (.int .i64 u) ∧ w_.cell? (ab.add e) = some (.int .i64 (rd b (e : Int))) ∧ w_.cell? (as_.add e) = some (.int .i64 (rd s (e : Int))))) (ds := []) #[false,false,false,false,false,false,false,false,false,false,false,false,false,false,false,false,false,false,false,false,false,false,false,false,false,false,false,false,false,false,false,false,false,false] T12_ rfl rfl ⟨C0.out,C1.out,C2.out,C3.out⟩ (fun hHeld => ?_)
             refine with_tabW laws_FnPower.tab22 laws_FnPower.bits22 (fun HT_ HW_ => ?_)
             generalize wr.drew = W0_ at C0 C1 C2 C3 HR HB BF HS HZ HV HD hHeld ⊢
             refine pZ_ 0 (some 115) #[true,false,false,false,false,false,false,false,false,false,false,false,false,false,false,false,false,false,false,false,false,false,false,false,false,false,false,false,false,false,false,false,false,false] ?_
             refine pZ_ 1 (some 116) #[true,true,false,false,false,false,false,false,false,false,false,false,false,false,false,false,false,false,false,false,false,false,false,false,false,false,false,false,false,false,false,false,false,false] ?_
             refine pZ_ 3 (some 118) #[true,true,false,true,false,false,false,false,false,false,false,false,false,false,false,false,false,false,false,false,false,false,false,false,false,false,false,false,false,false,false,false,false,false] ?_
             refine pZ_ 4 (some 119) #[true,true,false,true,true,false,false,false,false,false,false,false,false,false,false,false,false,false,false,false,false,false,false,false,false,false,false,false,false,false,false,false,false,false] ?_
             refine pZ_ 5 (some 120) #[true,true,false,true,true,true,false,false,false,false,false,false,false,false,false,false,false,false,false,false,false,false,false,false,false,false,false,false,false,false,false,false,false,false] ?_
             refine tZ4_ 6 (some 121) #[true,true,false,true,true,true,true,false,false,false,false,false,false,false,false,false,false,false,false,false,false,false,false,false,false,false,false,false,false,false,false,false,false,false] hHeld ?_
             refine pure_ (i := 7) (N := some 122) (v := ?_) (a' := ?_) #[true,true,false,true,true,true,true,true,false,false,false,false,false,false,false,false,false,false,false,false,false,false,false,false,false,false,false,false,false,false,false,false,false,false] rfl rfl (any_of HT_.out T12_) (fun _ _ _ h => h) (Or.inl ⟨by rfl,?_⟩) ?_ ?_
             rotate_left
             ·intro w'
              go_simp
              rw [HQ3.out]
              first | done | with_reducible rfl
             rotate_left
             ·simp only [Act.put,List.setIfInBounds_toArray,List.set_cons_zero,List.set_cons_succ,i64_w,i32_w]
              rfl
             refine one_ (i := 2) (N := some 117) #[true,true,true,true,true,true,true,true,false,false,false,false,false,false,false,false,false,false,false,false,false,false,false,false,false,false,false,false,false,false,false,false,false,false] rfl rfl (one_of HT_.out T12_) T35_ (fun K hK => ?_)
             refine gZ_ Try.func20 #[.slice Ad d.length cd,.int .i64 e] ?_
             with_reducible refine (laws_has.calls k Ad cd d (e : Int) dd _ HD.out HDc.out HQ1.out).mono ?_
             rintro e W1_ ⟨rfl,hd⟩
             have hb := hd.below
             clear hd
             refine ⟨_,rfl,?_⟩
             have n_ : Aside0 (W1_.cell? ⟨gf,0,none⟩ = some (.int .i64 n)) := ⟨pw_cell_below hb C0.out⟩
             clear C0
             have C0 := n_
             clear n_
             have n_ : Aside0 (W1_.cell? ⟨gf,1,none⟩ = some (.int .i64 u)) := ⟨pw_cell_below hb C1.out⟩
             clear C1
             have C1 := n_
             clear n_
             have n_ : Aside0 (W1_.cell? (ab.add e) = some (.int .i64 (rd b (e : Int)))) := ⟨pw_cell_below hb C2.out⟩
             clear C2
             have C2 := n_
             clear n_
             have n_ : Aside0 (W1_.cell? (as_.add e) = some (.int .i64 (rd s (e : Int)))) := ⟨pw_cell_below hb C3.out⟩
             clear C3
             have C3 := n_
             clear n_
             have n_ := aZ_ (Kd.Heap.C (Kd.heap_int .u8) hb.block HR.out)
             clear HR
             have HR := n_
             clear n_
             have n_ := aZ_ (below_step HB.out hb)
             clear HB
             have HB := n_
             clear n_
             have n_ := aZ_ (blk_below BF.out hb)
             clear BF
             have BF := n_
             clear n_
             have n_ := aZ_ (Kd.Heap.C (Kd.heap_int .i64) hb.block HS.out)
             clear HS
             have HS := n_
             clear n_
             have n_ := aZ_ (Kd.Heap.C (Kd.heap_int .i64) hb.block HZ.out)
             clear HZ
             have HZ := n_
             clear n_
             have n_ := aZ_ (Kd.Heap.C (Kd.heap_int .i64) hb.block HV.out)
             clear HV
             have HV := n_
             clear n_
             have n_ := aZ_ (Kd.Heap.C (Kd.heap_int .i64) hb.block HD.out)
             clear HD
             have HD := n_
             clear n_
             clear hb
             refine hK.out _ _ ⟨C0.out,C1.out,C2.out,C3.out⟩ (fun hHeld => ?_)
             clear hK K
             refine norm_ (a' := ?_) ?_ ?_
             rotate_left
             ·show Act.put _ (some 117) _ = _
              simp only [Act.put,List.setIfInBounds_toArray,List.set_cons_zero,List.set_cons_succ,i64_w,i32_w]
              rfl
             refine pZ_ 8 (some 123) #[true,true,true,true,true,true,true,true,true,false,false,false,false,false,false,false,false,false,false,false,false,false,false,false,false,false,false,false,false,false,false,false,false,false] ?_
             refine pZ_ 9 (some 124) #[true,true,true,true,true,true,true,true,true,true,false,false,false,false,false,false,false,false,false,false,false,false,false,false,false,false,false,false,false,false,false,false,false,false] ?_
             refine pZ_ 10 (some 125) #[true,true,true,true,true,true,true,true,true,true,true,false,false,false,false,false,false,false,false,false,false,false,false,false,false,false,false,false,false,false,false,false,false,false] ?_
             refine pZ_ 11 (some 126) #[true,true,true,true,true,true,true,true,true,true,true,true,false,false,false,false,false,false,false,false,false,false,false,false,false,false,false,false,false,false,false,false,false,false] ?_
             refine pZ_ 13 (some 128) #[true,true,true,true,true,true,true,true,true,true,true,true,false,true,false,false,false,false,false,false,false,false,false,false,false,false,false,false,false,false,false,false,false,false] ?_
             refine pZ_ 14 (some 129) #[true,true,true,true,true,true,true,true,true,true,true,true,false,true,true,false,false,false,false,false,false,false,false,false,false,false,false,false,false,false,false,false,false,false] ?_
             refine pZ_ 15 (some 130) #[true,true,true,true,true,true,true,true,true,true,true,true,false,true,true,true,false,false,false,false,false,false,false,false,false,false,false,false,false,false,false,false,false,false] ?_
             refine tZ4_ 16 (some 131) #[true,true,true,true,true,true,true,true,true,true,true,true,false,true,true,true,true,false,false,false,false,false,false,false,false,false,false,false,false,false,false,false,false,false] hHeld ?_
             refine pure_ (i := 17) (N := some 132) (v := ?_) (a' := ?_) #[true,true,true,true,true,true,true,true,true,true,true,true,false,true,true,true,true,true,false,false,false,false,false,false,false,false,false,false,false,false,false,false,false,false] rfl rfl (any_of HT_.out T12_) (fun _ _ _ h => h) (Or.inl ⟨by rfl,?_⟩) ?_ ?_
             rotate_left
             ·intro w'
              go_simp
              rw [HQ4.out]
              first | done | with_reducible rfl
             rotate_left
             ·simp only [Act.put,List.setIfInBounds_toArray,List.set_cons_zero,List.set_cons_succ,i64_w,i32_w]
              rfl
             refine one_ (i := 12) (N := some 127) #[true,true,true,true,true,true,true,true,true,true,true,true,true,true,true,true,true,true,false,false,false,false,false,false,false,false,false,false,false,false,false,false,false,false] rfl rfl (one_of HT_.out T12_) T35_ (fun K hK => ?_)
             refine gZ_ Try.func20 #[.slice Ad d.length cd,.int .i64 e] ?_
             with_reducible refine (laws_has.calls k Ad cd d (e : Int) dd _ HD.out HDc.out HQ1.out).mono ?_
             rintro e W2_ ⟨rfl,hd⟩
             have hb := hd.below
             clear hd
             refine ⟨_,rfl,?_⟩
             have n_ : Aside0 (W2_.cell? ⟨gf,0,none⟩ = some (.int .i64 n)) := ⟨pw_cell_below hb C0.out⟩
             clear C0
             have C0 := n_
             clear n_
             have n_ : Aside0 (W2_.cell? ⟨gf,1,none⟩ = some (.int .i64 u)) := ⟨pw_cell_below hb C1.out⟩
             clear C1
             have C1 := n_
             clear n_
             have n_ : Aside0 (W2_.cell? (ab.add e) = some (.int .i64 (rd b (e : Int)))) := ⟨pw_cell_below hb C2.out⟩
             clear C2
             have C2 := n_
             clear n_
             have n_ : Aside0 (W2_.cell? (as_.add e) = some (.int .i64 (rd s (e : Int)))) := ⟨pw_cell_below hb C3.out⟩
             clear C3
             have C3 := n_
             clear n_
             have n_ := aZ_ (Kd.Heap.C (Kd.heap_int .u8) hb.block HR.out)
             clear HR
             have HR := n_
             clear n_
             have n_ := aZ_ (below_step HB.out hb)
             clear HB
             have HB := n_
             clear n_
             have n_ := aZ_ (blk_below BF.out hb)
             clear BF
             have BF := n_
             clear n_
             have n_ := aZ_ (Kd.Heap.C (Kd.heap_int .i64) hb.block HS.out)
             clear HS
             have HS := n_
             clear n_
             have n_ := aZ_ (Kd.Heap.C (Kd.heap_int .i64) hb.block HZ.out)
             clear HZ
             have HZ := n_
             clear n_
             have n_ := aZ_ (Kd.Heap.C (Kd.heap_int .i64) hb.block HV.out)
             clear HV
             have HV := n_
             clear n_
             have n_ := aZ_ (Kd.Heap.C (Kd.heap_int .i64) hb.block HD.out)
             clear HD
             have HD := n_
             clear n_
             clear hb
             refine hK.out _ _ ⟨C0.out,C1.out,C2.out,C3.out⟩ (fun hHeld => ?_)
             clear hK K
             refine norm_ (a' := ?_) ?_ ?_
             rotate_left
             ·show Act.put _ (some 127) _ = _
              simp only [Act.put,List.setIfInBounds_toArray,List.set_cons_zero,List.set_cons_succ,i64_w,i32_w]
              rfl
             refine pZ_ 18 (some 133) #[true,true,true,true,true,true,true,true,true,true,true,true,true,true,true,true,true,true,true,false,false,false,false,false,false,false,false,false,false,false,false,false,false,false] ?_
             refine pZ_ 19 (some 134) #[true,true,true,true,true,true,true,true,true,true,true,true,true,true,true,true,true,true,true,true,false,false,false,false,false,false,false,false,false,false,false,false,false,false] ?_
             refine pZ_ 20 (some 135) #[true,true,true,true,true,true,true,true,true,true,true,true,true,true,true,true,true,true,true,true,true,false,false,false,false,false,false,false,false,false,false,false,false,false] ?_
             refine pZ_ 21 (some 136) #[true,true,true,true,true,true,true,true,true,true,true,true,true,true,true,true,true,true,true,true,true,true,false,false,false,false,false,false,false,false,false,false,false,false] ?_
             refine pZ_ 22 (some 137) #[true,true,true,true,true,true,true,true,true,true,true,true,true,true,true,true,true,true,true,true,true,true,true,false,false,false,false,false,false,false,false,false,false,false] ?_
             refine one_ (i := 23) (N := some 138) #[true,true,true,true,true,true,true,true,true,true,true,true,true,true,true,true,true,true,true,true,true,true,true,true,false,false,false,false,false,false,false,false,false,false] rfl rfl (one_of HT_.out T12_) T35_ (fun K hK => ?_)
             refine gZ_ Try.func20 #[.slice Av v.length cv,.int .i64 e] ?_
             with_reducible refine (laws_has.calls k Av cv v (e : Int) vv _ HV.out HVc.out HQ2.out).mono ?_
             rintro e W3_ ⟨rfl,hd⟩
             have hb := hd.below
             clear hd
             refine ⟨_,rfl,?_⟩
             have n_ : Aside0 (W3_.cell? ⟨gf,0,none⟩ = some (.int .i64 n)) := ⟨pw_cell_below hb C0.out⟩
             clear C0
             have C0 := n_
             clear n_
             have n_ : Aside0 (W3_.cell? ⟨gf,1,none⟩ = some (.int .i64 u)) := ⟨pw_cell_below hb C1.out⟩
             clear C1
             have C1 := n_
             clear n_
             have n_ : Aside0 (W3_.cell? (ab.add e) = some (.int .i64 (rd b (e : Int)))) := ⟨pw_cell_below hb C2.out⟩
             clear C2
             have C2 := n_
             clear n_
             have n_ : Aside0 (W3_.cell? (as_.add e) = some (.int .i64 (rd s (e : Int)))) := ⟨pw_cell_below hb C3.out⟩
             clear C3
             have C3 := n_
             clear n_
             have n_ := aZ_ (Kd.Heap.C (Kd.heap_int .u8) hb.block HR.out)
             clear HR
             have HR := n_
             clear n_
             have n_ := aZ_ (below_step HB.out hb)
             clear HB
             have HB := n_
             clear n_
             have n_ := aZ_ (blk_below BF.out hb)
             clear BF
             have BF := n_
             clear n_
             have n_ := aZ_ (Kd.Heap.C (Kd.heap_int .i64) hb.block HS.out)
             clear HS
             have HS := n_
             clear n_
             have n_ := aZ_ (Kd.Heap.C (Kd.heap_int .i64) hb.block HZ.out)
             clear HZ
             have HZ := n_
             clear n_
             have n_ := aZ_ (Kd.Heap.C (Kd.heap_int .i64) hb.block HV.out)
             clear HV
             have HV := n_
             clear n_
             have n_ := aZ_ (Kd.Heap.C (Kd.heap_int .i64) hb.block HD.out)
             clear HD
             have HD := n_
             clear n_
             clear hb
             refine hK.out _ _ ⟨C0.out,C1.out,C2.out,C3.out⟩ (fun hHeld => ?_)
             clear hK K
             refine norm_ (a' := ?_) ?_ ?_
             rotate_left
             ·show Act.put _ (some 138) _ = _
              simp only [Act.put,List.setIfInBounds_toArray,List.set_cons_zero,List.set_cons_succ,i64_w,i32_w]
              rfl
             cases vv
             case false =>
              refine pZ_ 24 (some 139) #[true,true,true,true,true,true,true,true,true,true,true,true,true,true,true,true,true,true,true,true,true,true,true,true,true,false,false,false,false,false,false,false,false,false] ?_
              refine oZ_ 25 (some 140) #[true,true,true,true,true,true,true,true,true,true,true,true,true,true,true,true,true,true,true,true,true,true,true,true,true,true,false,false,false,false,false,false,false,false] ?_
              refine oZ_ 26 (some 141) #[true,true,true,true,true,true,true,true,true,true,true,true,true,true,true,true,true,true,true,true,true,true,true,true,true,true,true,false,false,false,false,false,false,false] ?_
              refine oZ_ 27 (some 142) #[true,true,true,true,true,true,true,true,true,true,true,true,true,true,true,true,true,true,true,true,true,true,true,true,true,true,true,true,false,false,false,false,false,false] ?_
              refine oZ_ 28 (some 143) #[true,true,true,true,true,true,true,true,true,true,true,true,true,true,true,true,true,true,true,true,true,true,true,true,true,true,true,true,true,false,false,false,false,false] ?_
              refine oZ_ 29 (some 144) #[true,true,true,true,true,true,true,true,true,true,true,true,true,true,true,true,true,true,true,true,true,true,true,true,true,true,true,true,true,true,false,false,false,false] ?_
              refine oZ_ 30 (some 145) #[true,true,true,true,true,true,true,true,true,true,true,true,true,true,true,true,true,true,true,true,true,true,true,true,true,true,true,true,true,true,true,false,false,false] ?_
              refine oZ_ 31 (some 146) #[true,true,true,true,true,true,true,true,true,true,true,true,true,true,true,true,true,true,true,true,true,true,true,true,true,true,true,true,true,true,true,true,false,false] ?_
              refine pZ_ 32 (some 147) #[true,true,true,true,true,true,true,true,true,true,true,true,true,true,true,true,true,true,true,true,true,true,true,true,true,true,true,true,true,true,true,true,true,false] ?_
              refine pZ_ 33 (some 148) #[true,true,true,true,true,true,true,true,true,true,true,true,true,true,true,true,true,true,true,true,true,true,true,true,true,true,true,true,true,true,true,true,true,true] ?_
              refine done_ (done_of HT_.out T12_) ?_
              (try go_wp2_with (fail))
              go_meet
              exact ⟨rfl,HR,HB,BF,HS,HZ,HV,HD⟩
             case true =>
              have hbc : (rd b (e : Int) != c) = false := by rw [HQ5.out rfl];exact bne_self_eq_false c
              refine pZ_ 24 (some 139) #[true,true,true,true,true,true,true,true,true,true,true,true,true,true,true,true,true,true,true,true,true,true,true,true,true,false,false,false,false,false,false,false,false,false] ?_
              refine pZ_ 25 (some 140) #[true,true,true,true,true,true,true,true,true,true,true,true,true,true,true,true,true,true,true,true,true,true,true,true,true,true,false,false,false,false,false,false,false,false] ?_
              refine pZ_ 26 (some 141) #[true,true,true,true,true,true,true,true,true,true,true,true,true,true,true,true,true,true,true,true,true,true,true,true,true,true,true,false,false,false,false,false,false,false] ?_
              refine pZ_ 27 (some 142) #[true,true,true,true,true,true,true,true,true,true,true,true,true,true,true,true,true,true,true,true,true,true,true,true,true,true,true,true,false,false,false,false,false,false] ?_
              refine tZ4_ 28 (some 143) #[true,true,true,true,true,true,true,true,true,true,true,true,true,true,true,true,true,true,true,true,true,true,true,true,true,true,true,true,true,false,false,false,false,false] hHeld ?_
              refine tZ4_ 29 (some 144) #[true,true,true,true,true,true,true,true,true,true,true,true,true,true,true,true,true,true,true,true,true,true,true,true,true,true,true,true,true,true,false,false,false,false] hHeld ?_
              refine one_ (i := 30) (N := some 145) #[true,true,true,true,true,true,true,true,true,true,true,true,true,true,true,true,true,true,true,true,true,true,true,true,true,true,true,true,true,true,true,false,false,false] rfl rfl (one_of HT_.out T12_) T35_ (fun K hK => ?_)
              refine gZ_ Try.func21 #[.agg #[.int .i64 n,.int .i64 u]] ?_
              with_reducible refine (impl_CountOnes.calls n u c _ HM.out.cnt).mono ?_
              rintro e W4_ ⟨rfl,hb⟩
              refine ⟨_,rfl,?_⟩
              have n_ : Aside0 (W4_.cell? ⟨gf,0,none⟩ = some (.int .i64 n)) := ⟨pw_cell_below hb C0.out⟩
              clear C0
              have C0 := n_
              clear n_
              have n_ : Aside0 (W4_.cell? ⟨gf,1,none⟩ = some (.int .i64 u)) := ⟨pw_cell_below hb C1.out⟩
              clear C1
              have C1 := n_
              clear n_
              have n_ : Aside0 (W4_.cell? (ab.add e) = some (.int .i64 (rd b (e : Int)))) := ⟨pw_cell_below hb C2.out⟩
              clear C2
              have C2 := n_
              clear n_
              have n_ : Aside0 (W4_.cell? (as_.add e) = some (.int .i64 (rd s (e : Int)))) := ⟨pw_cell_below hb C3.out⟩
              clear C3
              have C3 := n_
              clear n_
              have n_ := aZ_ (Kd.Heap.C (Kd.heap_int .u8) hb.block HR.out)
              clear HR
              have HR := n_
              clear n_
              have n_ := aZ_ (below_step HB.out hb)
              clear HB
              have HB := n_
              clear n_
              have n_ := aZ_ (blk_below BF.out hb)
              clear BF
              have BF := n_
              clear n_
              have n_ := aZ_ (Kd.Heap.C (Kd.heap_int .i64) hb.block HS.out)
              clear HS
              have HS := n_
              clear n_
              have n_ := aZ_ (Kd.Heap.C (Kd.heap_int .i64) hb.block HZ.out)
              clear HZ
              have HZ := n_
              clear n_
              have n_ := aZ_ (Kd.Heap.C (Kd.heap_int .i64) hb.block HV.out)
              clear HV
              have HV := n_
              clear n_
              have n_ := aZ_ (Kd.Heap.C (Kd.heap_int .i64) hb.block HD.out)
              clear HD
              have HD := n_
              clear n_
              clear hb
              refine hK.out _ _ ⟨C0.out,C1.out,C2.out,C3.out⟩ (fun hHeld => ?_)
              clear hK K
              refine norm_ (a' := ?_) ?_ ?_
              rotate_left
              ·show Act.put _ (some 145) _ = _
               simp only [Act.put,List.setIfInBounds_toArray,List.set_cons_zero,List.set_cons_succ,i64_w,i32_w]
               rfl
              refine pZ_ 31 (some 146) #[true,true,true,true,true,true,true,true,true,true,true,true,true,true,true,true,true,true,true,true,true,true,true,true,true,true,true,true,true,true,true,true,false,false] ?_
              refine pZ_ 32 (some 147) #[true,true,true,true,true,true,true,true,true,true,true,true,true,true,true,true,true,true,true,true,true,true,true,true,true,true,true,true,true,true,true,true,true,false] ?_
              refine pZ_ 33 (some 148) #[true,true,true,true,true,true,true,true,true,true,true,true,true,true,true,true,true,true,true,true,true,true,true,true,true,true,true,true,true,true,true,true,true,true] ?_
              refine done_ (done_of HT_.out T12_) ?_
              (try go_wp2_with (fail))
              go_meet
              exact ⟨rfl,HR,HB,BF,HS,HZ,HV,HD⟩
           case rest =>
            clear hc_BF_0 hc_BF_1 hce hcs HR HB BF HS HZ HV HD
            obtain ⟨rfl,HR,HB,BF,HS,HZ,HV,HD⟩ := hcut
            clear HQ1 HQ2 HQ3 HQ4 HQ5
            go_wp2_with (fail)
            go_loopg [12] n (fun g2 v12 wq => ∃ q : Nat,q ≤ n ∧ n - q ≤ g2 ∧ v12 = .int .i64 (q : Int) ∧ Aside0 (Kd.C (Kd.int .u8) wq A0 l0.length l0) ∧ Aside0 (Below w.heap.size w wq) ∧ Aside0 (wq.heap[gf]? = some (.cells #[.int .i64 n,.int .i64 u] 25 (0,0))) ∧ Aside0 (Kd.C (Kd.int .i64) wq (some as_) s.length s) ∧ Aside0 (Kd.C (Kd.int .i64) wq (some ab) b.length b) ∧ Aside0 (Kd.C (Kd.int .i64) wq Av v.length v) ∧ Aside0 (Kd.C (Kd.int .i64) wq Ad d.length d))
            case atStart => exact ⟨0,Nat.zero_le _,by omega,rfl,HR,HB,BF,HS,HZ,HV,HD⟩
            case round =>
             clear HR HB BF HS HZ HV HD
             obtain ⟨q,hq,hg2,rfl,HR,HB,BF,HS,HZ,HV,HD⟩ := hrel
             have hc_BF_0 : wr.cell? ⟨gf,0,none⟩ = some (.int .i64 n) := (blk_cell BF.out 0).trans rfl
             have hc_BF_1 : wr.cell? ⟨gf,1,none⟩ = some (.int .i64 u) := (blk_cell BF.out 1).trans rfl
             by_cases hlt2 : q < n
             ·have hltz2 : (q : Int) < (n : Int) := by omega
              have h0z2 : (0 : Int) ≤ (q : Int) := by omega
              have hbz2 : (q : Int) < (b.length : Int) := by have := HM.out.lb;omega
              have hsz2 : (q : Int) < (s.length : Int) := by have := HM.out.ls;omega
              obtain ⟨x,hx⟩ := HM.out.two e q HE.out.1 hlt2
              have HX := aZ_ hx
              have HQQ := aZ_ (And.intro hlt2 hg2)
              clear hx hlt2 hg2 hq
              go_upto_region 28 with (go_at_call 22;refine (impl_DesirabilityOf.calls k n u (e : Int) (q : Int) x _ HX.out.des).mono ?_;rintro e wu ⟨rfl,hb⟩;have n_ := aZ_ (Kd.Heap.C (Kd.heap_int .u8) hb.block HR.out);clear HR;have HR := n_;clear n_;have n_ := aZ_ (below_step HB.out hb);clear HB;have HB := n_;clear n_;have n_ := aZ_ (blk_below BF.out hb);clear BF;have BF := n_;clear n_;have n_ := aZ_ (Kd.Heap.C (Kd.heap_int .i64) hb.block HS.out);clear HS;have HS := n_;clear n_;have n_ := aZ_ (Kd.Heap.C (Kd.heap_int .i64) hb.block HZ.out);clear HZ;have HZ := n_;clear n_;have n_ := aZ_ (Kd.Heap.C (Kd.heap_int .i64) hb.block HV.out);clear HV;have HV := n_;clear n_;have n_ := aZ_ (Kd.Heap.C (Kd.heap_int .i64) hb.block HD.out);clear HD;have HD := n_;clear n_;clear hb ;clear hc_BF_0 hc_BF_1;have hc_BF_0 : wu.cell? ⟨gf,0,none⟩ = some (.int .i64 n) := (blk_cell BF.out 0).trans rfl;have hc_BF_1 : wu.cell? ⟨gf,1,none⟩ = some (.int .i64 u) := (blk_cell BF.out 1).trans rfl)
              go_cut [230] (fun s230 wx => s230 = .bool false ∧ Aside0 (Kd.C (Kd.int .u8) wx A0 l0.length l0) ∧ Aside0 (Below w.heap.size w wx) ∧ Aside0 (wx.heap[gf]? = some (.cells #[.int .i64 n,.int .i64 u] 25 (0,0))) ∧ Aside0 (Kd.C (Kd.int .i64) wx (some as_) s.length s) ∧ Aside0 (Kd.C (Kd.int .i64) wx (some ab) b.length b) ∧ Aside0 (Kd.C (Kd.int .i64) wx Av v.length v) ∧ Aside0 (Kd.C (Kd.int .i64) wx Ad d.length d))
              case first =>
               obtain ⟨a2_,e2_,h1⟩ := Kd.at_int HZ.out (e : Int) T50_ T50_
               obtain rfl : ab = a2_ := by injection e2_
               clear e2_
               rw [Int.toNat_natCast] at h1
               obtain ⟨a2_,e2_,h2⟩ := Kd.at_int HZ.out (q : Int) T50_ T50_
               obtain rfl : ab = a2_ := by injection e2_
               clear e2_
               rw [Int.toNat_natCast] at h2
               obtain ⟨a2_,e2_,h3⟩ := Kd.at_int HS.out (e : Int) T50_ T50_
               obtain rfl : as_ = a2_ := by injection e2_
               clear e2_
               rw [Int.toNat_natCast] at h3
               obtain ⟨a2_,e2_,h4⟩ := Kd.at_int HS.out (q : Int) T50_ T50_
               obtain rfl : as_ = a2_ := by injection e2_
               clear e2_
               rw [Int.toNat_natCast] at h4
               have C0 := aZ_ hc_BF_0
               have C1 := aZ_ hc_BF_1
               have C2 := aZ_ h1
               have C3 := aZ_ h2
               have C4 := aZ_ h3
               have C5 := aZ_ h4
               clear hc_BF_0 hc_BF_1 h1 h2 h3 h4
               have hv4 := HX.out.val
               rcases hv4 with rfl | rfl | rfl | rfl
               ·as_aux_lemma =>
                 have hw0 : wrap64 0 = 0 := B.wrap64_of T50_ T50_
                 have hw1 : wrap64 1 = 1 := B.wrap64_of T50_ T50_
                 have hw2 : wrap64 (-1) = -1 := B.wrap64_of T50_ T50_
                 have hf1 : (rd b (e : Int) != rd b (q : Int)) = false := by rw [(HX.out.zero rfl).1];exact bne_self_eq_false _
                 have hf2 : (rd s (e : Int) != rd s (q : Int)) = false := by rw [(HX.out.zero rfl).2];exact bne_self_eq_false _
                 have HBK : Aside0 (impl_DesirabilityOf.f k n u (q : Int) (e : Int) = some 0) := ⟨(HX.out.back T35_).trans rfl⟩
                 have HEX : Aside0 (impl_AreExchangeable.f k n u (e : Int) (q : Int) = some true) := ⟨HX.out.exch.trans rfl⟩
                 have hb := below_drew (Below.refl wu.heap.size wu)
                 have n_ : Aside0 (wu.drew.cell? ⟨gf,0,none⟩ = some (.int .i64 n)) := ⟨pw_cell_below hb C0.out⟩
                 clear C0
                 have C0 := n_
                 clear n_
                 have n_ : Aside0 (wu.drew.cell? ⟨gf,1,none⟩ = some (.int .i64 u)) := ⟨pw_cell_below hb C1.out⟩
                 clear C1
                 have C1 := n_
                 clear n_
                 have n_ : Aside0 (wu.drew.cell? (ab.add e) = some (.int .i64 (rd b (e : Int)))) := ⟨pw_cell_below hb C2.out⟩
                 clear C2
                 have C2 := n_
                 clear n_
                 have n_ : Aside0 (wu.drew.cell? (ab.add q) = some (.int .i64 (rd b (q : Int)))) := ⟨pw_cell_below hb C3.out⟩
                 clear C3
                 have C3 := n_
                 clear n_
                 have n_ : Aside0 (wu.drew.cell? (as_.add e) = some (.int .i64 (rd s (e : Int)))) := ⟨pw_cell_below hb C4.out⟩
                 clear C4
                 have C4 := n_
                 clear n_
                 have n_ : Aside0 (wu.drew.cell? (as_.add q) = some (.int .i64 (rd s (q : Int)))) := ⟨pw_cell_below hb C5.out⟩
                 clear C5
                 have C5 := n_
                 clear n_
                 have n_ := aZ_ (Kd.Heap.C (Kd.heap_int .u8) hb.block HR.out)
                 clear HR
                 have HR := n_
                 clear n_
                 have n_ := aZ_ (below_step HB.out hb)
                 clear HB
                 have HB := n_
                 clear n_
                 have n_ := aZ_ (blk_below BF.out hb)
                 clear BF
                 have BF := n_
                 clear n_
                 have n_ := aZ_ (Kd.Heap.C (Kd.heap_int .i64) hb.block HS.out)
                 clear HS
                 have HS := n_
                 clear n_
                 have n_ := aZ_ (Kd.Heap.C (Kd.heap_int .i64) hb.block HZ.out)
                 clear HZ
                 have HZ := n_
                 clear n_
                 have n_ := aZ_ (Kd.Heap.C (Kd.heap_int .i64) hb.block HV.out)
                 clear HV
                 have HV := n_
                 clear n_
                 have n_ := aZ_ (Kd.Heap.C (Kd.heap_int .i64) hb.block HD.out)
                 clear HD
                 have HD := n_
                 clear n_
                 clear hb
                 refine start_ (n := 72) (S := (fun w_ => w_.cell? ⟨gf,0,none⟩ = some (.int .i64 n) ∧ w_.cell? ⟨gf,1,none⟩ = some (.int .i64 u) ∧ w_.cell? (ab.add e) = some (.int .i64 (rd b (e : Int))) ∧ w_.cell? (ab.add q) = some (.int .i64 (rd b (q : Int))) ∧ w_.cell? (as_.add e) = some (.int .i64 (rd s (e : Int))) ∧ w_.cell? (as_.add q) = some (.int .i64 (rd s (q : Int))))) (ds := []) #[false,false,false,false,false,false,false,false,false,false,false,false,false,false,false,false,false,false,false,false,false,false,false,false,false,false,false,false,false,false,false,false,false,false,false,false,false,false,false,false,false,false,false,false,false,false,false,false,false,false,false,false,false,false,false,false,false,false,false,false,false,false,false,false,false,false,false,false,false,false,false,false] T12_ rfl rfl ⟨C0.out,C1.out,C2.out,C3.out,C4.out,C5.out⟩ (fun hHeld => ?_)
                 refine with_tabW laws_FnPower.tab28 laws_FnPower.bits28 (fun HT_ HW_ => ?_)
                 generalize wu.drew = W0_ at C0 C1 C2 C3 C4 C5 HR HB BF HS HZ HV HD hHeld ⊢
                 refine pZ_ 0 (some 159) #[true,false,false,false,false,false,false,false,false,false,false,false,false,false,false,false,false,false,false,false,false,false,false,false,false,false,false,false,false,false,false,false,false,false,false,false,false,false,false,false,false,false,false,false,false,false,false,false,false,false,false,false,false,false,false,false,false,false,false,false,false,false,false,false,false,false,false,false,false,false,false,false] ?_
                 refine pZ_ 1 (some 160) #[true,true,false,false,false,false,false,false,false,false,false,false,false,false,false,false,false,false,false,false,false,false,false,false,false,false,false,false,false,false,false,false,false,false,false,false,false,false,false,false,false,false,false,false,false,false,false,false,false,false,false,false,false,false,false,false,false,false,false,false,false,false,false,false,false,false,false,false,false,false,false,false] ?_
                 refine pZ_ 2 (some 161) #[true,true,true,false,false,false,false,false,false,false,false,false,false,false,false,false,false,false,false,false,false,false,false,false,false,false,false,false,false,false,false,false,false,false,false,false,false,false,false,false,false,false,false,false,false,false,false,false,false,false,false,false,false,false,false,false,false,false,false,false,false,false,false,false,false,false,false,false,false,false,false,false] ?_
                 refine pZ_ 3 (some 162) #[true,true,true,true,false,false,false,false,false,false,false,false,false,false,false,false,false,false,false,false,false,false,false,false,false,false,false,false,false,false,false,false,false,false,false,false,false,false,false,false,false,false,false,false,false,false,false,false,false,false,false,false,false,false,false,false,false,false,false,false,false,false,false,false,false,false,false,false,false,false,false,false] ?_
                 refine pZ_ 4 (some 163) #[true,true,true,true,true,false,false,false,false,false,false,false,false,false,false,false,false,false,false,false,false,false,false,false,false,false,false,false,false,false,false,false,false,false,false,false,false,false,false,false,false,false,false,false,false,false,false,false,false,false,false,false,false,false,false,false,false,false,false,false,false,false,false,false,false,false,false,false,false,false,false,false] ?_
                 refine pZ_ 5 (some 164) #[true,true,true,true,true,true,false,false,false,false,false,false,false,false,false,false,false,false,false,false,false,false,false,false,false,false,false,false,false,false,false,false,false,false,false,false,false,false,false,false,false,false,false,false,false,false,false,false,false,false,false,false,false,false,false,false,false,false,false,false,false,false,false,false,false,false,false,false,false,false,false,false] ?_
                 refine tZ6_ 6 (some 165) #[true,true,true,true,true,true,true,false,false,false,false,false,false,false,false,false,false,false,false,false,false,false,false,false,false,false,false,false,false,false,false,false,false,false,false,false,false,false,false,false,false,false,false,false,false,false,false,false,false,false,false,false,false,false,false,false,false,false,false,false,false,false,false,false,false,false,false,false,false,false,false,false] hHeld ?_
                 refine pZ_ 7 (some 166) #[true,true,true,true,true,true,true,true,false,false,false,false,false,false,false,false,false,false,false,false,false,false,false,false,false,false,false,false,false,false,false,false,false,false,false,false,false,false,false,false,false,false,false,false,false,false,false,false,false,false,false,false,false,false,false,false,false,false,false,false,false,false,false,false,false,false,false,false,false,false,false,false] ?_
                 refine pZ_ 8 (some 167) #[true,true,true,true,true,true,true,true,true,false,false,false,false,false,false,false,false,false,false,false,false,false,false,false,false,false,false,false,false,false,false,false,false,false,false,false,false,false,false,false,false,false,false,false,false,false,false,false,false,false,false,false,false,false,false,false,false,false,false,false,false,false,false,false,false,false,false,false,false,false,false,false] ?_
                 refine pZ_ 9 (some 168) #[true,true,true,true,true,true,true,true,true,true,false,false,false,false,false,false,false,false,false,false,false,false,false,false,false,false,false,false,false,false,false,false,false,false,false,false,false,false,false,false,false,false,false,false,false,false,false,false,false,false,false,false,false,false,false,false,false,false,false,false,false,false,false,false,false,false,false,false,false,false,false,false] ?_
                 refine tZ6_ 10 (some 169) #[true,true,true,true,true,true,true,true,true,true,true,false,false,false,false,false,false,false,false,false,false,false,false,false,false,false,false,false,false,false,false,false,false,false,false,false,false,false,false,false,false,false,false,false,false,false,false,false,false,false,false,false,false,false,false,false,false,false,false,false,false,false,false,false,false,false,false,false,false,false,false,false] hHeld ?_
                 refine pZ_ 11 (some 170) #[true,true,true,true,true,true,true,true,true,true,true,true,false,false,false,false,false,false,false,false,false,false,false,false,false,false,false,false,false,false,false,false,false,false,false,false,false,false,false,false,false,false,false,false,false,false,false,false,false,false,false,false,false,false,false,false,false,false,false,false,false,false,false,false,false,false,false,false,false,false,false,false] ?_
                 refine pZ_ 12 (some 171) #[true,true,true,true,true,true,true,true,true,true,true,true,true,false,false,false,false,false,false,false,false,false,false,false,false,false,false,false,false,false,false,false,false,false,false,false,false,false,false,false,false,false,false,false,false,false,false,false,false,false,false,false,false,false,false,false,false,false,false,false,false,false,false,false,false,false,false,false,false,false,false,false] ?_
                 refine pZ_ 13 (some 172) #[true,true,true,true,true,true,true,true,true,true,true,true,true,true,false,false,false,false,false,false,false,false,false,false,false,false,false,false,false,false,false,false,false,false,false,false,false,false,false,false,false,false,false,false,false,false,false,false,false,false,false,false,false,false,false,false,false,false,false,false,false,false,false,false,false,false,false,false,false,false,false,false] ?_
                 refine pZ_ 14 (some 173) #[true,true,true,true,true,true,true,true,true,true,true,true,true,true,true,false,false,false,false,false,false,false,false,false,false,false,false,false,false,false,false,false,false,false,false,false,false,false,false,false,false,false,false,false,false,false,false,false,false,false,false,false,false,false,false,false,false,false,false,false,false,false,false,false,false,false,false,false,false,false,false,false] ?_
                 refine pZ_ 15 (some 174) #[true,true,true,true,true,true,true,true,true,true,true,true,true,true,true,true,false,false,false,false,false,false,false,false,false,false,false,false,false,false,false,false,false,false,false,false,false,false,false,false,false,false,false,false,false,false,false,false,false,false,false,false,false,false,false,false,false,false,false,false,false,false,false,false,false,false,false,false,false,false,false,false] ?_
                 refine tZ6_ 16 (some 175) #[true,true,true,true,true,true,true,true,true,true,true,true,true,true,true,true,true,false,false,false,false,false,false,false,false,false,false,false,false,false,false,false,false,false,false,false,false,false,false,false,false,false,false,false,false,false,false,false,false,false,false,false,false,false,false,false,false,false,false,false,false,false,false,false,false,false,false,false,false,false,false,false] hHeld ?_
                 refine pZ_ 17 (some 176) #[true,true,true,true,true,true,true,true,true,true,true,true,true,true,true,true,true,true,false,false,false,false,false,false,false,false,false,false,false,false,false,false,false,false,false,false,false,false,false,false,false,false,false,false,false,false,false,false,false,false,false,false,false,false,false,false,false,false,false,false,false,false,false,false,false,false,false,false,false,false,false,false] ?_
                 refine pZ_ 18 (some 177) #[true,true,true,true,true,true,true,true,true,true,true,true,true,true,true,true,true,true,true,false,false,false,false,false,false,false,false,false,false,false,false,false,false,false,false,false,false,false,false,false,false,false,false,false,false,false,false,false,false,false,false,false,false,false,false,false,false,false,false,false,false,false,false,false,false,false,false,false,false,false,false,false] ?_
                 refine pZ_ 19 (some 178) #[true,true,true,true,true,true,true,true,true,true,true,true,true,true,true,true,true,true,true,true,false,false,false,false,false,false,false,false,false,false,false,false,false,false,false,false,false,false,false,false,false,false,false,false,false,false,false,false,false,false,false,false,false,false,false,false,false,false,false,false,false,false,false,false,false,false,false,false,false,false,false,false] ?_
                 refine tZ6_ 20 (some 179) #[true,true,true,true,true,true,true,true,true,true,true,true,true,true,true,true,true,true,true,true,true,false,false,false,false,false,false,false,false,false,false,false,false,false,false,false,false,false,false,false,false,false,false,false,false,false,false,false,false,false,false,false,false,false,false,false,false,false,false,false,false,false,false,false,false,false,false,false,false,false,false,false] hHeld ?_
                 refine pZ_ 21 (some 180) #[true,true,true,true,true,true,true,true,true,true,true,true,true,true,true,true,true,true,true,true,true,true,false,false,false,false,false,false,false,false,false,false,false,false,false,false,false,false,false,false,false,false,false,false,false,false,false,false,false,false,false,false,false,false,false,false,false,false,false,false,false,false,false,false,false,false,false,false,false,false,false,false] ?_
                 refine pZ_ 22 (some 181) #[true,true,true,true,true,true,true,true,true,true,true,true,true,true,true,true,true,true,true,true,true,true,true,false,false,false,false,false,false,false,false,false,false,false,false,false,false,false,false,false,false,false,false,false,false,false,false,false,false,false,false,false,false,false,false,false,false,false,false,false,false,false,false,false,false,false,false,false,false,false,false,false] ?_
                 refine pZ_ 23 (some 182) #[true,true,true,true,true,true,true,true,true,true,true,true,true,true,true,true,true,true,true,true,true,true,true,true,false,false,false,false,false,false,false,false,false,false,false,false,false,false,false,false,false,false,false,false,false,false,false,false,false,false,false,false,false,false,false,false,false,false,false,false,false,false,false,false,false,false,false,false,false,false,false,false] ?_
                 refine pZ_ 24 (some 183) #[true,true,true,true,true,true,true,true,true,true,true,true,true,true,true,true,true,true,true,true,true,true,true,true,true,false,false,false,false,false,false,false,false,false,false,false,false,false,false,false,false,false,false,false,false,false,false,false,false,false,false,false,false,false,false,false,false,false,false,false,false,false,false,false,false,false,false,false,false,false,false,false] ?_
                 refine pZ_ 25 (some 184) #[true,true,true,true,true,true,true,true,true,true,true,true,true,true,true,true,true,true,true,true,true,true,true,true,true,true,false,false,false,false,false,false,false,false,false,false,false,false,false,false,false,false,false,false,false,false,false,false,false,false,false,false,false,false,false,false,false,false,false,false,false,false,false,false,false,false,false,false,false,false,false,false] ?_
                 refine pZ_ 26 (some 185) #[true,true,true,true,true,true,true,true,true,true,true,true,true,true,true,true,true,true,true,true,true,true,true,true,true,true,true,false,false,false,false,false,false,false,false,false,false,false,false,false,false,false,false,false,false,false,false,false,false,false,false,false,false,false,false,false,false,false,false,false,false,false,false,false,false,false,false,false,false,false,false,false] ?_
                 refine pZ_ 27 (some 186) #[true,true,true,true,true,true,true,true,true,true,true,true,true,true,true,true,true,true,true,true,true,true,true,true,true,true,true,true,false,false,false,false,false,false,false,false,false,false,false,false,false,false,false,false,false,false,false,false,false,false,false,false,false,false,false,false,false,false,false,false,false,false,false,false,false,false,false,false,false,false,false,false] ?_
                 refine oZ_ 28 (some 187) #[true,true,true,true,true,true,true,true,true,true,true,true,true,true,true,true,true,true,true,true,true,true,true,true,true,true,true,true,true,false,false,false,false,false,false,false,false,false,false,false,false,false,false,false,false,false,false,false,false,false,false,false,false,false,false,false,false,false,false,false,false,false,false,false,false,false,false,false,false,false,false,false] ?_
                 refine oZ_ 29 (some 188) #[true,true,true,true,true,true,true,true,true,true,true,true,true,true,true,true,true,true,true,true,true,true,true,true,true,true,true,true,true,true,false,false,false,false,false,false,false,false,false,false,false,false,false,false,false,false,false,false,false,false,false,false,false,false,false,false,false,false,false,false,false,false,false,false,false,false,false,false,false,false,false,false] ?_
                 refine oZ_ 30 (some 189) #[true,true,true,true,true,true,true,true,true,true,true,true,true,true,true,true,true,true,true,true,true,true,true,true,true,true,true,true,true,true,true,false,false,false,false,false,false,false,false,false,false,false,false,false,false,false,false,false,false,false,false,false,false,false,false,false,false,false,false,false,false,false,false,false,false,false,false,false,false,false,false,false] ?_
                 refine oZ_ 31 (some 190) #[true,true,true,true,true,true,true,true,true,true,true,true,true,true,true,true,true,true,true,true,true,true,true,true,true,true,true,true,true,true,true,true,false,false,false,false,false,false,false,false,false,false,false,false,false,false,false,false,false,false,false,false,false,false,false,false,false,false,false,false,false,false,false,false,false,false,false,false,false,false,false,false] ?_
                 refine oZ_ 32 (some 191) #[true,true,true,true,true,true,true,true,true,true,true,true,true,true,true,true,true,true,true,true,true,true,true,true,true,true,true,true,true,true,true,true,true,false,false,false,false,false,false,false,false,false,false,false,false,false,false,false,false,false,false,false,false,false,false,false,false,false,false,false,false,false,false,false,false,false,false,false,false,false,false,false] ?_
                 refine oZ_ 33 (some 192) #[true,true,true,true,true,true,true,true,true,true,true,true,true,true,true,true,true,true,true,true,true,true,true,true,true,true,true,true,true,true,true,true,true,true,false,false,false,false,false,false,false,false,false,false,false,false,false,false,false,false,false,false,false,false,false,false,false,false,false,false,false,false,false,false,false,false,false,false,false,false,false,false] ?_
                 refine oZ_ 34 (some 193) #[true,true,true,true,true,true,true,true,true,true,true,true,true,true,true,true,true,true,true,true,true,true,true,true,true,true,true,true,true,true,true,true,true,true,true,false,false,false,false,false,false,false,false,false,false,false,false,false,false,false,false,false,false,false,false,false,false,false,false,false,false,false,false,false,false,false,false,false,false,false,false,false] ?_
                 refine oZ_ 35 (some 194) #[true,true,true,true,true,true,true,true,true,true,true,true,true,true,true,true,true,true,true,true,true,true,true,true,true,true,true,true,true,true,true,true,true,true,true,true,false,false,false,false,false,false,false,false,false,false,false,false,false,false,false,false,false,false,false,false,false,false,false,false,false,false,false,false,false,false,false,false,false,false,false,false] ?_
                 refine oZ_ 36 (some 195) #[true,true,true,true,true,true,true,true,true,true,true,true,true,true,true,true,true,true,true,true,true,true,true,true,true,true,true,true,true,true,true,true,true,true,true,true,true,false,false,false,false,false,false,false,false,false,false,false,false,false,false,false,false,false,false,false,false,false,false,false,false,false,false,false,false,false,false,false,false,false,false,false] ?_
                 refine oZ_ 37 (some 196) #[true,true,true,true,true,true,true,true,true,true,true,true,true,true,true,true,true,true,true,true,true,true,true,true,true,true,true,true,true,true,true,true,true,true,true,true,true,true,false,false,false,false,false,false,false,false,false,false,false,false,false,false,false,false,false,false,false,false,false,false,false,false,false,false,false,false,false,false,false,false,false,false] ?_
                 refine oZ_ 38 (some 197) #[true,true,true,true,true,true,true,true,true,true,true,true,true,true,true,true,true,true,true,true,true,true,true,true,true,true,true,true,true,true,true,true,true,true,true,true,true,true,true,false,false,false,false,false,false,false,false,false,false,false,false,false,false,false,false,false,false,false,false,false,false,false,false,false,false,false,false,false,false,false,false,false] ?_
                 refine oZ_ 39 (some 198) #[true,true,true,true,true,true,true,true,true,true,true,true,true,true,true,true,true,true,true,true,true,true,true,true,true,true,true,true,true,true,true,true,true,true,true,true,true,true,true,true,false,false,false,false,false,false,false,false,false,false,false,false,false,false,false,false,false,false,false,false,false,false,false,false,false,false,false,false,false,false,false,false] ?_
                 refine oZ_ 40 (some 199) #[true,true,true,true,true,true,true,true,true,true,true,true,true,true,true,true,true,true,true,true,true,true,true,true,true,true,true,true,true,true,true,true,true,true,true,true,true,true,true,true,true,false,false,false,false,false,false,false,false,false,false,false,false,false,false,false,false,false,false,false,false,false,false,false,false,false,false,false,false,false,false,false] ?_
                 refine oZ_ 41 (some 200) #[true,true,true,true,true,true,true,true,true,true,true,true,true,true,true,true,true,true,true,true,true,true,true,true,true,true,true,true,true,true,true,true,true,true,true,true,true,true,true,true,true,true,false,false,false,false,false,false,false,false,false,false,false,false,false,false,false,false,false,false,false,false,false,false,false,false,false,false,false,false,false,false] ?_
                 refine oZ_ 42 (some 201) #[true,true,true,true,true,true,true,true,true,true,true,true,true,true,true,true,true,true,true,true,true,true,true,true,true,true,true,true,true,true,true,true,true,true,true,true,true,true,true,true,true,true,true,false,false,false,false,false,false,false,false,false,false,false,false,false,false,false,false,false,false,false,false,false,false,false,false,false,false,false,false,false] ?_
                 refine oZ_ 43 (some 202) #[true,true,true,true,true,true,true,true,true,true,true,true,true,true,true,true,true,true,true,true,true,true,true,true,true,true,true,true,true,true,true,true,true,true,true,true,true,true,true,true,true,true,true,true,false,false,false,false,false,false,false,false,false,false,false,false,false,false,false,false,false,false,false,false,false,false,false,false,false,false,false,false] ?_
                 refine oZ_ 44 (some 203) #[true,true,true,true,true,true,true,true,true,true,true,true,true,true,true,true,true,true,true,true,true,true,true,true,true,true,true,true,true,true,true,true,true,true,true,true,true,true,true,true,true,true,true,true,true,false,false,false,false,false,false,false,false,false,false,false,false,false,false,false,false,false,false,false,false,false,false,false,false,false,false,false] ?_
                 refine oZ_ 45 (some 204) #[true,true,true,true,true,true,true,true,true,true,true,true,true,true,true,true,true,true,true,true,true,true,true,true,true,true,true,true,true,true,true,true,true,true,true,true,true,true,true,true,true,true,true,true,true,true,false,false,false,false,false,false,false,false,false,false,false,false,false,false,false,false,false,false,false,false,false,false,false,false,false,false] ?_
                 refine oZ_ 46 (some 205) #[true,true,true,true,true,true,true,true,true,true,true,true,true,true,true,true,true,true,true,true,true,true,true,true,true,true,true,true,true,true,true,true,true,true,true,true,true,true,true,true,true,true,true,true,true,true,true,false,false,false,false,false,false,false,false,false,false,false,false,false,false,false,false,false,false,false,false,false,false,false,false,false] ?_
                 refine oZ_ 47 (some 206) #[true,true,true,true,true,true,true,true,true,true,true,true,true,true,true,true,true,true,true,true,true,true,true,true,true,true,true,true,true,true,true,true,true,true,true,true,true,true,true,true,true,true,true,true,true,true,true,true,false,false,false,false,false,false,false,false,false,false,false,false,false,false,false,false,false,false,false,false,false,false,false,false] ?_
                 refine pZ_ 48 (some 207) #[true,true,true,true,true,true,true,true,true,true,true,true,true,true,true,true,true,true,true,true,true,true,true,true,true,true,true,true,true,true,true,true,true,true,true,true,true,true,true,true,true,true,true,true,true,true,true,true,true,false,false,false,false,false,false,false,false,false,false,false,false,false,false,false,false,false,false,false,false,false,false,false] ?_
                 refine pZ_ 49 (some 208) #[true,true,true,true,true,true,true,true,true,true,true,true,true,true,true,true,true,true,true,true,true,true,true,true,true,true,true,true,true,true,true,true,true,true,true,true,true,true,true,true,true,true,true,true,true,true,true,true,true,true,false,false,false,false,false,false,false,false,false,false,false,false,false,false,false,false,false,false,false,false,false,false] ?_
                 refine pZ_ 50 (some 209) #[true,true,true,true,true,true,true,true,true,true,true,true,true,true,true,true,true,true,true,true,true,true,true,true,true,true,true,true,true,true,true,true,true,true,true,true,true,true,true,true,true,true,true,true,true,true,true,true,true,true,true,false,false,false,false,false,false,false,false,false,false,false,false,false,false,false,false,false,false,false,false,false] ?_
                 refine pZ_ 51 (some 210) #[true,true,true,true,true,true,true,true,true,true,true,true,true,true,true,true,true,true,true,true,true,true,true,true,true,true,true,true,true,true,true,true,true,true,true,true,true,true,true,true,true,true,true,true,true,true,true,true,true,true,true,true,false,false,false,false,false,false,false,false,false,false,false,false,false,false,false,false,false,false,false,false] ?_
                 refine pZ_ 52 (some 211) #[true,true,true,true,true,true,true,true,true,true,true,true,true,true,true,true,true,true,true,true,true,true,true,true,true,true,true,true,true,true,true,true,true,true,true,true,true,true,true,true,true,true,true,true,true,true,true,true,true,true,true,true,true,false,false,false,false,false,false,false,false,false,false,false,false,false,false,false,false,false,false,false] ?_
                 refine pZ_ 53 (some 212) #[true,true,true,true,true,true,true,true,true,true,true,true,true,true,true,true,true,true,true,true,true,true,true,true,true,true,true,true,true,true,true,true,true,true,true,true,true,true,true,true,true,true,true,true,true,true,true,true,true,true,true,true,true,true,false,false,false,false,false,false,false,false,false,false,false,false,false,false,false,false,false,false] ?_
                 refine pZ_ 54 (some 213) #[true,true,true,true,true,true,true,true,true,true,true,true,true,true,true,true,true,true,true,true,true,true,true,true,true,true,true,true,true,true,true,true,true,true,true,true,true,true,true,true,true,true,true,true,true,true,true,true,true,true,true,true,true,true,true,false,false,false,false,false,false,false,false,false,false,false,false,false,false,false,false,false] ?_
                 refine tZ6_ 55 (some 214) #[true,true,true,true,true,true,true,true,true,true,true,true,true,true,true,true,true,true,true,true,true,true,true,true,true,true,true,true,true,true,true,true,true,true,true,true,true,true,true,true,true,true,true,true,true,true,true,true,true,true,true,true,true,true,true,true,false,false,false,false,false,false,false,false,false,false,false,false,false,false,false,false] hHeld ?_
                 refine pZ_ 56 (some 215) #[true,true,true,true,true,true,true,true,true,true,true,true,true,true,true,true,true,true,true,true,true,true,true,true,true,true,true,true,true,true,true,true,true,true,true,true,true,true,true,true,true,true,true,true,true,true,true,true,true,true,true,true,true,true,true,true,true,false,false,false,false,false,false,false,false,false,false,false,false,false,false,false] ?_
                 refine pZ_ 57 (some 216) #[true,true,true,true,true,true,true,true,true,true,true,true,true,true,true,true,true,true,true,true,true,true,true,true,true,true,true,true,true,true,true,true,true,true,true,true,true,true,true,true,true,true,true,true,true,true,true,true,true,true,true,true,true,true,true,true,true,true,false,false,false,false,false,false,false,false,false,false,false,false,false,false] ?_
                 refine one_ (i := 58) (N := some 217) #[true,true,true,true,true,true,true,true,true,true,true,true,true,true,true,true,true,true,true,true,true,true,true,true,true,true,true,true,true,true,true,true,true,true,true,true,true,true,true,true,true,true,true,true,true,true,true,true,true,true,true,true,true,true,true,true,true,true,true,false,false,false,false,false,false,false,false,false,false,false,false,false] rfl rfl (one_of HT_.out T12_) T35_ (fun K hK => ?_)
                 refine gZ_ Try.func22 #[.agg #[.int .i64 n,.int .i64 u],.int .i64 q,.int .i64 e] ?_
                 with_reducible refine (impl_DesirabilityOf.calls k n u (q : Int) (e : Int) 0 _ HBK.out).mono ?_
                 rintro e W1_ ⟨rfl,hb⟩
                 refine ⟨_,rfl,?_⟩
                 have n_ : Aside0 (W1_.cell? ⟨gf,0,none⟩ = some (.int .i64 n)) := ⟨pw_cell_below hb C0.out⟩
                 clear C0
                 have C0 := n_
                 clear n_
                 have n_ : Aside0 (W1_.cell? ⟨gf,1,none⟩ = some (.int .i64 u)) := ⟨pw_cell_below hb C1.out⟩
                 clear C1
                 have C1 := n_
                 clear n_
                 have n_ : Aside0 (W1_.cell? (ab.add e) = some (.int .i64 (rd b (e : Int)))) := ⟨pw_cell_below hb C2.out⟩
                 clear C2
                 have C2 := n_
                 clear n_
                 have n_ : Aside0 (W1_.cell? (ab.add q) = some (.int .i64 (rd b (q : Int)))) := ⟨pw_cell_below hb C3.out⟩
                 clear C3
                 have C3 := n_
                 clear n_
                 have n_ : Aside0 (W1_.cell? (as_.add e) = some (.int .i64 (rd s (e : Int)))) := ⟨pw_cell_below hb C4.out⟩
                 clear C4
                 have C4 := n_
                 clear n_
                 have n_ : Aside0 (W1_.cell? (as_.add q) = some (.int .i64 (rd s (q : Int)))) := ⟨pw_cell_below hb C5.out⟩
                 clear C5
                 have C5 := n_
                 clear n_
                 have n_ := aZ_ (Kd.Heap.C (Kd.heap_int .u8) hb.block HR.out)
                 clear HR
                 have HR := n_
                 clear n_
                 have n_ := aZ_ (below_step HB.out hb)
                 clear HB
                 have HB := n_
                 clear n_
                 have n_ := aZ_ (blk_below BF.out hb)
                 clear BF
                 have BF := n_
                 clear n_
                 have n_ := aZ_ (Kd.Heap.C (Kd.heap_int .i64) hb.block HS.out)
                 clear HS
                 have HS := n_
                 clear n_
                 have n_ := aZ_ (Kd.Heap.C (Kd.heap_int .i64) hb.block HZ.out)
                 clear HZ
                 have HZ := n_
                 clear n_
                 have n_ := aZ_ (Kd.Heap.C (Kd.heap_int .i64) hb.block HV.out)
                 clear HV
                 have HV := n_
                 clear n_
                 have n_ := aZ_ (Kd.Heap.C (Kd.heap_int .i64) hb.block HD.out)
                 clear HD
                 have HD := n_
                 clear n_
                 clear hb
                 refine hK.out _ _ ⟨C0.out,C1.out,C2.out,C3.out,C4.out,C5.out⟩ (fun hHeld => ?_)
                 clear hK K
                 refine norm_ (a' := ?_) ?_ ?_
                 rotate_left
                 ·show Act.put _ (some 217) _ = _
                  simp only [Act.put,List.setIfInBounds_toArray,List.set_cons_zero,List.set_cons_succ,i64_w,i32_w]
                  rfl
                 refine pZ_ 59 (some 218) #[true,true,true,true,true,true,true,true,true,true,true,true,true,true,true,true,true,true,true,true,true,true,true,true,true,true,true,true,true,true,true,true,true,true,true,true,true,true,true,true,true,true,true,true,true,true,true,true,true,true,true,true,true,true,true,true,true,true,true,true,false,false,false,false,false,false,false,false,false,false,false,false] ?_
                 refine pZ_ 60 (some 219) #[true,true,true,true,true,true,true,true,true,true,true,true,true,true,true,true,true,true,true,true,true,true,true,true,true,true,true,true,true,true,true,true,true,true,true,true,true,true,true,true,true,true,true,true,true,true,true,true,true,true,true,true,true,true,true,true,true,true,true,true,true,false,false,false,false,false,false,false,false,false,false,false] ?_
                 refine pZ_ 61 (some 220) #[true,true,true,true,true,true,true,true,true,true,true,true,true,true,true,true,true,true,true,true,true,true,true,true,true,true,true,true,true,true,true,true,true,true,true,true,true,true,true,true,true,true,true,true,true,true,true,true,true,true,true,true,true,true,true,true,true,true,true,true,true,true,false,false,false,false,false,false,false,false,false,false] ?_
                 refine pZ_ 62 (some 221) #[true,true,true,true,true,true,true,true,true,true,true,true,true,true,true,true,true,true,true,true,true,true,true,true,true,true,true,true,true,true,true,true,true,true,true,true,true,true,true,true,true,true,true,true,true,true,true,true,true,true,true,true,true,true,true,true,true,true,true,true,true,true,true,false,false,false,false,false,false,false,false,false] ?_
                 refine pZ_ 63 (some 222) #[true,true,true,true,true,true,true,true,true,true,true,true,true,true,true,true,true,true,true,true,true,true,true,true,true,true,true,true,true,true,true,true,true,true,true,true,true,true,true,true,true,true,true,true,true,true,true,true,true,true,true,true,true,true,true,true,true,true,true,true,true,true,true,true,false,false,false,false,false,false,false,false] ?_
                 refine pZ_ 64 (some 223) #[true,true,true,true,true,true,true,true,true,true,true,true,true,true,true,true,true,true,true,true,true,true,true,true,true,true,true,true,true,true,true,true,true,true,true,true,true,true,true,true,true,true,true,true,true,true,true,true,true,true,true,true,true,true,true,true,true,true,true,true,true,true,true,true,true,false,false,false,false,false,false,false] ?_
                 refine pZ_ 65 (some 224) #[true,true,true,true,true,true,true,true,true,true,true,true,true,true,true,true,true,true,true,true,true,true,true,true,true,true,true,true,true,true,true,true,true,true,true,true,true,true,true,true,true,true,true,true,true,true,true,true,true,true,true,true,true,true,true,true,true,true,true,true,true,true,true,true,true,true,false,false,false,false,false,false] ?_
                 refine tZ6_ 66 (some 225) #[true,true,true,true,true,true,true,true,true,true,true,true,true,true,true,true,true,true,true,true,true,true,true,true,true,true,true,true,true,true,true,true,true,true,true,true,true,true,true,true,true,true,true,true,true,true,true,true,true,true,true,true,true,true,true,true,true,true,true,true,true,true,true,true,true,true,true,false,false,false,false,false] hHeld ?_
                 refine pZ_ 67 (some 226) #[true,true,true,true,true,true,true,true,true,true,true,true,true,true,true,true,true,true,true,true,true,true,true,true,true,true,true,true,true,true,true,true,true,true,true,true,true,true,true,true,true,true,true,true,true,true,true,true,true,true,true,true,true,true,true,true,true,true,true,true,true,true,true,true,true,true,true,true,false,false,false,false] ?_
                 refine pZ_ 68 (some 227) #[true,true,true,true,true,true,true,true,true,true,true,true,true,true,true,true,true,true,true,true,true,true,true,true,true,true,true,true,true,true,true,true,true,true,true,true,true,true,true,true,true,true,true,true,true,true,true,true,true,true,true,true,true,true,true,true,true,true,true,true,true,true,true,true,true,true,true,true,true,false,false,false] ?_
                 refine one_ (i := 69) (N := some 228) #[true,true,true,true,true,true,true,true,true,true,true,true,true,true,true,true,true,true,true,true,true,true,true,true,true,true,true,true,true,true,true,true,true,true,true,true,true,true,true,true,true,true,true,true,true,true,true,true,true,true,true,true,true,true,true,true,true,true,true,true,true,true,true,true,true,true,true,true,true,true,false,false] rfl rfl (one_of HT_.out T12_) T35_ (fun K hK => ?_)
                 refine gZ_ Try.func23 #[.agg #[.int .i64 n,.int .i64 u],.int .i64 e,.int .i64 q] ?_
                 with_reducible refine (impl_AreExchangeable.calls k n u (e : Int) (q : Int) true _ HEX.out).mono ?_
                 rintro e W2_ ⟨rfl,hb⟩
                 refine ⟨_,rfl,?_⟩
                 have n_ : Aside0 (W2_.cell? ⟨gf,0,none⟩ = some (.int .i64 n)) := ⟨pw_cell_below hb C0.out⟩
                 clear C0
                 have C0 := n_
                 clear n_
                 have n_ : Aside0 (W2_.cell? ⟨gf,1,none⟩ = some (.int .i64 u)) := ⟨pw_cell_below hb C1.out⟩
                 clear C1
                 have C1 := n_
                 clear n_
                 have n_ : Aside0 (W2_.cell? (ab.add e) = some (.int .i64 (rd b (e : Int)))) := ⟨pw_cell_below hb C2.out⟩
                 clear C2
                 have C2 := n_
                 clear n_
                 have n_ : Aside0 (W2_.cell? (ab.add q) = some (.int .i64 (rd b (q : Int)))) := ⟨pw_cell_below hb C3.out⟩
                 clear C3
                 have C3 := n_
                 clear n_
                 have n_ : Aside0 (W2_.cell? (as_.add e) = some (.int .i64 (rd s (e : Int)))) := ⟨pw_cell_below hb C4.out⟩
                 clear C4
                 have C4 := n_
                 clear n_
                 have n_ : Aside0 (W2_.cell? (as_.add q) = some (.int .i64 (rd s (q : Int)))) := ⟨pw_cell_below hb C5.out⟩
                 clear C5
                 have C5 := n_
                 clear n_
                 have n_ := aZ_ (Kd.Heap.C (Kd.heap_int .u8) hb.block HR.out)
                 clear HR
                 have HR := n_
                 clear n_
                 have n_ := aZ_ (below_step HB.out hb)
                 clear HB
                 have HB := n_
                 clear n_
                 have n_ := aZ_ (blk_below BF.out hb)
                 clear BF
                 have BF := n_
                 clear n_
                 have n_ := aZ_ (Kd.Heap.C (Kd.heap_int .i64) hb.block HS.out)
                 clear HS
                 have HS := n_
                 clear n_
                 have n_ := aZ_ (Kd.Heap.C (Kd.heap_int .i64) hb.block HZ.out)
                 clear HZ
                 have HZ := n_
                 clear n_
                 have n_ := aZ_ (Kd.Heap.C (Kd.heap_int .i64) hb.block HV.out)
                 clear HV
                 have HV := n_
                 clear n_
                 have n_ := aZ_ (Kd.Heap.C (Kd.heap_int .i64) hb.block HD.out)
                 clear HD
                 have HD := n_
                 clear n_
                 clear hb
                 refine hK.out _ _ ⟨C0.out,C1.out,C2.out,C3.out,C4.out,C5.out⟩ (fun hHeld => ?_)
                 clear hK K
                 refine norm_ (a' := ?_) ?_ ?_
                 rotate_left
                 ·show Act.put _ (some 228) _ = _
                  simp only [Act.put,List.setIfInBounds_toArray,List.set_cons_zero,List.set_cons_succ,i64_w,i32_w]
                  rfl
                 refine pZ_ 70 (some 229) #[true,true,true,true,true,true,true,true,true,true,true,true,true,true,true,true,true,true,true,true,true,true,true,true,true,true,true,true,true,true,true,true,true,true,true,true,true,true,true,true,true,true,true,true,true,true,true,true,true,true,true,true,true,true,true,true,true,true,true,true,true,true,true,true,true,true,true,true,true,true,true,false] ?_
                 refine pZ_ 71 (some 230) #[true,true,true,true,true,true,true,true,true,true,true,true,true,true,true,true,true,true,true,true,true,true,true,true,true,true,true,true,true,true,true,true,true,true,true,true,true,true,true,true,true,true,true,true,true,true,true,true,true,true,true,true,true,true,true,true,true,true,true,true,true,true,true,true,true,true,true,true,true,true,true,true] ?_
                 refine done_ (done_of HT_.out T12_) ?_
                 (try go_wp2_with (fail))
                 go_meet
                 exact ⟨rfl,HR,HB,BF,HS,HZ,HV,HD⟩
               ·as_aux_lemma =>
                 have hw0 : wrap64 0 = 0 := B.wrap64_of T50_ T50_
                 have hw1 : wrap64 1 = 1 := B.wrap64_of T50_ T50_
                 have hw2 : wrap64 (-1) = -1 := B.wrap64_of T50_ T50_
                 have hf1 : decide (rd b (e : Int) < rd b (q : Int)) = false := decide_eq_false (HX.out.one rfl).1
                 have hf2 : decide (rd s (e : Int) < rd s (q : Int)) = false := decide_eq_false (HX.out.one rfl).2
                 have HBK : Aside0 (impl_DesirabilityOf.f k n u (q : Int) (e : Int) = some (-1)) := ⟨(HX.out.back T35_).trans rfl⟩
                 have HEX : Aside0 (impl_AreExchangeable.f k n u (e : Int) (q : Int) = some false) := ⟨HX.out.exch.trans rfl⟩
                 have hb := below_drew (Below.refl wu.heap.size wu)
                 have n_ : Aside0 (wu.drew.cell? ⟨gf,0,none⟩ = some (.int .i64 n)) := ⟨pw_cell_below hb C0.out⟩
                 clear C0
                 have C0 := n_
                 clear n_
                 have n_ : Aside0 (wu.drew.cell? ⟨gf,1,none⟩ = some (.int .i64 u)) := ⟨pw_cell_below hb C1.out⟩
                 clear C1
                 have C1 := n_
                 clear n_
                 have n_ : Aside0 (wu.drew.cell? (ab.add e) = some (.int .i64 (rd b (e : Int)))) := ⟨pw_cell_below hb C2.out⟩
                 clear C2
                 have C2 := n_
                 clear n_
                 have n_ : Aside0 (wu.drew.cell? (ab.add q) = some (.int .i64 (rd b (q : Int)))) := ⟨pw_cell_below hb C3.out⟩
                 clear C3
                 have C3 := n_
                 clear n_
                 have n_ : Aside0 (wu.drew.cell? (as_.add e) = some (.int .i64 (rd s (e : Int)))) := ⟨pw_cell_below hb C4.out⟩
                 clear C4
                 have C4 := n_
                 clear n_
                 have n_ : Aside0 (wu.drew.cell? (as_.add q) = some (.int .i64 (rd s (q : Int)))) := ⟨pw_cell_below hb C5.out⟩
                 clear C5
                 have C5 := n_
                 clear n_
                 have n_ := aZ_ (Kd.Heap.C (Kd.heap_int .u8) hb.block HR.out)
                 clear HR
                 have HR := n_
                 clear n_
                 have n_ := aZ_ (below_step HB.out hb)
                 clear HB
                 have HB := n_
                 clear n_
                 have n_ := aZ_ (blk_below BF.out hb)
                 clear BF
                 have BF := n_
                 clear n_
                 have n_ := aZ_ (Kd.Heap.C (Kd.heap_int .i64) hb.block HS.out)
                 clear HS
                 have HS := n_
                 clear n_
                 have n_ := aZ_ (Kd.Heap.C (Kd.heap_int .i64) hb.block HZ.out)
                 clear HZ
                 have HZ := n_
                 clear n_
                 have n_ := aZ_ (Kd.Heap.C (Kd.heap_int .i64) hb.block HV.out)
                 clear HV
                 have HV := n_
                 clear n_
                 have n_ := aZ_ (Kd.Heap.C (Kd.heap_int .i64) hb.block HD.out)
                 clear HD
                 have HD := n_
                 clear n_
                 clear hb
                 refine start_ (n := 72) (S := (fun w_ => w_.cell? ⟨gf,0,none⟩ = some (.int .i64 n) ∧ w_.cell? ⟨gf,1,none⟩ = some (.int .i64 u) ∧ w_.cell? (ab.add e) = some (.int .i64 (rd b (e : Int))) ∧ w_.cell? (ab.add q) = some (.int .i64 (rd b (q : Int))) ∧ w_.cell? (as_.add e) = some (.int .i64 (rd s (e : Int))) ∧ w_.cell? (as_.add q) = some (.int .i64 (rd s (q : Int))))) (ds := []) #[false,false,false,false,false,false,false,false,false,false,false,false,false,false,false,false,false,false,false,false,false,false,false,false,false,false,false,false,false,false,false,false,false,false,false,false,false,false,false,false,false,false,false,false,false,false,false,false,false,false,false,false,false,false,false,false,false,false,false,false,false,false,false,false,false,false,false,false,false,false,false,false] T12_ rfl rfl ⟨C0.out,C1.out,C2.out,C3.out,C4.out,C5.out⟩ (fun hHeld => ?_)
                 refine with_tabW laws_FnPower.tab28 laws_FnPower.bits28 (fun HT_ HW_ => ?_)
                 generalize wu.drew = W0_ at C0 C1 C2 C3 C4 C5 HR HB BF HS HZ HV HD hHeld ⊢
                 refine pZ_ 0 (some 159) #[true,false,false,false,false,false,false,false,false,false,false,false,false,false,false,false,false,false,false,false,false,false,false,false,false,false,false,false,false,false,false,false,false,false,false,false,false,false,false,false,false,false,false,false,false,false,false,false,false,false,false,false,false,false,false,false,false,false,false,false,false,false,false,false,false,false,false,false,false,false,false,false] ?_
                 refine pZ_ 1 (some 160) #[true,true,false,false,false,false,false,false,false,false,false,false,false,false,false,false,false,false,false,false,false,false,false,false,false,false,false,false,false,false,false,false,false,false,false,false,false,false,false,false,false,false,false,false,false,false,false,false,false,false,false,false,false,false,false,false,false,false,false,false,false,false,false,false,false,false,false,false,false,false,false,false] ?_
                 refine pZ_ 2 (some 161) #[true,true,true,false,false,false,false,false,false,false,false,false,false,false,false,false,false,false,false,false,false,false,false,false,false,false,false,false,false,false,false,false,false,false,false,false,false,false,false,false,false,false,false,false,false,false,false,false,false,false,false,false,false,false,false,false,false,false,false,false,false,false,false,false,false,false,false,false,false,false,false,false] ?_
                 refine oZ_ 3 (some 162) #[true,true,true,true,false,false,false,false,false,false,false,false,false,false,false,false,false,false,false,false,false,false,false,false,false,false,false,false,false,false,false,false,false,false,false,false,false,false,false,false,false,false,false,false,false,false,false,false,false,false,false,false,false,false,false,false,false,false,false,false,false,false,false,false,false,false,false,false,false,false,false,false] ?_
                 refine oZ_ 4 (some 163) #[true,true,true,true,true,false,false,false,false,false,false,false,false,false,false,false,false,false,false,false,false,false,false,false,false,false,false,false,false,false,false,false,false,false,false,false,false,false,false,false,false,false,false,false,false,false,false,false,false,false,false,false,false,false,false,false,false,false,false,false,false,false,false,false,false,false,false,false,false,false,false,false] ?_
                 refine oZ_ 5 (some 164) #[true,true,true,true,true,true,false,false,false,false,false,false,false,false,false,false,false,false,false,false,false,false,false,false,false,false,false,false,false,false,false,false,false,false,false,false,false,false,false,false,false,false,false,false,false,false,false,false,false,false,false,false,false,false,false,false,false,false,false,false,false,false,false,false,false,false,false,false,false,false,false,false] ?_
                 refine oZ_ 6 (some 165) #[true,true,true,true,true,true,true,false,false,false,false,false,false,false,false,false,false,false,false,false,false,false,false,false,false,false,false,false,false,false,false,false,false,false,false,false,false,false,false,false,false,false,false,false,false,false,false,false,false,false,false,false,false,false,false,false,false,false,false,false,false,false,false,false,false,false,false,false,false,false,false,false] ?_
                 refine oZ_ 7 (some 166) #[true,true,true,true,true,true,true,true,false,false,false,false,false,false,false,false,false,false,false,false,false,false,false,false,false,false,false,false,false,false,false,false,false,false,false,false,false,false,false,false,false,false,false,false,false,false,false,false,false,false,false,false,false,false,false,false,false,false,false,false,false,false,false,false,false,false,false,false,false,false,false,false] ?_
                 refine oZ_ 8 (some 167) #[true,true,true,true,true,true,true,true,true,false,false,false,false,false,false,false,false,false,false,false,false,false,false,false,false,false,false,false,false,false,false,false,false,false,false,false,false,false,false,false,false,false,false,false,false,false,false,false,false,false,false,false,false,false,false,false,false,false,false,false,false,false,false,false,false,false,false,false,false,false,false,false] ?_
                 refine oZ_ 9 (some 168) #[true,true,true,true,true,true,true,true,true,true,false,false,false,false,false,false,false,false,false,false,false,false,false,false,false,false,false,false,false,false,false,false,false,false,false,false,false,false,false,false,false,false,false,false,false,false,false,false,false,false,false,false,false,false,false,false,false,false,false,false,false,false,false,false,false,false,false,false,false,false,false,false] ?_
                 refine oZ_ 10 (some 169) #[true,true,true,true,true,true,true,true,true,true,true,false,false,false,false,false,false,false,false,false,false,false,false,false,false,false,false,false,false,false,false,false,false,false,false,false,false,false,false,false,false,false,false,false,false,false,false,false,false,false,false,false,false,false,false,false,false,false,false,false,false,false,false,false,false,false,false,false,false,false,false,false] ?_
                 refine oZ_ 11 (some 170) #[true,true,true,true,true,true,true,true,true,true,true,true,false,false,false,false,false,false,false,false,false,false,false,false,false,false,false,false,false,false,false,false,false,false,false,false,false,false,false,false,false,false,false,false,false,false,false,false,false,false,false,false,false,false,false,false,false,false,false,false,false,false,false,false,false,false,false,false,false,false,false,false] ?_
                 refine oZ_ 12 (some 171) #[true,true,true,true,true,true,true,true,true,true,true,true,true,false,false,false,false,false,false,false,false,false,false,false,false,false,false,false,false,false,false,false,false,false,false,false,false,false,false,false,false,false,false,false,false,false,false,false,false,false,false,false,false,false,false,false,false,false,false,false,false,false,false,false,false,false,false,false,false,false,false,false] ?_
                 refine oZ_ 13 (some 172) #[true,true,true,true,true,true,true,true,true,true,true,true,true,true,false,false,false,false,false,false,false,false,false,false,false,false,false,false,false,false,false,false,false,false,false,false,false,false,false,false,false,false,false,false,false,false,false,false,false,false,false,false,false,false,false,false,false,false,false,false,false,false,false,false,false,false,false,false,false,false,false,false] ?_
                 refine oZ_ 14 (some 173) #[true,true,true,true,true,true,true,true,true,true,true,true,true,true,true,false,false,false,false,false,false,false,false,false,false,false,false,false,false,false,false,false,false,false,false,false,false,false,false,false,false,false,false,false,false,false,false,false,false,false,false,false,false,false,false,false,false,false,false,false,false,false,false,false,false,false,false,false,false,false,false,false] ?_
                 refine oZ_ 15 (some 174) #[true,true,true,true,true,true,true,true,true,true,true,true,true,true,true,true,false,false,false,false,false,false,false,false,false,false,false,false,false,false,false,false,false,false,false,false,false,false,false,false,false,false,false,false,false,false,false,false,false,false,false,false,false,false,false,false,false,false,false,false,false,false,false,false,false,false,false,false,false,false,false,false] ?_
                 refine oZ_ 16 (some 175) #[true,true,true,true,true,true,true,true,true,true,true,true,true,true,true,true,true,false,false,false,false,false,false,false,false,false,false,false,false,false,false,false,false,false,false,false,false,false,false,false,false,false,false,false,false,false,false,false,false,false,false,false,false,false,false,false,false,false,false,false,false,false,false,false,false,false,false,false,false,false,false,false] ?_
                 refine oZ_ 17 (some 176) #[true,true,true,true,true,true,true,true,true,true,true,true,true,true,true,true,true,true,false,false,false,false,false,false,false,false,false,false,false,false,false,false,false,false,false,false,false,false,false,false,false,false,false,false,false,false,false,false,false,false,false,false,false,false,false,false,false,false,false,false,false,false,false,false,false,false,false,false,false,false,false,false] ?_
                 refine oZ_ 18 (some 177) #[true,true,true,true,true,true,true,true,true,true,true,true,true,true,true,true,true,true,true,false,false,false,false,false,false,false,false,false,false,false,false,false,false,false,false,false,false,false,false,false,false,false,false,false,false,false,false,false,false,false,false,false,false,false,false,false,false,false,false,false,false,false,false,false,false,false,false,false,false,false,false,false] ?_
                 refine oZ_ 19 (some 178) #[true,true,true,true,true,true,true,true,true,true,true,true,true,true,true,true,true,true,true,true,false,false,false,false,false,false,false,false,false,false,false,false,false,false,false,false,false,false,false,false,false,false,false,false,false,false,false,false,false,false,false,false,false,false,false,false,false,false,false,false,false,false,false,false,false,false,false,false,false,false,false,false] ?_
                 refine oZ_ 20 (some 179) #[true,true,true,true,true,true,true,true,true,true,true,true,true,true,true,true,true,true,true,true,true,false,false,false,false,false,false,false,false,false,false,false,false,false,false,false,false,false,false,false,false,false,false,false,false,false,false,false,false,false,false,false,false,false,false,false,false,false,false,false,false,false,false,false,false,false,false,false,false,false,false,false] ?_
                 refine oZ_ 21 (some 180) #[true,true,true,true,true,true,true,true,true,true,true,true,true,true,true,true,true,true,true,true,true,true,false,false,false,false,false,false,false,false,false,false,false,false,false,false,false,false,false,false,false,false,false,false,false,false,false,false,false,false,false,false,false,false,false,false,false,false,false,false,false,false,false,false,false,false,false,false,false,false,false,false] ?_
                 refine oZ_ 22 (some 181) #[true,true,true,true,true,true,true,true,true,true,true,true,true,true,true,true,true,true,true,true,true,true,true,false,false,false,false,false,false,false,false,false,false,false,false,false,false,false,false,false,false,false,false,false,false,false,false,false,false,false,false,false,false,false,false,false,false,false,false,false,false,false,false,false,false,false,false,false,false,false,false,false] ?_
                 refine pZ_ 23 (some 182) #[true,true,true,true,true,true,true,true,true,true,true,true,true,true,true,true,true,true,true,true,true,true,true,true,false,false,false,false,false,false,false,false,false,false,false,false,false,false,false,false,false,false,false,false,false,false,false,false,false,false,false,false,false,false,false,false,false,false,false,false,false,false,false,false,false,false,false,false,false,false,false,false] ?_
                 refine pZ_ 24 (some 183) #[true,true,true,true,true,true,true,true,true,true,true,true,true,true,true,true,true,true,true,true,true,true,true,true,true,false,false,false,false,false,false,false,false,false,false,false,false,false,false,false,false,false,false,false,false,false,false,false,false,false,false,false,false,false,false,false,false,false,false,false,false,false,false,false,false,false,false,false,false,false,false,false] ?_
                 refine pZ_ 25 (some 184) #[true,true,true,true,true,true,true,true,true,true,true,true,true,true,true,true,true,true,true,true,true,true,true,true,true,true,false,false,false,false,false,false,false,false,false,false,false,false,false,false,false,false,false,false,false,false,false,false,false,false,false,false,false,false,false,false,false,false,false,false,false,false,false,false,false,false,false,false,false,false,false,false] ?_
                 refine pZ_ 26 (some 185) #[true,true,true,true,true,true,true,true,true,true,true,true,true,true,true,true,true,true,true,true,true,true,true,true,true,true,true,false,false,false,false,false,false,false,false,false,false,false,false,false,false,false,false,false,false,false,false,false,false,false,false,false,false,false,false,false,false,false,false,false,false,false,false,false,false,false,false,false,false,false,false,false] ?_
                 refine pZ_ 27 (some 186) #[true,true,true,true,true,true,true,true,true,true,true,true,true,true,true,true,true,true,true,true,true,true,true,true,true,true,true,true,false,false,false,false,false,false,false,false,false,false,false,false,false,false,false,false,false,false,false,false,false,false,false,false,false,false,false,false,false,false,false,false,false,false,false,false,false,false,false,false,false,false,false,false] ?_
                 refine pZ_ 28 (some 187) #[true,true,true,true,true,true,true,true,true,true,true,true,true,true,true,true,true,true,true,true,true,true,true,true,true,true,true,true,true,false,false,false,false,false,false,false,false,false,false,false,false,false,false,false,false,false,false,false,false,false,false,false,false,false,false,false,false,false,false,false,false,false,false,false,false,false,false,false,false,false,false,false] ?_
                 refine pZ_ 29 (some 188) #[true,true,true,true,true,true,true,true,true,true,true,true,true,true,true,true,true,true,true,true,true,true,true,true,true,true,true,true,true,true,false,false,false,false,false,false,false,false,false,false,false,false,false,false,false,false,false,false,false,false,false,false,false,false,false,false,false,false,false,false,false,false,false,false,false,false,false,false,false,false,false,false] ?_
                 refine pZ_ 30 (some 189) #[true,true,true,true,true,true,true,true,true,true,true,true,true,true,true,true,true,true,true,true,true,true,true,true,true,true,true,true,true,true,true,false,false,false,false,false,false,false,false,false,false,false,false,false,false,false,false,false,false,false,false,false,false,false,false,false,false,false,false,false,false,false,false,false,false,false,false,false,false,false,false,false] ?_
                 refine tZ6_ 31 (some 190) #[true,true,true,true,true,true,true,true,true,true,true,true,true,true,true,true,true,true,true,true,true,true,true,true,true,true,true,true,true,true,true,true,false,false,false,false,false,false,false,false,false,false,false,false,false,false,false,false,false,false,false,false,false,false,false,false,false,false,false,false,false,false,false,false,false,false,false,false,false,false,false,false] hHeld ?_
                 refine pZ_ 32 (some 191) #[true,true,true,true,true,true,true,true,true,true,true,true,true,true,true,true,true,true,true,true,true,true,true,true,true,true,true,true,true,true,true,true,true,false,false,false,false,false,false,false,false,false,false,false,false,false,false,false,false,false,false,false,false,false,false,false,false,false,false,false,false,false,false,false,false,false,false,false,false,false,false,false] ?_
                 refine pZ_ 33 (some 192) #[true,true,true,true,true,true,true,true,true,true,true,true,true,true,true,true,true,true,true,true,true,true,true,true,true,true,true,true,true,true,true,true,true,true,false,false,false,false,false,false,false,false,false,false,false,false,false,false,false,false,false,false,false,false,false,false,false,false,false,false,false,false,false,false,false,false,false,false,false,false,false,false] ?_
                 refine pZ_ 34 (some 193) #[true,true,true,true,true,true,true,true,true,true,true,true,true,true,true,true,true,true,true,true,true,true,true,true,true,true,true,true,true,true,true,true,true,true,true,false,false,false,false,false,false,false,false,false,false,false,false,false,false,false,false,false,false,false,false,false,false,false,false,false,false,false,false,false,false,false,false,false,false,false,false,false] ?_
                 refine tZ6_ 35 (some 194) #[true,true,true,true,true,true,true,true,true,true,true,true,true,true,true,true,true,true,true,true,true,true,true,true,true,true,true,true,true,true,true,true,true,true,true,true,false,false,false,false,false,false,false,false,false,false,false,false,false,false,false,false,false,false,false,false,false,false,false,false,false,false,false,false,false,false,false,false,false,false,false,false] hHeld ?_
                 refine pZ_ 36 (some 195) #[true,true,true,true,true,true,true,true,true,true,true,true,true,true,true,true,true,true,true,true,true,true,true,true,true,true,true,true,true,true,true,true,true,true,true,true,true,false,false,false,false,false,false,false,false,false,false,false,false,false,false,false,false,false,false,false,false,false,false,false,false,false,false,false,false,false,false,false,false,false,false,false] ?_
                 refine pZ_ 37 (some 196) #[true,true,true,true,true,true,true,true,true,true,true,true,true,true,true,true,true,true,true,true,true,true,true,true,true,true,true,true,true,true,true,true,true,true,true,true,true,true,false,false,false,false,false,false,false,false,false,false,false,false,false,false,false,false,false,false,false,false,false,false,false,false,false,false,false,false,false,false,false,false,false,false] ?_
                 refine pZ_ 38 (some 197) #[true,true,true,true,true,true,true,true,true,true,true,true,true,true,true,true,true,true,true,true,true,true,true,true,true,true,true,true,true,true,true,true,true,true,true,true,true,true,true,false,false,false,false,false,false,false,false,false,false,false,false,false,false,false,false,false,false,false,false,false,false,false,false,false,false,false,false,false,false,false,false,false] ?_
                 refine pZ_ 39 (some 198) #[true,true,true,true,true,true,true,true,true,true,true,true,true,true,true,true,true,true,true,true,true,true,true,true,true,true,true,true,true,true,true,true,true,true,true,true,true,true,true,true,false,false,false,false,false,false,false,false,false,false,false,false,false,false,false,false,false,false,false,false,false,false,false,false,false,false,false,false,false,false,false,false] ?_
                 refine pZ_ 40 (some 199) #[true,true,true,true,true,true,true,true,true,true,true,true,true,true,true,true,true,true,true,true,true,true,true,true,true,true,true,true,true,true,true,true,true,true,true,true,true,true,true,true,true,false,false,false,false,false,false,false,false,false,false,false,false,false,false,false,false,false,false,false,false,false,false,false,false,false,false,false,false,false,false,false] ?_
                 refine tZ6_ 41 (some 200) #[true,true,true,true,true,true,true,true,true,true,true,true,true,true,true,true,true,true,true,true,true,true,true,true,true,true,true,true,true,true,true,true,true,true,true,true,true,true,true,true,true,true,false,false,false,false,false,false,false,false,false,false,false,false,false,false,false,false,false,false,false,false,false,false,false,false,false,false,false,false,false,false] hHeld ?_
                 refine pZ_ 42 (some 201) #[true,true,true,true,true,true,true,true,true,true,true,true,true,true,true,true,true,true,true,true,true,true,true,true,true,true,true,true,true,true,true,true,true,true,true,true,true,true,true,true,true,true,true,false,false,false,false,false,false,false,false,false,false,false,false,false,false,false,false,false,false,false,false,false,false,false,false,false,false,false,false,false] ?_
                 refine pZ_ 43 (some 202) #[true,true,true,true,true,true,true,true,true,true,true,true,true,true,true,true,true,true,true,true,true,true,true,true,true,true,true,true,true,true,true,true,true,true,true,true,true,true,true,true,true,true,true,true,false,false,false,false,false,false,false,false,false,false,false,false,false,false,false,false,false,false,false,false,false,false,false,false,false,false,false,false] ?_
                 refine pZ_ 44 (some 203) #[true,true,true,true,true,true,true,true,true,true,true,true,true,true,true,true,true,true,true,true,true,true,true,true,true,true,true,true,true,true,true,true,true,true,true,true,true,true,true,true,true,true,true,true,true,false,false,false,false,false,false,false,false,false,false,false,false,false,false,false,false,false,false,false,false,false,false,false,false,false,false,false] ?_
                 refine tZ6_ 45 (some 204) #[true,true,true,true,true,true,true,true,true,true,true,true,true,true,true,true,true,true,true,true,true,true,true,true,true,true,true,true,true,true,true,true,true,true,true,true,true,true,true,true,true,true,true,true,true,true,false,false,false,false,false,false,false,false,false,false,false,false,false,false,false,false,false,false,false,false,false,false,false,false,false,false] hHeld ?_
                 refine pZ_ 46 (some 205) #[true,true,true,true,true,true,true,true,true,true,true,true,true,true,true,true,true,true,true,true,true,true,true,true,true,true,true,true,true,true,true,true,true,true,true,true,true,true,true,true,true,true,true,true,true,true,true,false,false,false,false,false,false,false,false,false,false,false,false,false,false,false,false,false,false,false,false,false,false,false,false,false] ?_
                 refine pZ_ 47 (some 206) #[true,true,true,true,true,true,true,true,true,true,true,true,true,true,true,true,true,true,true,true,true,true,true,true,true,true,true,true,true,true,true,true,true,true,true,true,true,true,true,true,true,true,true,true,true,true,true,true,false,false,false,false,false,false,false,false,false,false,false,false,false,false,false,false,false,false,false,false,false,false,false,false] ?_
                 refine pZ_ 48 (some 207) #[true,true,true,true,true,true,true,true,true,true,true,true,true,true,true,true,true,true,true,true,true,true,true,true,true,true,true,true,true,true,true,true,true,true,true,true,true,true,true,true,true,true,true,true,true,true,true,true,true,false,false,false,false,false,false,false,false,false,false,false,false,false,false,false,false,false,false,false,false,false,false,false] ?_
                 refine pZ_ 49 (some 208) #[true,true,true,true,true,true,true,true,true,true,true,true,true,true,true,true,true,true,true,true,true,true,true,true,true,true,true,true,true,true,true,true,true,true,true,true,true,true,true,true,true,true,true,true,true,true,true,true,true,true,false,false,false,false,false,false,false,false,false,false,false,false,false,false,false,false,false,false,false,false,false,false] ?_
                 refine pZ_ 50 (some 209) #[true,true,true,true,true,true,true,true,true,true,true,true,true,true,true,true,true,true,true,true,true,true,true,true,true,true,true,true,true,true,true,true,true,true,true,true,true,true,true,true,true,true,true,true,true,true,true,true,true,true,true,false,false,false,false,false,false,false,false,false,false,false,false,false,false,false,false,false,false,false,false,false] ?_
                 refine pZ_ 51 (some 210) #[true,true,true,true,true,true,true,true,true,true,true,true,true,true,true,true,true,true,true,true,true,true,true,true,true,true,true,true,true,true,true,true,true,true,true,true,true,true,true,true,true,true,true,true,true,true,true,true,true,true,true,true,false,false,false,false,false,false,false,false,false,false,false,false,false,false,false,false,false,false,false,false] ?_
                 refine pZ_ 52 (some 211) #[true,true,true,true,true,true,true,true,true,true,true,true,true,true,true,true,true,true,true,true,true,true,true,true,true,true,true,true,true,true,true,true,true,true,true,true,true,true,true,true,true,true,true,true,true,true,true,true,true,true,true,true,true,false,false,false,false,false,false,false,false,false,false,false,false,false,false,false,false,false,false,false] ?_
                 refine pZ_ 53 (some 212) #[true,true,true,true,true,true,true,true,true,true,true,true,true,true,true,true,true,true,true,true,true,true,true,true,true,true,true,true,true,true,true,true,true,true,true,true,true,true,true,true,true,true,true,true,true,true,true,true,true,true,true,true,true,true,false,false,false,false,false,false,false,false,false,false,false,false,false,false,false,false,false,false] ?_
                 refine pZ_ 54 (some 213) #[true,true,true,true,true,true,true,true,true,true,true,true,true,true,true,true,true,true,true,true,true,true,true,true,true,true,true,true,true,true,true,true,true,true,true,true,true,true,true,true,true,true,true,true,true,true,true,true,true,true,true,true,true,true,true,false,false,false,false,false,false,false,false,false,false,false,false,false,false,false,false,false] ?_
                 refine tZ6_ 55 (some 214) #[true,true,true,true,true,true,true,true,true,true,true,true,true,true,true,true,true,true,true,true,true,true,true,true,true,true,true,true,true,true,true,true,true,true,true,true,true,true,true,true,true,true,true,true,true,true,true,true,true,true,true,true,true,true,true,true,false,false,false,false,false,false,false,false,false,false,false,false,false,false,false,false] hHeld ?_
                 refine pZ_ 56 (some 215) #[true,true,true,true,true,true,true,true,true,true,true,true,true,true,true,true,true,true,true,true,true,true,true,true,true,true,true,true,true,true,true,true,true,true,true,true,true,true,true,true,true,true,true,true,true,true,true,true,true,true,true,true,true,true,true,true,true,false,false,false,false,false,false,false,false,false,false,false,false,false,false,false] ?_
                 refine pZ_ 57 (some 216) #[true,true,true,true,true,true,true,true,true,true,true,true,true,true,true,true,true,true,true,true,true,true,true,true,true,true,true,true,true,true,true,true,true,true,true,true,true,true,true,true,true,true,true,true,true,true,true,true,true,true,true,true,true,true,true,true,true,true,false,false,false,false,false,false,false,false,false,false,false,false,false,false] ?_
                 refine one_ (i := 58) (N := some 217) #[true,true,true,true,true,true,true,true,true,true,true,true,true,true,true,true,true,true,true,true,true,true,true,true,true,true,true,true,true,true,true,true,true,true,true,true,true,true,true,true,true,true,true,true,true,true,true,true,true,true,true,true,true,true,true,true,true,true,true,false,false,false,false,false,false,false,false,false,false,false,false,false] rfl rfl (one_of HT_.out T12_) T35_ (fun K hK => ?_)
                 refine gZ_ Try.func22 #[.agg #[.int .i64 n,.int .i64 u],.int .i64 q,.int .i64 e] ?_
                 with_reducible refine (impl_DesirabilityOf.calls k n u (q : Int) (e : Int) (-1) _ HBK.out).mono ?_
                 rintro e W1_ ⟨rfl,hb⟩
                 refine ⟨_,rfl,?_⟩
                 have n_ : Aside0 (W1_.cell? ⟨gf,0,none⟩ = some (.int .i64 n)) := ⟨pw_cell_below hb C0.out⟩
                 clear C0
                 have C0 := n_
                 clear n_
                 have n_ : Aside0 (W1_.cell? ⟨gf,1,none⟩ = some (.int .i64 u)) := ⟨pw_cell_below hb C1.out⟩
                 clear C1
                 have C1 := n_
                 clear n_
                 have n_ : Aside0 (W1_.cell? (ab.add e) = some (.int .i64 (rd b (e : Int)))) := ⟨pw_cell_below hb C2.out⟩
                 clear C2
                 have C2 := n_
                 clear n_
                 have n_ : Aside0 (W1_.cell? (ab.add q) = some (.int .i64 (rd b (q : Int)))) := ⟨pw_cell_below hb C3.out⟩
                 clear C3
                 have C3 := n_
                 clear n_
                 have n_ : Aside0 (W1_.cell? (as_.add e) = some (.int .i64 (rd s (e : Int)))) := ⟨pw_cell_below hb C4.out⟩
                 clear C4
                 have C4 := n_
                 clear n_
                 have n_ : Aside0 (W1_.cell? (as_.add q) = some (.int .i64 (rd s (q : Int)))) := ⟨pw_cell_below hb C5.out⟩
                 clear C5
                 have C5 := n_
                 clear n_
                 have n_ := aZ_ (Kd.Heap.C (Kd.heap_int .u8) hb.block HR.out)
                 clear HR
                 have HR := n_
                 clear n_
                 have n_ := aZ_ (below_step HB.out hb)
                 clear HB
                 have HB := n_
                 clear n_
                 have n_ := aZ_ (blk_below BF.out hb)
                 clear BF
                 have BF := n_
                 clear n_
                 have n_ := aZ_ (Kd.Heap.C (Kd.heap_int .i64) hb.block HS.out)
                 clear HS
                 have HS := n_
                 clear n_
                 have n_ := aZ_ (Kd.Heap.C (Kd.heap_int .i64) hb.block HZ.out)
                 clear HZ
                 have HZ := n_
                 clear n_
                 have n_ := aZ_ (Kd.Heap.C (Kd.heap_int .i64) hb.block HV.out)
                 clear HV
                 have HV := n_
                 clear n_
                 have n_ := aZ_ (Kd.Heap.C (Kd.heap_int .i64) hb.block HD.out)
                 clear HD
                 have HD := n_
                 clear n_
                 clear hb
                 refine hK.out _ _ ⟨C0.out,C1.out,C2.out,C3.out,C4.out,C5.out⟩ (fun hHeld => ?_)
                 clear hK K
                 refine norm_ (a' := ?_) ?_ ?_
                 rotate_left
                 ·show Act.put _ (some 217) _ = _
                  simp only [Act.put,List.setIfInBounds_toArray,List.set_cons_zero,List.set_cons_succ,i64_w,i32_w]
                  rfl
                 refine pZ_ 59 (some 218) #[true,true,true,true,true,true,true,true,true,true,true,true,true,true,true,true,true,true,true,true,true,true,true,true,true,true,true,true,true,true,true,true,true,true,true,true,true,true,true,true,true,true,true,true,true,true,true,true,true,true,true,true,true,true,true,true,true,true,true,true,false,false,false,false,false,false,false,false,false,false,false,false] ?_
                 refine pZ_ 60 (some 219) #[true,true,true,true,true,true,true,true,true,true,true,true,true,true,true,true,true,true,true,true,true,true,true,true,true,true,true,true,true,true,true,true,true,true,true,true,true,true,true,true,true,true,true,true,true,true,true,true,true,true,true,true,true,true,true,true,true,true,true,true,true,false,false,false,false,false,false,false,false,false,false,false] ?_
                 refine pZ_ 61 (some 220) #[true,true,true,true,true,true,true,true,true,true,true,true,true,true,true,true,true,true,true,true,true,true,true,true,true,true,true,true,true,true,true,true,true,true,true,true,true,true,true,true,true,true,true,true,true,true,true,true,true,true,true,true,true,true,true,true,true,true,true,true,true,true,false,false,false,false,false,false,false,false,false,false] ?_
                 refine pZ_ 62 (some 221) #[true,true,true,true,true,true,true,true,true,true,true,true,true,true,true,true,true,true,true,true,true,true,true,true,true,true,true,true,true,true,true,true,true,true,true,true,true,true,true,true,true,true,true,true,true,true,true,true,true,true,true,true,true,true,true,true,true,true,true,true,true,true,true,false,false,false,false,false,false,false,false,false] ?_
                 refine pZ_ 63 (some 222) #[true,true,true,true,true,true,true,true,true,true,true,true,true,true,true,true,true,true,true,true,true,true,true,true,true,true,true,true,true,true,true,true,true,true,true,true,true,true,true,true,true,true,true,true,true,true,true,true,true,true,true,true,true,true,true,true,true,true,true,true,true,true,true,true,false,false,false,false,false,false,false,false] ?_
                 refine pZ_ 64 (some 223) #[true,true,true,true,true,true,true,true,true,true,true,true,true,true,true,true,true,true,true,true,true,true,true,true,true,true,true,true,true,true,true,true,true,true,true,true,true,true,true,true,true,true,true,true,true,true,true,true,true,true,true,true,true,true,true,true,true,true,true,true,true,true,true,true,true,false,false,false,false,false,false,false] ?_
                 refine pZ_ 65 (some 224) #[true,true,true,true,true,true,true,true,true,true,true,true,true,true,true,true,true,true,true,true,true,true,true,true,true,true,true,true,true,true,true,true,true,true,true,true,true,true,true,true,true,true,true,true,true,true,true,true,true,true,true,true,true,true,true,true,true,true,true,true,true,true,true,true,true,true,false,false,false,false,false,false] ?_
                 refine tZ6_ 66 (some 225) #[true,true,true,true,true,true,true,true,true,true,true,true,true,true,true,true,true,true,true,true,true,true,true,true,true,true,true,true,true,true,true,true,true,true,true,true,true,true,true,true,true,true,true,true,true,true,true,true,true,true,true,true,true,true,true,true,true,true,true,true,true,true,true,true,true,true,true,false,false,false,false,false] hHeld ?_
                 refine pZ_ 67 (some 226) #[true,true,true,true,true,true,true,true,true,true,true,true,true,true,true,true,true,true,true,true,true,true,true,true,true,true,true,true,true,true,true,true,true,true,true,true,true,true,true,true,true,true,true,true,true,true,true,true,true,true,true,true,true,true,true,true,true,true,true,true,true,true,true,true,true,true,true,true,false,false,false,false] ?_
                 refine pZ_ 68 (some 227) #[true,true,true,true,true,true,true,true,true,true,true,true,true,true,true,true,true,true,true,true,true,true,true,true,true,true,true,true,true,true,true,true,true,true,true,true,true,true,true,true,true,true,true,true,true,true,true,true,true,true,true,true,true,true,true,true,true,true,true,true,true,true,true,true,true,true,true,true,true,false,false,false] ?_
                 refine one_ (i := 69) (N := some 228) #[true,true,true,true,true,true,true,true,true,true,true,true,true,true,true,true,true,true,true,true,true,true,true,true,true,true,true,true,true,true,true,true,true,true,true,true,true,true,true,true,true,true,true,true,true,true,true,true,true,true,true,true,true,true,true,true,true,true,true,true,true,true,true,true,true,true,true,true,true,true,false,false] rfl rfl (one_of HT_.out T12_) T35_ (fun K hK => ?_)
                 refine gZ_ Try.func23 #[.agg #[.int .i64 n,.int .i64 u],.int .i64 e,.int .i64 q] ?_
                 with_reducible refine (impl_AreExchangeable.calls k n u (e : Int) (q : Int) false _ HEX.out).mono ?_
                 rintro e W2_ ⟨rfl,hb⟩
                 refine ⟨_,rfl,?_⟩
                 have n_ : Aside0 (W2_.cell? ⟨gf,0,none⟩ = some (.int .i64 n)) := ⟨pw_cell_below hb C0.out⟩
                 clear C0
                 have C0 := n_
                 clear n_
                 have n_ : Aside0 (W2_.cell? ⟨gf,1,none⟩ = some (.int .i64 u)) := ⟨pw_cell_below hb C1.out⟩
                 clear C1
                 have C1 := n_
                 clear n_
                 have n_ : Aside0 (W2_.cell? (ab.add e) = some (.int .i64 (rd b (e : Int)))) := ⟨pw_cell_below hb C2.out⟩
                 clear C2
                 have C2 := n_
                 clear n_
                 have n_ : Aside0 (W2_.cell? (ab.add q) = some (.int .i64 (rd b (q : Int)))) := ⟨pw_cell_below hb C3.out⟩
                 clear C3
                 have C3 := n_
                 clear n_
                 have n_ : Aside0 (W2_.cell? (as_.add e) = some (.int .i64 (rd s (e : Int)))) := ⟨pw_cell_below hb C4.out⟩
                 clear C4
                 have C4 := n_
                 clear n_
                 have n_ : Aside0 (W2_.cell? (as_.add q) = some (.int .i64 (rd s (q : Int)))) := ⟨pw_cell_below hb C5.out⟩
                 clear C5
                 have C5 := n_
                 clear n_
                 have n_ := aZ_ (Kd.Heap.C (Kd.heap_int .u8) hb.block HR.out)
                 clear HR
                 have HR := n_
                 clear n_
                 have n_ := aZ_ (below_step HB.out hb)
                 clear HB
                 have HB := n_
                 clear n_
                 have n_ := aZ_ (blk_below BF.out hb)
                 clear BF
                 have BF := n_
                 clear n_
                 have n_ := aZ_ (Kd.Heap.C (Kd.heap_int .i64) hb.block HS.out)
                 clear HS
                 have HS := n_
                 clear n_
                 have n_ := aZ_ (Kd.Heap.C (Kd.heap_int .i64) hb.block HZ.out)
                 clear HZ
                 have HZ := n_
                 clear n_
                 have n_ := aZ_ (Kd.Heap.C (Kd.heap_int .i64) hb.block HV.out)
                 clear HV
                 have HV := n_
                 clear n_
                 have n_ := aZ_ (Kd.Heap.C (Kd.heap_int .i64) hb.block HD.out)
                 clear HD
                 have HD := n_
                 clear n_
                 clear hb
                 refine hK.out _ _ ⟨C0.out,C1.out,C2.out,C3.out,C4.out,C5.out⟩ (fun hHeld => ?_)
                 clear hK K
                 refine norm_ (a' := ?_) ?_ ?_
                 rotate_left
                 ·show Act.put _ (some 228) _ = _
                  simp only [Act.put,List.setIfInBounds_toArray,List.set_cons_zero,List.set_cons_succ,i64_w,i32_w]
                  rfl
                 refine pZ_ 70 (some 229) #[true,true,true,true,true,true,true,true,true,true,true,true,true,true,true,true,true,true,true,true,true,true,true,true,true,true,true,true,true,true,true,true,true,true,true,true,true,true,true,true,true,true,true,true,true,true,true,true,true,true,true,true,true,true,true,true,true,true,true,true,true,true,true,true,true,true,true,true,true,true,true,false] ?_
                 refine pZ_ 71 (some 230) #[true,true,true,true,true,true,true,true,true,true,true,true,true,true,true,true,true,true,true,true,true,true,true,true,true,true,true,true,true,true,true,true,true,true,true,true,true,true,true,true,true,true,true,true,true,true,true,true,true,true,true,true,true,true,true,true,true,true,true,true,true,true,true,true,true,true,true,true,true,true,true,true] ?_
                 refine done_ (done_of HT_.out T12_) ?_
                 (try go_wp2_with (fail))
                 go_meet
                 exact ⟨rfl,HR,HB,BF,HS,HZ,HV,HD⟩
               ·as_aux_lemma =>
                 have hw0 : wrap64 0 = 0 := B.wrap64_of T50_ T50_
                 have hw1 : wrap64 1 = 1 := B.wrap64_of T50_ T50_
                 have hw2 : wrap64 (-1) = -1 := B.wrap64_of T50_ T50_
                 have HBK : Aside0 (impl_DesirabilityOf.f k n u (q : Int) (e : Int) = some 1) := ⟨(HX.out.back T35_).trans rfl⟩
                 have HEX : Aside0 (impl_AreExchangeable.f k n u (e : Int) (q : Int) = some false) := ⟨HX.out.exch.trans rfl⟩
                 have hb := below_drew (Below.refl wu.heap.size wu)
                 have n_ : Aside0 (wu.drew.cell? ⟨gf,0,none⟩ = some (.int .i64 n)) := ⟨pw_cell_below hb C0.out⟩
                 clear C0
                 have C0 := n_
                 clear n_
                 have n_ : Aside0 (wu.drew.cell? ⟨gf,1,none⟩ = some (.int .i64 u)) := ⟨pw_cell_below hb C1.out⟩
                 clear C1
                 have C1 := n_
                 clear n_
                 have n_ : Aside0 (wu.drew.cell? (ab.add e) = some (.int .i64 (rd b (e : Int)))) := ⟨pw_cell_below hb C2.out⟩
                 clear C2
                 have C2 := n_
                 clear n_
                 have n_ : Aside0 (wu.drew.cell? (ab.add q) = some (.int .i64 (rd b (q : Int)))) := ⟨pw_cell_below hb C3.out⟩
                 clear C3
                 have C3 := n_
                 clear n_
                 have n_ : Aside0 (wu.drew.cell? (as_.add e) = some (.int .i64 (rd s (e : Int)))) := ⟨pw_cell_below hb C4.out⟩
                 clear C4
                 have C4 := n_
                 clear n_
                 have n_ : Aside0 (wu.drew.cell? (as_.add q) = some (.int .i64 (rd s (q : Int)))) := ⟨pw_cell_below hb C5.out⟩
                 clear C5
                 have C5 := n_
                 clear n_
                 have n_ := aZ_ (Kd.Heap.C (Kd.heap_int .u8) hb.block HR.out)
                 clear HR
                 have HR := n_
                 clear n_
                 have n_ := aZ_ (below_step HB.out hb)
                 clear HB
                 have HB := n_
                 clear n_
                 have n_ := aZ_ (blk_below BF.out hb)
                 clear BF
                 have BF := n_
                 clear n_
                 have n_ := aZ_ (Kd.Heap.C (Kd.heap_int .i64) hb.block HS.out)
                 clear HS
                 have HS := n_
                 clear n_
                 have n_ := aZ_ (Kd.Heap.C (Kd.heap_int .i64) hb.block HZ.out)
                 clear HZ
                 have HZ := n_
                 clear n_
                 have n_ := aZ_ (Kd.Heap.C (Kd.heap_int .i64) hb.block HV.out)
                 clear HV
                 have HV := n_
                 clear n_
                 have n_ := aZ_ (Kd.Heap.C (Kd.heap_int .i64) hb.block HD.out)
                 clear HD
                 have HD := n_
                 clear n_
                 clear hb
                 refine start_ (n := 72) (S := (fun w_ => w_.cell? ⟨gf,0,none⟩ = some (.int .i64 n) ∧ w_.cell? ⟨gf,1,none⟩ = some (.int .i64 u) ∧ w_.cell? (ab.add e) = some (.int .i64 (rd b (e : Int))) ∧ w_.cell? (ab.add q) = some (.int .i64 (rd b (q : Int))) ∧ w_.cell? (as_.add e) = some (.int .i64 (rd s (e : Int))) ∧ w_.cell? (as_.add q) = some (.int .i64 (rd s (q : Int))))) (ds := []) #[false,false,false,false,false,false,false,false,false,false,false,false,false,false,false,false,false,false,false,false,false,false,false,false,false,false,false,false,false,false,false,false,false,false,false,false,false,false,false,false,false,false,false,false,false,false,false,false,false,false,false,false,false,false,false,false,false,false,false,false,false,false,false,false,false,false,false,false,false,false,false,false] T12_ rfl rfl ⟨C0.out,C1.out,C2.out,C3.out,C4.out,C5.out⟩ (fun hHeld => ?_)
                 refine with_tabW laws_FnPower.tab28 laws_FnPower.bits28 (fun HT_ HW_ => ?_)
                 generalize wu.drew = W0_ at C0 C1 C2 C3 C4 C5 HR HB BF HS HZ HV HD hHeld ⊢
                 refine pZ_ 0 (some 159) #[true,false,false,false,false,false,false,false,false,false,false,false,false,false,false,false,false,false,false,false,false,false,false,false,false,false,false,false,false,false,false,false,false,false,false,false,false,false,false,false,false,false,false,false,false,false,false,false,false,false,false,false,false,false,false,false,false,false,false,false,false,false,false,false,false,false,false,false,false,false,false,false] ?_
                 refine pZ_ 1 (some 160) #[true,true,false,false,false,false,false,false,false,false,false,false,false,false,false,false,false,false,false,false,false,false,false,false,false,false,false,false,false,false,false,false,false,false,false,false,false,false,false,false,false,false,false,false,false,false,false,false,false,false,false,false,false,false,false,false,false,false,false,false,false,false,false,false,false,false,false,false,false,false,false,false] ?_
                 refine pZ_ 2 (some 161) #[true,true,true,false,false,false,false,false,false,false,false,false,false,false,false,false,false,false,false,false,false,false,false,false,false,false,false,false,false,false,false,false,false,false,false,false,false,false,false,false,false,false,false,false,false,false,false,false,false,false,false,false,false,false,false,false,false,false,false,false,false,false,false,false,false,false,false,false,false,false,false,false] ?_
                 refine oZ_ 3 (some 162) #[true,true,true,true,false,false,false,false,false,false,false,false,false,false,false,false,false,false,false,false,false,false,false,false,false,false,false,false,false,false,false,false,false,false,false,false,false,false,false,false,false,false,false,false,false,false,false,false,false,false,false,false,false,false,false,false,false,false,false,false,false,false,false,false,false,false,false,false,false,false,false,false] ?_
                 refine oZ_ 4 (some 163) #[true,true,true,true,true,false,false,false,false,false,false,false,false,false,false,false,false,false,false,false,false,false,false,false,false,false,false,false,false,false,false,false,false,false,false,false,false,false,false,false,false,false,false,false,false,false,false,false,false,false,false,false,false,false,false,false,false,false,false,false,false,false,false,false,false,false,false,false,false,false,false,false] ?_
                 refine oZ_ 5 (some 164) #[true,true,true,true,true,true,false,false,false,false,false,false,false,false,false,false,false,false,false,false,false,false,false,false,false,false,false,false,false,false,false,false,false,false,false,false,false,false,false,false,false,false,false,false,false,false,false,false,false,false,false,false,false,false,false,false,false,false,false,false,false,false,false,false,false,false,false,false,false,false,false,false] ?_
                 refine oZ_ 6 (some 165) #[true,true,true,true,true,true,true,false,false,false,false,false,false,false,false,false,false,false,false,false,false,false,false,false,false,false,false,false,false,false,false,false,false,false,false,false,false,false,false,false,false,false,false,false,false,false,false,false,false,false,false,false,false,false,false,false,false,false,false,false,false,false,false,false,false,false,false,false,false,false,false,false] ?_
                 refine oZ_ 7 (some 166) #[true,true,true,true,true,true,true,true,false,false,false,false,false,false,false,false,false,false,false,false,false,false,false,false,false,false,false,false,false,false,false,false,false,false,false,false,false,false,false,false,false,false,false,false,false,false,false,false,false,false,false,false,false,false,false,false,false,false,false,false,false,false,false,false,false,false,false,false,false,false,false,false] ?_
                 refine oZ_ 8 (some 167) #[true,true,true,true,true,true,true,true,true,false,false,false,false,false,false,false,false,false,false,false,false,false,false,false,false,false,false,false,false,false,false,false,false,false,false,false,false,false,false,false,false,false,false,false,false,false,false,false,false,false,false,false,false,false,false,false,false,false,false,false,false,false,false,false,false,false,false,false,false,false,false,false] ?_
                 refine oZ_ 9 (some 168) #[true,true,true,true,true,true,true,true,true,true,false,false,false,false,false,false,false,false,false,false,false,false,false,false,false,false,false,false,false,false,false,false,false,false,false,false,false,false,false,false,false,false,false,false,false,false,false,false,false,false,false,false,false,false,false,false,false,false,false,false,false,false,false,false,false,false,false,false,false,false,false,false] ?_
                 refine oZ_ 10 (some 169) #[true,true,true,true,true,true,true,true,true,true,true,false,false,false,false,false,false,false,false,false,false,false,false,false,false,false,false,false,false,false,false,false,false,false,false,false,false,false,false,false,false,false,false,false,false,false,false,false,false,false,false,false,false,false,false,false,false,false,false,false,false,false,false,false,false,false,false,false,false,false,false,false] ?_
                 refine oZ_ 11 (some 170) #[true,true,true,true,true,true,true,true,true,true,true,true,false,false,false,false,false,false,false,false,false,false,false,false,false,false,false,false,false,false,false,false,false,false,false,false,false,false,false,false,false,false,false,false,false,false,false,false,false,false,false,false,false,false,false,false,false,false,false,false,false,false,false,false,false,false,false,false,false,false,false,false] ?_
                 refine oZ_ 12 (some 171) #[true,true,true,true,true,true,true,true,true,true,true,true,true,false,false,false,false,false,false,false,false,false,false,false,false,false,false,false,false,false,false,false,false,false,false,false,false,false,false,false,false,false,false,false,false,false,false,false,false,false,false,false,false,false,false,false,false,false,false,false,false,false,false,false,false,false,false,false,false,false,false,false] ?_
                 refine oZ_ 13 (some 172) #[true,true,true,true,true,true,true,true,true,true,true,true,true,true,false,false,false,false,false,false,false,false,false,false,false,false,false,false,false,false,false,false,false,false,false,false,false,false,false,false,false,false,false,false,false,false,false,false,false,false,false,false,false,false,false,false,false,false,false,false,false,false,false,false,false,false,false,false,false,false,false,false] ?_
                 refine oZ_ 14 (some 173) #[true,true,true,true,true,true,true,true,true,true,true,true,true,true,true,false,false,false,false,false,false,false,false,false,false,false,false,false,false,false,false,false,false,false,false,false,false,false,false,false,false,false,false,false,false,false,false,false,false,false,false,false,false,false,false,false,false,false,false,false,false,false,false,false,false,false,false,false,false,false,false,false] ?_
                 refine oZ_ 15 (some 174) #[true,true,true,true,true,true,true,true,true,true,true,true,true,true,true,true,false,false,false,false,false,false,false,false,false,false,false,false,false,false,false,false,false,false,false,false,false,false,false,false,false,false,false,false,false,false,false,false,false,false,false,false,false,false,false,false,false,false,false,false,false,false,false,false,false,false,false,false,false,false,false,false] ?_
                 refine oZ_ 16 (some 175) #[true,true,true,true,true,true,true,true,true,true,true,true,true,true,true,true,true,false,false,false,false,false,false,false,false,false,false,false,false,false,false,false,false,false,false,false,false,false,false,false,false,false,false,false,false,false,false,false,false,false,false,false,false,false,false,false,false,false,false,false,false,false,false,false,false,false,false,false,false,false,false,false] ?_
                 refine oZ_ 17 (some 176) #[true,true,true,true,true,true,true,true,true,true,true,true,true,true,true,true,true,true,false,false,false,false,false,false,false,false,false,false,false,false,false,false,false,false,false,false,false,false,false,false,false,false,false,false,false,false,false,false,false,false,false,false,false,false,false,false,false,false,false,false,false,false,false,false,false,false,false,false,false,false,false,false] ?_
                 refine oZ_ 18 (some 177) #[true,true,true,true,true,true,true,true,true,true,true,true,true,true,true,true,true,true,true,false,false,false,false,false,false,false,false,false,false,false,false,false,false,false,false,false,false,false,false,false,false,false,false,false,false,false,false,false,false,false,false,false,false,false,false,false,false,false,false,false,false,false,false,false,false,false,false,false,false,false,false,false] ?_
                 refine oZ_ 19 (some 178) #[true,true,true,true,true,true,true,true,true,true,true,true,true,true,true,true,true,true,true,true,false,false,false,false,false,false,false,false,false,false,false,false,false,false,false,false,false,false,false,false,false,false,false,false,false,false,false,false,false,false,false,false,false,false,false,false,false,false,false,false,false,false,false,false,false,false,false,false,false,false,false,false] ?_
                 refine oZ_ 20 (some 179) #[true,true,true,true,true,true,true,true,true,true,true,true,true,true,true,true,true,true,true,true,true,false,false,false,false,false,false,false,false,false,false,false,false,false,false,false,false,false,false,false,false,false,false,false,false,false,false,false,false,false,false,false,false,false,false,false,false,false,false,false,false,false,false,false,false,false,false,false,false,false,false,false] ?_
                 refine oZ_ 21 (some 180) #[true,true,true,true,true,true,true,true,true,true,true,true,true,true,true,true,true,true,true,true,true,true,false,false,false,false,false,false,false,false,false,false,false,false,false,false,false,false,false,false,false,false,false,false,false,false,false,false,false,false,false,false,false,false,false,false,false,false,false,false,false,false,false,false,false,false,false,false,false,false,false,false] ?_
                 refine oZ_ 22 (some 181) #[true,true,true,true,true,true,true,true,true,true,true,true,true,true,true,true,true,true,true,true,true,true,true,false,false,false,false,false,false,false,false,false,false,false,false,false,false,false,false,false,false,false,false,false,false,false,false,false,false,false,false,false,false,false,false,false,false,false,false,false,false,false,false,false,false,false,false,false,false,false,false,false] ?_
                 refine pZ_ 23 (some 182) #[true,true,true,true,true,true,true,true,true,true,true,true,true,true,true,true,true,true,true,true,true,true,true,true,false,false,false,false,false,false,false,false,false,false,false,false,false,false,false,false,false,false,false,false,false,false,false,false,false,false,false,false,false,false,false,false,false,false,false,false,false,false,false,false,false,false,false,false,false,false,false,false] ?_
                 refine pZ_ 24 (some 183) #[true,true,true,true,true,true,true,true,true,true,true,true,true,true,true,true,true,true,true,true,true,true,true,true,true,false,false,false,false,false,false,false,false,false,false,false,false,false,false,false,false,false,false,false,false,false,false,false,false,false,false,false,false,false,false,false,false,false,false,false,false,false,false,false,false,false,false,false,false,false,false,false] ?_
                 refine pZ_ 25 (some 184) #[true,true,true,true,true,true,true,true,true,true,true,true,true,true,true,true,true,true,true,true,true,true,true,true,true,true,false,false,false,false,false,false,false,false,false,false,false,false,false,false,false,false,false,false,false,false,false,false,false,false,false,false,false,false,false,false,false,false,false,false,false,false,false,false,false,false,false,false,false,false,false,false] ?_
                 refine pZ_ 26 (some 185) #[true,true,true,true,true,true,true,true,true,true,true,true,true,true,true,true,true,true,true,true,true,true,true,true,true,true,true,false,false,false,false,false,false,false,false,false,false,false,false,false,false,false,false,false,false,false,false,false,false,false,false,false,false,false,false,false,false,false,false,false,false,false,false,false,false,false,false,false,false,false,false,false] ?_
                 refine pZ_ 27 (some 186) #[true,true,true,true,true,true,true,true,true,true,true,true,true,true,true,true,true,true,true,true,true,true,true,true,true,true,true,true,false,false,false,false,false,false,false,false,false,false,false,false,false,false,false,false,false,false,false,false,false,false,false,false,false,false,false,false,false,false,false,false,false,false,false,false,false,false,false,false,false,false,false,false] ?_
                 refine oZ_ 28 (some 187) #[true,true,true,true,true,true,true,true,true,true,true,true,true,true,true,true,true,true,true,true,true,true,true,true,true,true,true,true,true,false,false,false,false,false,false,false,false,false,false,false,false,false,false,false,false,false,false,false,false,false,false,false,false,false,false,false,false,false,false,false,false,false,false,false,false,false,false,false,false,false,false,false] ?_
                 refine oZ_ 29 (some 188) #[true,true,true,true,true,true,true,true,true,true,true,true,true,true,true,true,true,true,true,true,true,true,true,true,true,true,true,true,true,true,false,false,false,false,false,false,false,false,false,false,false,false,false,false,false,false,false,false,false,false,false,false,false,false,false,false,false,false,false,false,false,false,false,false,false,false,false,false,false,false,false,false] ?_
                 refine oZ_ 30 (some 189) #[true,true,true,true,true,true,true,true,true,true,true,true,true,true,true,true,true,true,true,true,true,true,true,true,true,true,true,true,true,true,true,false,false,false,false,false,false,false,false,false,false,false,false,false,false,false,false,false,false,false,false,false,false,false,false,false,false,false,false,false,false,false,false,false,false,false,false,false,false,false,false,false] ?_
                 refine oZ_ 31 (some 190) #[true,true,true,true,true,true,true,true,true,true,true,true,true,true,true,true,true,true,true,true,true,true,true,true,true,true,true,true,true,true,true,true,false,false,false,false,false,false,false,false,false,false,false,false,false,false,false,false,false,false,false,false,false,false,false,false,false,false,false,false,false,false,false,false,false,false,false,false,false,false,false,false] ?_
                 refine oZ_ 32 (some 191) #[true,true,true,true,true,true,true,true,true,true,true,true,true,true,true,true,true,true,true,true,true,true,true,true,true,true,true,true,true,true,true,true,true,false,false,false,false,false,false,false,false,false,false,false,false,false,false,false,false,false,false,false,false,false,false,false,false,false,false,false,false,false,false,false,false,false,false,false,false,false,false,false] ?_
                 refine oZ_ 33 (some 192) #[true,true,true,true,true,true,true,true,true,true,true,true,true,true,true,true,true,true,true,true,true,true,true,true,true,true,true,true,true,true,true,true,true,true,false,false,false,false,false,false,false,false,false,false,false,false,false,false,false,false,false,false,false,false,false,false,false,false,false,false,false,false,false,false,false,false,false,false,false,false,false,false] ?_
                 refine oZ_ 34 (some 193) #[true,true,true,true,true,true,true,true,true,true,true,true,true,true,true,true,true,true,true,true,true,true,true,true,true,true,true,true,true,true,true,true,true,true,true,false,false,false,false,false,false,false,false,false,false,false,false,false,false,false,false,false,false,false,false,false,false,false,false,false,false,false,false,false,false,false,false,false,false,false,false,false] ?_
                 refine oZ_ 35 (some 194) #[true,true,true,true,true,true,true,true,true,true,true,true,true,true,true,true,true,true,true,true,true,true,true,true,true,true,true,true,true,true,true,true,true,true,true,true,false,false,false,false,false,false,false,false,false,false,false,false,false,false,false,false,false,false,false,false,false,false,false,false,false,false,false,false,false,false,false,false,false,false,false,false] ?_
                 refine oZ_ 36 (some 195) #[true,true,true,true,true,true,true,true,true,true,true,true,true,true,true,true,true,true,true,true,true,true,true,true,true,true,true,true,true,true,true,true,true,true,true,true,true,false,false,false,false,false,false,false,false,false,false,false,false,false,false,false,false,false,false,false,false,false,false,false,false,false,false,false,false,false,false,false,false,false,false,false] ?_
                 refine oZ_ 37 (some 196) #[true,true,true,true,true,true,true,true,true,true,true,true,true,true,true,true,true,true,true,true,true,true,true,true,true,true,true,true,true,true,true,true,true,true,true,true,true,true,false,false,false,false,false,false,false,false,false,false,false,false,false,false,false,false,false,false,false,false,false,false,false,false,false,false,false,false,false,false,false,false,false,false] ?_
                 refine oZ_ 38 (some 197) #[true,true,true,true,true,true,true,true,true,true,true,true,true,true,true,true,true,true,true,true,true,true,true,true,true,true,true,true,true,true,true,true,true,true,true,true,true,true,true,false,false,false,false,false,false,false,false,false,false,false,false,false,false,false,false,false,false,false,false,false,false,false,false,false,false,false,false,false,false,false,false,false] ?_
                 refine oZ_ 39 (some 198) #[true,true,true,true,true,true,true,true,true,true,true,true,true,true,true,true,true,true,true,true,true,true,true,true,true,true,true,true,true,true,true,true,true,true,true,true,true,true,true,true,false,false,false,false,false,false,false,false,false,false,false,false,false,false,false,false,false,false,false,false,false,false,false,false,false,false,false,false,false,false,false,false] ?_
                 refine oZ_ 40 (some 199) #[true,true,true,true,true,true,true,true,true,true,true,true,true,true,true,true,true,true,true,true,true,true,true,true,true,true,true,true,true,true,true,true,true,true,true,true,true,true,true,true,true,false,false,false,false,false,false,false,false,false,false,false,false,false,false,false,false,false,false,false,false,false,false,false,false,false,false,false,false,false,false,false] ?_
                 refine oZ_ 41 (some 200) #[true,true,true,true,true,true,true,true,true,true,true,true,true,true,true,true,true,true,true,true,true,true,true,true,true,true,true,true,true,true,true,true,true,true,true,true,true,true,true,true,true,true,false,false,false,false,false,false,false,false,false,false,false,false,false,false,false,false,false,false,false,false,false,false,false,false,false,false,false,false,false,false] ?_
                 refine oZ_ 42 (some 201) #[true,true,true,true,true,true,true,true,true,true,true,true,true,true,true,true,true,true,true,true,true,true,true,true,true,true,true,true,true,true,true,true,true,true,true,true,true,true,true,true,true,true,true,false,false,false,false,false,false,false,false,false,false,false,false,false,false,false,false,false,false,false,false,false,false,false,false,false,false,false,false,false] ?_
                 refine oZ_ 43 (some 202) #[true,true,true,true,true,true,true,true,true,true,true,true,true,true,true,true,true,true,true,true,true,true,true,true,true,true,true,true,true,true,true,true,true,true,true,true,true,true,true,true,true,true,true,true,false,false,false,false,false,false,false,false,false,false,false,false,false,false,false,false,false,false,false,false,false,false,false,false,false,false,false,false] ?_
                 refine oZ_ 44 (some 203) #[true,true,true,true,true,true,true,true,true,true,true,true,true,true,true,true,true,true,true,true,true,true,true,true,true,true,true,true,true,true,true,true,true,true,true,true,true,true,true,true,true,true,true,true,true,false,false,false,false,false,false,false,false,false,false,false,false,false,false,false,false,false,false,false,false,false,false,false,false,false,false,false] ?_
                 refine oZ_ 45 (some 204) #[true,true,true,true,true,true,true,true,true,true,true,true,true,true,true,true,true,true,true,true,true,true,true,true,true,true,true,true,true,true,true,true,true,true,true,true,true,true,true,true,true,true,true,true,true,true,false,false,false,false,false,false,false,false,false,false,false,false,false,false,false,false,false,false,false,false,false,false,false,false,false,false] ?_
                 refine oZ_ 46 (some 205) #[true,true,true,true,true,true,true,true,true,true,true,true,true,true,true,true,true,true,true,true,true,true,true,true,true,true,true,true,true,true,true,true,true,true,true,true,true,true,true,true,true,true,true,true,true,true,true,false,false,false,false,false,false,false,false,false,false,false,false,false,false,false,false,false,false,false,false,false,false,false,false,false] ?_
                 refine oZ_ 47 (some 206) #[true,true,true,true,true,true,true,true,true,true,true,true,true,true,true,true,true,true,true,true,true,true,true,true,true,true,true,true,true,true,true,true,true,true,true,true,true,true,true,true,true,true,true,true,true,true,true,true,false,false,false,false,false,false,false,false,false,false,false,false,false,false,false,false,false,false,false,false,false,false,false,false] ?_
                 refine pZ_ 48 (some 207) #[true,true,true,true,true,true,true,true,true,true,true,true,true,true,true,true,true,true,true,true,true,true,true,true,true,true,true,true,true,true,true,true,true,true,true,true,true,true,true,true,true,true,true,true,true,true,true,true,true,false,false,false,false,false,false,false,false,false,false,false,false,false,false,false,false,false,false,false,false,false,false,false] ?_
                 refine pZ_ 49 (some 208) #[true,true,true,true,true,true,true,true,true,true,true,true,true,true,true,true,true,true,true,true,true,true,true,true,true,true,true,true,true,true,true,true,true,true,true,true,true,true,true,true,true,true,true,true,true,true,true,true,true,true,false,false,false,false,false,false,false,false,false,false,false,false,false,false,false,false,false,false,false,false,false,false] ?_
                 refine pZ_ 50 (some 209) #[true,true,true,true,true,true,true,true,true,true,true,true,true,true,true,true,true,true,true,true,true,true,true,true,true,true,true,true,true,true,true,true,true,true,true,true,true,true,true,true,true,true,true,true,true,true,true,true,true,true,true,false,false,false,false,false,false,false,false,false,false,false,false,false,false,false,false,false,false,false,false,false] ?_
                 refine pZ_ 51 (some 210) #[true,true,true,true,true,true,true,true,true,true,true,true,true,true,true,true,true,true,true,true,true,true,true,true,true,true,true,true,true,true,true,true,true,true,true,true,true,true,true,true,true,true,true,true,true,true,true,true,true,true,true,true,false,false,false,false,false,false,false,false,false,false,false,false,false,false,false,false,false,false,false,false] ?_
                 refine pZ_ 52 (some 211) #[true,true,true,true,true,true,true,true,true,true,true,true,true,true,true,true,true,true,true,true,true,true,true,true,true,true,true,true,true,true,true,true,true,true,true,true,true,true,true,true,true,true,true,true,true,true,true,true,true,true,true,true,true,false,false,false,false,false,false,false,false,false,false,false,false,false,false,false,false,false,false,false] ?_
                 refine pZ_ 53 (some 212) #[true,true,true,true,true,true,true,true,true,true,true,true,true,true,true,true,true,true,true,true,true,true,true,true,true,true,true,true,true,true,true,true,true,true,true,true,true,true,true,true,true,true,true,true,true,true,true,true,true,true,true,true,true,true,false,false,false,false,false,false,false,false,false,false,false,false,false,false,false,false,false,false] ?_
                 refine pZ_ 54 (some 213) #[true,true,true,true,true,true,true,true,true,true,true,true,true,true,true,true,true,true,true,true,true,true,true,true,true,true,true,true,true,true,true,true,true,true,true,true,true,true,true,true,true,true,true,true,true,true,true,true,true,true,true,true,true,true,true,false,false,false,false,false,false,false,false,false,false,false,false,false,false,false,false,false] ?_
                 refine tZ6_ 55 (some 214) #[true,true,true,true,true,true,true,true,true,true,true,true,true,true,true,true,true,true,true,true,true,true,true,true,true,true,true,true,true,true,true,true,true,true,true,true,true,true,true,true,true,true,true,true,true,true,true,true,true,true,true,true,true,true,true,true,false,false,false,false,false,false,false,false,false,false,false,false,false,false,false,false] hHeld ?_
                 refine pZ_ 56 (some 215) #[true,true,true,true,true,true,true,true,true,true,true,true,true,true,true,true,true,true,true,true,true,true,true,true,true,true,true,true,true,true,true,true,true,true,true,true,true,true,true,true,true,true,true,true,true,true,true,true,true,true,true,true,true,true,true,true,true,false,false,false,false,false,false,false,false,false,false,false,false,false,false,false] ?_
                 refine pZ_ 57 (some 216) #[true,true,true,true,true,true,true,true,true,true,true,true,true,true,true,true,true,true,true,true,true,true,true,true,true,true,true,true,true,true,true,true,true,true,true,true,true,true,true,true,true,true,true,true,true,true,true,true,true,true,true,true,true,true,true,true,true,true,false,false,false,false,false,false,false,false,false,false,false,false,false,false] ?_
                 refine one_ (i := 58) (N := some 217) #[true,true,true,true,true,true,true,true,true,true,true,true,true,true,true,true,true,true,true,true,true,true,true,true,true,true,true,true,true,true,true,true,true,true,true,true,true,true,true,true,true,true,true,true,true,true,true,true,true,true,true,true,true,true,true,true,true,true,true,false,false,false,false,false,false,false,false,false,false,false,false,false] rfl rfl (one_of HT_.out T12_) T35_ (fun K hK => ?_)
                 refine gZ_ Try.func22 #[.agg #[.int .i64 n,.int .i64 u],.int .i64 q,.int .i64 e] ?_
                 with_reducible refine (impl_DesirabilityOf.calls k n u (q : Int) (e : Int) 1 _ HBK.out).mono ?_
                 rintro e W1_ ⟨rfl,hb⟩
                 refine ⟨_,rfl,?_⟩
                 have n_ : Aside0 (W1_.cell? ⟨gf,0,none⟩ = some (.int .i64 n)) := ⟨pw_cell_below hb C0.out⟩
                 clear C0
                 have C0 := n_
                 clear n_
                 have n_ : Aside0 (W1_.cell? ⟨gf,1,none⟩ = some (.int .i64 u)) := ⟨pw_cell_below hb C1.out⟩
                 clear C1
                 have C1 := n_
                 clear n_
                 have n_ : Aside0 (W1_.cell? (ab.add e) = some (.int .i64 (rd b (e : Int)))) := ⟨pw_cell_below hb C2.out⟩
                 clear C2
                 have C2 := n_
                 clear n_
                 have n_ : Aside0 (W1_.cell? (ab.add q) = some (.int .i64 (rd b (q : Int)))) := ⟨pw_cell_below hb C3.out⟩
                 clear C3
                 have C3 := n_
                 clear n_
                 have n_ : Aside0 (W1_.cell? (as_.add e) = some (.int .i64 (rd s (e : Int)))) := ⟨pw_cell_below hb C4.out⟩
                 clear C4
                 have C4 := n_
                 clear n_
                 have n_ : Aside0 (W1_.cell? (as_.add q) = some (.int .i64 (rd s (q : Int)))) := ⟨pw_cell_below hb C5.out⟩
                 clear C5
                 have C5 := n_
                 clear n_
                 have n_ := aZ_ (Kd.Heap.C (Kd.heap_int .u8) hb.block HR.out)
                 clear HR
                 have HR := n_
                 clear n_
                 have n_ := aZ_ (below_step HB.out hb)
                 clear HB
                 have HB := n_
                 clear n_
                 have n_ := aZ_ (blk_below BF.out hb)
                 clear BF
                 have BF := n_
                 clear n_
                 have n_ := aZ_ (Kd.Heap.C (Kd.heap_int .i64) hb.block HS.out)
                 clear HS
                 have HS := n_
                 clear n_
                 have n_ := aZ_ (Kd.Heap.C (Kd.heap_int .i64) hb.block HZ.out)
                 clear HZ
                 have HZ := n_
                 clear n_
                 have n_ := aZ_ (Kd.Heap.C (Kd.heap_int .i64) hb.block HV.out)
                 clear HV
                 have HV := n_
                 clear n_
                 have n_ := aZ_ (Kd.Heap.C (Kd.heap_int .i64) hb.block HD.out)
                 clear HD
                 have HD := n_
                 clear n_
                 clear hb
                 refine hK.out _ _ ⟨C0.out,C1.out,C2.out,C3.out,C4.out,C5.out⟩ (fun hHeld => ?_)
                 clear hK K
                 refine norm_ (a' := ?_) ?_ ?_
                 rotate_left
                 ·show Act.put _ (some 217) _ = _
                  simp only [Act.put,List.setIfInBounds_toArray,List.set_cons_zero,List.set_cons_succ,i64_w,i32_w]
                  rfl
                 refine pZ_ 59 (some 218) #[true,true,true,true,true,true,true,true,true,true,true,true,true,true,true,true,true,true,true,true,true,true,true,true,true,true,true,true,true,true,true,true,true,true,true,true,true,true,true,true,true,true,true,true,true,true,true,true,true,true,true,true,true,true,true,true,true,true,true,true,false,false,false,false,false,false,false,false,false,false,false,false] ?_
                 refine pZ_ 60 (some 219) #[true,true,true,true,true,true,true,true,true,true,true,true,true,true,true,true,true,true,true,true,true,true,true,true,true,true,true,true,true,true,true,true,true,true,true,true,true,true,true,true,true,true,true,true,true,true,true,true,true,true,true,true,true,true,true,true,true,true,true,true,true,false,false,false,false,false,false,false,false,false,false,false] ?_
                 refine pZ_ 61 (some 220) #[true,true,true,true,true,true,true,true,true,true,true,true,true,true,true,true,true,true,true,true,true,true,true,true,true,true,true,true,true,true,true,true,true,true,true,true,true,true,true,true,true,true,true,true,true,true,true,true,true,true,true,true,true,true,true,true,true,true,true,true,true,true,false,false,false,false,false,false,false,false,false,false] ?_
                 refine pZ_ 62 (some 221) #[true,true,true,true,true,true,true,true,true,true,true,true,true,true,true,true,true,true,true,true,true,true,true,true,true,true,true,true,true,true,true,true,true,true,true,true,true,true,true,true,true,true,true,true,true,true,true,true,true,true,true,true,true,true,true,true,true,true,true,true,true,true,true,false,false,false,false,false,false,false,false,false] ?_
                 refine pZ_ 63 (some 222) #[true,true,true,true,true,true,true,true,true,true,true,true,true,true,true,true,true,true,true,true,true,true,true,true,true,true,true,true,true,true,true,true,true,true,true,true,true,true,true,true,true,true,true,true,true,true,true,true,true,true,true,true,true,true,true,true,true,true,true,true,true,true,true,true,false,false,false,false,false,false,false,false] ?_
                 refine pZ_ 64 (some 223) #[true,true,true,true,true,true,true,true,true,true,true,true,true,true,true,true,true,true,true,true,true,true,true,true,true,true,true,true,true,true,true,true,true,true,true,true,true,true,true,true,true,true,true,true,true,true,true,true,true,true,true,true,true,true,true,true,true,true,true,true,true,true,true,true,true,false,false,false,false,false,false,false] ?_
                 refine pZ_ 65 (some 224) #[true,true,true,true,true,true,true,true,true,true,true,true,true,true,true,true,true,true,true,true,true,true,true,true,true,true,true,true,true,true,true,true,true,true,true,true,true,true,true,true,true,true,true,true,true,true,true,true,true,true,true,true,true,true,true,true,true,true,true,true,true,true,true,true,true,true,false,false,false,false,false,false] ?_
                 refine tZ6_ 66 (some 225) #[true,true,true,true,true,true,true,true,true,true,true,true,true,true,true,true,true,true,true,true,true,true,true,true,true,true,true,true,true,true,true,true,true,true,true,true,true,true,true,true,true,true,true,true,true,true,true,true,true,true,true,true,true,true,true,true,true,true,true,true,true,true,true,true,true,true,true,false,false,false,false,false] hHeld ?_
                 refine pZ_ 67 (some 226) #[true,true,true,true,true,true,true,true,true,true,true,true,true,true,true,true,true,true,true,true,true,true,true,true,true,true,true,true,true,true,true,true,true,true,true,true,true,true,true,true,true,true,true,true,true,true,true,true,true,true,true,true,true,true,true,true,true,true,true,true,true,true,true,true,true,true,true,true,false,false,false,false] ?_
                 refine pZ_ 68 (some 227) #[true,true,true,true,true,true,true,true,true,true,true,true,true,true,true,true,true,true,true,true,true,true,true,true,true,true,true,true,true,true,true,true,true,true,true,true,true,true,true,true,true,true,true,true,true,true,true,true,true,true,true,true,true,true,true,true,true,true,true,true,true,true,true,true,true,true,true,true,true,false,false,false] ?_
                 refine one_ (i := 69) (N := some 228) #[true,true,true,true,true,true,true,true,true,true,true,true,true,true,true,true,true,true,true,true,true,true,true,true,true,true,true,true,true,true,true,true,true,true,true,true,true,true,true,true,true,true,true,true,true,true,true,true,true,true,true,true,true,true,true,true,true,true,true,true,true,true,true,true,true,true,true,true,true,true,false,false] rfl rfl (one_of HT_.out T12_) T35_ (fun K hK => ?_)
                 refine gZ_ Try.func23 #[.agg #[.int .i64 n,.int .i64 u],.int .i64 e,.int .i64 q] ?_
                 with_reducible refine (impl_AreExchangeable.calls k n u (e : Int) (q : Int) false _ HEX.out).mono ?_
                 rintro e W2_ ⟨rfl,hb⟩
                 refine ⟨_,rfl,?_⟩
                 have n_ : Aside0 (W2_.cell? ⟨gf,0,none⟩ = some (.int .i64 n)) := ⟨pw_cell_below hb C0.out⟩
                 clear C0
                 have C0 := n_
                 clear n_
                 have n_ : Aside0 (W2_.cell? ⟨gf,1,none⟩ = some (.int .i64 u)) := ⟨pw_cell_below hb C1.out⟩
                 clear C1
                 have C1 := n_
                 clear n_
                 have n_ : Aside0 (W2_.cell? (ab.add e) = some (.int .i64 (rd b (e : Int)))) := ⟨pw_cell_below hb C2.out⟩
                 clear C2
                 have C2 := n_
                 clear n_
                 have n_ : Aside0 (W2_.cell? (ab.add q) = some (.int .i64 (rd b (q : Int)))) := ⟨pw_cell_below hb C3.out⟩
                 clear C3
                 have C3 := n_
                 clear n_
                 have n_ : Aside0 (W2_.cell? (as_.add e) = some (.int .i64 (rd s (e : Int)))) := ⟨pw_cell_below hb C4.out⟩
                 clear C4
                 have C4 := n_
                 clear n_
                 have n_ : Aside0 (W2_.cell? (as_.add q) = some (.int .i64 (rd s (q : Int)))) := ⟨pw_cell_below hb C5.out⟩
                 clear C5
                 have C5 := n_
                 clear n_
                 have n_ := aZ_ (Kd.Heap.C (Kd.heap_int .u8) hb.block HR.out)
                 clear HR
                 have HR := n_
                 clear n_
                 have n_ := aZ_ (below_step HB.out hb)
                 clear HB
                 have HB := n_
                 clear n_
                 have n_ := aZ_ (blk_below BF.out hb)
                 clear BF
                 have BF := n_
                 clear n_
                 have n_ := aZ_ (Kd.Heap.C (Kd.heap_int .i64) hb.block HS.out)
                 clear HS
                 have HS := n_
                 clear n_
                 have n_ := aZ_ (Kd.Heap.C (Kd.heap_int .i64) hb.block HZ.out)
                 clear HZ
                 have HZ := n_
                 clear n_
                 have n_ := aZ_ (Kd.Heap.C (Kd.heap_int .i64) hb.block HV.out)
                 clear HV
                 have HV := n_
                 clear n_
                 have n_ := aZ_ (Kd.Heap.C (Kd.heap_int .i64) hb.block HD.out)
                 clear HD
                 have HD := n_
                 clear n_
                 clear hb
                 refine hK.out _ _ ⟨C0.out,C1.out,C2.out,C3.out,C4.out,C5.out⟩ (fun hHeld => ?_)
                 clear hK K
                 refine norm_ (a' := ?_) ?_ ?_
                 rotate_left
                 ·show Act.put _ (some 228) _ = _
                  simp only [Act.put,List.setIfInBounds_toArray,List.set_cons_zero,List.set_cons_succ,i64_w,i32_w]
                  rfl
                 refine pZ_ 70 (some 229) #[true,true,true,true,true,true,true,true,true,true,true,true,true,true,true,true,true,true,true,true,true,true,true,true,true,true,true,true,true,true,true,true,true,true,true,true,true,true,true,true,true,true,true,true,true,true,true,true,true,true,true,true,true,true,true,true,true,true,true,true,true,true,true,true,true,true,true,true,true,true,true,false] ?_
                 refine pZ_ 71 (some 230) #[true,true,true,true,true,true,true,true,true,true,true,true,true,true,true,true,true,true,true,true,true,true,true,true,true,true,true,true,true,true,true,true,true,true,true,true,true,true,true,true,true,true,true,true,true,true,true,true,true,true,true,true,true,true,true,true,true,true,true,true,true,true,true,true,true,true,true,true,true,true,true,true] ?_
                 refine done_ (done_of HT_.out T12_) ?_
                 (try go_wp2_with (fail))
                 go_meet
                 exact ⟨rfl,HR,HB,BF,HS,HZ,HV,HD⟩
               ·as_aux_lemma =>
                 have hw0 : wrap64 0 = 0 := B.wrap64_of T50_ T50_
                 have hw1 : wrap64 1 = 1 := B.wrap64_of T50_ T50_
                 have hw2 : wrap64 (-1) = -1 := B.wrap64_of T50_ T50_
                 have HEX : Aside0 (impl_AreExchangeable.f k n u (e : Int) (q : Int) = some false) := ⟨HX.out.exch.trans rfl⟩
                 have hb := below_drew (Below.refl wu.heap.size wu)
                 have n_ : Aside0 (wu.drew.cell? ⟨gf,0,none⟩ = some (.int .i64 n)) := ⟨pw_cell_below hb C0.out⟩
                 clear C0
                 have C0 := n_
                 clear n_
                 have n_ : Aside0 (wu.drew.cell? ⟨gf,1,none⟩ = some (.int .i64 u)) := ⟨pw_cell_below hb C1.out⟩
                 clear C1
                 have C1 := n_
                 clear n_
                 have n_ : Aside0 (wu.drew.cell? (ab.add e) = some (.int .i64 (rd b (e : Int)))) := ⟨pw_cell_below hb C2.out⟩
                 clear C2
                 have C2 := n_
                 clear n_
                 have n_ : Aside0 (wu.drew.cell? (ab.add q) = some (.int .i64 (rd b (q : Int)))) := ⟨pw_cell_below hb C3.out⟩
                 clear C3
                 have C3 := n_
                 clear n_
                 have n_ : Aside0 (wu.drew.cell? (as_.add e) = some (.int .i64 (rd s (e : Int)))) := ⟨pw_cell_below hb C4.out⟩
                 clear C4
                 have C4 := n_
                 clear n_
                 have n_ : Aside0 (wu.drew.cell? (as_.add q) = some (.int .i64 (rd s (q : Int)))) := ⟨pw_cell_below hb C5.out⟩
                 clear C5
                 have C5 := n_
                 clear n_
                 have n_ := aZ_ (Kd.Heap.C (Kd.heap_int .u8) hb.block HR.out)
                 clear HR
                 have HR := n_
                 clear n_
                 have n_ := aZ_ (below_step HB.out hb)
                 clear HB
                 have HB := n_
                 clear n_
                 have n_ := aZ_ (blk_below BF.out hb)
                 clear BF
                 have BF := n_
                 clear n_
                 have n_ := aZ_ (Kd.Heap.C (Kd.heap_int .i64) hb.block HS.out)
                 clear HS
                 have HS := n_
                 clear n_
                 have n_ := aZ_ (Kd.Heap.C (Kd.heap_int .i64) hb.block HZ.out)
                 clear HZ
                 have HZ := n_
                 clear n_
                 have n_ := aZ_ (Kd.Heap.C (Kd.heap_int .i64) hb.block HV.out)
                 clear HV
                 have HV := n_
                 clear n_
                 have n_ := aZ_ (Kd.Heap.C (Kd.heap_int .i64) hb.block HD.out)
                 clear HD
                 have HD := n_
                 clear n_
                 clear hb
                 refine start_ (n := 72) (S := (fun w_ => w_.cell? ⟨gf,0,none⟩ = some (.int .i64 n) ∧ w_.cell? ⟨gf,1,none⟩ = some (.int .i64 u) ∧ w_.cell? (ab.add e) = some (.int .i64 (rd b (e : Int))) ∧ w_.cell? (ab.add q) = some (.int .i64 (rd b (q : Int))) ∧ w_.cell? (as_.add e) = some (.int .i64 (rd s (e : Int))) ∧ w_.cell? (as_.add q) = some (.int .i64 (rd s (q : Int))))) (ds := []) #[false,false,false,false,false,false,false,false,false,false,false,false,false,false,false,false,false,false,false,false,false,false,false,false,false,false,false,false,false,false,false,false,false,false,false,false,false,false,false,false,false,false,false,false,false,false,false,false,false,false,false,false,false,false,false,false,false,false,false,false,false,false,false,false,false,false,false,false,false,false,false,false] T12_ rfl rfl ⟨C0.out,C1.out,C2.out,C3.out,C4.out,C5.out⟩ (fun hHeld => ?_)
                 refine with_tabW laws_FnPower.tab28 laws_FnPower.bits28 (fun HT_ HW_ => ?_)
                 generalize wu.drew = W0_ at C0 C1 C2 C3 C4 C5 HR HB BF HS HZ HV HD hHeld ⊢
                 refine pZ_ 0 (some 159) #[true,false,false,false,false,false,false,false,false,false,false,false,false,false,false,false,false,false,false,false,false,false,false,false,false,false,false,false,false,false,false,false,false,false,false,false,false,false,false,false,false,false,false,false,false,false,false,false,false,false,false,false,false,false,false,false,false,false,false,false,false,false,false,false,false,false,false,false,false,false,false,false] ?_
                 refine pZ_ 1 (some 160) #[true,true,false,false,false,false,false,false,false,false,false,false,false,false,false,false,false,false,false,false,false,false,false,false,false,false,false,false,false,false,false,false,false,false,false,false,false,false,false,false,false,false,false,false,false,false,false,false,false,false,false,false,false,false,false,false,false,false,false,false,false,false,false,false,false,false,false,false,false,false,false,false] ?_
                 refine pZ_ 2 (some 161) #[true,true,true,false,false,false,false,false,false,false,false,false,false,false,false,false,false,false,false,false,false,false,false,false,false,false,false,false,false,false,false,false,false,false,false,false,false,false,false,false,false,false,false,false,false,false,false,false,false,false,false,false,false,false,false,false,false,false,false,false,false,false,false,false,false,false,false,false,false,false,false,false] ?_
                 refine oZ_ 3 (some 162) #[true,true,true,true,false,false,false,false,false,false,false,false,false,false,false,false,false,false,false,false,false,false,false,false,false,false,false,false,false,false,false,false,false,false,false,false,false,false,false,false,false,false,false,false,false,false,false,false,false,false,false,false,false,false,false,false,false,false,false,false,false,false,false,false,false,false,false,false,false,false,false,false] ?_
                 refine oZ_ 4 (some 163) #[true,true,true,true,true,false,false,false,false,false,false,false,false,false,false,false,false,false,false,false,false,false,false,false,false,false,false,false,false,false,false,false,false,false,false,false,false,false,false,false,false,false,false,false,false,false,false,false,false,false,false,false,false,false,false,false,false,false,false,false,false,false,false,false,false,false,false,false,false,false,false,false] ?_
                 refine oZ_ 5 (some 164) #[true,true,true,true,true,true,false,false,false,false,false,false,false,false,false,false,false,false,false,false,false,false,false,false,false,false,false,false,false,false,false,false,false,false,false,false,false,false,false,false,false,false,false,false,false,false,false,false,false,false,false,false,false,false,false,false,false,false,false,false,false,false,false,false,false,false,false,false,false,false,false,false] ?_
                 refine oZ_ 6 (some 165) #[true,true,true,true,true,true,true,false,false,false,false,false,false,false,false,false,false,false,false,false,false,false,false,false,false,false,false,false,false,false,false,false,false,false,false,false,false,false,false,false,false,false,false,false,false,false,false,false,false,false,false,false,false,false,false,false,false,false,false,false,false,false,false,false,false,false,false,false,false,false,false,false] ?_
                 refine oZ_ 7 (some 166) #[true,true,true,true,true,true,true,true,false,false,false,false,false,false,false,false,false,false,false,false,false,false,false,false,false,false,false,false,false,false,false,false,false,false,false,false,false,false,false,false,false,false,false,false,false,false,false,false,false,false,false,false,false,false,false,false,false,false,false,false,false,false,false,false,false,false,false,false,false,false,false,false] ?_
                 refine oZ_ 8 (some 167) #[true,true,true,true,true,true,true,true,true,false,false,false,false,false,false,false,false,false,false,false,false,false,false,false,false,false,false,false,false,false,false,false,false,false,false,false,false,false,false,false,false,false,false,false,false,false,false,false,false,false,false,false,false,false,false,false,false,false,false,false,false,false,false,false,false,false,false,false,false,false,false,false] ?_
                 refine oZ_ 9 (some 168) #[true,true,true,true,true,true,true,true,true,true,false,false,false,false,false,false,false,false,false,false,false,false,false,false,false,false,false,false,false,false,false,false,false,false,false,false,false,false,false,false,false,false,false,false,false,false,false,false,false,false,false,false,false,false,false,false,false,false,false,false,false,false,false,false,false,false,false,false,false,false,false,false] ?_
                 refine oZ_ 10 (some 169) #[true,true,true,true,true,true,true,true,true,true,true,false,false,false,false,false,false,false,false,false,false,false,false,false,false,false,false,false,false,false,false,false,false,false,false,false,false,false,false,false,false,false,false,false,false,false,false,false,false,false,false,false,false,false,false,false,false,false,false,false,false,false,false,false,false,false,false,false,false,false,false,false] ?_
                 refine oZ_ 11 (some 170) #[true,true,true,true,true,true,true,true,true,true,true,true,false,false,false,false,false,false,false,false,false,false,false,false,false,false,false,false,false,false,false,false,false,false,false,false,false,false,false,false,false,false,false,false,false,false,false,false,false,false,false,false,false,false,false,false,false,false,false,false,false,false,false,false,false,false,false,false,false,false,false,false] ?_
                 refine oZ_ 12 (some 171) #[true,true,true,true,true,true,true,true,true,true,true,true,true,false,false,false,false,false,false,false,false,false,false,false,false,false,false,false,false,false,false,false,false,false,false,false,false,false,false,false,false,false,false,false,false,false,false,false,false,false,false,false,false,false,false,false,false,false,false,false,false,false,false,false,false,false,false,false,false,false,false,false] ?_
                 refine oZ_ 13 (some 172) #[true,true,true,true,true,true,true,true,true,true,true,true,true,true,false,false,false,false,false,false,false,false,false,false,false,false,false,false,false,false,false,false,false,false,false,false,false,false,false,false,false,false,false,false,false,false,false,false,false,false,false,false,false,false,false,false,false,false,false,false,false,false,false,false,false,false,false,false,false,false,false,false] ?_
                 refine oZ_ 14 (some 173) #[true,true,true,true,true,true,true,true,true,true,true,true,true,true,true,false,false,false,false,false,false,false,false,false,false,false,false,false,false,false,false,false,false,false,false,false,false,false,false,false,false,false,false,false,false,false,false,false,false,false,false,false,false,false,false,false,false,false,false,false,false,false,false,false,false,false,false,false,false,false,false,false] ?_
                 refine oZ_ 15 (some 174) #[true,true,true,true,true,true,true,true,true,true,true,true,true,true,true,true,false,false,false,false,false,false,false,false,false,false,false,false,false,false,false,false,false,false,false,false,false,false,false,false,false,false,false,false,false,false,false,false,false,false,false,false,false,false,false,false,false,false,false,false,false,false,false,false,false,false,false,false,false,false,false,false] ?_
                 refine oZ_ 16 (some 175) #[true,true,true,true,true,true,true,true,true,true,true,true,true,true,true,true,true,false,false,false,false,false,false,false,false,false,false,false,false,false,false,false,false,false,false,false,false,false,false,false,false,false,false,false,false,false,false,false,false,false,false,false,false,false,false,false,false,false,false,false,false,false,false,false,false,false,false,false,false,false,false,false] ?_
                 refine oZ_ 17 (some 176) #[true,true,true,true,true,true,true,true,true,true,true,true,true,true,true,true,true,true,false,false,false,false,false,false,false,false,false,false,false,false,false,false,false,false,false,false,false,false,false,false,false,false,false,false,false,false,false,false,false,false,false,false,false,false,false,false,false,false,false,false,false,false,false,false,false,false,false,false,false,false,false,false] ?_
                 refine oZ_ 18 (some 177) #[true,true,true,true,true,true,true,true,true,true,true,true,true,true,true,true,true,true,true,false,false,false,false,false,false,false,false,false,false,false,false,false,false,false,false,false,false,false,false,false,false,false,false,false,false,false,false,false,false,false,false,false,false,false,false,false,false,false,false,false,false,false,false,false,false,false,false,false,false,false,false,false] ?_
                 refine oZ_ 19 (some 178) #[true,true,true,true,true,true,true,true,true,true,true,true,true,true,true,true,true,true,true,true,false,false,false,false,false,false,false,false,false,false,false,false,false,false,false,false,false,false,false,false,false,false,false,false,false,false,false,false,false,false,false,false,false,false,false,false,false,false,false,false,false,false,false,false,false,false,false,false,false,false,false,false] ?_
                 refine oZ_ 20 (some 179) #[true,true,true,true,true,true,true,true,true,true,true,true,true,true,true,true,true,true,true,true,true,false,false,false,false,false,false,false,false,false,false,false,false,false,false,false,false,false,false,false,false,false,false,false,false,false,false,false,false,false,false,false,false,false,false,false,false,false,false,false,false,false,false,false,false,false,false,false,false,false,false,false] ?_
                 refine oZ_ 21 (some 180) #[true,true,true,true,true,true,true,true,true,true,true,true,true,true,true,true,true,true,true,true,true,true,false,false,false,false,false,false,false,false,false,false,false,false,false,false,false,false,false,false,false,false,false,false,false,false,false,false,false,false,false,false,false,false,false,false,false,false,false,false,false,false,false,false,false,false,false,false,false,false,false,false] ?_
                 refine oZ_ 22 (some 181) #[true,true,true,true,true,true,true,true,true,true,true,true,true,true,true,true,true,true,true,true,true,true,true,false,false,false,false,false,false,false,false,false,false,false,false,false,false,false,false,false,false,false,false,false,false,false,false,false,false,false,false,false,false,false,false,false,false,false,false,false,false,false,false,false,false,false,false,false,false,false,false,false] ?_
                 refine pZ_ 23 (some 182) #[true,true,true,true,true,true,true,true,true,true,true,true,true,true,true,true,true,true,true,true,true,true,true,true,false,false,false,false,false,false,false,false,false,false,false,false,false,false,false,false,false,false,false,false,false,false,false,false,false,false,false,false,false,false,false,false,false,false,false,false,false,false,false,false,false,false,false,false,false,false,false,false] ?_
                 refine pZ_ 24 (some 183) #[true,true,true,true,true,true,true,true,true,true,true,true,true,true,true,true,true,true,true,true,true,true,true,true,true,false,false,false,false,false,false,false,false,false,false,false,false,false,false,false,false,false,false,false,false,false,false,false,false,false,false,false,false,false,false,false,false,false,false,false,false,false,false,false,false,false,false,false,false,false,false,false] ?_
                 refine pZ_ 25 (some 184) #[true,true,true,true,true,true,true,true,true,true,true,true,true,true,true,true,true,true,true,true,true,true,true,true,true,true,false,false,false,false,false,false,false,false,false,false,false,false,false,false,false,false,false,false,false,false,false,false,false,false,false,false,false,false,false,false,false,false,false,false,false,false,false,false,false,false,false,false,false,false,false,false] ?_
                 refine pZ_ 26 (some 185) #[true,true,true,true,true,true,true,true,true,true,true,true,true,true,true,true,true,true,true,true,true,true,true,true,true,true,true,false,false,false,false,false,false,false,false,false,false,false,false,false,false,false,false,false,false,false,false,false,false,false,false,false,false,false,false,false,false,false,false,false,false,false,false,false,false,false,false,false,false,false,false,false] ?_
                 refine pZ_ 27 (some 186) #[true,true,true,true,true,true,true,true,true,true,true,true,true,true,true,true,true,true,true,true,true,true,true,true,true,true,true,true,false,false,false,false,false,false,false,false,false,false,false,false,false,false,false,false,false,false,false,false,false,false,false,false,false,false,false,false,false,false,false,false,false,false,false,false,false,false,false,false,false,false,false,false] ?_
                 refine oZ_ 28 (some 187) #[true,true,true,true,true,true,true,true,true,true,true,true,true,true,true,true,true,true,true,true,true,true,true,true,true,true,true,true,true,false,false,false,false,false,false,false,false,false,false,false,false,false,false,false,false,false,false,false,false,false,false,false,false,false,false,false,false,false,false,false,false,false,false,false,false,false,false,false,false,false,false,false] ?_
                 refine oZ_ 29 (some 188) #[true,true,true,true,true,true,true,true,true,true,true,true,true,true,true,true,true,true,true,true,true,true,true,true,true,true,true,true,true,true,false,false,false,false,false,false,false,false,false,false,false,false,false,false,false,false,false,false,false,false,false,false,false,false,false,false,false,false,false,false,false,false,false,false,false,false,false,false,false,false,false,false] ?_
                 refine oZ_ 30 (some 189) #[true,true,true,true,true,true,true,true,true,true,true,true,true,true,true,true,true,true,true,true,true,true,true,true,true,true,true,true,true,true,true,false,false,false,false,false,false,false,false,false,false,false,false,false,false,false,false,false,false,false,false,false,false,false,false,false,false,false,false,false,false,false,false,false,false,false,false,false,false,false,false,false] ?_
                 refine oZ_ 31 (some 190) #[true,true,true,true,true,true,true,true,true,true,true,true,true,true,true,true,true,true,true,true,true,true,true,true,true,true,true,true,true,true,true,true,false,false,false,false,false,false,false,false,false,false,false,false,false,false,false,false,false,false,false,false,false,false,false,false,false,false,false,false,false,false,false,false,false,false,false,false,false,false,false,false] ?_
                 refine oZ_ 32 (some 191) #[true,true,true,true,true,true,true,true,true,true,true,true,true,true,true,true,true,true,true,true,true,true,true,true,true,true,true,true,true,true,true,true,true,false,false,false,false,false,false,false,false,false,false,false,false,false,false,false,false,false,false,false,false,false,false,false,false,false,false,false,false,false,false,false,false,false,false,false,false,false,false,false] ?_
                 refine oZ_ 33 (some 192) #[true,true,true,true,true,true,true,true,true,true,true,true,true,true,true,true,true,true,true,true,true,true,true,true,true,true,true,true,true,true,true,true,true,true,false,false,false,false,false,false,false,false,false,false,false,false,false,false,false,false,false,false,false,false,false,false,false,false,false,false,false,false,false,false,false,false,false,false,false,false,false,false] ?_
                 refine oZ_ 34 (some 193) #[true,true,true,true,true,true,true,true,true,true,true,true,true,true,true,true,true,true,true,true,true,true,true,true,true,true,true,true,true,true,true,true,true,true,true,false,false,false,false,false,false,false,false,false,false,false,false,false,false,false,false,false,false,false,false,false,false,false,false,false,false,false,false,false,false,false,false,false,false,false,false,false] ?_
                 refine oZ_ 35 (some 194) #[true,true,true,true,true,true,true,true,true,true,true,true,true,true,true,true,true,true,true,true,true,true,true,true,true,true,true,true,true,true,true,true,true,true,true,true,false,false,false,false,false,false,false,false,false,false,false,false,false,false,false,false,false,false,false,false,false,false,false,false,false,false,false,false,false,false,false,false,false,false,false,false] ?_
                 refine oZ_ 36 (some 195) #[true,true,true,true,true,true,true,true,true,true,true,true,true,true,true,true,true,true,true,true,true,true,true,true,true,true,true,true,true,true,true,true,true,true,true,true,true,false,false,false,false,false,false,false,false,false,false,false,false,false,false,false,false,false,false,false,false,false,false,false,false,false,false,false,false,false,false,false,false,false,false,false] ?_
                 refine oZ_ 37 (some 196) #[true,true,true,true,true,true,true,true,true,true,true,true,true,true,true,true,true,true,true,true,true,true,true,true,true,true,true,true,true,true,true,true,true,true,true,true,true,true,false,false,false,false,false,false,false,false,false,false,false,false,false,false,false,false,false,false,false,false,false,false,false,false,false,false,false,false,false,false,false,false,false,false] ?_
                 refine oZ_ 38 (some 197) #[true,true,true,true,true,true,true,true,true,true,true,true,true,true,true,true,true,true,true,true,true,true,true,true,true,true,true,true,true,true,true,true,true,true,true,true,true,true,true,false,false,false,false,false,false,false,false,false,false,false,false,false,false,false,false,false,false,false,false,false,false,false,false,false,false,false,false,false,false,false,false,false] ?_
                 refine oZ_ 39 (some 198) #[true,true,true,true,true,true,true,true,true,true,true,true,true,true,true,true,true,true,true,true,true,true,true,true,true,true,true,true,true,true,true,true,true,true,true,true,true,true,true,true,false,false,false,false,false,false,false,false,false,false,false,false,false,false,false,false,false,false,false,false,false,false,false,false,false,false,false,false,false,false,false,false] ?_
                 refine oZ_ 40 (some 199) #[true,true,true,true,true,true,true,true,true,true,true,true,true,true,true,true,true,true,true,true,true,true,true,true,true,true,true,true,true,true,true,true,true,true,true,true,true,true,true,true,true,false,false,false,false,false,false,false,false,false,false,false,false,false,false,false,false,false,false,false,false,false,false,false,false,false,false,false,false,false,false,false] ?_
                 refine oZ_ 41 (some 200) #[true,true,true,true,true,true,true,true,true,true,true,true,true,true,true,true,true,true,true,true,true,true,true,true,true,true,true,true,true,true,true,true,true,true,true,true,true,true,true,true,true,true,false,false,false,false,false,false,false,false,false,false,false,false,false,false,false,false,false,false,false,false,false,false,false,false,false,false,false,false,false,false] ?_
                 refine oZ_ 42 (some 201) #[true,true,true,true,true,true,true,true,true,true,true,true,true,true,true,true,true,true,true,true,true,true,true,true,true,true,true,true,true,true,true,true,true,true,true,true,true,true,true,true,true,true,true,false,false,false,false,false,false,false,false,false,false,false,false,false,false,false,false,false,false,false,false,false,false,false,false,false,false,false,false,false] ?_
                 refine oZ_ 43 (some 202) #[true,true,true,true,true,true,true,true,true,true,true,true,true,true,true,true,true,true,true,true,true,true,true,true,true,true,true,true,true,true,true,true,true,true,true,true,true,true,true,true,true,true,true,true,false,false,false,false,false,false,false,false,false,false,false,false,false,false,false,false,false,false,false,false,false,false,false,false,false,false,false,false] ?_
                 refine oZ_ 44 (some 203) #[true,true,true,true,true,true,true,true,true,true,true,true,true,true,true,true,true,true,true,true,true,true,true,true,true,true,true,true,true,true,true,true,true,true,true,true,true,true,true,true,true,true,true,true,true,false,false,false,false,false,false,false,false,false,false,false,false,false,false,false,false,false,false,false,false,false,false,false,false,false,false,false] ?_
                 refine oZ_ 45 (some 204) #[true,true,true,true,true,true,true,true,true,true,true,true,true,true,true,true,true,true,true,true,true,true,true,true,true,true,true,true,true,true,true,true,true,true,true,true,true,true,true,true,true,true,true,true,true,true,false,false,false,false,false,false,false,false,false,false,false,false,false,false,false,false,false,false,false,false,false,false,false,false,false,false] ?_
                 refine oZ_ 46 (some 205) #[true,true,true,true,true,true,true,true,true,true,true,true,true,true,true,true,true,true,true,true,true,true,true,true,true,true,true,true,true,true,true,true,true,true,true,true,true,true,true,true,true,true,true,true,true,true,true,false,false,false,false,false,false,false,false,false,false,false,false,false,false,false,false,false,false,false,false,false,false,false,false,false] ?_
                 refine oZ_ 47 (some 206) #[true,true,true,true,true,true,true,true,true,true,true,true,true,true,true,true,true,true,true,true,true,true,true,true,true,true,true,true,true,true,true,true,true,true,true,true,true,true,true,true,true,true,true,true,true,true,true,true,false,false,false,false,false,false,false,false,false,false,false,false,false,false,false,false,false,false,false,false,false,false,false,false] ?_
                 refine pZ_ 48 (some 207) #[true,true,true,true,true,true,true,true,true,true,true,true,true,true,true,true,true,true,true,true,true,true,true,true,true,true,true,true,true,true,true,true,true,true,true,true,true,true,true,true,true,true,true,true,true,true,true,true,true,false,false,false,false,false,false,false,false,false,false,false,false,false,false,false,false,false,false,false,false,false,false,false] ?_
                 refine pZ_ 49 (some 208) #[true,true,true,true,true,true,true,true,true,true,true,true,true,true,true,true,true,true,true,true,true,true,true,true,true,true,true,true,true,true,true,true,true,true,true,true,true,true,true,true,true,true,true,true,true,true,true,true,true,true,false,false,false,false,false,false,false,false,false,false,false,false,false,false,false,false,false,false,false,false,false,false] ?_
                 refine pZ_ 50 (some 209) #[true,true,true,true,true,true,true,true,true,true,true,true,true,true,true,true,true,true,true,true,true,true,true,true,true,true,true,true,true,true,true,true,true,true,true,true,true,true,true,true,true,true,true,true,true,true,true,true,true,true,true,false,false,false,false,false,false,false,false,false,false,false,false,false,false,false,false,false,false,false,false,false] ?_
                 refine pZ_ 51 (some 210) #[true,true,true,true,true,true,true,true,true,true,true,true,true,true,true,true,true,true,true,true,true,true,true,true,true,true,true,true,true,true,true,true,true,true,true,true,true,true,true,true,true,true,true,true,true,true,true,true,true,true,true,true,false,false,false,false,false,false,false,false,false,false,false,false,false,false,false,false,false,false,false,false] ?_
                 refine pZ_ 52 (some 211) #[true,true,true,true,true,true,true,true,true,true,true,true,true,true,true,true,true,true,true,true,true,true,true,true,true,true,true,true,true,true,true,true,true,true,true,true,true,true,true,true,true,true,true,true,true,true,true,true,true,true,true,true,true,false,false,false,false,false,false,false,false,false,false,false,false,false,false,false,false,false,false,false] ?_
                 refine pZ_ 53 (some 212) #[true,true,true,true,true,true,true,true,true,true,true,true,true,true,true,true,true,true,true,true,true,true,true,true,true,true,true,true,true,true,true,true,true,true,true,true,true,true,true,true,true,true,true,true,true,true,true,true,true,true,true,true,true,true,false,false,false,false,false,false,false,false,false,false,false,false,false,false,false,false,false,false] ?_
                 refine oZ_ 54 (some 213) #[true,true,true,true,true,true,true,true,true,true,true,true,true,true,true,true,true,true,true,true,true,true,true,true,true,true,true,true,true,true,true,true,true,true,true,true,true,true,true,true,true,true,true,true,true,true,true,true,true,true,true,true,true,true,true,false,false,false,false,false,false,false,false,false,false,false,false,false,false,false,false,false] ?_
                 refine oZ_ 55 (some 214) #[true,true,true,true,true,true,true,true,true,true,true,true,true,true,true,true,true,true,true,true,true,true,true,true,true,true,true,true,true,true,true,true,true,true,true,true,true,true,true,true,true,true,true,true,true,true,true,true,true,true,true,true,true,true,true,true,false,false,false,false,false,false,false,false,false,false,false,false,false,false,false,false] ?_
                 refine oZ_ 56 (some 215) #[true,true,true,true,true,true,true,true,true,true,true,true,true,true,true,true,true,true,true,true,true,true,true,true,true,true,true,true,true,true,true,true,true,true,true,true,true,true,true,true,true,true,true,true,true,true,true,true,true,true,true,true,true,true,true,true,true,false,false,false,false,false,false,false,false,false,false,false,false,false,false,false] ?_
                 refine oZ_ 57 (some 216) #[true,true,true,true,true,true,true,true,true,true,true,true,true,true,true,true,true,true,true,true,true,true,true,true,true,true,true,true,true,true,true,true,true,true,true,true,true,true,true,true,true,true,true,true,true,true,true,true,true,true,true,true,true,true,true,true,true,true,false,false,false,false,false,false,false,false,false,false,false,false,false,false] ?_
                 refine oZ_ 58 (some 217) #[true,true,true,true,true,true,true,true,true,true,true,true,true,true,true,true,true,true,true,true,true,true,true,true,true,true,true,true,true,true,true,true,true,true,true,true,true,true,true,true,true,true,true,true,true,true,true,true,true,true,true,true,true,true,true,true,true,true,true,false,false,false,false,false,false,false,false,false,false,false,false,false] ?_
                 refine oZ_ 59 (some 218) #[true,true,true,true,true,true,true,true,true,true,true,true,true,true,true,true,true,true,true,true,true,true,true,true,true,true,true,true,true,true,true,true,true,true,true,true,true,true,true,true,true,true,true,true,true,true,true,true,true,true,true,true,true,true,true,true,true,true,true,true,false,false,false,false,false,false,false,false,false,false,false,false] ?_
                 refine oZ_ 60 (some 219) #[true,true,true,true,true,true,true,true,true,true,true,true,true,true,true,true,true,true,true,true,true,true,true,true,true,true,true,true,true,true,true,true,true,true,true,true,true,true,true,true,true,true,true,true,true,true,true,true,true,true,true,true,true,true,true,true,true,true,true,true,true,false,false,false,false,false,false,false,false,false,false,false] ?_
                 refine pZ_ 61 (some 220) #[true,true,true,true,true,true,true,true,true,true,true,true,true,true,true,true,true,true,true,true,true,true,true,true,true,true,true,true,true,true,true,true,true,true,true,true,true,true,true,true,true,true,true,true,true,true,true,true,true,true,true,true,true,true,true,true,true,true,true,true,true,true,false,false,false,false,false,false,false,false,false,false] ?_
                 refine pZ_ 62 (some 221) #[true,true,true,true,true,true,true,true,true,true,true,true,true,true,true,true,true,true,true,true,true,true,true,true,true,true,true,true,true,true,true,true,true,true,true,true,true,true,true,true,true,true,true,true,true,true,true,true,true,true,true,true,true,true,true,true,true,true,true,true,true,true,true,false,false,false,false,false,false,false,false,false] ?_
                 refine pZ_ 63 (some 222) #[true,true,true,true,true,true,true,true,true,true,true,true,true,true,true,true,true,true,true,true,true,true,true,true,true,true,true,true,true,true,true,true,true,true,true,true,true,true,true,true,true,true,true,true,true,true,true,true,true,true,true,true,true,true,true,true,true,true,true,true,true,true,true,true,false,false,false,false,false,false,false,false] ?_
                 refine pZ_ 64 (some 223) #[true,true,true,true,true,true,true,true,true,true,true,true,true,true,true,true,true,true,true,true,true,true,true,true,true,true,true,true,true,true,true,true,true,true,true,true,true,true,true,true,true,true,true,true,true,true,true,true,true,true,true,true,true,true,true,true,true,true,true,true,true,true,true,true,true,false,false,false,false,false,false,false] ?_
                 refine pZ_ 65 (some 224) #[true,true,true,true,true,true,true,true,true,true,true,true,true,true,true,true,true,true,true,true,true,true,true,true,true,true,true,true,true,true,true,true,true,true,true,true,true,true,true,true,true,true,true,true,true,true,true,true,true,true,true,true,true,true,true,true,true,true,true,true,true,true,true,true,true,true,false,false,false,false,false,false] ?_
                 refine tZ6_ 66 (some 225) #[true,true,true,true,true,true,true,true,true,true,true,true,true,true,true,true,true,true,true,true,true,true,true,true,true,true,true,true,true,true,true,true,true,true,true,true,true,true,true,true,true,true,true,true,true,true,true,true,true,true,true,true,true,true,true,true,true,true,true,true,true,true,true,true,true,true,true,false,false,false,false,false] hHeld ?_
                 refine pZ_ 67 (some 226) #[true,true,true,true,true,true,true,true,true,true,true,true,true,true,true,true,true,true,true,true,true,true,true,true,true,true,true,true,true,true,true,true,true,true,true,true,true,true,true,true,true,true,true,true,true,true,true,true,true,true,true,true,true,true,true,true,true,true,true,true,true,true,true,true,true,true,true,true,false,false,false,false] ?_
                 refine pZ_ 68 (some 227) #[true,true,true,true,true,true,true,true,true,true,true,true,true,true,true,true,true,true,true,true,true,true,true,true,true,true,true,true,true,true,true,true,true,true,true,true,true,true,true,true,true,true,true,true,true,true,true,true,true,true,true,true,true,true,true,true,true,true,true,true,true,true,true,true,true,true,true,true,true,false,false,false] ?_
                 refine one_ (i := 69) (N := some 228) #[true,true,true,true,true,true,true,true,true,true,true,true,true,true,true,true,true,true,true,true,true,true,true,true,true,true,true,true,true,true,true,true,true,true,true,true,true,true,true,true,true,true,true,true,true,true,true,true,true,true,true,true,true,true,true,true,true,true,true,true,true,true,true,true,true,true,true,true,true,true,false,false] rfl rfl (one_of HT_.out T12_) T35_ (fun K hK => ?_)
                 refine gZ_ Try.func23 #[.agg #[.int .i64 n,.int .i64 u],.int .i64 e,.int .i64 q] ?_
                 with_reducible refine (impl_AreExchangeable.calls k n u (e : Int) (q : Int) false _ HEX.out).mono ?_
                 rintro e W1_ ⟨rfl,hb⟩
                 refine ⟨_,rfl,?_⟩
                 have n_ : Aside0 (W1_.cell? ⟨gf,0,none⟩ = some (.int .i64 n)) := ⟨pw_cell_below hb C0.out⟩
                 clear C0
                 have C0 := n_
                 clear n_
                 have n_ : Aside0 (W1_.cell? ⟨gf,1,none⟩ = some (.int .i64 u)) := ⟨pw_cell_below hb C1.out⟩
                 clear C1
                 have C1 := n_
                 clear n_
                 have n_ : Aside0 (W1_.cell? (ab.add e) = some (.int .i64 (rd b (e : Int)))) := ⟨pw_cell_below hb C2.out⟩
                 clear C2
                 have C2 := n_
                 clear n_
                 have n_ : Aside0 (W1_.cell? (ab.add q) = some (.int .i64 (rd b (q : Int)))) := ⟨pw_cell_below hb C3.out⟩
                 clear C3
                 have C3 := n_
                 clear n_
                 have n_ : Aside0 (W1_.cell? (as_.add e) = some (.int .i64 (rd s (e : Int)))) := ⟨pw_cell_below hb C4.out⟩
                 clear C4
                 have C4 := n_
                 clear n_
                 have n_ : Aside0 (W1_.cell? (as_.add q) = some (.int .i64 (rd s (q : Int)))) := ⟨pw_cell_below hb C5.out⟩
                 clear C5
                 have C5 := n_
                 clear n_
                 have n_ := aZ_ (Kd.Heap.C (Kd.heap_int .u8) hb.block HR.out)
                 clear HR
                 have HR := n_
                 clear n_
                 have n_ := aZ_ (below_step HB.out hb)
                 clear HB
                 have HB := n_
                 clear n_
                 have n_ := aZ_ (blk_below BF.out hb)
                 clear BF
                 have BF := n_
                 clear n_
                 have n_ := aZ_ (Kd.Heap.C (Kd.heap_int .i64) hb.block HS.out)
                 clear HS
                 have HS := n_
                 clear n_
                 have n_ := aZ_ (Kd.Heap.C (Kd.heap_int .i64) hb.block HZ.out)
                 clear HZ
                 have HZ := n_
                 clear n_
                 have n_ := aZ_ (Kd.Heap.C (Kd.heap_int .i64) hb.block HV.out)
                 clear HV
                 have HV := n_
                 clear n_
                 have n_ := aZ_ (Kd.Heap.C (Kd.heap_int .i64) hb.block HD.out)
                 clear HD
                 have HD := n_
                 clear n_
                 clear hb
                 refine hK.out _ _ ⟨C0.out,C1.out,C2.out,C3.out,C4.out,C5.out⟩ (fun hHeld => ?_)
                 clear hK K
                 refine norm_ (a' := ?_) ?_ ?_
                 rotate_left
                 ·show Act.put _ (some 228) _ = _
                  simp only [Act.put,List.setIfInBounds_toArray,List.set_cons_zero,List.set_cons_succ,i64_w,i32_w]
                  rfl
                 refine pZ_ 70 (some 229) #[true,true,true,true,true,true,true,true,true,true,true,true,true,true,true,true,true,true,true,true,true,true,true,true,true,true,true,true,true,true,true,true,true,true,true,true,true,true,true,true,true,true,true,true,true,true,true,true,true,true,true,true,true,true,true,true,true,true,true,true,true,true,true,true,true,true,true,true,true,true,true,false] ?_
                 refine pZ_ 71 (some 230) #[true,true,true,true,true,true,true,true,true,true,true,true,true,true,true,true,true,true,true,true,true,true,true,true,true,true,true,true,true,true,true,true,true,true,true,true,true,true,true,true,true,true,true,true,true,true,true,true,true,true,true,true,true,true,true,true,true,true,true,true,true,true,true,true,true,true,true,true,true,true,true,true] ?_
                 refine done_ (done_of HT_.out T12_) ?_
                 (try go_wp2_with (fail))
                 go_meet
                 exact ⟨rfl,HR,HB,BF,HS,HZ,HV,HD⟩
              case rest =>
               clear hc_BF_0 hc_BF_1 HR HB BF HS HZ HV HD
               obtain ⟨rfl,HR,HB,BF,HS,HZ,HV,HD⟩ := hcut
               go_wp2_with (fail)
               go_roundg (n - (q + 1))
               case measure => have := HQQ.out;omega
               case rel => exact ⟨q + 1,by have := HQQ.out;omega,by omega,by have := HQQ.out;first | (rw [B.wrap64_of T50_ T50_];congr 1) | congr 1 | go_num,HR,HB,BF,HS,HZ,HV,HD⟩
             ·have hltz2 : ¬ (q : Int) < (n : Int) := by omega
              clear hlt2 hq hg2
              go_wp2_with (fail)
              go_roundg (n - (e + 1))
              case measure => have := HE.out;omega
              case rel => exact ⟨e + 1,by have := HE.out;omega,by omega,by have := HE.out;first | (rw [B.wrap64_of T50_ T50_];congr 1) | congr 1 | go_num,HR,HB,BF,HS,HZ,HV,HD⟩
          case neg =>
           have hltz : ¬ (e : Int) < (n : Int) := by omega
           clear hlt he hg
           go_wp2_with (fail)
           go_meet
           exact ⟨HR,HB⟩
     case false =>
      go_wp2_with (fail)
      go_meet
      exact ⟨HR,HB⟩
   case rest =>
    as_aux_lemma =>
     clear HR HB BF HS HZ HV HD
     obtain ⟨HR,HB⟩ := hcut
     go_upto_region 31 with (go_at_call 24;refine (spec_DrawDesirabilityOf.calls k A0 c0 l0 g1 g2 i j _ HR.out HC0.out HG.out.dd).mono ?_;rintro e w9 ⟨rfl,hb⟩;have n_ := aZ_ (Kd.Heap.C (Kd.heap_int .u8) hb.block HR.out);clear HR;have HR := n_;clear n_;have n_ := aZ_ (below_step HB.out hb);clear HB;have HB := n_;clear n_;clear hb )
     have BG := aZ_ (blk_new w9 (.cells #[.int .i64 g1,.int .i64 g2] 25 (0,0)))
     have hb := below_alloc (Below.refl w9.heap.size w9) (.cells #[.int .i64 g1,.int .i64 g2] 25 (0,0))
     have n_ := aZ_ (Kd.Heap.C (Kd.heap_int .u8) hb.block HR.out)
     clear HR
     have HR := n_
     clear n_
     have n_ := aZ_ (below_step HB.out hb)
     clear HB
     have HB := n_
     clear n_
     clear hb
     obtain ⟨gg,hgg_⟩ : ∃ gg,gg = w9.heap.size := ⟨_,rfl⟩
     rw [← hgg_] at BG ⊢
     clear hgg_
     generalize w9.alloc (.cells #[.int .i64 g1,.int .i64 g2] 25 (0,0)) = w10 at HR HB BG ⊢
     have hc_BG_0 : w10.cell? ⟨gg,0,none⟩ = some (.int .i64 g1) := (blk_cell BG.out 0).trans rfl
     have hc_BG_1 : w10.cell? ⟨gg,1,none⟩ = some (.int .i64 g2) := (blk_cell BG.out 1).trans rfl
     go_upto_region 32 with (go_at_call 25;refine (spec_DrawIsProperGame.calls k A0 c0 l0 h1 h2 _ HR.out HC0.out HG.out.dh).mono ?_;rintro e w11 ⟨rfl,hb⟩;have n_ := aZ_ (Kd.Heap.C (Kd.heap_int .u8) hb.block HR.out);clear HR;have HR := n_;clear n_;have n_ := aZ_ (below_step HB.out hb);clear HB;have HB := n_;clear n_;have n_ := aZ_ (blk_below BG.out hb);clear BG;have BG := n_;clear n_;clear hb ;clear hc_BG_0 hc_BG_1;have hc_BG_0 : w11.cell? ⟨gg,0,none⟩ = some (.int .i64 g1) := (blk_cell BG.out 0).trans rfl;have hc_BG_1 : w11.cell? ⟨gg,1,none⟩ = some (.int .i64 g2) := (blk_cell BG.out 1).trans rfl)
     clear hc_BG_0 hc_BG_1
     have BH := aZ_ (blk_new w11 (.cells #[.int .i64 h1,.int .i64 h2] 25 (0,0)))
     have hb := below_alloc (Below.refl w11.heap.size w11) (.cells #[.int .i64 h1,.int .i64 h2] 25 (0,0))
     have n_ := aZ_ (Kd.Heap.C (Kd.heap_int .u8) hb.block HR.out)
     clear HR
     have HR := n_
     clear n_
     have n_ := aZ_ (below_step HB.out hb)
     clear HB
     have HB := n_
     clear n_
     have n_ := aZ_ (blk_below BG.out hb)
     clear BG
     have BG := n_
     clear n_
     clear hb
     obtain ⟨gh,hgh_⟩ : ∃ gh,gh = w11.heap.size := ⟨_,rfl⟩
     rw [← hgh_] at BH ⊢
     clear hgh_
     generalize w11.alloc (.cells #[.int .i64 h1,.int .i64 h2] 25 (0,0)) = w12 at HR HB BG BH ⊢
     have hc_BG_0 : w12.cell? ⟨gg,0,none⟩ = some (.int .i64 g1) := (blk_cell BG.out 0).trans rfl
     have hc_BG_1 : w12.cell? ⟨gg,1,none⟩ = some (.int .i64 g2) := (blk_cell BG.out 1).trans rfl
     have hc_BH_0 : w12.cell? ⟨gh,0,none⟩ = some (.int .i64 h1) := (blk_cell BH.out 0).trans rfl
     have hc_BH_1 : w12.cell? ⟨gh,1,none⟩ = some (.int .i64 h2) := (blk_cell BH.out 1).trans rfl
     have C0 := aZ_ hc_BG_0
     have C1 := aZ_ hc_BG_1
     have C2 := aZ_ hc_BH_0
     have C3 := aZ_ hc_BH_1
     clear HR BG BH hc_BG_0 hc_BG_1 hc_BH_0 hc_BH_1
     have hyy : (y == y) = true := beq_self_eq_true y
     have hzz : (z == z) = true := beq_self_eq_true z
     have hb := below_drew (Below.refl w12.heap.size w12)
     have n_ : Aside0 (w12.drew.cell? ⟨gg,0,none⟩ = some (.int .i64 g1)) := ⟨pw_cell_below hb C0.out⟩
     clear C0
     have C0 := n_
     clear n_
     have n_ : Aside0 (w12.drew.cell? ⟨gg,1,none⟩ = some (.int .i64 g2)) := ⟨pw_cell_below hb C1.out⟩
     clear C1
     have C1 := n_
     clear n_
     have n_ : Aside0 (w12.drew.cell? ⟨gh,0,none⟩ = some (.int .i64 h1)) := ⟨pw_cell_below hb C2.out⟩
     clear C2
     have C2 := n_
     clear n_
     have n_ : Aside0 (w12.drew.cell? ⟨gh,1,none⟩ = some (.int .i64 h2)) := ⟨pw_cell_below hb C3.out⟩
     clear C3
     have C3 := n_
     clear n_
     have n_ := aZ_ (below_step HB.out hb)
     clear HB
     have HB := n_
     clear n_
     clear hb
     refine start_ (n := 17) (S := (fun w_ => w_.cell? ⟨gg,0,none⟩ = some (.int .i64 g1) ∧ w_.cell? ⟨gg,1,none⟩ = some (.int .i64 g2) ∧ w_.cell? ⟨gh,0,none⟩ = some (.int .i64 h1) ∧ w_.cell? ⟨gh,1,none⟩ = some (.int .i64 h2))) (ds := []) #[false,false,false,false,false,false,false,false,false,false,false,false,false,false,false,false,false] T12_ rfl rfl ⟨C0.out,C1.out,C2.out,C3.out⟩ (fun hHeld => ?_)
     refine with_tabW laws_FnPower.tab32 laws_FnPower.bits32 (fun HT_ HW_ => ?_)
     generalize w12.drew = W0_ at C0 C1 C2 C3 HB hHeld ⊢
     refine tZ4_ 0 (some 239) #[true,false,false,false,false,false,false,false,false,false,false,false,false,false,false,false,false] hHeld ?_
     refine pZ_ 1 (some 240) #[true,true,false,false,false,false,false,false,false,false,false,false,false,false,false,false,false] ?_
     refine pZ_ 2 (some 241) #[true,true,true,false,false,false,false,false,false,false,false,false,false,false,false,false,false] ?_
     refine tZ4_ 4 (some 243) #[true,true,true,false,true,false,false,false,false,false,false,false,false,false,false,false,false] hHeld ?_
     refine pZ_ 5 (some 244) #[true,true,true,false,true,true,false,false,false,false,false,false,false,false,false,false,false] ?_
     refine pZ_ 6 (some 245) #[true,true,true,false,true,true,true,false,false,false,false,false,false,false,false,false,false] ?_
     refine one_ (i := 3) (N := some 242) #[true,true,true,true,true,true,true,false,false,false,false,false,false,false,false,false,false] rfl rfl (one_of HT_.out T12_) T35_ (fun K hK => ?_)
     refine gZ_ Try.func22 #[.agg #[.int .i64 g1,.int .i64 g2],.int .i64 i,.int .i64 j] ?_
     with_reducible refine (impl_DesirabilityOf.calls k g1 g2 i j y _ HG.out.de).mono ?_
     rintro e W1_ ⟨rfl,hb⟩
     refine ⟨_,rfl,?_⟩
     have n_ : Aside0 (W1_.cell? ⟨gg,0,none⟩ = some (.int .i64 g1)) := ⟨pw_cell_below hb C0.out⟩
     clear C0
     have C0 := n_
     clear n_
     have n_ : Aside0 (W1_.cell? ⟨gg,1,none⟩ = some (.int .i64 g2)) := ⟨pw_cell_below hb C1.out⟩
     clear C1
     have C1 := n_
     clear n_
     have n_ : Aside0 (W1_.cell? ⟨gh,0,none⟩ = some (.int .i64 h1)) := ⟨pw_cell_below hb C2.out⟩
     clear C2
     have C2 := n_
     clear n_
     have n_ : Aside0 (W1_.cell? ⟨gh,1,none⟩ = some (.int .i64 h2)) := ⟨pw_cell_below hb C3.out⟩
     clear C3
     have C3 := n_
     clear n_
     have n_ := aZ_ (below_step HB.out hb)
     clear HB
     have HB := n_
     clear n_
     clear hb
     refine hK.out _ _ ⟨C0.out,C1.out,C2.out,C3.out⟩ (fun hHeld => ?_)
     clear hK K
     refine norm_ (a' := ?_) ?_ ?_
     rotate_left
     ·show Act.put _ (some 242) _ = _
      simp only [Act.put,List.setIfInBounds_toArray,List.set_cons_zero,List.set_cons_succ,i64_w,i32_w]
      rfl
     refine one_ (i := 7) (N := some 246) #[true,true,true,true,true,true,true,true,false,false,false,false,false,false,false,false,false] rfl rfl (one_of HT_.out T12_) T35_ (fun K hK => ?_)
     refine gZ_ Try.func26 #[.agg #[.int .i64 g1,.int .i64 g2],.int .i64 i,.int .i64 j] ?_
     with_reducible refine (spec_DesirabilityOf.calls k g1 g2 i j y _ HG.out.de2).mono ?_
     rintro e W2_ ⟨rfl,hb⟩
     refine ⟨_,rfl,?_⟩
     have n_ : Aside0 (W2_.cell? ⟨gg,0,none⟩ = some (.int .i64 g1)) := ⟨pw_cell_below hb C0.out⟩
     clear C0
     have C0 := n_
     clear n_
     have n_ : Aside0 (W2_.cell? ⟨gg,1,none⟩ = some (.int .i64 g2)) := ⟨pw_cell_below hb C1.out⟩
     clear C1
     have C1 := n_
     clear n_
     have n_ : Aside0 (W2_.cell? ⟨gh,0,none⟩ = some (.int .i64 h1)) := ⟨pw_cell_below hb C2.out⟩
     clear C2
     have C2 := n_
     clear n_
     have n_ : Aside0 (W2_.cell? ⟨gh,1,none⟩ = some (.int .i64 h2)) := ⟨pw_cell_below hb C3.out⟩
     clear C3
     have C3 := n_
     clear n_
     have n_ := aZ_ (below_step HB.out hb)
     clear HB
     have HB := n_
     clear n_
     clear hb
     refine hK.out _ _ ⟨C0.out,C1.out,C2.out,C3.out⟩ (fun hHeld => ?_)
     clear hK K
     refine norm_ (a' := ?_) ?_ ?_
     rotate_left
     ·show Act.put _ (some 246) _ = _
      simp only [Act.put,List.setIfInBounds_toArray,List.set_cons_zero,List.set_cons_succ,i64_w,i32_w]
      rfl
     refine pZ_ 8 (some 247) #[true,true,true,true,true,true,true,true,true,false,false,false,false,false,false,false,false] ?_
     refine pZ_ 9 (some 248) #[true,true,true,true,true,true,true,true,true,true,false,false,false,false,false,false,false] ?_
     refine tZ4_ 10 (some 249) #[true,true,true,true,true,true,true,true,true,true,true,false,false,false,false,false,false] hHeld ?_
     refine tZ4_ 12 (some 251) #[true,true,true,true,true,true,true,true,true,true,true,false,true,false,false,false,false] hHeld ?_
     refine one_ (i := 11) (N := some 250) #[true,true,true,true,true,true,true,true,true,true,true,true,true,false,false,false,false] rfl rfl (one_of HT_.out T12_) T35_ (fun K hK => ?_)
     refine gZ_ Try.func17 #[.agg #[.int .i64 h1,.int .i64 h2]] ?_
     with_reducible refine (impl_IsProperGame.calls k h1 h2 z _ HG.out.ph).mono ?_
     rintro e W3_ ⟨rfl,hb⟩
     refine ⟨_,rfl,?_⟩
     have n_ : Aside0 (W3_.cell? ⟨gg,0,none⟩ = some (.int .i64 g1)) := ⟨pw_cell_below hb C0.out⟩
     clear C0
     have C0 := n_
     clear n_
     have n_ : Aside0 (W3_.cell? ⟨gg,1,none⟩ = some (.int .i64 g2)) := ⟨pw_cell_below hb C1.out⟩
     clear C1
     have C1 := n_
     clear n_
     have n_ : Aside0 (W3_.cell? ⟨gh,0,none⟩ = some (.int .i64 h1)) := ⟨pw_cell_below hb C2.out⟩
     clear C2
     have C2 := n_
     clear n_
     have n_ : Aside0 (W3_.cell? ⟨gh,1,none⟩ = some (.int .i64 h2)) := ⟨pw_cell_below hb C3.out⟩
     clear C3
     have C3 := n_
     clear n_
     have n_ := aZ_ (below_step HB.out hb)
     clear HB
     have HB := n_
     clear n_
     clear hb
     refine hK.out _ _ ⟨C0.out,C1.out,C2.out,C3.out⟩ (fun hHeld => ?_)
     clear hK K
     refine norm_ (a' := ?_) ?_ ?_
     rotate_left
     ·show Act.put _ (some 250) _ = _
      simp only [Act.put,List.setIfInBounds_toArray,List.set_cons_zero,List.set_cons_succ,i64_w,i32_w]
      rfl
     refine one_ (i := 13) (N := some 252) #[true,true,true,true,true,true,true,true,true,true,true,true,true,true,false,false,false] rfl rfl (one_of HT_.out T12_) T35_ (fun K hK => ?_)
     refine gZ_ Try.func18 #[.agg #[.int .i64 h1,.int .i64 h2]] ?_
     with_reducible refine (spec_IsProperGame.calls k h1 h2 z _ HG.out.ph2).mono ?_
     rintro e W4_ ⟨rfl,hb⟩
     refine ⟨_,rfl,?_⟩
     have n_ : Aside0 (W4_.cell? ⟨gg,0,none⟩ = some (.int .i64 g1)) := ⟨pw_cell_below hb C0.out⟩
     clear C0
     have C0 := n_
     clear n_
     have n_ : Aside0 (W4_.cell? ⟨gg,1,none⟩ = some (.int .i64 g2)) := ⟨pw_cell_below hb C1.out⟩
     clear C1
     have C1 := n_
     clear n_
     have n_ : Aside0 (W4_.cell? ⟨gh,0,none⟩ = some (.int .i64 h1)) := ⟨pw_cell_below hb C2.out⟩
     clear C2
     have C2 := n_
     clear n_
     have n_ : Aside0 (W4_.cell? ⟨gh,1,none⟩ = some (.int .i64 h2)) := ⟨pw_cell_below hb C3.out⟩
     clear C3
     have C3 := n_
     clear n_
     have n_ := aZ_ (below_step HB.out hb)
     clear HB
     have HB := n_
     clear n_
     clear hb
     refine hK.out _ _ ⟨C0.out,C1.out,C2.out,C3.out⟩ (fun hHeld => ?_)
     clear hK K
     refine norm_ (a' := ?_) ?_ ?_
     rotate_left
     ·show Act.put _ (some 252) _ = _
      simp only [Act.put,List.setIfInBounds_toArray,List.set_cons_zero,List.set_cons_succ,i64_w,i32_w]
      rfl
     refine pZ_ 14 (some 253) #[true,true,true,true,true,true,true,true,true,true,true,true,true,true,true,false,false] ?_
     refine pZ_ 15 (some 254) #[true,true,true,true,true,true,true,true,true,true,true,true,true,true,true,true,false] ?_
     refine pZ_ 16 (some 2) #[true,true,true,true,true,true,true,true,true,true,true,true,true,true,true,true,true] ?_
     refine done_ (done_of HT_.out T12_) ?_
     clear C0 C1 C2 C3 hHeld HT_ HW_
     go_wp2_with (fail)
     go_ret
     exact ⟨rfl,HB.out⟩
 next => cases h
end Go.Proofs.Ytmmdcbdchifniaa.F
