/- Walks of Go functions and lemmas on what they compute, for the row of FnTables (a part of several): each call ends as the Lean function of its name tells; the conditions are those of each theorem. -/
import Derived.Test.YtgojehaneegaeaaM1FnTables
import Derived.Test.YtgojehaneegaeaaM2FnTables
import Derived.Test.YtgojehaneegaeaaM3FnTables
import Derived.Test.YtgojehaneegaeaaM4FnTables
import Derived.Test.YtgojehaneegaeaaM6FnTables
import Derived.Test.YtgojehaneegaeaaM7FnTables
import Derived.Test.YtgojehaneegaeaaM8FnTables
import Derived.Test.YtgojehaneegaeaaM9FnTables
import Derived.Test.YtgojehaneegaeaaM10FnTables
import Derived.Test.YtgojehaneegaeaaM11FnTables
namespace Go.Proofs.Ytgojehaneegaeaa.F
open Go.RowKit Go.Proofs.YtgojehaneegaeaaW.PrintWords Go.Proofs.YtgojehaneegaeaaW.PrintLast Go.Proofs.YtgojehaneegaeaaW.PrintMore
attribute [local go_sem] max2_int min2_int max_two min_two max_three min_three max_four min_four 
set_option linter.unusedVariables false
set_option linter.unusedSimpArgs false
structure TabGo (k : Nat) (code : List Int) (f1 f2 g1 g2 a1 a2 o1 o2 e1 e2 : Int) (s : Bool) (st : ByteArray) (k1 k2 : Int) (rd : Bool) (t : ByteArray) (x1 x2 : Int) (x3 : Bool) (v1 v2 vx y1 y2 z1 z2 : Int) (z3 : Bool) (vb vc d1 d2 : Int) (d3 : Bool) (c1 c2 h1 h2 h3 h4 xv : Int) (xc : Bool) (xd xo : Int) : Prop where
 small : laws_big.f code = some false
 draw : spec_DrawAndTables.f k code = some (f1,f2,g1,g2)
 and1 : impl_AndTables.f f1 f2 g1 g2 = some (a1,a2,s)
 and2 : spec_AndTables.f f1 f2 g1 g2 = some (a1,a2,s)
 or1 : impl_OrTables.f f1 f2 g1 g2 = some (o1,o2,s)
 or2 : spec_OrTables.f f1 f2 g1 g2 = some (o1,o2,s)
 xor1 : impl_XorTables.f f1 f2 g1 g2 = some (e1,e2,s)
 xor2 : spec_XorTables.f f1 f2 g1 g2 = some (e1,e2,s)
 alg : s = true → ∃ n1 n2 m1 m2 p1 p2 q1 q2 q3 q4 q5 : Int,impl_NotTable.f f1 f2 = some (n1,n2,true) ∧ impl_NotTable.f g1 g2 = some (m1,m2,true) ∧ impl_OrTables.f n1 n2 m1 m2 = some (p1,p2,true) ∧ impl_NotTable.f p1 p2 = some (a1,a2,true) ∧ impl_XorTables.f e1 e2 g1 g2 = some (f1,f2,true) ∧ impl_CountOnes.f f1 f2 = some q1 ∧ impl_CountOnes.f g1 g2 = some q2 ∧ impl_CountOnes.f a1 a2 = some q3 ∧ impl_CountOnes.f o1 o2 = some q4 ∧ impl_CountOnes.f e1 e2 = some q5 ∧ impl_DistanceBetween.f f1 f2 g1 g2 = some q5 ∧ wrap64 (q1 + q2) = wrap64 (q3 + q4) ∧ wrap64 (q4 - q3) = q5
 fm : impl_FormatTable.f k f1 f2 = some st
 ps : impl_ParseTable.f k st = some (k1,k2,rd)
 fm2 : spec_FormatTable.f k f1 f2 = some st
 it : spec_IsTable.f f1 f2 = some rd
 it2 : impl_IsTable.f f1 f2 = some rd
 back : rd = true → k1 = f1 ∧ k2 = f2
 dp : spec_DrawParseTable.f k code = some t
 pt : impl_ParseTable.f k t = some (x1,x2,x3)
 pt2 : spec_ParseTable.f k t = some (x1,x2,x3)
 dv : spec_DrawValueAt.f k code = some (v1,v2,vx)
 dn : spec_DrawNotTable.f k code = some (y1,y2)
 nt : impl_NotTable.f y1 y2 = some (z1,z2,z3)
 nt2 : spec_NotTable.f y1 y2 = some (z1,z2,z3)
 dva : spec_DrawVariableTable.f k code = some (vb,vc)
 vt : impl_VariableTable.f vb vc = some (d1,d2,d3)
 vt2 : spec_VariableTable.f k vb vc = some (d1,d2,d3)
 dc : spec_DrawIsConstant.f k code = some (c1,c2)
 dd : spec_DrawDistanceBetween.f k code = some (h1,h2,h3,h4)
 va : impl_ValueAt.f v1 v2 vx = some xv
 va2 : spec_ValueAt.f v1 v2 vx = some xv
 ic : impl_IsConstant.f c1 c2 = some xc
 ic2 : spec_IsConstant.f c1 c2 = some xc
 di : impl_DistanceBetween.f h1 h2 h3 h4 = some xd
 di2 : spec_DistanceBetween.f k h1 h2 h3 h4 = some xd
 co : impl_CountOnes.f c1 c2 = some xo
 co2 : spec_CountOnes.f k c1 c2 = some xo
def laws_FnTables.T18 : Bool × List (List Nat × List Nat) := (true,[([],[]),([],[]),([0,1],[0,1]),([2],[2]),([3],[3]),([3],[3]),([4,5,3],[3,4,5]),([3,6],[3,6]),([7,3],[7]),([8],[8]),([9,8,8],[8,9]),([8],[8]),([11,10,8],[8,11]),([10,12,8],[8,10,12]),([8],[8]),([14,12,8],[8,14]),([8],[8]),([16,15,8],[8,16]),([15,17,8],[8,15,17]),([13,18,8],[8,13,18]),([8,19],[8,19]),([20,17],[20]),([21],[21]),([22,21,21],[21,22]),([21],[21]),([24,23,21],[21,24]),([21],[21]),([26,25,21],[21,26]),([25,27,21],[21,25,27]),([23,28,21],[21,23,28]),([21,29],[21,29]),([30,27],[30]),([31],[31]),([31],[31]),([32,33,31,31],[31,32,33]),([31],[31]),([35,34,31],[31,35]),([34,36,31],[31,34,36]),([31,37],[31,37])])
def laws_FnTables.B18 : List Nat := [0,0,3,7,15,15,63,127,255,511,1023,511,4095,8191,511,24575,511,122879,253951,524287,1048575,2097151,4194303,8388607,4194303,33554431,4194303,134217727,268435455,536870911,1073741823,2147483647,4294967295,4294967295,17179869183,4294967295,68719476735,137438953471,274877906943]
theorem laws_FnTables.tab18 : rtab .any (opsOf Try.f3 18) = laws_FnTables.T18 := by kernel_rfl
theorem laws_FnTables.bits18 : waitsOk laws_FnTables.T18.2 laws_FnTables.B18 = true := by kernel_rfl
def laws_FnTables.T36 : Bool × List (List Nat × List Nat) := (true,[([],[]),([],[]),([0,1],[0,1]),([2],[2]),([3],[3]),([3],[3]),([4,5,3],[3,4,5]),([3,6],[3,6]),([7,3],[7]),([8],[8]),([8],[8]),([9,10,8,8],[8,9,10]),([8],[8]),([8],[8]),([12,13,11,8],[8,12,13]),([11,14,8],[8,11,14]),([8,15],[8,15]),([16,14],[16]),([17],[17]),([17],[17]),([18,19,17],[17,18,19]),([17,20],[17,20]),([21,17],[21]),([22],[22]),([22],[22]),([23,24,22],[22,23,24]),([22,25],[22,25]),([26,22],[26]),([27],[27]),([27],[27]),([28,29,27],[27,28,29]),([27,30],[27,30]),([31,27],[31]),([32],[32]),([32],[32]),([33,34,32],[32,33,34]),([32,35],[32,35]),([36,32],[36]),([37],[37]),([38,37,37],[37,38]),([37],[37]),([40,39,37],[37,40]),([39,41,37],[37,39,41]),([37,42],[37,42]),([43,41],[43]),([44],[44]),([44],[44]),([45,46,44,44],[44,45,46]),([44],[44]),([44],[44]),([48,49,47,44],[44,48,49]),([47,50,44],[44,47,50]),([44,51],[44,51]),([52,50],[52]),([53],[53]),([54,53,53],[53,54]),([53],[53]),([56,55,53],[53,56]),([55,57,53],[53,55,57]),([53,58],[53,58]),([59,57,0,1,2,3,4,5,6,7,8,9,10,11,12,13,14,15,16,17,18,19,20,21,22,23,24,25,26,27,28,29,30,31,32,33,34,35,36,37,38,39,40,41,42,43,44,45,46,47,48,49,50,51,52,53,54,55,56,57,58,59],[59])])
def laws_FnTables.B36 : List Nat := [0,0,3,7,15,15,63,127,255,511,511,2047,511,511,16383,32767,65535,131071,262143,262143,1048575,2097151,4194303,8388607,8388607,33554431,67108863,134217727,268435455,268435455,1073741823,2147483647,4294967295,8589934591,8589934591,34359738367,68719476735,137438953471,274877906943,549755813887,274877906943,2199023255551,4398046511103,8796093022207,17592186044415,35184372088831,35184372088831,140737488355327,35184372088831,35184372088831,1125899906842623,2251799813685247,4503599627370495,9007199254740991,18014398509481983,36028797018963967,18014398509481983,144115188075855871,288230376151711743,576460752303423487,1152921504606846975]
theorem laws_FnTables.tab36 : rtab .any (opsOf Try.f3 36) = laws_FnTables.T36 := by kernel_rfl
theorem laws_FnTables.bits36 : waitsOk laws_FnTables.T36.2 laws_FnTables.B36 = true := by kernel_rfl
open Classical in
noncomputable def laws_FnTables.f (k : Nat) (code : List Int) : Option Bool :=
 if laws_big.f code = some true ∨ ∃ f1 f2 g1 g2 a1 a2 o1 o2 e1 e2 s st k1 k2 rd t x1 x2 x3 v1 v2 vx y1 y2 z1 z2 z3 vb vc d1 d2 d3 c1 c2 h1 h2 h3 h4 xv xc xd xo,TabGo k code f1 f2 g1 g2 a1 a2 o1 o2 e1 e2 s st k1 k2 rd t x1 x2 x3 v1 v2 vx y1 y2 z1 z2 z3 vb vc d1 d2 d3 c1 c2 h1 h2 h3 h4 xv xc xd xo then some true else none
set_option maxHeartbeats 8000000 in
set_option maxRecDepth 100000 in
theorem laws_FnTables.calls (k : Nat) (A0 : Option Addr) (c0 : Nat) (l0 : List Int) (r : Bool) (w : World) (hr0 : Kd.C (Kd.int .u8) w A0 l0.length l0) (hc0 : l0.length ≤ c0) (h : laws_FnTables.f k l0 = some r) :
  Calls Try.prog 3 #[.slice A0 l0.length c0] w fun e w' => e = .returned (.bool r) ∧ Below w.heap.size w w' := by
 have hut := Try.underlying25
 unfold laws_FnTables.f at h
 split at h
 next hgo =>
  cases h
  rcases hgo with hbig | ⟨f1,f2,g1,g2,a1,a2,o1,o2,e1,e2,s,st,k1,k2,rd,t,x1,x2,x3,v1,v2,vx,y1,y2,z1,z2,z3,vb,vc,d1,d2,d3,c1,c2,h1,h2,h3,h4,xv,xc,xd,xo,G⟩
  ·have HB := aZ_ hbig
   clear hbig
   go_enter Try.func3,Try.ntmps3
   go_wp2_with (go_at_call 4;refine (laws_big.calls A0 c0 l0 true _ hr0 hc0 HB.out).mono ?_;rintro e w1 ⟨rfl,⟨nd,rfl⟩⟩)
   go_ret
   exact ⟨rfl,pw_below_drewN (Below.refl _ _) _⟩
  ·have HG := aZ_ G
   have HR := aZ_ hr0
   have HC0 := aZ_ hc0
   have HB := aZ_ (Below.refl w.heap.size w)
   clear G hr0 hc0
   go_enter Try.func3,Try.ntmps3
   go_upto_region 3 with (go_at_call 4;refine (laws_big.calls A0 c0 l0 false _ HR.out HC0.out HG.out.small).mono ?_;rintro e w1 ⟨rfl,hd⟩;have hb := hd.below;clear hd;have n_ := aZ_ (Kd.Heap.C (Kd.heap_int .u8) hb.block HR.out);clear HR;have HR := n_;clear n_;have n_ := aZ_ (below_step HB.out hb);clear HB;have HB := n_;clear n_;clear hb )
   go_upto_region 4 with (go_at_call 5;refine (spec_DrawAndTables.calls k A0 c0 l0 f1 f2 g1 g2 _ HR.out HC0.out HG.out.draw).mono ?_;rintro e w2 ⟨rfl,hb⟩;have n_ := aZ_ (Kd.Heap.C (Kd.heap_int .u8) hb.block HR.out);clear HR;have HR := n_;clear n_;have n_ := aZ_ (below_step HB.out hb);clear HB;have HB := n_;clear n_;clear hb )
   have BF := aZ_ (blk_alloc (blk_new w2 (.cells #[.int .i64 f1,.int .i64 f2] 25 (0,0))) (.cells #[.int .i64 g1,.int .i64 g2] 25 (0,0)))
   have BG : Aside0 (((w2.alloc (.cells #[.int .i64 f1,.int .i64 f2] 25 (0,0))).alloc (.cells #[.int .i64 g1,.int .i64 g2] 25 (0,0))).heap[w2.heap.size + 1]? = some (.cells #[.int .i64 g1,.int .i64 g2] 25 (0,0))) := ⟨by simpa using blk_new (w2.alloc (.cells #[.int .i64 f1,.int .i64 f2] 25 (0,0))) (.cells #[.int .i64 g1,.int .i64 g2] 25 (0,0))⟩
   have hb := below_alloc (below_alloc (Below.refl w2.heap.size w2) (.cells #[.int .i64 f1,.int .i64 f2] 25 (0,0))) (.cells #[.int .i64 g1,.int .i64 g2] 25 (0,0))
   have n_ := aZ_ (Kd.Heap.C (Kd.heap_int .u8) hb.block HR.out)
   clear HR
   have HR := n_
   clear n_
   have n_ := aZ_ (below_step HB.out hb)
   clear HB
   have HB := n_
   clear n_
   clear hb
   obtain ⟨gg,h2_⟩ : ∃ gg,gg = w2.heap.size + 1 := ⟨_,rfl⟩
   rw [← h2_] at BG ⊢
   clear h2_
   obtain ⟨gf,h1_⟩ : ∃ gf,gf = w2.heap.size := ⟨_,rfl⟩
   rw [← h1_] at BF ⊢
   clear h1_
   generalize (w2.alloc (.cells #[.int .i64 f1,.int .i64 f2] 25 (0,0))).alloc (.cells #[.int .i64 g1,.int .i64 g2] 25 (0,0)) = w3 at HR HB BF BG ⊢
   have hc_BF_0 : w3.cell? ⟨gf,0,none⟩ = some (.int .i64 f1) := (blk_cell BF.out 0).trans rfl
   have hc_BF_1 : w3.cell? ⟨gf,1,none⟩ = some (.int .i64 f2) := (blk_cell BF.out 1).trans rfl
   have hc_BG_0 : w3.cell? ⟨gg,0,none⟩ = some (.int .i64 g1) := (blk_cell BG.out 0).trans rfl
   have hc_BG_1 : w3.cell? ⟨gg,1,none⟩ = some (.int .i64 g2) := (blk_cell BG.out 1).trans rfl
   go_upto_region 5 with (go_at_call 6;refine (impl_AndTables.calls f1 f2 g1 g2 a1 a2 s _ HG.out.and1).mono ?_;rintro e w4 ⟨rfl,hb⟩;have n_ := aZ_ (Kd.Heap.C (Kd.heap_int .u8) hb.block HR.out);clear HR;have HR := n_;clear n_;have n_ := aZ_ (below_step HB.out hb);clear HB;have HB := n_;clear n_;have n_ := aZ_ (blk_below BF.out hb);clear BF;have BF := n_;clear n_;have n_ := aZ_ (blk_below BG.out hb);clear BG;have BG := n_;clear n_;clear hb ;clear hc_BF_0 hc_BF_1 hc_BG_0 hc_BG_1;have hc_BF_0 : w4.cell? ⟨gf,0,none⟩ = some (.int .i64 f1) := (blk_cell BF.out 0).trans rfl;have hc_BF_1 : w4.cell? ⟨gf,1,none⟩ = some (.int .i64 f2) := (blk_cell BF.out 1).trans rfl;have hc_BG_0 : w4.cell? ⟨gg,0,none⟩ = some (.int .i64 g1) := (blk_cell BG.out 0).trans rfl;have hc_BG_1 : w4.cell? ⟨gg,1,none⟩ = some (.int .i64 g2) := (blk_cell BG.out 1).trans rfl)
   clear hc_BF_0 hc_BF_1 hc_BG_0 hc_BG_1
   have BA := aZ_ (blk_new w4 (.cells #[.int .i64 a1,.int .i64 a2] 25 (0,0)))
   have hb := below_alloc (Below.refl w4.heap.size w4) (.cells #[.int .i64 a1,.int .i64 a2] 25 (0,0))
   have n_ := aZ_ (Kd.Heap.C (Kd.heap_int .u8) hb.block HR.out)
   clear HR
   have HR := n_
   clear n_
   have n_ := aZ_ (below_step HB.out hb)
   clear HB
   have HB := n_
   clear n_
   have n_ := aZ_ (blk_below BF.out hb)
   clear BF
   have BF := n_
   clear n_
   have n_ := aZ_ (blk_below BG.out hb)
   clear BG
   have BG := n_
   clear n_
   clear hb
   obtain ⟨ga_,hga__⟩ : ∃ ga_,ga_ = w4.heap.size := ⟨_,rfl⟩
   rw [← hga__] at BA ⊢
   clear hga__
   generalize w4.alloc (.cells #[.int .i64 a1,.int .i64 a2] 25 (0,0)) = w5 at HR HB BF BG BA ⊢
   have hc_BF_0 : w5.cell? ⟨gf,0,none⟩ = some (.int .i64 f1) := (blk_cell BF.out 0).trans rfl
   have hc_BF_1 : w5.cell? ⟨gf,1,none⟩ = some (.int .i64 f2) := (blk_cell BF.out 1).trans rfl
   have hc_BG_0 : w5.cell? ⟨gg,0,none⟩ = some (.int .i64 g1) := (blk_cell BG.out 0).trans rfl
   have hc_BG_1 : w5.cell? ⟨gg,1,none⟩ = some (.int .i64 g2) := (blk_cell BG.out 1).trans rfl
   have hc_BA_0 : w5.cell? ⟨ga_,0,none⟩ = some (.int .i64 a1) := (blk_cell BA.out 0).trans rfl
   have hc_BA_1 : w5.cell? ⟨ga_,1,none⟩ = some (.int .i64 a2) := (blk_cell BA.out 1).trans rfl
   go_upto_region 6 with (go_at_call 7;refine (spec_AndTables.calls f1 f2 g1 g2 a1 a2 s _ HG.out.and2).mono ?_;rintro e w6 ⟨rfl,hb⟩;have n_ := aZ_ (Kd.Heap.C (Kd.heap_int .u8) hb.block HR.out);clear HR;have HR := n_;clear n_;have n_ := aZ_ (below_step HB.out hb);clear HB;have HB := n_;clear n_;have n_ := aZ_ (blk_below BF.out hb);clear BF;have BF := n_;clear n_;have n_ := aZ_ (blk_below BG.out hb);clear BG;have BG := n_;clear n_;have n_ := aZ_ (blk_below BA.out hb);clear BA;have BA := n_;clear n_;clear hb ;clear hc_BF_0 hc_BF_1 hc_BG_0 hc_BG_1 hc_BA_0 hc_BA_1;have hc_BF_0 : w6.cell? ⟨gf,0,none⟩ = some (.int .i64 f1) := (blk_cell BF.out 0).trans rfl;have hc_BF_1 : w6.cell? ⟨gf,1,none⟩ = some (.int .i64 f2) := (blk_cell BF.out 1).trans rfl;have hc_BG_0 : w6.cell? ⟨gg,0,none⟩ = some (.int .i64 g1) := (blk_cell BG.out 0).trans rfl;have hc_BG_1 : w6.cell? ⟨gg,1,none⟩ = some (.int .i64 g2) := (blk_cell BG.out 1).trans rfl;have hc_BA_0 : w6.cell? ⟨ga_,0,none⟩ = some (.int .i64 a1) := (blk_cell BA.out 0).trans rfl;have hc_BA_1 : w6.cell? ⟨ga_,1,none⟩ = some (.int .i64 a2) := (blk_cell BA.out 1).trans rfl)
   clear hc_BF_0 hc_BF_1 hc_BG_0 hc_BG_1 hc_BA_0 hc_BA_1
   have BB := aZ_ (blk_new w6 (.cells #[.int .i64 a1,.int .i64 a2] 25 (0,0)))
   have hb := below_alloc (Below.refl w6.heap.size w6) (.cells #[.int .i64 a1,.int .i64 a2] 25 (0,0))
   have n_ := aZ_ (Kd.Heap.C (Kd.heap_int .u8) hb.block HR.out)
   clear HR
   have HR := n_
   clear n_
   have n_ := aZ_ (below_step HB.out hb)
   clear HB
   have HB := n_
   clear n_
   have n_ := aZ_ (blk_below BF.out hb)
   clear BF
   have BF := n_
   clear n_
   have n_ := aZ_ (blk_below BG.out hb)
   clear BG
   have BG := n_
   clear n_
   have n_ := aZ_ (blk_below BA.out hb)
   clear BA
   have BA := n_
   clear n_
   clear hb
   obtain ⟨gb_,hgb__⟩ : ∃ gb_,gb_ = w6.heap.size := ⟨_,rfl⟩
   rw [← hgb__] at BB ⊢
   clear hgb__
   generalize w6.alloc (.cells #[.int .i64 a1,.int .i64 a2] 25 (0,0)) = w7 at HR HB BF BG BA BB ⊢
   have hc_BF_0 : w7.cell? ⟨gf,0,none⟩ = some (.int .i64 f1) := (blk_cell BF.out 0).trans rfl
   have hc_BF_1 : w7.cell? ⟨gf,1,none⟩ = some (.int .i64 f2) := (blk_cell BF.out 1).trans rfl
   have hc_BG_0 : w7.cell? ⟨gg,0,none⟩ = some (.int .i64 g1) := (blk_cell BG.out 0).trans rfl
   have hc_BG_1 : w7.cell? ⟨gg,1,none⟩ = some (.int .i64 g2) := (blk_cell BG.out 1).trans rfl
   have hc_BA_0 : w7.cell? ⟨ga_,0,none⟩ = some (.int .i64 a1) := (blk_cell BA.out 0).trans rfl
   have hc_BA_1 : w7.cell? ⟨ga_,1,none⟩ = some (.int .i64 a2) := (blk_cell BA.out 1).trans rfl
   have hc_BB_0 : w7.cell? ⟨gb_,0,none⟩ = some (.int .i64 a1) := (blk_cell BB.out 0).trans rfl
   have hc_BB_1 : w7.cell? ⟨gb_,1,none⟩ = some (.int .i64 a2) := (blk_cell BB.out 1).trans rfl
   go_upto_region 7 with (go_at_call 8;refine (impl_OrTables.calls f1 f2 g1 g2 o1 o2 s _ HG.out.or1).mono ?_;rintro e w8 ⟨rfl,hb⟩;have n_ := aZ_ (Kd.Heap.C (Kd.heap_int .u8) hb.block HR.out);clear HR;have HR := n_;clear n_;have n_ := aZ_ (below_step HB.out hb);clear HB;have HB := n_;clear n_;have n_ := aZ_ (blk_below BF.out hb);clear BF;have BF := n_;clear n_;have n_ := aZ_ (blk_below BG.out hb);clear BG;have BG := n_;clear n_;have n_ := aZ_ (blk_below BA.out hb);clear BA;have BA := n_;clear n_;have n_ := aZ_ (blk_below BB.out hb);clear BB;have BB := n_;clear n_;clear hb ;clear hc_BF_0 hc_BF_1 hc_BG_0 hc_BG_1 hc_BA_0 hc_BA_1 hc_BB_0 hc_BB_1;have hc_BF_0 : w8.cell? ⟨gf,0,none⟩ = some (.int .i64 f1) := (blk_cell BF.out 0).trans rfl;have hc_BF_1 : w8.cell? ⟨gf,1,none⟩ = some (.int .i64 f2) := (blk_cell BF.out 1).trans rfl;have hc_BG_0 : w8.cell? ⟨gg,0,none⟩ = some (.int .i64 g1) := (blk_cell BG.out 0).trans rfl;have hc_BG_1 : w8.cell? ⟨gg,1,none⟩ = some (.int .i64 g2) := (blk_cell BG.out 1).trans rfl;have hc_BA_0 : w8.cell? ⟨ga_,0,none⟩ = some (.int .i64 a1) := (blk_cell BA.out 0).trans rfl;have hc_BA_1 : w8.cell? ⟨ga_,1,none⟩ = some (.int .i64 a2) := (blk_cell BA.out 1).trans rfl;have hc_BB_0 : w8.cell? ⟨gb_,0,none⟩ = some (.int .i64 a1) := (blk_cell BB.out 0).trans rfl;have hc_BB_1 : w8.cell? ⟨gb_,1,none⟩ = some (.int .i64 a2) := (blk_cell BB.out 1).trans rfl)
   clear hc_BF_0 hc_BF_1 hc_BG_0 hc_BG_1 hc_BA_0 hc_BA_1 hc_BB_0 hc_BB_1
   have BC := aZ_ (blk_new w8 (.cells #[.int .i64 o1,.int .i64 o2] 25 (0,0)))
   have hb := below_alloc (Below.refl w8.heap.size w8) (.cells #[.int .i64 o1,.int .i64 o2] 25 (0,0))
   have n_ := aZ_ (Kd.Heap.C (Kd.heap_int .u8) hb.block HR.out)
   clear HR
   have HR := n_
   clear n_
   have n_ := aZ_ (below_step HB.out hb)
   clear HB
   have HB := n_
   clear n_
   have n_ := aZ_ (blk_below BF.out hb)
   clear BF
   have BF := n_
   clear n_
   have n_ := aZ_ (blk_below BG.out hb)
   clear BG
   have BG := n_
   clear n_
   have n_ := aZ_ (blk_below BA.out hb)
   clear BA
   have BA := n_
   clear n_
   have n_ := aZ_ (blk_below BB.out hb)
   clear BB
   have BB := n_
   clear n_
   clear hb
   obtain ⟨gc_,hgc__⟩ : ∃ gc_,gc_ = w8.heap.size := ⟨_,rfl⟩
   rw [← hgc__] at BC ⊢
   clear hgc__
   generalize w8.alloc (.cells #[.int .i64 o1,.int .i64 o2] 25 (0,0)) = w9 at HR HB BF BG BA BB BC ⊢
   have hc_BF_0 : w9.cell? ⟨gf,0,none⟩ = some (.int .i64 f1) := (blk_cell BF.out 0).trans rfl
   have hc_BF_1 : w9.cell? ⟨gf,1,none⟩ = some (.int .i64 f2) := (blk_cell BF.out 1).trans rfl
   have hc_BG_0 : w9.cell? ⟨gg,0,none⟩ = some (.int .i64 g1) := (blk_cell BG.out 0).trans rfl
   have hc_BG_1 : w9.cell? ⟨gg,1,none⟩ = some (.int .i64 g2) := (blk_cell BG.out 1).trans rfl
   have hc_BA_0 : w9.cell? ⟨ga_,0,none⟩ = some (.int .i64 a1) := (blk_cell BA.out 0).trans rfl
   have hc_BA_1 : w9.cell? ⟨ga_,1,none⟩ = some (.int .i64 a2) := (blk_cell BA.out 1).trans rfl
   have hc_BB_0 : w9.cell? ⟨gb_,0,none⟩ = some (.int .i64 a1) := (blk_cell BB.out 0).trans rfl
   have hc_BB_1 : w9.cell? ⟨gb_,1,none⟩ = some (.int .i64 a2) := (blk_cell BB.out 1).trans rfl
   have hc_BC_0 : w9.cell? ⟨gc_,0,none⟩ = some (.int .i64 o1) := (blk_cell BC.out 0).trans rfl
   have hc_BC_1 : w9.cell? ⟨gc_,1,none⟩ = some (.int .i64 o2) := (blk_cell BC.out 1).trans rfl
   go_upto_region 8 with (go_at_call 9;refine (spec_OrTables.calls f1 f2 g1 g2 o1 o2 s _ HG.out.or2).mono ?_;rintro e w10 ⟨rfl,hb⟩;have n_ := aZ_ (Kd.Heap.C (Kd.heap_int .u8) hb.block HR.out);clear HR;have HR := n_;clear n_;have n_ := aZ_ (below_step HB.out hb);clear HB;have HB := n_;clear n_;have n_ := aZ_ (blk_below BF.out hb);clear BF;have BF := n_;clear n_;have n_ := aZ_ (blk_below BG.out hb);clear BG;have BG := n_;clear n_;have n_ := aZ_ (blk_below BA.out hb);clear BA;have BA := n_;clear n_;have n_ := aZ_ (blk_below BB.out hb);clear BB;have BB := n_;clear n_;have n_ := aZ_ (blk_below BC.out hb);clear BC;have BC := n_;clear n_;clear hb ;clear hc_BF_0 hc_BF_1 hc_BG_0 hc_BG_1 hc_BA_0 hc_BA_1 hc_BB_0 hc_BB_1 hc_BC_0 hc_BC_1;have hc_BF_0 : w10.cell? ⟨gf,0,none⟩ = some (.int .i64 f1) := (blk_cell BF.out 0).trans rfl;have hc_BF_1 : w10.cell? ⟨gf,1,none⟩ = some (.int .i64 f2) := (blk_cell BF.out 1).trans rfl;have hc_BG_0 : w10.cell? ⟨gg,0,none⟩ = some (.int .i64 g1) := (blk_cell BG.out 0).trans rfl;have hc_BG_1 : w10.cell? ⟨gg,1,none⟩ = some (.int .i64 g2) := (blk_cell BG.out 1).trans rfl;have hc_BA_0 : w10.cell? ⟨ga_,0,none⟩ = some (.int .i64 a1) := (blk_cell BA.out 0).trans rfl;have hc_BA_1 : w10.cell? ⟨ga_,1,none⟩ = some (.int .i64 a2) := (blk_cell BA.out 1).trans rfl;have hc_BB_0 : w10.cell? ⟨gb_,0,none⟩ = some (.int .i64 a1) := (blk_cell BB.out 0).trans rfl;have hc_BB_1 : w10.cell? ⟨gb_,1,none⟩ = some (.int .i64 a2) := (blk_cell BB.out 1).trans rfl;have hc_BC_0 : w10.cell? ⟨gc_,0,none⟩ = some (.int .i64 o1) := (blk_cell BC.out 0).trans rfl;have hc_BC_1 : w10.cell? ⟨gc_,1,none⟩ = some (.int .i64 o2) := (blk_cell BC.out 1).trans rfl)
   clear hc_BF_0 hc_BF_1 hc_BG_0 hc_BG_1 hc_BA_0 hc_BA_1 hc_BB_0 hc_BB_1 hc_BC_0 hc_BC_1
   have BD := aZ_ (blk_new w10 (.cells #[.int .i64 o1,.int .i64 o2] 25 (0,0)))
   have hb := below_alloc (Below.refl w10.heap.size w10) (.cells #[.int .i64 o1,.int .i64 o2] 25 (0,0))
   have n_ := aZ_ (Kd.Heap.C (Kd.heap_int .u8) hb.block HR.out)
   clear HR
   have HR := n_
   clear n_
   have n_ := aZ_ (below_step HB.out hb)
   clear HB
   have HB := n_
   clear n_
   have n_ := aZ_ (blk_below BF.out hb)
   clear BF
   have BF := n_
   clear n_
   have n_ := aZ_ (blk_below BG.out hb)
   clear BG
   have BG := n_
   clear n_
   have n_ := aZ_ (blk_below BA.out hb)
   clear BA
   have BA := n_
   clear n_
   have n_ := aZ_ (blk_below BB.out hb)
   clear BB
   have BB := n_
   clear n_
   have n_ := aZ_ (blk_below BC.out hb)
   clear BC
   have BC := n_
   clear n_
   clear hb
   obtain ⟨gd_,hgd__⟩ : ∃ gd_,gd_ = w10.heap.size := ⟨_,rfl⟩
   rw [← hgd__] at BD ⊢
   clear hgd__
   generalize w10.alloc (.cells #[.int .i64 o1,.int .i64 o2] 25 (0,0)) = w11 at HR HB BF BG BA BB BC BD ⊢
   have hc_BF_0 : w11.cell? ⟨gf,0,none⟩ = some (.int .i64 f1) := (blk_cell BF.out 0).trans rfl
   have hc_BF_1 : w11.cell? ⟨gf,1,none⟩ = some (.int .i64 f2) := (blk_cell BF.out 1).trans rfl
   have hc_BG_0 : w11.cell? ⟨gg,0,none⟩ = some (.int .i64 g1) := (blk_cell BG.out 0).trans rfl
   have hc_BG_1 : w11.cell? ⟨gg,1,none⟩ = some (.int .i64 g2) := (blk_cell BG.out 1).trans rfl
   have hc_BA_0 : w11.cell? ⟨ga_,0,none⟩ = some (.int .i64 a1) := (blk_cell BA.out 0).trans rfl
   have hc_BA_1 : w11.cell? ⟨ga_,1,none⟩ = some (.int .i64 a2) := (blk_cell BA.out 1).trans rfl
   have hc_BB_0 : w11.cell? ⟨gb_,0,none⟩ = some (.int .i64 a1) := (blk_cell BB.out 0).trans rfl
   have hc_BB_1 : w11.cell? ⟨gb_,1,none⟩ = some (.int .i64 a2) := (blk_cell BB.out 1).trans rfl
   have hc_BC_0 : w11.cell? ⟨gc_,0,none⟩ = some (.int .i64 o1) := (blk_cell BC.out 0).trans rfl
   have hc_BC_1 : w11.cell? ⟨gc_,1,none⟩ = some (.int .i64 o2) := (blk_cell BC.out 1).trans rfl
   have hc_BD_0 : w11.cell? ⟨gd_,0,none⟩ = some (.int .i64 o1) := (blk_cell BD.out 0).trans rfl
   have hc_BD_1 : w11.cell? ⟨gd_,1,none⟩ = some (.int .i64 o2) := (blk_cell BD.out 1).trans rfl
   go_upto_region 9 with (go_at_call 10;refine (impl_XorTables.calls f1 f2 g1 g2 e1 e2 s _ HG.out.xor1).mono ?_;rintro e w12 ⟨rfl,hb⟩;have n_ := aZ_ (Kd.Heap.C (Kd.heap_int .u8) hb.block HR.out);clear HR;have HR := n_;clear n_;have n_ := aZ_ (below_step HB.out hb);clear HB;have HB := n_;clear n_;have n_ := aZ_ (blk_below BF.out hb);clear BF;have BF := n_;clear n_;have n_ := aZ_ (blk_below BG.out hb);clear BG;have BG := n_;clear n_;have n_ := aZ_ (blk_below BA.out hb);clear BA;have BA := n_;clear n_;have n_ := aZ_ (blk_below BB.out hb);clear BB;have BB := n_;clear n_;have n_ := aZ_ (blk_below BC.out hb);clear BC;have BC := n_;clear n_;have n_ := aZ_ (blk_below BD.out hb);clear BD;have BD := n_;clear n_;clear hb ;clear hc_BF_0 hc_BF_1 hc_BG_0 hc_BG_1 hc_BA_0 hc_BA_1 hc_BB_0 hc_BB_1 hc_BC_0 hc_BC_1 hc_BD_0 hc_BD_1;have hc_BF_0 : w12.cell? ⟨gf,0,none⟩ = some (.int .i64 f1) := (blk_cell BF.out 0).trans rfl;have hc_BF_1 : w12.cell? ⟨gf,1,none⟩ = some (.int .i64 f2) := (blk_cell BF.out 1).trans rfl;have hc_BG_0 : w12.cell? ⟨gg,0,none⟩ = some (.int .i64 g1) := (blk_cell BG.out 0).trans rfl;have hc_BG_1 : w12.cell? ⟨gg,1,none⟩ = some (.int .i64 g2) := (blk_cell BG.out 1).trans rfl;have hc_BA_0 : w12.cell? ⟨ga_,0,none⟩ = some (.int .i64 a1) := (blk_cell BA.out 0).trans rfl;have hc_BA_1 : w12.cell? ⟨ga_,1,none⟩ = some (.int .i64 a2) := (blk_cell BA.out 1).trans rfl;have hc_BB_0 : w12.cell? ⟨gb_,0,none⟩ = some (.int .i64 a1) := (blk_cell BB.out 0).trans rfl;have hc_BB_1 : w12.cell? ⟨gb_,1,none⟩ = some (.int .i64 a2) := (blk_cell BB.out 1).trans rfl;have hc_BC_0 : w12.cell? ⟨gc_,0,none⟩ = some (.int .i64 o1) := (blk_cell BC.out 0).trans rfl;have hc_BC_1 : w12.cell? ⟨gc_,1,none⟩ = some (.int .i64 o2) := (blk_cell BC.out 1).trans rfl;have hc_BD_0 : w12.cell? ⟨gd_,0,none⟩ = some (.int .i64 o1) := (blk_cell BD.out 0).trans rfl;have hc_BD_1 : w12.cell? ⟨gd_,1,none⟩ = some (.int .i64 o2) := (blk_cell BD.out 1).trans rfl)
   clear hc_BF_0 hc_BF_1 hc_BG_0 hc_BG_1 hc_BA_0 hc_BA_1 hc_BB_0 hc_BB_1 hc_BC_0 hc_BC_1 hc_BD_0 hc_BD_1
   have BE := aZ_ (blk_new w12 (.cells #[.int .i64 e1,.int .i64 e2] 25 (0,0)))
   have hb := below_alloc (Below.refl w12.heap.size w12) (.cells #[.int .i64 e1,.int .i64 e2] 25 (0,0))
   have n_ := aZ_ (Kd.Heap.C (Kd.heap_int .u8) hb.block HR.out)
   clear HR
   have HR := n_
   clear n_
   have n_ := aZ_ (below_step HB.out hb)
   clear HB
   have HB := n_
   clear n_
   have n_ := aZ_ (blk_below BF.out hb)
   clear BF
   have BF := n_
   clear n_
   have n_ := aZ_ (blk_below BG.out hb)
   clear BG
   have BG := n_
   clear n_
   have n_ := aZ_ (blk_below BA.out hb)
   clear BA
   have BA := n_
   clear n_
   have n_ := aZ_ (blk_below BB.out hb)
   clear BB
   have BB := n_
   clear n_
   have n_ := aZ_ (blk_below BC.out hb)
   clear BC
   have BC := n_
   clear n_
   have n_ := aZ_ (blk_below BD.out hb)
   clear BD
   have BD := n_
   clear n_
   clear hb
   obtain ⟨ge_,hge__⟩ : ∃ ge_,ge_ = w12.heap.size := ⟨_,rfl⟩
   rw [← hge__] at BE ⊢
   clear hge__
   generalize w12.alloc (.cells #[.int .i64 e1,.int .i64 e2] 25 (0,0)) = w13 at HR HB BF BG BA BB BC BD BE ⊢
   have hc_BF_0 : w13.cell? ⟨gf,0,none⟩ = some (.int .i64 f1) := (blk_cell BF.out 0).trans rfl
   have hc_BF_1 : w13.cell? ⟨gf,1,none⟩ = some (.int .i64 f2) := (blk_cell BF.out 1).trans rfl
   have hc_BG_0 : w13.cell? ⟨gg,0,none⟩ = some (.int .i64 g1) := (blk_cell BG.out 0).trans rfl
   have hc_BG_1 : w13.cell? ⟨gg,1,none⟩ = some (.int .i64 g2) := (blk_cell BG.out 1).trans rfl
   have hc_BA_0 : w13.cell? ⟨ga_,0,none⟩ = some (.int .i64 a1) := (blk_cell BA.out 0).trans rfl
   have hc_BA_1 : w13.cell? ⟨ga_,1,none⟩ = some (.int .i64 a2) := (blk_cell BA.out 1).trans rfl
   have hc_BB_0 : w13.cell? ⟨gb_,0,none⟩ = some (.int .i64 a1) := (blk_cell BB.out 0).trans rfl
   have hc_BB_1 : w13.cell? ⟨gb_,1,none⟩ = some (.int .i64 a2) := (blk_cell BB.out 1).trans rfl
   have hc_BC_0 : w13.cell? ⟨gc_,0,none⟩ = some (.int .i64 o1) := (blk_cell BC.out 0).trans rfl
   have hc_BC_1 : w13.cell? ⟨gc_,1,none⟩ = some (.int .i64 o2) := (blk_cell BC.out 1).trans rfl
   have hc_BD_0 : w13.cell? ⟨gd_,0,none⟩ = some (.int .i64 o1) := (blk_cell BD.out 0).trans rfl
   have hc_BD_1 : w13.cell? ⟨gd_,1,none⟩ = some (.int .i64 o2) := (blk_cell BD.out 1).trans rfl
   have hc_BE_0 : w13.cell? ⟨ge_,0,none⟩ = some (.int .i64 e1) := (blk_cell BE.out 0).trans rfl
   have hc_BE_1 : w13.cell? ⟨ge_,1,none⟩ = some (.int .i64 e2) := (blk_cell BE.out 1).trans rfl
   go_upto_region 10 with (go_at_call 11;refine (spec_XorTables.calls f1 f2 g1 g2 e1 e2 s _ HG.out.xor2).mono ?_;rintro e w14 ⟨rfl,hb⟩;have n_ := aZ_ (Kd.Heap.C (Kd.heap_int .u8) hb.block HR.out);clear HR;have HR := n_;clear n_;have n_ := aZ_ (below_step HB.out hb);clear HB;have HB := n_;clear n_;have n_ := aZ_ (blk_below BF.out hb);clear BF;have BF := n_;clear n_;have n_ := aZ_ (blk_below BG.out hb);clear BG;have BG := n_;clear n_;have n_ := aZ_ (blk_below BA.out hb);clear BA;have BA := n_;clear n_;have n_ := aZ_ (blk_below BB.out hb);clear BB;have BB := n_;clear n_;have n_ := aZ_ (blk_below BC.out hb);clear BC;have BC := n_;clear n_;have n_ := aZ_ (blk_below BD.out hb);clear BD;have BD := n_;clear n_;have n_ := aZ_ (blk_below BE.out hb);clear BE;have BE := n_;clear n_;clear hb ;clear hc_BF_0 hc_BF_1 hc_BG_0 hc_BG_1 hc_BA_0 hc_BA_1 hc_BB_0 hc_BB_1 hc_BC_0 hc_BC_1 hc_BD_0 hc_BD_1 hc_BE_0 hc_BE_1;have hc_BF_0 : w14.cell? ⟨gf,0,none⟩ = some (.int .i64 f1) := (blk_cell BF.out 0).trans rfl;have hc_BF_1 : w14.cell? ⟨gf,1,none⟩ = some (.int .i64 f2) := (blk_cell BF.out 1).trans rfl;have hc_BG_0 : w14.cell? ⟨gg,0,none⟩ = some (.int .i64 g1) := (blk_cell BG.out 0).trans rfl;have hc_BG_1 : w14.cell? ⟨gg,1,none⟩ = some (.int .i64 g2) := (blk_cell BG.out 1).trans rfl;have hc_BA_0 : w14.cell? ⟨ga_,0,none⟩ = some (.int .i64 a1) := (blk_cell BA.out 0).trans rfl;have hc_BA_1 : w14.cell? ⟨ga_,1,none⟩ = some (.int .i64 a2) := (blk_cell BA.out 1).trans rfl;have hc_BB_0 : w14.cell? ⟨gb_,0,none⟩ = some (.int .i64 a1) := (blk_cell BB.out 0).trans rfl;have hc_BB_1 : w14.cell? ⟨gb_,1,none⟩ = some (.int .i64 a2) := (blk_cell BB.out 1).trans rfl;have hc_BC_0 : w14.cell? ⟨gc_,0,none⟩ = some (.int .i64 o1) := (blk_cell BC.out 0).trans rfl;have hc_BC_1 : w14.cell? ⟨gc_,1,none⟩ = some (.int .i64 o2) := (blk_cell BC.out 1).trans rfl;have hc_BD_0 : w14.cell? ⟨gd_,0,none⟩ = some (.int .i64 o1) := (blk_cell BD.out 0).trans rfl;have hc_BD_1 : w14.cell? ⟨gd_,1,none⟩ = some (.int .i64 o2) := (blk_cell BD.out 1).trans rfl;have hc_BE_0 : w14.cell? ⟨ge_,0,none⟩ = some (.int .i64 e1) := (blk_cell BE.out 0).trans rfl;have hc_BE_1 : w14.cell? ⟨ge_,1,none⟩ = some (.int .i64 e2) := (blk_cell BE.out 1).trans rfl)
   clear hc_BF_0 hc_BF_1 hc_BG_0 hc_BG_1 hc_BA_0 hc_BA_1 hc_BB_0 hc_BB_1 hc_BC_0 hc_BC_1 hc_BD_0 hc_BD_1 hc_BE_0 hc_BE_1
   have BH := aZ_ (blk_new w14 (.cells #[.int .i64 e1,.int .i64 e2] 25 (0,0)))
   have hb := below_alloc (Below.refl w14.heap.size w14) (.cells #[.int .i64 e1,.int .i64 e2] 25 (0,0))
   have n_ := aZ_ (Kd.Heap.C (Kd.heap_int .u8) hb.block HR.out)
   clear HR
   have HR := n_
   clear n_
   have n_ := aZ_ (below_step HB.out hb)
   clear HB
   have HB := n_
   clear n_
   have n_ := aZ_ (blk_below BF.out hb)
   clear BF
   have BF := n_
   clear n_
   have n_ := aZ_ (blk_below BG.out hb)
   clear BG
   have BG := n_
   clear n_
   have n_ := aZ_ (blk_below BA.out hb)
   clear BA
   have BA := n_
   clear n_
   have n_ := aZ_ (blk_below BB.out hb)
   clear BB
   have BB := n_
   clear n_
   have n_ := aZ_ (blk_below BC.out hb)
   clear BC
   have BC := n_
   clear n_
   have n_ := aZ_ (blk_below BD.out hb)
   clear BD
   have BD := n_
   clear n_
   have n_ := aZ_ (blk_below BE.out hb)
   clear BE
   have BE := n_
   clear n_
   clear hb
   obtain ⟨gh_,hgh__⟩ : ∃ gh_,gh_ = w14.heap.size := ⟨_,rfl⟩
   rw [← hgh__] at BH ⊢
   clear hgh__
   generalize w14.alloc (.cells #[.int .i64 e1,.int .i64 e2] 25 (0,0)) = w15 at HR HB BF BG BA BB BC BD BE BH ⊢
   have hc_BF_0 : w15.cell? ⟨gf,0,none⟩ = some (.int .i64 f1) := (blk_cell BF.out 0).trans rfl
   have hc_BF_1 : w15.cell? ⟨gf,1,none⟩ = some (.int .i64 f2) := (blk_cell BF.out 1).trans rfl
   have hc_BG_0 : w15.cell? ⟨gg,0,none⟩ = some (.int .i64 g1) := (blk_cell BG.out 0).trans rfl
   have hc_BG_1 : w15.cell? ⟨gg,1,none⟩ = some (.int .i64 g2) := (blk_cell BG.out 1).trans rfl
   have hc_BA_0 : w15.cell? ⟨ga_,0,none⟩ = some (.int .i64 a1) := (blk_cell BA.out 0).trans rfl
   have hc_BA_1 : w15.cell? ⟨ga_,1,none⟩ = some (.int .i64 a2) := (blk_cell BA.out 1).trans rfl
   have hc_BB_0 : w15.cell? ⟨gb_,0,none⟩ = some (.int .i64 a1) := (blk_cell BB.out 0).trans rfl
   have hc_BB_1 : w15.cell? ⟨gb_,1,none⟩ = some (.int .i64 a2) := (blk_cell BB.out 1).trans rfl
   have hc_BC_0 : w15.cell? ⟨gc_,0,none⟩ = some (.int .i64 o1) := (blk_cell BC.out 0).trans rfl
   have hc_BC_1 : w15.cell? ⟨gc_,1,none⟩ = some (.int .i64 o2) := (blk_cell BC.out 1).trans rfl
   have hc_BD_0 : w15.cell? ⟨gd_,0,none⟩ = some (.int .i64 o1) := (blk_cell BD.out 0).trans rfl
   have hc_BD_1 : w15.cell? ⟨gd_,1,none⟩ = some (.int .i64 o2) := (blk_cell BD.out 1).trans rfl
   have hc_BE_0 : w15.cell? ⟨ge_,0,none⟩ = some (.int .i64 e1) := (blk_cell BE.out 0).trans rfl
   have hc_BE_1 : w15.cell? ⟨ge_,1,none⟩ = some (.int .i64 e2) := (blk_cell BE.out 1).trans rfl
   have hc_BH_0 : w15.cell? ⟨gh_,0,none⟩ = some (.int .i64 e1) := (blk_cell BH.out 0).trans rfl
   have hc_BH_1 : w15.cell? ⟨gh_,1,none⟩ = some (.int .i64 e2) := (blk_cell BH.out 1).trans rfl
   have h_a1 : (a1 != a1) = false := bne_self_eq_false a1
   have h_a2 : (a2 != a2) = false := bne_self_eq_false a2
   have h_o1 : (o1 != o1) = false := bne_self_eq_false o1
   have h_o2 : (o2 != o2) = false := bne_self_eq_false o2
   have h_e1 : (e1 != e1) = false := bne_self_eq_false e1
   have h_e2 : (e2 != e2) = false := bne_self_eq_false e2
   have h_s : (s != s) = false := bne_self_eq_false s
   go_upto_region 12 with (fail)
   clear h_a1 h_a2 h_o1 h_o2 h_e1 h_e2 h_s
   clear BA BC BE hc_BA_0 hc_BA_1 hc_BC_0 hc_BC_1 hc_BE_0 hc_BE_1
   go_upto_if 132 with (fail)
   go_cut [] (fun wx => Aside0 (Kd.C (Kd.int .u8) wx A0 l0.length l0) ∧ Aside0 (Below w.heap.size w wx) ∧ Aside0 (wx.heap[gf]? = some (.cells #[.int .i64 f1,.int .i64 f2] 25 (0,0))))
   case first =>
    as_aux_lemma =>
     cases s
     case true =>
      obtain ⟨n1,n2,m1,m2,p1,p2,q1,q2,q3,q4,q5,hnf,hng,hor,hnp,hxg,hq1,hq2,hq3,hq4,hq5,hdi,hsu,hsd⟩ := HG.out.alg rfl
      have HNF := aZ_ hnf
      have HNG := aZ_ hng
      have HOR := aZ_ hor
      have HNP := aZ_ hnp
      have HXG := aZ_ hxg
      have HQ1 := aZ_ hq1
      have HQ2 := aZ_ hq2
      have HQ3 := aZ_ hq3
      have HQ4 := aZ_ hq4
      have HQ5 := aZ_ hq5
      have HDI := aZ_ hdi
      clear hnf hng hor hnp hxg hq1 hq2 hq3 hq4 hq5 hdi
      obtain ⟨qs,hqs⟩ : ∃ qs,wrap64 (q3 + q4) = qs := ⟨_,rfl⟩
      rw [hqs] at hsu
      have h_qs : (qs != qs) = false := bne_self_eq_false qs
      have h_q5 : (q5 != q5) = false := bne_self_eq_false q5
      go_upto_region 14 with (go_at_call 12;refine (impl_NotTable.calls f1 f2 n1 n2 true _ HNF.out).mono ?_;rintro e w16 ⟨rfl,hb⟩;have n_ := aZ_ (Kd.Heap.C (Kd.heap_int .u8) hb.block HR.out);clear HR;have HR := n_;clear n_;have n_ := aZ_ (below_step HB.out hb);clear HB;have HB := n_;clear n_;have n_ := aZ_ (blk_below BF.out hb);clear BF;have BF := n_;clear n_;have n_ := aZ_ (blk_below BG.out hb);clear BG;have BG := n_;clear n_;have n_ := aZ_ (blk_below BB.out hb);clear BB;have BB := n_;clear n_;have n_ := aZ_ (blk_below BD.out hb);clear BD;have BD := n_;clear n_;have n_ := aZ_ (blk_below BH.out hb);clear BH;have BH := n_;clear n_;clear hb ;clear hc_BF_0 hc_BF_1 hc_BG_0 hc_BG_1 hc_BB_0 hc_BB_1 hc_BD_0 hc_BD_1 hc_BH_0 hc_BH_1;have hc_BF_0 : w16.cell? ⟨gf,0,none⟩ = some (.int .i64 f1) := (blk_cell BF.out 0).trans rfl;have hc_BF_1 : w16.cell? ⟨gf,1,none⟩ = some (.int .i64 f2) := (blk_cell BF.out 1).trans rfl;have hc_BG_0 : w16.cell? ⟨gg,0,none⟩ = some (.int .i64 g1) := (blk_cell BG.out 0).trans rfl;have hc_BG_1 : w16.cell? ⟨gg,1,none⟩ = some (.int .i64 g2) := (blk_cell BG.out 1).trans rfl;have hc_BB_0 : w16.cell? ⟨gb_,0,none⟩ = some (.int .i64 a1) := (blk_cell BB.out 0).trans rfl;have hc_BB_1 : w16.cell? ⟨gb_,1,none⟩ = some (.int .i64 a2) := (blk_cell BB.out 1).trans rfl;have hc_BD_0 : w16.cell? ⟨gd_,0,none⟩ = some (.int .i64 o1) := (blk_cell BD.out 0).trans rfl;have hc_BD_1 : w16.cell? ⟨gd_,1,none⟩ = some (.int .i64 o2) := (blk_cell BD.out 1).trans rfl;have hc_BH_0 : w16.cell? ⟨gh_,0,none⟩ = some (.int .i64 e1) := (blk_cell BH.out 0).trans rfl;have hc_BH_1 : w16.cell? ⟨gh_,1,none⟩ = some (.int .i64 e2) := (blk_cell BH.out 1).trans rfl)
      clear hc_BF_0 hc_BF_1 hc_BG_0 hc_BG_1 hc_BB_0 hc_BB_1 hc_BD_0 hc_BD_1 hc_BH_0 hc_BH_1
      have BN := aZ_ (blk_new w16 (.cells #[.int .i64 n1,.int .i64 n2] 25 (0,0)))
      have hb := below_alloc (Below.refl w16.heap.size w16) (.cells #[.int .i64 n1,.int .i64 n2] 25 (0,0))
      have n_ := aZ_ (Kd.Heap.C (Kd.heap_int .u8) hb.block HR.out)
      clear HR
      have HR := n_
      clear n_
      have n_ := aZ_ (below_step HB.out hb)
      clear HB
      have HB := n_
      clear n_
      have n_ := aZ_ (blk_below BF.out hb)
      clear BF
      have BF := n_
      clear n_
      have n_ := aZ_ (blk_below BG.out hb)
      clear BG
      have BG := n_
      clear n_
      have n_ := aZ_ (blk_below BB.out hb)
      clear BB
      have BB := n_
      clear n_
      have n_ := aZ_ (blk_below BD.out hb)
      clear BD
      have BD := n_
      clear n_
      have n_ := aZ_ (blk_below BH.out hb)
      clear BH
      have BH := n_
      clear n_
      clear hb
      obtain ⟨gn,hgn_⟩ : ∃ gn,gn = w16.heap.size := ⟨_,rfl⟩
      rw [← hgn_] at BN ⊢
      clear hgn_
      generalize w16.alloc (.cells #[.int .i64 n1,.int .i64 n2] 25 (0,0)) = w17 at HR HB BF BG BB BD BH BN ⊢
      have hc_BF_0 : w17.cell? ⟨gf,0,none⟩ = some (.int .i64 f1) := (blk_cell BF.out 0).trans rfl
      have hc_BF_1 : w17.cell? ⟨gf,1,none⟩ = some (.int .i64 f2) := (blk_cell BF.out 1).trans rfl
      have hc_BG_0 : w17.cell? ⟨gg,0,none⟩ = some (.int .i64 g1) := (blk_cell BG.out 0).trans rfl
      have hc_BG_1 : w17.cell? ⟨gg,1,none⟩ = some (.int .i64 g2) := (blk_cell BG.out 1).trans rfl
      have hc_BB_0 : w17.cell? ⟨gb_,0,none⟩ = some (.int .i64 a1) := (blk_cell BB.out 0).trans rfl
      have hc_BB_1 : w17.cell? ⟨gb_,1,none⟩ = some (.int .i64 a2) := (blk_cell BB.out 1).trans rfl
      have hc_BD_0 : w17.cell? ⟨gd_,0,none⟩ = some (.int .i64 o1) := (blk_cell BD.out 0).trans rfl
      have hc_BD_1 : w17.cell? ⟨gd_,1,none⟩ = some (.int .i64 o2) := (blk_cell BD.out 1).trans rfl
      have hc_BH_0 : w17.cell? ⟨gh_,0,none⟩ = some (.int .i64 e1) := (blk_cell BH.out 0).trans rfl
      have hc_BH_1 : w17.cell? ⟨gh_,1,none⟩ = some (.int .i64 e2) := (blk_cell BH.out 1).trans rfl
      have hc_BN_0 : w17.cell? ⟨gn,0,none⟩ = some (.int .i64 n1) := (blk_cell BN.out 0).trans rfl
      have hc_BN_1 : w17.cell? ⟨gn,1,none⟩ = some (.int .i64 n2) := (blk_cell BN.out 1).trans rfl
      go_upto_region 15 with (go_at_call 12;refine (impl_NotTable.calls g1 g2 m1 m2 true _ HNG.out).mono ?_;rintro e w18 ⟨rfl,hb⟩;have n_ := aZ_ (Kd.Heap.C (Kd.heap_int .u8) hb.block HR.out);clear HR;have HR := n_;clear n_;have n_ := aZ_ (below_step HB.out hb);clear HB;have HB := n_;clear n_;have n_ := aZ_ (blk_below BF.out hb);clear BF;have BF := n_;clear n_;have n_ := aZ_ (blk_below BG.out hb);clear BG;have BG := n_;clear n_;have n_ := aZ_ (blk_below BB.out hb);clear BB;have BB := n_;clear n_;have n_ := aZ_ (blk_below BD.out hb);clear BD;have BD := n_;clear n_;have n_ := aZ_ (blk_below BH.out hb);clear BH;have BH := n_;clear n_;have n_ := aZ_ (blk_below BN.out hb);clear BN;have BN := n_;clear n_;clear hb ;clear hc_BF_0 hc_BF_1 hc_BG_0 hc_BG_1 hc_BB_0 hc_BB_1 hc_BD_0 hc_BD_1 hc_BH_0 hc_BH_1 hc_BN_0 hc_BN_1;have hc_BF_0 : w18.cell? ⟨gf,0,none⟩ = some (.int .i64 f1) := (blk_cell BF.out 0).trans rfl;have hc_BF_1 : w18.cell? ⟨gf,1,none⟩ = some (.int .i64 f2) := (blk_cell BF.out 1).trans rfl;have hc_BG_0 : w18.cell? ⟨gg,0,none⟩ = some (.int .i64 g1) := (blk_cell BG.out 0).trans rfl;have hc_BG_1 : w18.cell? ⟨gg,1,none⟩ = some (.int .i64 g2) := (blk_cell BG.out 1).trans rfl;have hc_BB_0 : w18.cell? ⟨gb_,0,none⟩ = some (.int .i64 a1) := (blk_cell BB.out 0).trans rfl;have hc_BB_1 : w18.cell? ⟨gb_,1,none⟩ = some (.int .i64 a2) := (blk_cell BB.out 1).trans rfl;have hc_BD_0 : w18.cell? ⟨gd_,0,none⟩ = some (.int .i64 o1) := (blk_cell BD.out 0).trans rfl;have hc_BD_1 : w18.cell? ⟨gd_,1,none⟩ = some (.int .i64 o2) := (blk_cell BD.out 1).trans rfl;have hc_BH_0 : w18.cell? ⟨gh_,0,none⟩ = some (.int .i64 e1) := (blk_cell BH.out 0).trans rfl;have hc_BH_1 : w18.cell? ⟨gh_,1,none⟩ = some (.int .i64 e2) := (blk_cell BH.out 1).trans rfl;have hc_BN_0 : w18.cell? ⟨gn,0,none⟩ = some (.int .i64 n1) := (blk_cell BN.out 0).trans rfl;have hc_BN_1 : w18.cell? ⟨gn,1,none⟩ = some (.int .i64 n2) := (blk_cell BN.out 1).trans rfl)
      clear hc_BF_0 hc_BF_1 hc_BG_0 hc_BG_1 hc_BB_0 hc_BB_1 hc_BD_0 hc_BD_1 hc_BH_0 hc_BH_1 hc_BN_0 hc_BN_1
      have BM := aZ_ (blk_new w18 (.cells #[.int .i64 m1,.int .i64 m2] 25 (0,0)))
      have hb := below_alloc (Below.refl w18.heap.size w18) (.cells #[.int .i64 m1,.int .i64 m2] 25 (0,0))
      have n_ := aZ_ (Kd.Heap.C (Kd.heap_int .u8) hb.block HR.out)
      clear HR
      have HR := n_
      clear n_
      have n_ := aZ_ (below_step HB.out hb)
      clear HB
      have HB := n_
      clear n_
      have n_ := aZ_ (blk_below BF.out hb)
      clear BF
      have BF := n_
      clear n_
      have n_ := aZ_ (blk_below BG.out hb)
      clear BG
      have BG := n_
      clear n_
      have n_ := aZ_ (blk_below BB.out hb)
      clear BB
      have BB := n_
      clear n_
      have n_ := aZ_ (blk_below BD.out hb)
      clear BD
      have BD := n_
      clear n_
      have n_ := aZ_ (blk_below BH.out hb)
      clear BH
      have BH := n_
      clear n_
      have n_ := aZ_ (blk_below BN.out hb)
      clear BN
      have BN := n_
      clear n_
      clear hb
      obtain ⟨gm,hgm_⟩ : ∃ gm,gm = w18.heap.size := ⟨_,rfl⟩
      rw [← hgm_] at BM ⊢
      clear hgm_
      generalize w18.alloc (.cells #[.int .i64 m1,.int .i64 m2] 25 (0,0)) = w19 at HR HB BF BG BB BD BH BN BM ⊢
      have hc_BF_0 : w19.cell? ⟨gf,0,none⟩ = some (.int .i64 f1) := (blk_cell BF.out 0).trans rfl
      have hc_BF_1 : w19.cell? ⟨gf,1,none⟩ = some (.int .i64 f2) := (blk_cell BF.out 1).trans rfl
      have hc_BG_0 : w19.cell? ⟨gg,0,none⟩ = some (.int .i64 g1) := (blk_cell BG.out 0).trans rfl
      have hc_BG_1 : w19.cell? ⟨gg,1,none⟩ = some (.int .i64 g2) := (blk_cell BG.out 1).trans rfl
      have hc_BB_0 : w19.cell? ⟨gb_,0,none⟩ = some (.int .i64 a1) := (blk_cell BB.out 0).trans rfl
      have hc_BB_1 : w19.cell? ⟨gb_,1,none⟩ = some (.int .i64 a2) := (blk_cell BB.out 1).trans rfl
      have hc_BD_0 : w19.cell? ⟨gd_,0,none⟩ = some (.int .i64 o1) := (blk_cell BD.out 0).trans rfl
      have hc_BD_1 : w19.cell? ⟨gd_,1,none⟩ = some (.int .i64 o2) := (blk_cell BD.out 1).trans rfl
      have hc_BH_0 : w19.cell? ⟨gh_,0,none⟩ = some (.int .i64 e1) := (blk_cell BH.out 0).trans rfl
      have hc_BH_1 : w19.cell? ⟨gh_,1,none⟩ = some (.int .i64 e2) := (blk_cell BH.out 1).trans rfl
      have hc_BN_0 : w19.cell? ⟨gn,0,none⟩ = some (.int .i64 n1) := (blk_cell BN.out 0).trans rfl
      have hc_BN_1 : w19.cell? ⟨gn,1,none⟩ = some (.int .i64 n2) := (blk_cell BN.out 1).trans rfl
      have hc_BM_0 : w19.cell? ⟨gm,0,none⟩ = some (.int .i64 m1) := (blk_cell BM.out 0).trans rfl
      have hc_BM_1 : w19.cell? ⟨gm,1,none⟩ = some (.int .i64 m2) := (blk_cell BM.out 1).trans rfl
      go_upto_region 16 with (go_at_call 8;refine (impl_OrTables.calls n1 n2 m1 m2 p1 p2 true _ HOR.out).mono ?_;rintro e w20 ⟨rfl,hb⟩;have n_ := aZ_ (Kd.Heap.C (Kd.heap_int .u8) hb.block HR.out);clear HR;have HR := n_;clear n_;have n_ := aZ_ (below_step HB.out hb);clear HB;have HB := n_;clear n_;have n_ := aZ_ (blk_below BF.out hb);clear BF;have BF := n_;clear n_;have n_ := aZ_ (blk_below BG.out hb);clear BG;have BG := n_;clear n_;have n_ := aZ_ (blk_below BB.out hb);clear BB;have BB := n_;clear n_;have n_ := aZ_ (blk_below BD.out hb);clear BD;have BD := n_;clear n_;have n_ := aZ_ (blk_below BH.out hb);clear BH;have BH := n_;clear n_;have n_ := aZ_ (blk_below BN.out hb);clear BN;have BN := n_;clear n_;have n_ := aZ_ (blk_below BM.out hb);clear BM;have BM := n_;clear n_;clear hb ;clear hc_BF_0 hc_BF_1 hc_BG_0 hc_BG_1 hc_BB_0 hc_BB_1 hc_BD_0 hc_BD_1 hc_BH_0 hc_BH_1 hc_BN_0 hc_BN_1 hc_BM_0 hc_BM_1;have hc_BF_0 : w20.cell? ⟨gf,0,none⟩ = some (.int .i64 f1) := (blk_cell BF.out 0).trans rfl;have hc_BF_1 : w20.cell? ⟨gf,1,none⟩ = some (.int .i64 f2) := (blk_cell BF.out 1).trans rfl;have hc_BG_0 : w20.cell? ⟨gg,0,none⟩ = some (.int .i64 g1) := (blk_cell BG.out 0).trans rfl;have hc_BG_1 : w20.cell? ⟨gg,1,none⟩ = some (.int .i64 g2) := (blk_cell BG.out 1).trans rfl;have hc_BB_0 : w20.cell? ⟨gb_,0,none⟩ = some (.int .i64 a1) := (blk_cell BB.out 0).trans rfl;have hc_BB_1 : w20.cell? ⟨gb_,1,none⟩ = some (.int .i64 a2) := (blk_cell BB.out 1).trans rfl;have hc_BD_0 : w20.cell? ⟨gd_,0,none⟩ = some (.int .i64 o1) := (blk_cell BD.out 0).trans rfl;have hc_BD_1 : w20.cell? ⟨gd_,1,none⟩ = some (.int .i64 o2) := (blk_cell BD.out 1).trans rfl;have hc_BH_0 : w20.cell? ⟨gh_,0,none⟩ = some (.int .i64 e1) := (blk_cell BH.out 0).trans rfl;have hc_BH_1 : w20.cell? ⟨gh_,1,none⟩ = some (.int .i64 e2) := (blk_cell BH.out 1).trans rfl;have hc_BN_0 : w20.cell? ⟨gn,0,none⟩ = some (.int .i64 n1) := (blk_cell BN.out 0).trans rfl;have hc_BN_1 : w20.cell? ⟨gn,1,none⟩ = some (.int .i64 n2) := (blk_cell BN.out 1).trans rfl;have hc_BM_0 : w20.cell? ⟨gm,0,none⟩ = some (.int .i64 m1) := (blk_cell BM.out 0).trans rfl;have hc_BM_1 : w20.cell? ⟨gm,1,none⟩ = some (.int .i64 m2) := (blk_cell BM.out 1).trans rfl)
      clear hc_BF_0 hc_BF_1 hc_BG_0 hc_BG_1 hc_BB_0 hc_BB_1 hc_BD_0 hc_BD_1 hc_BH_0 hc_BH_1 hc_BN_0 hc_BN_1 hc_BM_0 hc_BM_1
      have BP := aZ_ (blk_new w20 (.cells #[.int .i64 p1,.int .i64 p2] 25 (0,0)))
      have hb := below_alloc (Below.refl w20.heap.size w20) (.cells #[.int .i64 p1,.int .i64 p2] 25 (0,0))
      have n_ := aZ_ (Kd.Heap.C (Kd.heap_int .u8) hb.block HR.out)
      clear HR
      have HR := n_
      clear n_
      have n_ := aZ_ (below_step HB.out hb)
      clear HB
      have HB := n_
      clear n_
      have n_ := aZ_ (blk_below BF.out hb)
      clear BF
      have BF := n_
      clear n_
      have n_ := aZ_ (blk_below BG.out hb)
      clear BG
      have BG := n_
      clear n_
      have n_ := aZ_ (blk_below BB.out hb)
      clear BB
      have BB := n_
      clear n_
      have n_ := aZ_ (blk_below BD.out hb)
      clear BD
      have BD := n_
      clear n_
      have n_ := aZ_ (blk_below BH.out hb)
      clear BH
      have BH := n_
      clear n_
      have n_ := aZ_ (blk_below BN.out hb)
      clear BN
      have BN := n_
      clear n_
      have n_ := aZ_ (blk_below BM.out hb)
      clear BM
      have BM := n_
      clear n_
      clear hb
      obtain ⟨gp,hgp_⟩ : ∃ gp,gp = w20.heap.size := ⟨_,rfl⟩
      rw [← hgp_] at BP ⊢
      clear hgp_
      generalize w20.alloc (.cells #[.int .i64 p1,.int .i64 p2] 25 (0,0)) = w21 at HR HB BF BG BB BD BH BN BM BP ⊢
      have hc_BF_0 : w21.cell? ⟨gf,0,none⟩ = some (.int .i64 f1) := (blk_cell BF.out 0).trans rfl
      have hc_BF_1 : w21.cell? ⟨gf,1,none⟩ = some (.int .i64 f2) := (blk_cell BF.out 1).trans rfl
      have hc_BG_0 : w21.cell? ⟨gg,0,none⟩ = some (.int .i64 g1) := (blk_cell BG.out 0).trans rfl
      have hc_BG_1 : w21.cell? ⟨gg,1,none⟩ = some (.int .i64 g2) := (blk_cell BG.out 1).trans rfl
      have hc_BB_0 : w21.cell? ⟨gb_,0,none⟩ = some (.int .i64 a1) := (blk_cell BB.out 0).trans rfl
      have hc_BB_1 : w21.cell? ⟨gb_,1,none⟩ = some (.int .i64 a2) := (blk_cell BB.out 1).trans rfl
      have hc_BD_0 : w21.cell? ⟨gd_,0,none⟩ = some (.int .i64 o1) := (blk_cell BD.out 0).trans rfl
      have hc_BD_1 : w21.cell? ⟨gd_,1,none⟩ = some (.int .i64 o2) := (blk_cell BD.out 1).trans rfl
      have hc_BH_0 : w21.cell? ⟨gh_,0,none⟩ = some (.int .i64 e1) := (blk_cell BH.out 0).trans rfl
      have hc_BH_1 : w21.cell? ⟨gh_,1,none⟩ = some (.int .i64 e2) := (blk_cell BH.out 1).trans rfl
      have hc_BN_0 : w21.cell? ⟨gn,0,none⟩ = some (.int .i64 n1) := (blk_cell BN.out 0).trans rfl
      have hc_BN_1 : w21.cell? ⟨gn,1,none⟩ = some (.int .i64 n2) := (blk_cell BN.out 1).trans rfl
      have hc_BM_0 : w21.cell? ⟨gm,0,none⟩ = some (.int .i64 m1) := (blk_cell BM.out 0).trans rfl
      have hc_BM_1 : w21.cell? ⟨gm,1,none⟩ = some (.int .i64 m2) := (blk_cell BM.out 1).trans rfl
      have hc_BP_0 : w21.cell? ⟨gp,0,none⟩ = some (.int .i64 p1) := (blk_cell BP.out 0).trans rfl
      have hc_BP_1 : w21.cell? ⟨gp,1,none⟩ = some (.int .i64 p2) := (blk_cell BP.out 1).trans rfl
      go_upto_region 17 with (go_at_call 12;refine (impl_NotTable.calls p1 p2 a1 a2 true _ HNP.out).mono ?_;rintro e w22 ⟨rfl,hb⟩;have n_ := aZ_ (Kd.Heap.C (Kd.heap_int .u8) hb.block HR.out);clear HR;have HR := n_;clear n_;have n_ := aZ_ (below_step HB.out hb);clear HB;have HB := n_;clear n_;have n_ := aZ_ (blk_below BF.out hb);clear BF;have BF := n_;clear n_;have n_ := aZ_ (blk_below BG.out hb);clear BG;have BG := n_;clear n_;have n_ := aZ_ (blk_below BB.out hb);clear BB;have BB := n_;clear n_;have n_ := aZ_ (blk_below BD.out hb);clear BD;have BD := n_;clear n_;have n_ := aZ_ (blk_below BH.out hb);clear BH;have BH := n_;clear n_;have n_ := aZ_ (blk_below BN.out hb);clear BN;have BN := n_;clear n_;have n_ := aZ_ (blk_below BM.out hb);clear BM;have BM := n_;clear n_;have n_ := aZ_ (blk_below BP.out hb);clear BP;have BP := n_;clear n_;clear hb ;clear hc_BF_0 hc_BF_1 hc_BG_0 hc_BG_1 hc_BB_0 hc_BB_1 hc_BD_0 hc_BD_1 hc_BH_0 hc_BH_1 hc_BN_0 hc_BN_1 hc_BM_0 hc_BM_1 hc_BP_0 hc_BP_1;have hc_BF_0 : w22.cell? ⟨gf,0,none⟩ = some (.int .i64 f1) := (blk_cell BF.out 0).trans rfl;have hc_BF_1 : w22.cell? ⟨gf,1,none⟩ = some (.int .i64 f2) := (blk_cell BF.out 1).trans rfl;have hc_BG_0 : w22.cell? ⟨gg,0,none⟩ = some (.int .i64 g1) := (blk_cell BG.out 0).trans rfl;have hc_BG_1 : w22.cell? ⟨gg,1,none⟩ = some (.int .i64 g2) := (blk_cell BG.out 1).trans rfl;have hc_BB_0 : w22.cell? ⟨gb_,0,none⟩ = some (.int .i64 a1) := (blk_cell BB.out 0).trans rfl;have hc_BB_1 : w22.cell? ⟨gb_,1,none⟩ = some (.int .i64 a2) := (blk_cell BB.out 1).trans rfl;have hc_BD_0 : w22.cell? ⟨gd_,0,none⟩ = some (.int .i64 o1) := (blk_cell BD.out 0).trans rfl;have hc_BD_1 : w22.cell? ⟨gd_,1,none⟩ = some (.int .i64 o2) := (blk_cell BD.out 1).trans rfl;have hc_BH_0 : w22.cell? ⟨gh_,0,none⟩ = some (.int .i64 e1) := (blk_cell BH.out 0).trans rfl;have hc_BH_1 : w22.cell? ⟨gh_,1,none⟩ = some (.int .i64 e2) := (blk_cell BH.out 1).trans rfl;have hc_BN_0 : w22.cell? ⟨gn,0,none⟩ = some (.int .i64 n1) := (blk_cell BN.out 0).trans rfl;have hc_BN_1 : w22.cell? ⟨gn,1,none⟩ = some (.int .i64 n2) := (blk_cell BN.out 1).trans rfl;have hc_BM_0 : w22.cell? ⟨gm,0,none⟩ = some (.int .i64 m1) := (blk_cell BM.out 0).trans rfl;have hc_BM_1 : w22.cell? ⟨gm,1,none⟩ = some (.int .i64 m2) := (blk_cell BM.out 1).trans rfl;have hc_BP_0 : w22.cell? ⟨gp,0,none⟩ = some (.int .i64 p1) := (blk_cell BP.out 0).trans rfl;have hc_BP_1 : w22.cell? ⟨gp,1,none⟩ = some (.int .i64 p2) := (blk_cell BP.out 1).trans rfl)
      clear hc_BF_0 hc_BF_1 hc_BG_0 hc_BG_1 hc_BB_0 hc_BB_1 hc_BD_0 hc_BD_1 hc_BH_0 hc_BH_1 hc_BN_0 hc_BN_1 hc_BM_0 hc_BM_1 hc_BP_0 hc_BP_1
      have BQ := aZ_ (blk_new w22 (.cells #[.int .i64 a1,.int .i64 a2] 25 (0,0)))
      have hb := below_alloc (Below.refl w22.heap.size w22) (.cells #[.int .i64 a1,.int .i64 a2] 25 (0,0))
      have n_ := aZ_ (Kd.Heap.C (Kd.heap_int .u8) hb.block HR.out)
      clear HR
      have HR := n_
      clear n_
      have n_ := aZ_ (below_step HB.out hb)
      clear HB
      have HB := n_
      clear n_
      have n_ := aZ_ (blk_below BF.out hb)
      clear BF
      have BF := n_
      clear n_
      have n_ := aZ_ (blk_below BG.out hb)
      clear BG
      have BG := n_
      clear n_
      have n_ := aZ_ (blk_below BB.out hb)
      clear BB
      have BB := n_
      clear n_
      have n_ := aZ_ (blk_below BD.out hb)
      clear BD
      have BD := n_
      clear n_
      have n_ := aZ_ (blk_below BH.out hb)
      clear BH
      have BH := n_
      clear n_
      have n_ := aZ_ (blk_below BN.out hb)
      clear BN
      have BN := n_
      clear n_
      have n_ := aZ_ (blk_below BM.out hb)
      clear BM
      have BM := n_
      clear n_
      have n_ := aZ_ (blk_below BP.out hb)
      clear BP
      have BP := n_
      clear n_
      clear hb
      obtain ⟨gq,hgq_⟩ : ∃ gq,gq = w22.heap.size := ⟨_,rfl⟩
      rw [← hgq_] at BQ ⊢
      clear hgq_
      generalize w22.alloc (.cells #[.int .i64 a1,.int .i64 a2] 25 (0,0)) = w23 at HR HB BF BG BB BD BH BN BM BP BQ ⊢
      have hc_BF_0 : w23.cell? ⟨gf,0,none⟩ = some (.int .i64 f1) := (blk_cell BF.out 0).trans rfl
      have hc_BF_1 : w23.cell? ⟨gf,1,none⟩ = some (.int .i64 f2) := (blk_cell BF.out 1).trans rfl
      have hc_BG_0 : w23.cell? ⟨gg,0,none⟩ = some (.int .i64 g1) := (blk_cell BG.out 0).trans rfl
      have hc_BG_1 : w23.cell? ⟨gg,1,none⟩ = some (.int .i64 g2) := (blk_cell BG.out 1).trans rfl
      have hc_BB_0 : w23.cell? ⟨gb_,0,none⟩ = some (.int .i64 a1) := (blk_cell BB.out 0).trans rfl
      have hc_BB_1 : w23.cell? ⟨gb_,1,none⟩ = some (.int .i64 a2) := (blk_cell BB.out 1).trans rfl
      have hc_BD_0 : w23.cell? ⟨gd_,0,none⟩ = some (.int .i64 o1) := (blk_cell BD.out 0).trans rfl
      have hc_BD_1 : w23.cell? ⟨gd_,1,none⟩ = some (.int .i64 o2) := (blk_cell BD.out 1).trans rfl
      have hc_BH_0 : w23.cell? ⟨gh_,0,none⟩ = some (.int .i64 e1) := (blk_cell BH.out 0).trans rfl
      have hc_BH_1 : w23.cell? ⟨gh_,1,none⟩ = some (.int .i64 e2) := (blk_cell BH.out 1).trans rfl
      have hc_BN_0 : w23.cell? ⟨gn,0,none⟩ = some (.int .i64 n1) := (blk_cell BN.out 0).trans rfl
      have hc_BN_1 : w23.cell? ⟨gn,1,none⟩ = some (.int .i64 n2) := (blk_cell BN.out 1).trans rfl
      have hc_BM_0 : w23.cell? ⟨gm,0,none⟩ = some (.int .i64 m1) := (blk_cell BM.out 0).trans rfl
      have hc_BM_1 : w23.cell? ⟨gm,1,none⟩ = some (.int .i64 m2) := (blk_cell BM.out 1).trans rfl
      have hc_BP_0 : w23.cell? ⟨gp,0,none⟩ = some (.int .i64 p1) := (blk_cell BP.out 0).trans rfl
      have hc_BP_1 : w23.cell? ⟨gp,1,none⟩ = some (.int .i64 p2) := (blk_cell BP.out 1).trans rfl
      have hc_BQ_0 : w23.cell? ⟨gq,0,none⟩ = some (.int .i64 a1) := (blk_cell BQ.out 0).trans rfl
      have hc_BQ_1 : w23.cell? ⟨gq,1,none⟩ = some (.int .i64 a2) := (blk_cell BQ.out 1).trans rfl
      go_upto_region 18 with (go_at_call 10;refine (impl_XorTables.calls e1 e2 g1 g2 f1 f2 true _ HXG.out).mono ?_;rintro e w24 ⟨rfl,hb⟩;have n_ := aZ_ (Kd.Heap.C (Kd.heap_int .u8) hb.block HR.out);clear HR;have HR := n_;clear n_;have n_ := aZ_ (below_step HB.out hb);clear HB;have HB := n_;clear n_;have n_ := aZ_ (blk_below BF.out hb);clear BF;have BF := n_;clear n_;have n_ := aZ_ (blk_below BG.out hb);clear BG;have BG := n_;clear n_;have n_ := aZ_ (blk_below BB.out hb);clear BB;have BB := n_;clear n_;have n_ := aZ_ (blk_below BD.out hb);clear BD;have BD := n_;clear n_;have n_ := aZ_ (blk_below BH.out hb);clear BH;have BH := n_;clear n_;have n_ := aZ_ (blk_below BN.out hb);clear BN;have BN := n_;clear n_;have n_ := aZ_ (blk_below BM.out hb);clear BM;have BM := n_;clear n_;have n_ := aZ_ (blk_below BP.out hb);clear BP;have BP := n_;clear n_;have n_ := aZ_ (blk_below BQ.out hb);clear BQ;have BQ := n_;clear n_;clear hb ;clear hc_BF_0 hc_BF_1 hc_BG_0 hc_BG_1 hc_BB_0 hc_BB_1 hc_BD_0 hc_BD_1 hc_BH_0 hc_BH_1 hc_BN_0 hc_BN_1 hc_BM_0 hc_BM_1 hc_BP_0 hc_BP_1 hc_BQ_0 hc_BQ_1;have hc_BF_0 : w24.cell? ⟨gf,0,none⟩ = some (.int .i64 f1) := (blk_cell BF.out 0).trans rfl;have hc_BF_1 : w24.cell? ⟨gf,1,none⟩ = some (.int .i64 f2) := (blk_cell BF.out 1).trans rfl;have hc_BG_0 : w24.cell? ⟨gg,0,none⟩ = some (.int .i64 g1) := (blk_cell BG.out 0).trans rfl;have hc_BG_1 : w24.cell? ⟨gg,1,none⟩ = some (.int .i64 g2) := (blk_cell BG.out 1).trans rfl;have hc_BB_0 : w24.cell? ⟨gb_,0,none⟩ = some (.int .i64 a1) := (blk_cell BB.out 0).trans rfl;have hc_BB_1 : w24.cell? ⟨gb_,1,none⟩ = some (.int .i64 a2) := (blk_cell BB.out 1).trans rfl;have hc_BD_0 : w24.cell? ⟨gd_,0,none⟩ = some (.int .i64 o1) := (blk_cell BD.out 0).trans rfl;have hc_BD_1 : w24.cell? ⟨gd_,1,none⟩ = some (.int .i64 o2) := (blk_cell BD.out 1).trans rfl;have hc_BH_0 : w24.cell? ⟨gh_,0,none⟩ = some (.int .i64 e1) := (blk_cell BH.out 0).trans rfl;have hc_BH_1 : w24.cell? ⟨gh_,1,none⟩ = some (.int .i64 e2) := (blk_cell BH.out 1).trans rfl;have hc_BN_0 : w24.cell? ⟨gn,0,none⟩ = some (.int .i64 n1) := (blk_cell BN.out 0).trans rfl;have hc_BN_1 : w24.cell? ⟨gn,1,none⟩ = some (.int .i64 n2) := (blk_cell BN.out 1).trans rfl;have hc_BM_0 : w24.cell? ⟨gm,0,none⟩ = some (.int .i64 m1) := (blk_cell BM.out 0).trans rfl;have hc_BM_1 : w24.cell? ⟨gm,1,none⟩ = some (.int .i64 m2) := (blk_cell BM.out 1).trans rfl;have hc_BP_0 : w24.cell? ⟨gp,0,none⟩ = some (.int .i64 p1) := (blk_cell BP.out 0).trans rfl;have hc_BP_1 : w24.cell? ⟨gp,1,none⟩ = some (.int .i64 p2) := (blk_cell BP.out 1).trans rfl;have hc_BQ_0 : w24.cell? ⟨gq,0,none⟩ = some (.int .i64 a1) := (blk_cell BQ.out 0).trans rfl;have hc_BQ_1 : w24.cell? ⟨gq,1,none⟩ = some (.int .i64 a2) := (blk_cell BQ.out 1).trans rfl)
      clear hc_BF_0 hc_BF_1 hc_BG_0 hc_BG_1 hc_BB_0 hc_BB_1 hc_BD_0 hc_BD_1 hc_BH_0 hc_BH_1 hc_BN_0 hc_BN_1 hc_BM_0 hc_BM_1 hc_BP_0 hc_BP_1 hc_BQ_0 hc_BQ_1
      have BR := aZ_ (blk_new w24 (.cells #[.int .i64 f1,.int .i64 f2] 25 (0,0)))
      have hb := below_alloc (Below.refl w24.heap.size w24) (.cells #[.int .i64 f1,.int .i64 f2] 25 (0,0))
      have n_ := aZ_ (Kd.Heap.C (Kd.heap_int .u8) hb.block HR.out)
      clear HR
      have HR := n_
      clear n_
      have n_ := aZ_ (below_step HB.out hb)
      clear HB
      have HB := n_
      clear n_
      have n_ := aZ_ (blk_below BF.out hb)
      clear BF
      have BF := n_
      clear n_
      have n_ := aZ_ (blk_below BG.out hb)
      clear BG
      have BG := n_
      clear n_
      have n_ := aZ_ (blk_below BB.out hb)
      clear BB
      have BB := n_
      clear n_
      have n_ := aZ_ (blk_below BD.out hb)
      clear BD
      have BD := n_
      clear n_
      have n_ := aZ_ (blk_below BH.out hb)
      clear BH
      have BH := n_
      clear n_
      have n_ := aZ_ (blk_below BN.out hb)
      clear BN
      have BN := n_
      clear n_
      have n_ := aZ_ (blk_below BM.out hb)
      clear BM
      have BM := n_
      clear n_
      have n_ := aZ_ (blk_below BP.out hb)
      clear BP
      have BP := n_
      clear n_
      have n_ := aZ_ (blk_below BQ.out hb)
      clear BQ
      have BQ := n_
      clear n_
      clear hb
      obtain ⟨gr,hgr_⟩ : ∃ gr,gr = w24.heap.size := ⟨_,rfl⟩
      rw [← hgr_] at BR ⊢
      clear hgr_
      generalize w24.alloc (.cells #[.int .i64 f1,.int .i64 f2] 25 (0,0)) = w25 at HR HB BF BG BB BD BH BN BM BP BQ BR ⊢
      have hc_BF_0 : w25.cell? ⟨gf,0,none⟩ = some (.int .i64 f1) := (blk_cell BF.out 0).trans rfl
      have hc_BF_1 : w25.cell? ⟨gf,1,none⟩ = some (.int .i64 f2) := (blk_cell BF.out 1).trans rfl
      have hc_BG_0 : w25.cell? ⟨gg,0,none⟩ = some (.int .i64 g1) := (blk_cell BG.out 0).trans rfl
      have hc_BG_1 : w25.cell? ⟨gg,1,none⟩ = some (.int .i64 g2) := (blk_cell BG.out 1).trans rfl
      have hc_BB_0 : w25.cell? ⟨gb_,0,none⟩ = some (.int .i64 a1) := (blk_cell BB.out 0).trans rfl
      have hc_BB_1 : w25.cell? ⟨gb_,1,none⟩ = some (.int .i64 a2) := (blk_cell BB.out 1).trans rfl
      have hc_BD_0 : w25.cell? ⟨gd_,0,none⟩ = some (.int .i64 o1) := (blk_cell BD.out 0).trans rfl
      have hc_BD_1 : w25.cell? ⟨gd_,1,none⟩ = some (.int .i64 o2) := (blk_cell BD.out 1).trans rfl
      have hc_BH_0 : w25.cell? ⟨gh_,0,none⟩ = some (.int .i64 e1) := (blk_cell BH.out 0).trans rfl
      have hc_BH_1 : w25.cell? ⟨gh_,1,none⟩ = some (.int .i64 e2) := (blk_cell BH.out 1).trans rfl
      have hc_BN_0 : w25.cell? ⟨gn,0,none⟩ = some (.int .i64 n1) := (blk_cell BN.out 0).trans rfl
      have hc_BN_1 : w25.cell? ⟨gn,1,none⟩ = some (.int .i64 n2) := (blk_cell BN.out 1).trans rfl
      have hc_BM_0 : w25.cell? ⟨gm,0,none⟩ = some (.int .i64 m1) := (blk_cell BM.out 0).trans rfl
      have hc_BM_1 : w25.cell? ⟨gm,1,none⟩ = some (.int .i64 m2) := (blk_cell BM.out 1).trans rfl
      have hc_BP_0 : w25.cell? ⟨gp,0,none⟩ = some (.int .i64 p1) := (blk_cell BP.out 0).trans rfl
      have hc_BP_1 : w25.cell? ⟨gp,1,none⟩ = some (.int .i64 p2) := (blk_cell BP.out 1).trans rfl
      have hc_BQ_0 : w25.cell? ⟨gq,0,none⟩ = some (.int .i64 a1) := (blk_cell BQ.out 0).trans rfl
      have hc_BQ_1 : w25.cell? ⟨gq,1,none⟩ = some (.int .i64 a2) := (blk_cell BQ.out 1).trans rfl
      have hc_BR_0 : w25.cell? ⟨gr,0,none⟩ = some (.int .i64 f1) := (blk_cell BR.out 0).trans rfl
      have hc_BR_1 : w25.cell? ⟨gr,1,none⟩ = some (.int .i64 f2) := (blk_cell BR.out 1).trans rfl
      clear BN BM BP hc_BN_0 hc_BN_1 hc_BM_0 hc_BM_1 hc_BP_0 hc_BP_1
      have h_a1 : (a1 != a1) = false := bne_self_eq_false a1
      have h_a2 : (a2 != a2) = false := bne_self_eq_false a2
      have h_f1 : (f1 != f1) = false := bne_self_eq_false f1
      have h_f2 : (f2 != f2) = false := bne_self_eq_false f2
      have C0 := aZ_ hc_BF_0
      have C1 := aZ_ hc_BF_1
      have C2 := aZ_ hc_BG_0
      have C3 := aZ_ hc_BG_1
      have C4 := aZ_ hc_BB_0
      have C5 := aZ_ hc_BB_1
      have C6 := aZ_ hc_BD_0
      have C7 := aZ_ hc_BD_1
      have C8 := aZ_ hc_BH_0
      have C9 := aZ_ hc_BH_1
      have C10 := aZ_ hc_BQ_0
      have C11 := aZ_ hc_BQ_1
      have C12 := aZ_ hc_BR_0
      have C13 := aZ_ hc_BR_1
      clear hc_BF_0 hc_BF_1 hc_BG_0 hc_BG_1 hc_BB_0 hc_BB_1 hc_BD_0 hc_BD_1 hc_BH_0 hc_BH_1 hc_BQ_0 hc_BQ_1 hc_BR_0 hc_BR_1
      clear BG BB BD BH BQ BR
      have hb := below_drew (Below.refl w25.heap.size w25)
      have n_ : Aside0 (w25.drew.cell? ⟨gf,0,none⟩ = some (.int .i64 f1)) := ⟨pw_cell_below hb C0.out⟩
      clear C0
      have C0 := n_
      clear n_
      have n_ : Aside0 (w25.drew.cell? ⟨gf,1,none⟩ = some (.int .i64 f2)) := ⟨pw_cell_below hb C1.out⟩
      clear C1
      have C1 := n_
      clear n_
      have n_ : Aside0 (w25.drew.cell? ⟨gg,0,none⟩ = some (.int .i64 g1)) := ⟨pw_cell_below hb C2.out⟩
      clear C2
      have C2 := n_
      clear n_
      have n_ : Aside0 (w25.drew.cell? ⟨gg,1,none⟩ = some (.int .i64 g2)) := ⟨pw_cell_below hb C3.out⟩
      clear C3
      have C3 := n_
      clear n_
      have n_ : Aside0 (w25.drew.cell? ⟨gb_,0,none⟩ = some (.int .i64 a1)) := ⟨pw_cell_below hb C4.out⟩
      clear C4
      have C4 := n_
      clear n_
      have n_ : Aside0 (w25.drew.cell? ⟨gb_,1,none⟩ = some (.int .i64 a2)) := ⟨pw_cell_below hb C5.out⟩
      clear C5
      have C5 := n_
      clear n_
      have n_ : Aside0 (w25.drew.cell? ⟨gd_,0,none⟩ = some (.int .i64 o1)) := ⟨pw_cell_below hb C6.out⟩
      clear C6
      have C6 := n_
      clear n_
      have n_ : Aside0 (w25.drew.cell? ⟨gd_,1,none⟩ = some (.int .i64 o2)) := ⟨pw_cell_below hb C7.out⟩
      clear C7
      have C7 := n_
      clear n_
      have n_ : Aside0 (w25.drew.cell? ⟨gh_,0,none⟩ = some (.int .i64 e1)) := ⟨pw_cell_below hb C8.out⟩
      clear C8
      have C8 := n_
      clear n_
      have n_ : Aside0 (w25.drew.cell? ⟨gh_,1,none⟩ = some (.int .i64 e2)) := ⟨pw_cell_below hb C9.out⟩
      clear C9
      have C9 := n_
      clear n_
      have n_ : Aside0 (w25.drew.cell? ⟨gq,0,none⟩ = some (.int .i64 a1)) := ⟨pw_cell_below hb C10.out⟩
      clear C10
      have C10 := n_
      clear n_
      have n_ : Aside0 (w25.drew.cell? ⟨gq,1,none⟩ = some (.int .i64 a2)) := ⟨pw_cell_below hb C11.out⟩
      clear C11
      have C11 := n_
      clear n_
      have n_ : Aside0 (w25.drew.cell? ⟨gr,0,none⟩ = some (.int .i64 f1)) := ⟨pw_cell_below hb C12.out⟩
      clear C12
      have C12 := n_
      clear n_
      have n_ : Aside0 (w25.drew.cell? ⟨gr,1,none⟩ = some (.int .i64 f2)) := ⟨pw_cell_below hb C13.out⟩
      clear C13
      have C13 := n_
      clear n_
      have n_ := aZ_ (Kd.Heap.C (Kd.heap_int .u8) hb.block HR.out)
      clear HR
      have HR := n_
      clear n_
      have n_ := aZ_ (below_step HB.out hb)
      clear HB
      have HB := n_
      clear n_
      have n_ := aZ_ (blk_below BF.out hb)
      clear BF
      have BF := n_
      clear n_
      clear hb
      refine start_ (n := 39) (S := (fun w_ => w_.cell? ⟨gf,0,none⟩ = some (.int .i64 f1) ∧ w_.cell? ⟨gf,1,none⟩ = some (.int .i64 f2) ∧ w_.cell? ⟨gg,0,none⟩ = some (.int .i64 g1) ∧ w_.cell? ⟨gg,1,none⟩ = some (.int .i64 g2) ∧ w_.cell? ⟨gb_,0,none⟩ = some (.int .i64 a1) ∧ w_.cell? ⟨gb_,1,none⟩ = some (.int .i64 a2) ∧ w_.cell? ⟨gd_,0,none⟩ = some (.int .i64 o1) ∧ w_.cell? ⟨gd_,1,none⟩ = some (.int .i64 o2) ∧ w_.cell? ⟨gh_,0,none⟩ = some (.int .i64 e1) ∧ w_.cell? ⟨gh_,1,none⟩ = some (.int .i64 e2) ∧ w_.cell? ⟨gq,0,none⟩ = some (.int .i64 a1) ∧ w_.cell? ⟨gq,1,none⟩ = some (.int .i64 a2) ∧ w_.cell? ⟨gr,0,none⟩ = some (.int .i64 f1) ∧ w_.cell? ⟨gr,1,none⟩ = some (.int .i64 f2))) (ds := []) #[false,false,false,false,false,false,false,false,false,false,false,false,false,false,false,false,false,false,false,false,false,false,false,false,false,false,false,false,false,false,false,false,false,false,false,false,false,false,false] T17_ rfl rfl ⟨C0.out,C1.out,C2.out,C3.out,C4.out,C5.out,C6.out,C7.out,C8.out,C9.out,C10.out,C11.out,C12.out,C13.out⟩ (fun hHeld => ?_)
      refine with_tabW laws_FnTables.tab18 laws_FnTables.bits18 (fun HT_ HW_ => ?_)
      generalize w25.drew = W0_ at C0 C1 C2 C3 C4 C5 C6 C7 C8 C9 C10 C11 C12 C13 HR HB BF hHeld ⊢
      refine tZ14_ 0 (some 160) #[true,false,false,false,false,false,false,false,false,false,false,false,false,false,false,false,false,false,false,false,false,false,false,false,false,false,false,false,false,false,false,false,false,false,false,false,false,false,false] hHeld ?_
      refine tZ14_ 1 (some 161) #[true,true,false,false,false,false,false,false,false,false,false,false,false,false,false,false,false,false,false,false,false,false,false,false,false,false,false,false,false,false,false,false,false,false,false,false,false,false,false] hHeld ?_
      refine pZ_ 2 (some 162) #[true,true,true,false,false,false,false,false,false,false,false,false,false,false,false,false,false,false,false,false,false,false,false,false,false,false,false,false,false,false,false,false,false,false,false,false,false,false,false] ?_
      refine pZ_ 3 (some 163) #[true,true,true,true,false,false,false,false,false,false,false,false,false,false,false,false,false,false,false,false,false,false,false,false,false,false,false,false,false,false,false,false,false,false,false,false,false,false,false] ?_
      refine tZ14_ 4 (some 164) #[true,true,true,true,true,false,false,false,false,false,false,false,false,false,false,false,false,false,false,false,false,false,false,false,false,false,false,false,false,false,false,false,false,false,false,false,false,false,false] hHeld ?_
      refine tZ14_ 5 (some 165) #[true,true,true,true,true,true,false,false,false,false,false,false,false,false,false,false,false,false,false,false,false,false,false,false,false,false,false,false,false,false,false,false,false,false,false,false,false,false,false] hHeld ?_
      refine pZ_ 6 (some 166) #[true,true,true,true,true,true,true,false,false,false,false,false,false,false,false,false,false,false,false,false,false,false,false,false,false,false,false,false,false,false,false,false,false,false,false,false,false,false,false] ?_
      refine pZ_ 7 (some 167) #[true,true,true,true,true,true,true,true,false,false,false,false,false,false,false,false,false,false,false,false,false,false,false,false,false,false,false,false,false,false,false,false,false,false,false,false,false,false,false] ?_
      refine pZ_ 8 (some 168) #[true,true,true,true,true,true,true,true,true,false,false,false,false,false,false,false,false,false,false,false,false,false,false,false,false,false,false,false,false,false,false,false,false,false,false,false,false,false,false] ?_
      refine tZ14_ 9 (some 169) #[true,true,true,true,true,true,true,true,true,true,false,false,false,false,false,false,false,false,false,false,false,false,false,false,false,false,false,false,false,false,false,false,false,false,false,false,false,false,false] hHeld ?_
      refine tZ14_ 11 (some 171) #[true,true,true,true,true,true,true,true,true,true,false,true,false,false,false,false,false,false,false,false,false,false,false,false,false,false,false,false,false,false,false,false,false,false,false,false,false,false,false] hHeld ?_
      refine tZ14_ 14 (some 174) #[true,true,true,true,true,true,true,true,true,true,false,true,false,false,true,false,false,false,false,false,false,false,false,false,false,false,false,false,false,false,false,false,false,false,false,false,false,false,false] hHeld ?_
      refine tZ14_ 16 (some 176) #[true,true,true,true,true,true,true,true,true,true,false,true,false,false,true,false,true,false,false,false,false,false,false,false,false,false,false,false,false,false,false,false,false,false,false,false,false,false,false] hHeld ?_
      refine one_ (i := 10) (N := some 170) #[true,true,true,true,true,true,true,true,true,true,true,true,false,false,true,false,true,false,false,false,false,false,false,false,false,false,false,false,false,false,false,false,false,false,false,false,false,false,false] rfl rfl (one_of HT_.out T17_) T58_ (fun K hK => ?_)
      refine gZ_ Try.func13 #[.agg #[.int .i64 f1,.int .i64 f2]] ?_
      with_reducible refine (impl_CountOnes.calls f1 f2 q1 _ HQ1.out).mono ?_
      rintro e W1_ ⟨rfl,hb⟩
      refine ⟨_,rfl,?_⟩
      have n_ : Aside0 (W1_.cell? ⟨gf,0,none⟩ = some (.int .i64 f1)) := ⟨pw_cell_below hb C0.out⟩
      clear C0
      have C0 := n_
      clear n_
      have n_ : Aside0 (W1_.cell? ⟨gf,1,none⟩ = some (.int .i64 f2)) := ⟨pw_cell_below hb C1.out⟩
      clear C1
      have C1 := n_
      clear n_
      have n_ : Aside0 (W1_.cell? ⟨gg,0,none⟩ = some (.int .i64 g1)) := ⟨pw_cell_below hb C2.out⟩
      clear C2
      have C2 := n_
      clear n_
      have n_ : Aside0 (W1_.cell? ⟨gg,1,none⟩ = some (.int .i64 g2)) := ⟨pw_cell_below hb C3.out⟩
      clear C3
      have C3 := n_
      clear n_
      have n_ : Aside0 (W1_.cell? ⟨gb_,0,none⟩ = some (.int .i64 a1)) := ⟨pw_cell_below hb C4.out⟩
      clear C4
      have C4 := n_
      clear n_
      have n_ : Aside0 (W1_.cell? ⟨gb_,1,none⟩ = some (.int .i64 a2)) := ⟨pw_cell_below hb C5.out⟩
      clear C5
      have C5 := n_
      clear n_
      have n_ : Aside0 (W1_.cell? ⟨gd_,0,none⟩ = some (.int .i64 o1)) := ⟨pw_cell_below hb C6.out⟩
      clear C6
      have C6 := n_
      clear n_
      have n_ : Aside0 (W1_.cell? ⟨gd_,1,none⟩ = some (.int .i64 o2)) := ⟨pw_cell_below hb C7.out⟩
      clear C7
      have C7 := n_
      clear n_
      have n_ : Aside0 (W1_.cell? ⟨gh_,0,none⟩ = some (.int .i64 e1)) := ⟨pw_cell_below hb C8.out⟩
      clear C8
      have C8 := n_
      clear n_
      have n_ : Aside0 (W1_.cell? ⟨gh_,1,none⟩ = some (.int .i64 e2)) := ⟨pw_cell_below hb C9.out⟩
      clear C9
      have C9 := n_
      clear n_
      have n_ : Aside0 (W1_.cell? ⟨gq,0,none⟩ = some (.int .i64 a1)) := ⟨pw_cell_below hb C10.out⟩
      clear C10
      have C10 := n_
      clear n_
      have n_ : Aside0 (W1_.cell? ⟨gq,1,none⟩ = some (.int .i64 a2)) := ⟨pw_cell_below hb C11.out⟩
      clear C11
      have C11 := n_
      clear n_
      have n_ : Aside0 (W1_.cell? ⟨gr,0,none⟩ = some (.int .i64 f1)) := ⟨pw_cell_below hb C12.out⟩
      clear C12
      have C12 := n_
      clear n_
      have n_ : Aside0 (W1_.cell? ⟨gr,1,none⟩ = some (.int .i64 f2)) := ⟨pw_cell_below hb C13.out⟩
      clear C13
      have C13 := n_
      clear n_
      have n_ := aZ_ (Kd.Heap.C (Kd.heap_int .u8) hb.block HR.out)
      clear HR
      have HR := n_
      clear n_
      have n_ := aZ_ (below_step HB.out hb)
      clear HB
      have HB := n_
      clear n_
      have n_ := aZ_ (blk_below BF.out hb)
      clear BF
      have BF := n_
      clear n_
      clear hb
      refine hK.out _ _ ⟨C0.out,C1.out,C2.out,C3.out,C4.out,C5.out,C6.out,C7.out,C8.out,C9.out,C10.out,C11.out,C12.out,C13.out⟩ (fun hHeld => ?_)
      clear hK K
      refine norm_ (a' := ?_) ?_ ?_
      rotate_left
      ·show Act.put _ (some 170) _ = _
       simp only [Act.put,List.setIfInBounds_toArray,List.set_cons_zero,List.set_cons_succ,i64_w,i32_w]
       rfl
      refine one_ (i := 12) (N := some 172) #[true,true,true,true,true,true,true,true,true,true,true,true,true,false,true,false,true,false,false,false,false,false,false,false,false,false,false,false,false,false,false,false,false,false,false,false,false,false,false] rfl rfl (one_of HT_.out T17_) T58_ (fun K hK => ?_)
      refine gZ_ Try.func13 #[.agg #[.int .i64 g1,.int .i64 g2]] ?_
      with_reducible refine (impl_CountOnes.calls g1 g2 q2 _ HQ2.out).mono ?_
      rintro e W2_ ⟨rfl,hb⟩
      refine ⟨_,rfl,?_⟩
      have n_ : Aside0 (W2_.cell? ⟨gf,0,none⟩ = some (.int .i64 f1)) := ⟨pw_cell_below hb C0.out⟩
      clear C0
      have C0 := n_
      clear n_
      have n_ : Aside0 (W2_.cell? ⟨gf,1,none⟩ = some (.int .i64 f2)) := ⟨pw_cell_below hb C1.out⟩
      clear C1
      have C1 := n_
      clear n_
      have n_ : Aside0 (W2_.cell? ⟨gg,0,none⟩ = some (.int .i64 g1)) := ⟨pw_cell_below hb C2.out⟩
      clear C2
      have C2 := n_
      clear n_
      have n_ : Aside0 (W2_.cell? ⟨gg,1,none⟩ = some (.int .i64 g2)) := ⟨pw_cell_below hb C3.out⟩
      clear C3
      have C3 := n_
      clear n_
      have n_ : Aside0 (W2_.cell? ⟨gb_,0,none⟩ = some (.int .i64 a1)) := ⟨pw_cell_below hb C4.out⟩
      clear C4
      have C4 := n_
      clear n_
      have n_ : Aside0 (W2_.cell? ⟨gb_,1,none⟩ = some (.int .i64 a2)) := ⟨pw_cell_below hb C5.out⟩
      clear C5
      have C5 := n_
      clear n_
      have n_ : Aside0 (W2_.cell? ⟨gd_,0,none⟩ = some (.int .i64 o1)) := ⟨pw_cell_below hb C6.out⟩
      clear C6
      have C6 := n_
      clear n_
      have n_ : Aside0 (W2_.cell? ⟨gd_,1,none⟩ = some (.int .i64 o2)) := ⟨pw_cell_below hb C7.out⟩
      clear C7
      have C7 := n_
      clear n_
      have n_ : Aside0 (W2_.cell? ⟨gh_,0,none⟩ = some (.int .i64 e1)) := ⟨pw_cell_below hb C8.out⟩
      clear C8
      have C8 := n_
      clear n_
      have n_ : Aside0 (W2_.cell? ⟨gh_,1,none⟩ = some (.int .i64 e2)) := ⟨pw_cell_below hb C9.out⟩
      clear C9
      have C9 := n_
      clear n_
      have n_ : Aside0 (W2_.cell? ⟨gq,0,none⟩ = some (.int .i64 a1)) := ⟨pw_cell_below hb C10.out⟩
      clear C10
      have C10 := n_
      clear n_
      have n_ : Aside0 (W2_.cell? ⟨gq,1,none⟩ = some (.int .i64 a2)) := ⟨pw_cell_below hb C11.out⟩
      clear C11
      have C11 := n_
      clear n_
      have n_ : Aside0 (W2_.cell? ⟨gr,0,none⟩ = some (.int .i64 f1)) := ⟨pw_cell_below hb C12.out⟩
      clear C12
      have C12 := n_
      clear n_
      have n_ : Aside0 (W2_.cell? ⟨gr,1,none⟩ = some (.int .i64 f2)) := ⟨pw_cell_below hb C13.out⟩
      clear C13
      have C13 := n_
      clear n_
      have n_ := aZ_ (Kd.Heap.C (Kd.heap_int .u8) hb.block HR.out)
      clear HR
      have HR := n_
      clear n_
      have n_ := aZ_ (below_step HB.out hb)
      clear HB
      have HB := n_
      clear n_
      have n_ := aZ_ (blk_below BF.out hb)
      clear BF
      have BF := n_
      clear n_
      clear hb
      refine hK.out _ _ ⟨C0.out,C1.out,C2.out,C3.out,C4.out,C5.out,C6.out,C7.out,C8.out,C9.out,C10.out,C11.out,C12.out,C13.out⟩ (fun hHeld => ?_)
      clear hK K
      refine norm_ (a' := ?_) ?_ ?_
      rotate_left
      ·show Act.put _ (some 172) _ = _
       simp only [Act.put,List.setIfInBounds_toArray,List.set_cons_zero,List.set_cons_succ,i64_w,i32_w]
       rfl
      refine pZ_ 13 (some 173) #[true,true,true,true,true,true,true,true,true,true,true,true,true,true,true,false,true,false,false,false,false,false,false,false,false,false,false,false,false,false,false,false,false,false,false,false,false,false,false] ?_
      refine one_ (i := 15) (N := some 175) #[true,true,true,true,true,true,true,true,true,true,true,true,true,true,true,true,true,false,false,false,false,false,false,false,false,false,false,false,false,false,false,false,false,false,false,false,false,false,false] rfl rfl (one_of HT_.out T17_) T58_ (fun K hK => ?_)
      refine gZ_ Try.func13 #[.agg #[.int .i64 a1,.int .i64 a2]] ?_
      with_reducible refine (impl_CountOnes.calls a1 a2 q3 _ HQ3.out).mono ?_
      rintro e W3_ ⟨rfl,hb⟩
      refine ⟨_,rfl,?_⟩
      have n_ : Aside0 (W3_.cell? ⟨gf,0,none⟩ = some (.int .i64 f1)) := ⟨pw_cell_below hb C0.out⟩
      clear C0
      have C0 := n_
      clear n_
      have n_ : Aside0 (W3_.cell? ⟨gf,1,none⟩ = some (.int .i64 f2)) := ⟨pw_cell_below hb C1.out⟩
      clear C1
      have C1 := n_
      clear n_
      have n_ : Aside0 (W3_.cell? ⟨gg,0,none⟩ = some (.int .i64 g1)) := ⟨pw_cell_below hb C2.out⟩
      clear C2
      have C2 := n_
      clear n_
      have n_ : Aside0 (W3_.cell? ⟨gg,1,none⟩ = some (.int .i64 g2)) := ⟨pw_cell_below hb C3.out⟩
      clear C3
      have C3 := n_
      clear n_
      have n_ : Aside0 (W3_.cell? ⟨gb_,0,none⟩ = some (.int .i64 a1)) := ⟨pw_cell_below hb C4.out⟩
      clear C4
      have C4 := n_
      clear n_
      have n_ : Aside0 (W3_.cell? ⟨gb_,1,none⟩ = some (.int .i64 a2)) := ⟨pw_cell_below hb C5.out⟩
      clear C5
      have C5 := n_
      clear n_
      have n_ : Aside0 (W3_.cell? ⟨gd_,0,none⟩ = some (.int .i64 o1)) := ⟨pw_cell_below hb C6.out⟩
      clear C6
      have C6 := n_
      clear n_
      have n_ : Aside0 (W3_.cell? ⟨gd_,1,none⟩ = some (.int .i64 o2)) := ⟨pw_cell_below hb C7.out⟩
      clear C7
      have C7 := n_
      clear n_
      have n_ : Aside0 (W3_.cell? ⟨gh_,0,none⟩ = some (.int .i64 e1)) := ⟨pw_cell_below hb C8.out⟩
      clear C8
      have C8 := n_
      clear n_
      have n_ : Aside0 (W3_.cell? ⟨gh_,1,none⟩ = some (.int .i64 e2)) := ⟨pw_cell_below hb C9.out⟩
      clear C9
      have C9 := n_
      clear n_
      have n_ : Aside0 (W3_.cell? ⟨gq,0,none⟩ = some (.int .i64 a1)) := ⟨pw_cell_below hb C10.out⟩
      clear C10
      have C10 := n_
      clear n_
      have n_ : Aside0 (W3_.cell? ⟨gq,1,none⟩ = some (.int .i64 a2)) := ⟨pw_cell_below hb C11.out⟩
      clear C11
      have C11 := n_
      clear n_
      have n_ : Aside0 (W3_.cell? ⟨gr,0,none⟩ = some (.int .i64 f1)) := ⟨pw_cell_below hb C12.out⟩
      clear C12
      have C12 := n_
      clear n_
      have n_ : Aside0 (W3_.cell? ⟨gr,1,none⟩ = some (.int .i64 f2)) := ⟨pw_cell_below hb C13.out⟩
      clear C13
      have C13 := n_
      clear n_
      have n_ := aZ_ (Kd.Heap.C (Kd.heap_int .u8) hb.block HR.out)
      clear HR
      have HR := n_
      clear n_
      have n_ := aZ_ (below_step HB.out hb)
      clear HB
      have HB := n_
      clear n_
      have n_ := aZ_ (blk_below BF.out hb)
      clear BF
      have BF := n_
      clear n_
      clear hb
      refine hK.out _ _ ⟨C0.out,C1.out,C2.out,C3.out,C4.out,C5.out,C6.out,C7.out,C8.out,C9.out,C10.out,C11.out,C12.out,C13.out⟩ (fun hHeld => ?_)
      clear hK K
      refine norm_ (a' := ?_) ?_ ?_
      rotate_left
      ·show Act.put _ (some 175) _ = _
       simp only [Act.put,List.setIfInBounds_toArray,List.set_cons_zero,List.set_cons_succ,i64_w,i32_w]
       rfl
      refine one_ (i := 17) (N := some 177) #[true,true,true,true,true,true,true,true,true,true,true,true,true,true,true,true,true,true,false,false,false,false,false,false,false,false,false,false,false,false,false,false,false,false,false,false,false,false,false] rfl rfl (one_of HT_.out T17_) T58_ (fun K hK => ?_)
      refine gZ_ Try.func13 #[.agg #[.int .i64 o1,.int .i64 o2]] ?_
      with_reducible refine (impl_CountOnes.calls o1 o2 q4 _ HQ4.out).mono ?_
      rintro e W4_ ⟨rfl,hb⟩
      refine ⟨_,rfl,?_⟩
      have n_ : Aside0 (W4_.cell? ⟨gf,0,none⟩ = some (.int .i64 f1)) := ⟨pw_cell_below hb C0.out⟩
      clear C0
      have C0 := n_
      clear n_
      have n_ : Aside0 (W4_.cell? ⟨gf,1,none⟩ = some (.int .i64 f2)) := ⟨pw_cell_below hb C1.out⟩
      clear C1
      have C1 := n_
      clear n_
      have n_ : Aside0 (W4_.cell? ⟨gg,0,none⟩ = some (.int .i64 g1)) := ⟨pw_cell_below hb C2.out⟩
      clear C2
      have C2 := n_
      clear n_
      have n_ : Aside0 (W4_.cell? ⟨gg,1,none⟩ = some (.int .i64 g2)) := ⟨pw_cell_below hb C3.out⟩
      clear C3
      have C3 := n_
      clear n_
      have n_ : Aside0 (W4_.cell? ⟨gb_,0,none⟩ = some (.int .i64 a1)) := ⟨pw_cell_below hb C4.out⟩
      clear C4
      have C4 := n_
      clear n_
      have n_ : Aside0 (W4_.cell? ⟨gb_,1,none⟩ = some (.int .i64 a2)) := ⟨pw_cell_below hb C5.out⟩
      clear C5
      have C5 := n_
      clear n_
      have n_ : Aside0 (W4_.cell? ⟨gd_,0,none⟩ = some (.int .i64 o1)) := ⟨pw_cell_below hb C6.out⟩
      clear C6
      have C6 := n_
      clear n_
      have n_ : Aside0 (W4_.cell? ⟨gd_,1,none⟩ = some (.int .i64 o2)) := ⟨pw_cell_below hb C7.out⟩
      clear C7
      have C7 := n_
      clear n_
      have n_ : Aside0 (W4_.cell? ⟨gh_,0,none⟩ = some (.int .i64 e1)) := ⟨pw_cell_below hb C8.out⟩
      clear C8
      have C8 := n_
      clear n_
      have n_ : Aside0 (W4_.cell? ⟨gh_,1,none⟩ = some (.int .i64 e2)) := ⟨pw_cell_below hb C9.out⟩
      clear C9
      have C9 := n_
      clear n_
      have n_ : Aside0 (W4_.cell? ⟨gq,0,none⟩ = some (.int .i64 a1)) := ⟨pw_cell_below hb C10.out⟩
      clear C10
      have C10 := n_
      clear n_
      have n_ : Aside0 (W4_.cell? ⟨gq,1,none⟩ = some (.int .i64 a2)) := ⟨pw_cell_below hb C11.out⟩
      clear C11
      have C11 := n_
      clear n_
      have n_ : Aside0 (W4_.cell? ⟨gr,0,none⟩ = some (.int .i64 f1)) := ⟨pw_cell_below hb C12.out⟩
      clear C12
      have C12 := n_
      clear n_
      have n_ : Aside0 (W4_.cell? ⟨gr,1,none⟩ = some (.int .i64 f2)) := ⟨pw_cell_below hb C13.out⟩
      clear C13
      have C13 := n_
      clear n_
      have n_ := aZ_ (Kd.Heap.C (Kd.heap_int .u8) hb.block HR.out)
      clear HR
      have HR := n_
      clear n_
      have n_ := aZ_ (below_step HB.out hb)
      clear HB
      have HB := n_
      clear n_
      have n_ := aZ_ (blk_below BF.out hb)
      clear BF
      have BF := n_
      clear n_
      clear hb
      refine hK.out _ _ ⟨C0.out,C1.out,C2.out,C3.out,C4.out,C5.out,C6.out,C7.out,C8.out,C9.out,C10.out,C11.out,C12.out,C13.out⟩ (fun hHeld => ?_)
      clear hK K
      refine norm_ (a' := ?_) ?_ ?_
      rotate_left
      ·show Act.put _ (some 177) _ = _
       simp only [Act.put,List.setIfInBounds_toArray,List.set_cons_zero,List.set_cons_succ,i64_w,i32_w]
       rfl
      refine pZ_ 18 (some 178) #[true,true,true,true,true,true,true,true,true,true,true,true,true,true,true,true,true,true,true,false,false,false,false,false,false,false,false,false,false,false,false,false,false,false,false,false,false,false,false] ?_
      refine pZ_ 19 (some 179) #[true,true,true,true,true,true,true,true,true,true,true,true,true,true,true,true,true,true,true,true,false,false,false,false,false,false,false,false,false,false,false,false,false,false,false,false,false,false,false] ?_
      refine pZ_ 20 (some 180) #[true,true,true,true,true,true,true,true,true,true,true,true,true,true,true,true,true,true,true,true,true,false,false,false,false,false,false,false,false,false,false,false,false,false,false,false,false,false,false] ?_
      refine pZ_ 21 (some 181) #[true,true,true,true,true,true,true,true,true,true,true,true,true,true,true,true,true,true,true,true,true,true,false,false,false,false,false,false,false,false,false,false,false,false,false,false,false,false,false] ?_
      refine tZ14_ 22 (some 182) #[true,true,true,true,true,true,true,true,true,true,true,true,true,true,true,true,true,true,true,true,true,true,true,false,false,false,false,false,false,false,false,false,false,false,false,false,false,false,false] hHeld ?_
      refine tZ14_ 24 (some 184) #[true,true,true,true,true,true,true,true,true,true,true,true,true,true,true,true,true,true,true,true,true,true,true,false,true,false,false,false,false,false,false,false,false,false,false,false,false,false,false] hHeld ?_
      refine tZ14_ 26 (some 186) #[true,true,true,true,true,true,true,true,true,true,true,true,true,true,true,true,true,true,true,true,true,true,true,false,true,false,true,false,false,false,false,false,false,false,false,false,false,false,false] hHeld ?_
      refine one_ (i := 23) (N := some 183) #[true,true,true,true,true,true,true,true,true,true,true,true,true,true,true,true,true,true,true,true,true,true,true,true,true,false,true,false,false,false,false,false,false,false,false,false,false,false,false] rfl rfl (one_of HT_.out T17_) T58_ (fun K hK => ?_)
      refine gZ_ Try.func13 #[.agg #[.int .i64 e1,.int .i64 e2]] ?_
      with_reducible refine (impl_CountOnes.calls e1 e2 q5 _ HQ5.out).mono ?_
      rintro e W5_ ⟨rfl,hb⟩
      refine ⟨_,rfl,?_⟩
      have n_ : Aside0 (W5_.cell? ⟨gf,0,none⟩ = some (.int .i64 f1)) := ⟨pw_cell_below hb C0.out⟩
      clear C0
      have C0 := n_
      clear n_
      have n_ : Aside0 (W5_.cell? ⟨gf,1,none⟩ = some (.int .i64 f2)) := ⟨pw_cell_below hb C1.out⟩
      clear C1
      have C1 := n_
      clear n_
      have n_ : Aside0 (W5_.cell? ⟨gg,0,none⟩ = some (.int .i64 g1)) := ⟨pw_cell_below hb C2.out⟩
      clear C2
      have C2 := n_
      clear n_
      have n_ : Aside0 (W5_.cell? ⟨gg,1,none⟩ = some (.int .i64 g2)) := ⟨pw_cell_below hb C3.out⟩
      clear C3
      have C3 := n_
      clear n_
      have n_ : Aside0 (W5_.cell? ⟨gb_,0,none⟩ = some (.int .i64 a1)) := ⟨pw_cell_below hb C4.out⟩
      clear C4
      have C4 := n_
      clear n_
      have n_ : Aside0 (W5_.cell? ⟨gb_,1,none⟩ = some (.int .i64 a2)) := ⟨pw_cell_below hb C5.out⟩
      clear C5
      have C5 := n_
      clear n_
      have n_ : Aside0 (W5_.cell? ⟨gd_,0,none⟩ = some (.int .i64 o1)) := ⟨pw_cell_below hb C6.out⟩
      clear C6
      have C6 := n_
      clear n_
      have n_ : Aside0 (W5_.cell? ⟨gd_,1,none⟩ = some (.int .i64 o2)) := ⟨pw_cell_below hb C7.out⟩
      clear C7
      have C7 := n_
      clear n_
      have n_ : Aside0 (W5_.cell? ⟨gh_,0,none⟩ = some (.int .i64 e1)) := ⟨pw_cell_below hb C8.out⟩
      clear C8
      have C8 := n_
      clear n_
      have n_ : Aside0 (W5_.cell? ⟨gh_,1,none⟩ = some (.int .i64 e2)) := ⟨pw_cell_below hb C9.out⟩
      clear C9
      have C9 := n_
      clear n_
      have n_ : Aside0 (W5_.cell? ⟨gq,0,none⟩ = some (.int .i64 a1)) := ⟨pw_cell_below hb C10.out⟩
      clear C10
      have C10 := n_
      clear n_
      have n_ : Aside0 (W5_.cell? ⟨gq,1,none⟩ = some (.int .i64 a2)) := ⟨pw_cell_below hb C11.out⟩
      clear C11
      have C11 := n_
      clear n_
      have n_ : Aside0 (W5_.cell? ⟨gr,0,none⟩ = some (.int .i64 f1)) := ⟨pw_cell_below hb C12.out⟩
      clear C12
      have C12 := n_
      clear n_
      have n_ : Aside0 (W5_.cell? ⟨gr,1,none⟩ = some (.int .i64 f2)) := ⟨pw_cell_below hb C13.out⟩
      clear C13
      have C13 := n_
      clear n_
      have n_ := aZ_ (Kd.Heap.C (Kd.heap_int .u8) hb.block HR.out)
      clear HR
      have HR := n_
      clear n_
      have n_ := aZ_ (below_step HB.out hb)
      clear HB
      have HB := n_
      clear n_
      have n_ := aZ_ (blk_below BF.out hb)
      clear BF
      have BF := n_
      clear n_
      clear hb
      refine hK.out _ _ ⟨C0.out,C1.out,C2.out,C3.out,C4.out,C5.out,C6.out,C7.out,C8.out,C9.out,C10.out,C11.out,C12.out,C13.out⟩ (fun hHeld => ?_)
      clear hK K
      refine norm_ (a' := ?_) ?_ ?_
      rotate_left
      ·show Act.put _ (some 183) _ = _
       simp only [Act.put,List.setIfInBounds_toArray,List.set_cons_zero,List.set_cons_succ,i64_w,i32_w]
       rfl
      refine one_ (i := 25) (N := some 185) #[true,true,true,true,true,true,true,true,true,true,true,true,true,true,true,true,true,true,true,true,true,true,true,true,true,true,true,false,false,false,false,false,false,false,false,false,false,false,false] rfl rfl (one_of HT_.out T17_) T58_ (fun K hK => ?_)
      refine gZ_ Try.func13 #[.agg #[.int .i64 o1,.int .i64 o2]] ?_
      with_reducible refine (impl_CountOnes.calls o1 o2 q4 _ HQ4.out).mono ?_
      rintro e W6_ ⟨rfl,hb⟩
      refine ⟨_,rfl,?_⟩
      have n_ : Aside0 (W6_.cell? ⟨gf,0,none⟩ = some (.int .i64 f1)) := ⟨pw_cell_below hb C0.out⟩
      clear C0
      have C0 := n_
      clear n_
      have n_ : Aside0 (W6_.cell? ⟨gf,1,none⟩ = some (.int .i64 f2)) := ⟨pw_cell_below hb C1.out⟩
      clear C1
      have C1 := n_
      clear n_
      have n_ : Aside0 (W6_.cell? ⟨gg,0,none⟩ = some (.int .i64 g1)) := ⟨pw_cell_below hb C2.out⟩
      clear C2
      have C2 := n_
      clear n_
      have n_ : Aside0 (W6_.cell? ⟨gg,1,none⟩ = some (.int .i64 g2)) := ⟨pw_cell_below hb C3.out⟩
      clear C3
      have C3 := n_
      clear n_
      have n_ : Aside0 (W6_.cell? ⟨gb_,0,none⟩ = some (.int .i64 a1)) := ⟨pw_cell_below hb C4.out⟩
      clear C4
      have C4 := n_
      clear n_
      have n_ : Aside0 (W6_.cell? ⟨gb_,1,none⟩ = some (.int .i64 a2)) := ⟨pw_cell_below hb C5.out⟩
      clear C5
      have C5 := n_
      clear n_
      have n_ : Aside0 (W6_.cell? ⟨gd_,0,none⟩ = some (.int .i64 o1)) := ⟨pw_cell_below hb C6.out⟩
      clear C6
      have C6 := n_
      clear n_
      have n_ : Aside0 (W6_.cell? ⟨gd_,1,none⟩ = some (.int .i64 o2)) := ⟨pw_cell_below hb C7.out⟩
      clear C7
      have C7 := n_
      clear n_
      have n_ : Aside0 (W6_.cell? ⟨gh_,0,none⟩ = some (.int .i64 e1)) := ⟨pw_cell_below hb C8.out⟩
      clear C8
      have C8 := n_
      clear n_
      have n_ : Aside0 (W6_.cell? ⟨gh_,1,none⟩ = some (.int .i64 e2)) := ⟨pw_cell_below hb C9.out⟩
      clear C9
      have C9 := n_
      clear n_
      have n_ : Aside0 (W6_.cell? ⟨gq,0,none⟩ = some (.int .i64 a1)) := ⟨pw_cell_below hb C10.out⟩
      clear C10
      have C10 := n_
      clear n_
      have n_ : Aside0 (W6_.cell? ⟨gq,1,none⟩ = some (.int .i64 a2)) := ⟨pw_cell_below hb C11.out⟩
      clear C11
      have C11 := n_
      clear n_
      have n_ : Aside0 (W6_.cell? ⟨gr,0,none⟩ = some (.int .i64 f1)) := ⟨pw_cell_below hb C12.out⟩
      clear C12
      have C12 := n_
      clear n_
      have n_ : Aside0 (W6_.cell? ⟨gr,1,none⟩ = some (.int .i64 f2)) := ⟨pw_cell_below hb C13.out⟩
      clear C13
      have C13 := n_
      clear n_
      have n_ := aZ_ (Kd.Heap.C (Kd.heap_int .u8) hb.block HR.out)
      clear HR
      have HR := n_
      clear n_
      have n_ := aZ_ (below_step HB.out hb)
      clear HB
      have HB := n_
      clear n_
      have n_ := aZ_ (blk_below BF.out hb)
      clear BF
      have BF := n_
      clear n_
      clear hb
      refine hK.out _ _ ⟨C0.out,C1.out,C2.out,C3.out,C4.out,C5.out,C6.out,C7.out,C8.out,C9.out,C10.out,C11.out,C12.out,C13.out⟩ (fun hHeld => ?_)
      clear hK K
      refine norm_ (a' := ?_) ?_ ?_
      rotate_left
      ·show Act.put _ (some 185) _ = _
       simp only [Act.put,List.setIfInBounds_toArray,List.set_cons_zero,List.set_cons_succ,i64_w,i32_w]
       rfl
      refine one_ (i := 27) (N := some 187) #[true,true,true,true,true,true,true,true,true,true,true,true,true,true,true,true,true,true,true,true,true,true,true,true,true,true,true,true,false,false,false,false,false,false,false,false,false,false,false] rfl rfl (one_of HT_.out T17_) T58_ (fun K hK => ?_)
      refine gZ_ Try.func13 #[.agg #[.int .i64 a1,.int .i64 a2]] ?_
      with_reducible refine (impl_CountOnes.calls a1 a2 q3 _ HQ3.out).mono ?_
      rintro e W7_ ⟨rfl,hb⟩
      refine ⟨_,rfl,?_⟩
      have n_ : Aside0 (W7_.cell? ⟨gf,0,none⟩ = some (.int .i64 f1)) := ⟨pw_cell_below hb C0.out⟩
      clear C0
      have C0 := n_
      clear n_
      have n_ : Aside0 (W7_.cell? ⟨gf,1,none⟩ = some (.int .i64 f2)) := ⟨pw_cell_below hb C1.out⟩
      clear C1
      have C1 := n_
      clear n_
      have n_ : Aside0 (W7_.cell? ⟨gg,0,none⟩ = some (.int .i64 g1)) := ⟨pw_cell_below hb C2.out⟩
      clear C2
      have C2 := n_
      clear n_
      have n_ : Aside0 (W7_.cell? ⟨gg,1,none⟩ = some (.int .i64 g2)) := ⟨pw_cell_below hb C3.out⟩
      clear C3
      have C3 := n_
      clear n_
      have n_ : Aside0 (W7_.cell? ⟨gb_,0,none⟩ = some (.int .i64 a1)) := ⟨pw_cell_below hb C4.out⟩
      clear C4
      have C4 := n_
      clear n_
      have n_ : Aside0 (W7_.cell? ⟨gb_,1,none⟩ = some (.int .i64 a2)) := ⟨pw_cell_below hb C5.out⟩
      clear C5
      have C5 := n_
      clear n_
      have n_ : Aside0 (W7_.cell? ⟨gd_,0,none⟩ = some (.int .i64 o1)) := ⟨pw_cell_below hb C6.out⟩
      clear C6
      have C6 := n_
      clear n_
      have n_ : Aside0 (W7_.cell? ⟨gd_,1,none⟩ = some (.int .i64 o2)) := ⟨pw_cell_below hb C7.out⟩
      clear C7
      have C7 := n_
      clear n_
      have n_ : Aside0 (W7_.cell? ⟨gh_,0,none⟩ = some (.int .i64 e1)) := ⟨pw_cell_below hb C8.out⟩
      clear C8
      have C8 := n_
      clear n_
      have n_ : Aside0 (W7_.cell? ⟨gh_,1,none⟩ = some (.int .i64 e2)) := ⟨pw_cell_below hb C9.out⟩
      clear C9
      have C9 := n_
      clear n_
      have n_ : Aside0 (W7_.cell? ⟨gq,0,none⟩ = some (.int .i64 a1)) := ⟨pw_cell_below hb C10.out⟩
      clear C10
      have C10 := n_
      clear n_
      have n_ : Aside0 (W7_.cell? ⟨gq,1,none⟩ = some (.int .i64 a2)) := ⟨pw_cell_below hb C11.out⟩
      clear C11
      have C11 := n_
      clear n_
      have n_ : Aside0 (W7_.cell? ⟨gr,0,none⟩ = some (.int .i64 f1)) := ⟨pw_cell_below hb C12.out⟩
      clear C12
      have C12 := n_
      clear n_
      have n_ : Aside0 (W7_.cell? ⟨gr,1,none⟩ = some (.int .i64 f2)) := ⟨pw_cell_below hb C13.out⟩
      clear C13
      have C13 := n_
      clear n_
      have n_ := aZ_ (Kd.Heap.C (Kd.heap_int .u8) hb.block HR.out)
      clear HR
      have HR := n_
      clear n_
      have n_ := aZ_ (below_step HB.out hb)
      clear HB
      have HB := n_
      clear n_
      have n_ := aZ_ (blk_below BF.out hb)
      clear BF
      have BF := n_
      clear n_
      clear hb
      refine hK.out _ _ ⟨C0.out,C1.out,C2.out,C3.out,C4.out,C5.out,C6.out,C7.out,C8.out,C9.out,C10.out,C11.out,C12.out,C13.out⟩ (fun hHeld => ?_)
      clear hK K
      refine norm_ (a' := ?_) ?_ ?_
      rotate_left
      ·show Act.put _ (some 187) _ = _
       simp only [Act.put,List.setIfInBounds_toArray,List.set_cons_zero,List.set_cons_succ,i64_w,i32_w]
       rfl
      refine pZ_ 28 (some 188) #[true,true,true,true,true,true,true,true,true,true,true,true,true,true,true,true,true,true,true,true,true,true,true,true,true,true,true,true,true,false,false,false,false,false,false,false,false,false,false] ?_
      refine pZ_ 29 (some 189) #[true,true,true,true,true,true,true,true,true,true,true,true,true,true,true,true,true,true,true,true,true,true,true,true,true,true,true,true,true,true,false,false,false,false,false,false,false,false,false] ?_
      refine pZ_ 30 (some 190) #[true,true,true,true,true,true,true,true,true,true,true,true,true,true,true,true,true,true,true,true,true,true,true,true,true,true,true,true,true,true,true,false,false,false,false,false,false,false,false] ?_
      refine pZ_ 31 (some 191) #[true,true,true,true,true,true,true,true,true,true,true,true,true,true,true,true,true,true,true,true,true,true,true,true,true,true,true,true,true,true,true,true,false,false,false,false,false,false,false] ?_
      refine tZ14_ 32 (some 192) #[true,true,true,true,true,true,true,true,true,true,true,true,true,true,true,true,true,true,true,true,true,true,true,true,true,true,true,true,true,true,true,true,true,false,false,false,false,false,false] hHeld ?_
      refine tZ14_ 33 (some 193) #[true,true,true,true,true,true,true,true,true,true,true,true,true,true,true,true,true,true,true,true,true,true,true,true,true,true,true,true,true,true,true,true,true,true,false,false,false,false,false] hHeld ?_
      refine tZ14_ 35 (some 195) #[true,true,true,true,true,true,true,true,true,true,true,true,true,true,true,true,true,true,true,true,true,true,true,true,true,true,true,true,true,true,true,true,true,true,false,true,false,false,false] hHeld ?_
      refine one_ (i := 34) (N := some 194) #[true,true,true,true,true,true,true,true,true,true,true,true,true,true,true,true,true,true,true,true,true,true,true,true,true,true,true,true,true,true,true,true,true,true,true,true,false,false,false] rfl rfl (one_of HT_.out T17_) T58_ (fun K hK => ?_)
      refine gZ_ Try.func14 #[.agg #[.int .i64 f1,.int .i64 f2],.agg #[.int .i64 g1,.int .i64 g2]] ?_
      with_reducible refine (impl_DistanceBetween.calls f1 f2 g1 g2 q5 _ HDI.out).mono ?_
      rintro e W8_ ⟨rfl,hb⟩
      refine ⟨_,rfl,?_⟩
      have n_ : Aside0 (W8_.cell? ⟨gf,0,none⟩ = some (.int .i64 f1)) := ⟨pw_cell_below hb C0.out⟩
      clear C0
      have C0 := n_
      clear n_
      have n_ : Aside0 (W8_.cell? ⟨gf,1,none⟩ = some (.int .i64 f2)) := ⟨pw_cell_below hb C1.out⟩
      clear C1
      have C1 := n_
      clear n_
      have n_ : Aside0 (W8_.cell? ⟨gg,0,none⟩ = some (.int .i64 g1)) := ⟨pw_cell_below hb C2.out⟩
      clear C2
      have C2 := n_
      clear n_
      have n_ : Aside0 (W8_.cell? ⟨gg,1,none⟩ = some (.int .i64 g2)) := ⟨pw_cell_below hb C3.out⟩
      clear C3
      have C3 := n_
      clear n_
      have n_ : Aside0 (W8_.cell? ⟨gb_,0,none⟩ = some (.int .i64 a1)) := ⟨pw_cell_below hb C4.out⟩
      clear C4
      have C4 := n_
      clear n_
      have n_ : Aside0 (W8_.cell? ⟨gb_,1,none⟩ = some (.int .i64 a2)) := ⟨pw_cell_below hb C5.out⟩
      clear C5
      have C5 := n_
      clear n_
      have n_ : Aside0 (W8_.cell? ⟨gd_,0,none⟩ = some (.int .i64 o1)) := ⟨pw_cell_below hb C6.out⟩
      clear C6
      have C6 := n_
      clear n_
      have n_ : Aside0 (W8_.cell? ⟨gd_,1,none⟩ = some (.int .i64 o2)) := ⟨pw_cell_below hb C7.out⟩
      clear C7
      have C7 := n_
      clear n_
      have n_ : Aside0 (W8_.cell? ⟨gh_,0,none⟩ = some (.int .i64 e1)) := ⟨pw_cell_below hb C8.out⟩
      clear C8
      have C8 := n_
      clear n_
      have n_ : Aside0 (W8_.cell? ⟨gh_,1,none⟩ = some (.int .i64 e2)) := ⟨pw_cell_below hb C9.out⟩
      clear C9
      have C9 := n_
      clear n_
      have n_ : Aside0 (W8_.cell? ⟨gq,0,none⟩ = some (.int .i64 a1)) := ⟨pw_cell_below hb C10.out⟩
      clear C10
      have C10 := n_
      clear n_
      have n_ : Aside0 (W8_.cell? ⟨gq,1,none⟩ = some (.int .i64 a2)) := ⟨pw_cell_below hb C11.out⟩
      clear C11
      have C11 := n_
      clear n_
      have n_ : Aside0 (W8_.cell? ⟨gr,0,none⟩ = some (.int .i64 f1)) := ⟨pw_cell_below hb C12.out⟩
      clear C12
      have C12 := n_
      clear n_
      have n_ : Aside0 (W8_.cell? ⟨gr,1,none⟩ = some (.int .i64 f2)) := ⟨pw_cell_below hb C13.out⟩
      clear C13
      have C13 := n_
      clear n_
      have n_ := aZ_ (Kd.Heap.C (Kd.heap_int .u8) hb.block HR.out)
      clear HR
      have HR := n_
      clear n_
      have n_ := aZ_ (below_step HB.out hb)
      clear HB
      have HB := n_
      clear n_
      have n_ := aZ_ (blk_below BF.out hb)
      clear BF
      have BF := n_
      clear n_
      clear hb
      refine hK.out _ _ ⟨C0.out,C1.out,C2.out,C3.out,C4.out,C5.out,C6.out,C7.out,C8.out,C9.out,C10.out,C11.out,C12.out,C13.out⟩ (fun hHeld => ?_)
      clear hK K
      refine norm_ (a' := ?_) ?_ ?_
      rotate_left
      ·show Act.put _ (some 194) _ = _
       simp only [Act.put,List.setIfInBounds_toArray,List.set_cons_zero,List.set_cons_succ,i64_w,i32_w]
       rfl
      refine one_ (i := 36) (N := some 196) #[true,true,true,true,true,true,true,true,true,true,true,true,true,true,true,true,true,true,true,true,true,true,true,true,true,true,true,true,true,true,true,true,true,true,true,true,true,false,false] rfl rfl (one_of HT_.out T17_) T58_ (fun K hK => ?_)
      refine gZ_ Try.func13 #[.agg #[.int .i64 e1,.int .i64 e2]] ?_
      with_reducible refine (impl_CountOnes.calls e1 e2 q5 _ HQ5.out).mono ?_
      rintro e W9_ ⟨rfl,hb⟩
      refine ⟨_,rfl,?_⟩
      have n_ : Aside0 (W9_.cell? ⟨gf,0,none⟩ = some (.int .i64 f1)) := ⟨pw_cell_below hb C0.out⟩
      clear C0
      have C0 := n_
      clear n_
      have n_ : Aside0 (W9_.cell? ⟨gf,1,none⟩ = some (.int .i64 f2)) := ⟨pw_cell_below hb C1.out⟩
      clear C1
      have C1 := n_
      clear n_
      have n_ : Aside0 (W9_.cell? ⟨gg,0,none⟩ = some (.int .i64 g1)) := ⟨pw_cell_below hb C2.out⟩
      clear C2
      have C2 := n_
      clear n_
      have n_ : Aside0 (W9_.cell? ⟨gg,1,none⟩ = some (.int .i64 g2)) := ⟨pw_cell_below hb C3.out⟩
      clear C3
      have C3 := n_
      clear n_
      have n_ : Aside0 (W9_.cell? ⟨gb_,0,none⟩ = some (.int .i64 a1)) := ⟨pw_cell_below hb C4.out⟩
      clear C4
      have C4 := n_
      clear n_
      have n_ : Aside0 (W9_.cell? ⟨gb_,1,none⟩ = some (.int .i64 a2)) := ⟨pw_cell_below hb C5.out⟩
      clear C5
      have C5 := n_
      clear n_
      have n_ : Aside0 (W9_.cell? ⟨gd_,0,none⟩ = some (.int .i64 o1)) := ⟨pw_cell_below hb C6.out⟩
      clear C6
      have C6 := n_
      clear n_
      have n_ : Aside0 (W9_.cell? ⟨gd_,1,none⟩ = some (.int .i64 o2)) := ⟨pw_cell_below hb C7.out⟩
      clear C7
      have C7 := n_
      clear n_
      have n_ : Aside0 (W9_.cell? ⟨gh_,0,none⟩ = some (.int .i64 e1)) := ⟨pw_cell_below hb C8.out⟩
      clear C8
      have C8 := n_
      clear n_
      have n_ : Aside0 (W9_.cell? ⟨gh_,1,none⟩ = some (.int .i64 e2)) := ⟨pw_cell_below hb C9.out⟩
      clear C9
      have C9 := n_
      clear n_
      have n_ : Aside0 (W9_.cell? ⟨gq,0,none⟩ = some (.int .i64 a1)) := ⟨pw_cell_below hb C10.out⟩
      clear C10
      have C10 := n_
      clear n_
      have n_ : Aside0 (W9_.cell? ⟨gq,1,none⟩ = some (.int .i64 a2)) := ⟨pw_cell_below hb C11.out⟩
      clear C11
      have C11 := n_
      clear n_
      have n_ : Aside0 (W9_.cell? ⟨gr,0,none⟩ = some (.int .i64 f1)) := ⟨pw_cell_below hb C12.out⟩
      clear C12
      have C12 := n_
      clear n_
      have n_ : Aside0 (W9_.cell? ⟨gr,1,none⟩ = some (.int .i64 f2)) := ⟨pw_cell_below hb C13.out⟩
      clear C13
      have C13 := n_
      clear n_
      have n_ := aZ_ (Kd.Heap.C (Kd.heap_int .u8) hb.block HR.out)
      clear HR
      have HR := n_
      clear n_
      have n_ := aZ_ (below_step HB.out hb)
      clear HB
      have HB := n_
      clear n_
      have n_ := aZ_ (blk_below BF.out hb)
      clear BF
      have BF := n_
      clear n_
      clear hb
      refine hK.out _ _ ⟨C0.out,C1.out,C2.out,C3.out,C4.out,C5.out,C6.out,C7.out,C8.out,C9.out,C10.out,C11.out,C12.out,C13.out⟩ (fun hHeld => ?_)
      clear hK K
      refine norm_ (a' := ?_) ?_ ?_
      rotate_left
      ·show Act.put _ (some 196) _ = _
       simp only [Act.put,List.setIfInBounds_toArray,List.set_cons_zero,List.set_cons_succ,i64_w,i32_w]
       rfl
      refine pZ_ 37 (some 197) #[true,true,true,true,true,true,true,true,true,true,true,true,true,true,true,true,true,true,true,true,true,true,true,true,true,true,true,true,true,true,true,true,true,true,true,true,true,true,false] ?_
      refine pZ_ 38 (some 198) #[true,true,true,true,true,true,true,true,true,true,true,true,true,true,true,true,true,true,true,true,true,true,true,true,true,true,true,true,true,true,true,true,true,true,true,true,true,true,true] ?_
      refine done_ (done_of HT_.out T17_) ?_
      (try go_wp2_with (fail))
      go_meet
      exact ⟨HR,HB,BF⟩
     case false =>
      go_wp2_with (fail)
      go_meet
      exact ⟨HR,HB,BF⟩
   case rest =>
    as_aux_lemma =>
     clear HR HB BF BG BB BD BH hc_BF_0 hc_BF_1 hc_BG_0 hc_BG_1 hc_BB_0 hc_BB_1 hc_BD_0 hc_BD_1 hc_BH_0 hc_BH_1
     obtain ⟨HR,HB,BF⟩ := hcut
     have hc_BF_0 : wc.cell? ⟨gf,0,none⟩ = some (.int .i64 f1) := (blk_cell BF.out 0).trans rfl
     have hc_BF_1 : wc.cell? ⟨gf,1,none⟩ = some (.int .i64 f2) := (blk_cell BF.out 1).trans rfl
     go_upto_region 21 with (go_at_call 15;refine (impl_FormatTable.calls k f1 f2 st _ HG.out.fm).mono ?_;rintro e w16 ⟨rfl,hb⟩;have n_ := aZ_ (Kd.Heap.C (Kd.heap_int .u8) hb.block HR.out);clear HR;have HR := n_;clear n_;have n_ := aZ_ (below_step HB.out hb);clear HB;have HB := n_;clear n_;have n_ := aZ_ (blk_below BF.out hb);clear BF;have BF := n_;clear n_;clear hb ;clear hc_BF_0 hc_BF_1;have hc_BF_0 : w16.cell? ⟨gf,0,none⟩ = some (.int .i64 f1) := (blk_cell BF.out 0).trans rfl;have hc_BF_1 : w16.cell? ⟨gf,1,none⟩ = some (.int .i64 f2) := (blk_cell BF.out 1).trans rfl)
     go_upto_region 22 with (go_at_call 16;refine (impl_ParseTable.calls k st k1 k2 rd _ HG.out.ps).mono ?_;rintro e w17 ⟨rfl,hb⟩;have n_ := aZ_ (Kd.Heap.C (Kd.heap_int .u8) hb.block HR.out);clear HR;have HR := n_;clear n_;have n_ := aZ_ (below_step HB.out hb);clear HB;have HB := n_;clear n_;have n_ := aZ_ (blk_below BF.out hb);clear BF;have BF := n_;clear n_;clear hb ;clear hc_BF_0 hc_BF_1;have hc_BF_0 : w17.cell? ⟨gf,0,none⟩ = some (.int .i64 f1) := (blk_cell BF.out 0).trans rfl;have hc_BF_1 : w17.cell? ⟨gf,1,none⟩ = some (.int .i64 f2) := (blk_cell BF.out 1).trans rfl)
     clear hc_BF_0 hc_BF_1
     have BK := aZ_ (blk_new w17 (.cells #[.int .i64 k1,.int .i64 k2] 25 (0,0)))
     have hb := below_alloc (Below.refl w17.heap.size w17) (.cells #[.int .i64 k1,.int .i64 k2] 25 (0,0))
     have n_ := aZ_ (Kd.Heap.C (Kd.heap_int .u8) hb.block HR.out)
     clear HR
     have HR := n_
     clear n_
     have n_ := aZ_ (below_step HB.out hb)
     clear HB
     have HB := n_
     clear n_
     have n_ := aZ_ (blk_below BF.out hb)
     clear BF
     have BF := n_
     clear n_
     clear hb
     obtain ⟨gk,hgk_⟩ : ∃ gk,gk = w17.heap.size := ⟨_,rfl⟩
     rw [← hgk_] at BK ⊢
     clear hgk_
     generalize w17.alloc (.cells #[.int .i64 k1,.int .i64 k2] 25 (0,0)) = w18 at HR HB BF BK ⊢
     have hc_BF_0 : w18.cell? ⟨gf,0,none⟩ = some (.int .i64 f1) := (blk_cell BF.out 0).trans rfl
     have hc_BF_1 : w18.cell? ⟨gf,1,none⟩ = some (.int .i64 f2) := (blk_cell BF.out 1).trans rfl
     have hc_BK_0 : w18.cell? ⟨gk,0,none⟩ = some (.int .i64 k1) := (blk_cell BK.out 0).trans rfl
     have hc_BK_1 : w18.cell? ⟨gk,1,none⟩ = some (.int .i64 k2) := (blk_cell BK.out 1).trans rfl
     have h_rd : (rd != rd) = false := bne_self_eq_false rd
     have h_f1 : (f1 != f1) = false := bne_self_eq_false f1
     have h_f2 : (f2 != f2) = false := bne_self_eq_false f2
     go_cut [229] (fun s229 wx => s229 = .bool false ∧ Aside0 (Kd.C (Kd.int .u8) wx A0 l0.length l0) ∧ Aside0 (Below w.heap.size w wx))
     case first =>
      cases rd
      case' true =>
       have hk1 : (k1 != f1) = false := by rw [(HG.out.back rfl).1];exact bne_self_eq_false _
       have hk2 : (k2 != f2) = false := by rw [(HG.out.back rfl).2];exact bne_self_eq_false _
      all_goals
       go_wp2_with (first | (go_at_call 17;refine (spec_FormatTable.calls k _ _ st _ HG.out.fm2).mono ?_;rintro e wa ⟨rfl,hb⟩;have n_ := aZ_ (Kd.Heap.C (Kd.heap_int .u8) hb.block HR.out);clear HR;have HR := n_;clear n_;have n_ := aZ_ (below_step HB.out hb);clear HB;have HB := n_;clear n_;have n_ := aZ_ (blk_below BF.out hb);clear BF;have BF := n_;clear n_;have n_ := aZ_ (blk_below BK.out hb);clear BK;have BK := n_;clear n_;clear hb ;clear hc_BF_0 hc_BF_1 hc_BK_0 hc_BK_1;have hc_BF_0 : wa.cell? ⟨gf,0,none⟩ = some (.int .i64 f1) := (blk_cell BF.out 0).trans rfl;have hc_BF_1 : wa.cell? ⟨gf,1,none⟩ = some (.int .i64 f2) := (blk_cell BF.out 1).trans rfl;have hc_BK_0 : wa.cell? ⟨gk,0,none⟩ = some (.int .i64 k1) := (blk_cell BK.out 0).trans rfl;have hc_BK_1 : wa.cell? ⟨gk,1,none⟩ = some (.int .i64 k2) := (blk_cell BK.out 1).trans rfl) | (go_at_call 18;refine (spec_IsTable.calls _ _ _ _ HG.out.it).mono ?_;rintro e wb ⟨rfl,hb⟩;have n_ := aZ_ (Kd.Heap.C (Kd.heap_int .u8) hb.block HR.out);clear HR;have HR := n_;clear n_;have n_ := aZ_ (below_step HB.out hb);clear HB;have HB := n_;clear n_;have n_ := aZ_ (blk_below BF.out hb);clear BF;have BF := n_;clear n_;have n_ := aZ_ (blk_below BK.out hb);clear BK;have BK := n_;clear n_;clear hb ;clear hc_BF_0 hc_BF_1 hc_BK_0 hc_BK_1;have hc_BF_0 : wb.cell? ⟨gf,0,none⟩ = some (.int .i64 f1) := (blk_cell BF.out 0).trans rfl;have hc_BF_1 : wb.cell? ⟨gf,1,none⟩ = some (.int .i64 f2) := (blk_cell BF.out 1).trans rfl;have hc_BK_0 : wb.cell? ⟨gk,0,none⟩ = some (.int .i64 k1) := (blk_cell BK.out 0).trans rfl;have hc_BK_1 : wb.cell? ⟨gk,1,none⟩ = some (.int .i64 k2) := (blk_cell BK.out 1).trans rfl) | (go_at_call 19;refine (impl_IsTable.calls _ _ _ _ HG.out.it2).mono ?_;rintro e wc ⟨rfl,hb⟩;have n_ := aZ_ (Kd.Heap.C (Kd.heap_int .u8) hb.block HR.out);clear HR;have HR := n_;clear n_;have n_ := aZ_ (below_step HB.out hb);clear HB;have HB := n_;clear n_;have n_ := aZ_ (blk_below BF.out hb);clear BF;have BF := n_;clear n_;have n_ := aZ_ (blk_below BK.out hb);clear BK;have BK := n_;clear n_;clear hb ;clear hc_BF_0 hc_BF_1 hc_BK_0 hc_BK_1;have hc_BF_0 : wc.cell? ⟨gf,0,none⟩ = some (.int .i64 f1) := (blk_cell BF.out 0).trans rfl;have hc_BF_1 : wc.cell? ⟨gf,1,none⟩ = some (.int .i64 f2) := (blk_cell BF.out 1).trans rfl;have hc_BK_0 : wc.cell? ⟨gk,0,none⟩ = some (.int .i64 k1) := (blk_cell BK.out 0).trans rfl;have hc_BK_1 : wc.cell? ⟨gk,1,none⟩ = some (.int .i64 k2) := (blk_cell BK.out 1).trans rfl))
       all_goals first | exact absurd (HG.out.back rfl).1 (by assumption) | exact absurd (HG.out.back rfl).2 (by assumption) | (go_meet;exact ⟨rfl,HR,HB⟩)
     case rest =>
      clear HR HB BF BK h_rd h_f1 h_f2 hc_BF_0 hc_BF_1 hc_BK_0 hc_BK_1
      obtain ⟨rfl,HR,HB⟩ := hcut
      go_upto_region 25 with (go_at_call 20;refine (spec_DrawParseTable.calls k A0 c0 l0 t _ HR.out HC0.out HG.out.dp).mono ?_;rintro e w19 ⟨rfl,hb⟩;have n_ := aZ_ (Kd.Heap.C (Kd.heap_int .u8) hb.block HR.out);clear HR;have HR := n_;clear n_;have n_ := aZ_ (below_step HB.out hb);clear HB;have HB := n_;clear n_;clear hb )
      go_upto_region 26 with (go_at_call 16;refine (impl_ParseTable.calls k t x1 x2 x3 _ HG.out.pt).mono ?_;rintro e w20 ⟨rfl,hb⟩;have n_ := aZ_ (Kd.Heap.C (Kd.heap_int .u8) hb.block HR.out);clear HR;have HR := n_;clear n_;have n_ := aZ_ (below_step HB.out hb);clear HB;have HB := n_;clear n_;clear hb )
      have BA := aZ_ (blk_new w20 (.cells #[.int .i64 x1,.int .i64 x2] 25 (0,0)))
      have hb := below_alloc (Below.refl w20.heap.size w20) (.cells #[.int .i64 x1,.int .i64 x2] 25 (0,0))
      have n_ := aZ_ (Kd.Heap.C (Kd.heap_int .u8) hb.block HR.out)
      clear HR
      have HR := n_
      clear n_
      have n_ := aZ_ (below_step HB.out hb)
      clear HB
      have HB := n_
      clear n_
      clear hb
      obtain ⟨ga,hga_⟩ : ∃ ga,ga = w20.heap.size := ⟨_,rfl⟩
      rw [← hga_] at BA ⊢
      clear hga_
      generalize w20.alloc (.cells #[.int .i64 x1,.int .i64 x2] 25 (0,0)) = w21 at HR HB BA ⊢
      have hc_BA_0 : w21.cell? ⟨ga,0,none⟩ = some (.int .i64 x1) := (blk_cell BA.out 0).trans rfl
      have hc_BA_1 : w21.cell? ⟨ga,1,none⟩ = some (.int .i64 x2) := (blk_cell BA.out 1).trans rfl
      go_upto_region 27 with (go_at_call 21;refine (spec_ParseTable.calls k t x1 x2 x3 _ HG.out.pt2).mono ?_;rintro e w22 ⟨rfl,hb⟩;have n_ := aZ_ (Kd.Heap.C (Kd.heap_int .u8) hb.block HR.out);clear HR;have HR := n_;clear n_;have n_ := aZ_ (below_step HB.out hb);clear HB;have HB := n_;clear n_;have n_ := aZ_ (blk_below BA.out hb);clear BA;have BA := n_;clear n_;clear hb ;clear hc_BA_0 hc_BA_1;have hc_BA_0 : w22.cell? ⟨ga,0,none⟩ = some (.int .i64 x1) := (blk_cell BA.out 0).trans rfl;have hc_BA_1 : w22.cell? ⟨ga,1,none⟩ = some (.int .i64 x2) := (blk_cell BA.out 1).trans rfl)
      clear hc_BA_0 hc_BA_1
      have BB := aZ_ (blk_new w22 (.cells #[.int .i64 x1,.int .i64 x2] 25 (0,0)))
      have hb := below_alloc (Below.refl w22.heap.size w22) (.cells #[.int .i64 x1,.int .i64 x2] 25 (0,0))
      have n_ := aZ_ (Kd.Heap.C (Kd.heap_int .u8) hb.block HR.out)
      clear HR
      have HR := n_
      clear n_
      have n_ := aZ_ (below_step HB.out hb)
      clear HB
      have HB := n_
      clear n_
      have n_ := aZ_ (blk_below BA.out hb)
      clear BA
      have BA := n_
      clear n_
      clear hb
      obtain ⟨gb,hgb_⟩ : ∃ gb,gb = w22.heap.size := ⟨_,rfl⟩
      rw [← hgb_] at BB ⊢
      clear hgb_
      generalize w22.alloc (.cells #[.int .i64 x1,.int .i64 x2] 25 (0,0)) = w23 at HR HB BA BB ⊢
      have hc_BA_0 : w23.cell? ⟨ga,0,none⟩ = some (.int .i64 x1) := (blk_cell BA.out 0).trans rfl
      have hc_BA_1 : w23.cell? ⟨ga,1,none⟩ = some (.int .i64 x2) := (blk_cell BA.out 1).trans rfl
      have hc_BB_0 : w23.cell? ⟨gb,0,none⟩ = some (.int .i64 x1) := (blk_cell BB.out 0).trans rfl
      have hc_BB_1 : w23.cell? ⟨gb,1,none⟩ = some (.int .i64 x2) := (blk_cell BB.out 1).trans rfl
      go_upto_region 28 with (go_at_call 22;refine (spec_DrawValueAt.calls k A0 c0 l0 v1 v2 vx _ HR.out HC0.out HG.out.dv).mono ?_;rintro e w24 ⟨rfl,hb⟩;have n_ := aZ_ (Kd.Heap.C (Kd.heap_int .u8) hb.block HR.out);clear HR;have HR := n_;clear n_;have n_ := aZ_ (below_step HB.out hb);clear HB;have HB := n_;clear n_;have n_ := aZ_ (blk_below BA.out hb);clear BA;have BA := n_;clear n_;have n_ := aZ_ (blk_below BB.out hb);clear BB;have BB := n_;clear n_;clear hb ;clear hc_BA_0 hc_BA_1 hc_BB_0 hc_BB_1;have hc_BA_0 : w24.cell? ⟨ga,0,none⟩ = some (.int .i64 x1) := (blk_cell BA.out 0).trans rfl;have hc_BA_1 : w24.cell? ⟨ga,1,none⟩ = some (.int .i64 x2) := (blk_cell BA.out 1).trans rfl;have hc_BB_0 : w24.cell? ⟨gb,0,none⟩ = some (.int .i64 x1) := (blk_cell BB.out 0).trans rfl;have hc_BB_1 : w24.cell? ⟨gb,1,none⟩ = some (.int .i64 x2) := (blk_cell BB.out 1).trans rfl)
      clear hc_BA_0 hc_BA_1 hc_BB_0 hc_BB_1
      have BC := aZ_ (blk_new w24 (.cells #[.int .i64 v1,.int .i64 v2] 25 (0,0)))
      have hb := below_alloc (Below.refl w24.heap.size w24) (.cells #[.int .i64 v1,.int .i64 v2] 25 (0,0))
      have n_ := aZ_ (Kd.Heap.C (Kd.heap_int .u8) hb.block HR.out)
      clear HR
      have HR := n_
      clear n_
      have n_ := aZ_ (below_step HB.out hb)
      clear HB
      have HB := n_
      clear n_
      have n_ := aZ_ (blk_below BA.out hb)
      clear BA
      have BA := n_
      clear n_
      have n_ := aZ_ (blk_below BB.out hb)
      clear BB
      have BB := n_
      clear n_
      clear hb
      obtain ⟨gc,hgc_⟩ : ∃ gc,gc = w24.heap.size := ⟨_,rfl⟩
      rw [← hgc_] at BC ⊢
      clear hgc_
      generalize w24.alloc (.cells #[.int .i64 v1,.int .i64 v2] 25 (0,0)) = w25 at HR HB BA BB BC ⊢
      have hc_BA_0 : w25.cell? ⟨ga,0,none⟩ = some (.int .i64 x1) := (blk_cell BA.out 0).trans rfl
      have hc_BA_1 : w25.cell? ⟨ga,1,none⟩ = some (.int .i64 x2) := (blk_cell BA.out 1).trans rfl
      have hc_BB_0 : w25.cell? ⟨gb,0,none⟩ = some (.int .i64 x1) := (blk_cell BB.out 0).trans rfl
      have hc_BB_1 : w25.cell? ⟨gb,1,none⟩ = some (.int .i64 x2) := (blk_cell BB.out 1).trans rfl
      have hc_BC_0 : w25.cell? ⟨gc,0,none⟩ = some (.int .i64 v1) := (blk_cell BC.out 0).trans rfl
      have hc_BC_1 : w25.cell? ⟨gc,1,none⟩ = some (.int .i64 v2) := (blk_cell BC.out 1).trans rfl
      go_upto_region 29 with (go_at_call 23;refine (spec_DrawNotTable.calls k A0 c0 l0 y1 y2 _ HR.out HC0.out HG.out.dn).mono ?_;rintro e w26 ⟨rfl,hb⟩;have n_ := aZ_ (Kd.Heap.C (Kd.heap_int .u8) hb.block HR.out);clear HR;have HR := n_;clear n_;have n_ := aZ_ (below_step HB.out hb);clear HB;have HB := n_;clear n_;have n_ := aZ_ (blk_below BA.out hb);clear BA;have BA := n_;clear n_;have n_ := aZ_ (blk_below BB.out hb);clear BB;have BB := n_;clear n_;have n_ := aZ_ (blk_below BC.out hb);clear BC;have BC := n_;clear n_;clear hb ;clear hc_BA_0 hc_BA_1 hc_BB_0 hc_BB_1 hc_BC_0 hc_BC_1;have hc_BA_0 : w26.cell? ⟨ga,0,none⟩ = some (.int .i64 x1) := (blk_cell BA.out 0).trans rfl;have hc_BA_1 : w26.cell? ⟨ga,1,none⟩ = some (.int .i64 x2) := (blk_cell BA.out 1).trans rfl;have hc_BB_0 : w26.cell? ⟨gb,0,none⟩ = some (.int .i64 x1) := (blk_cell BB.out 0).trans rfl;have hc_BB_1 : w26.cell? ⟨gb,1,none⟩ = some (.int .i64 x2) := (blk_cell BB.out 1).trans rfl;have hc_BC_0 : w26.cell? ⟨gc,0,none⟩ = some (.int .i64 v1) := (blk_cell BC.out 0).trans rfl;have hc_BC_1 : w26.cell? ⟨gc,1,none⟩ = some (.int .i64 v2) := (blk_cell BC.out 1).trans rfl)
      clear hc_BA_0 hc_BA_1 hc_BB_0 hc_BB_1 hc_BC_0 hc_BC_1
      have BY := aZ_ (blk_new w26 (.cells #[.int .i64 y1,.int .i64 y2] 25 (0,0)))
      have hb := below_alloc (Below.refl w26.heap.size w26) (.cells #[.int .i64 y1,.int .i64 y2] 25 (0,0))
      have n_ := aZ_ (Kd.Heap.C (Kd.heap_int .u8) hb.block HR.out)
      clear HR
      have HR := n_
      clear n_
      have n_ := aZ_ (below_step HB.out hb)
      clear HB
      have HB := n_
      clear n_
      have n_ := aZ_ (blk_below BA.out hb)
      clear BA
      have BA := n_
      clear n_
      have n_ := aZ_ (blk_below BB.out hb)
      clear BB
      have BB := n_
      clear n_
      have n_ := aZ_ (blk_below BC.out hb)
      clear BC
      have BC := n_
      clear n_
      clear hb
      obtain ⟨gy,hgy_⟩ : ∃ gy,gy = w26.heap.size := ⟨_,rfl⟩
      rw [← hgy_] at BY ⊢
      clear hgy_
      generalize w26.alloc (.cells #[.int .i64 y1,.int .i64 y2] 25 (0,0)) = w27 at HR HB BA BB BC BY ⊢
      have hc_BA_0 : w27.cell? ⟨ga,0,none⟩ = some (.int .i64 x1) := (blk_cell BA.out 0).trans rfl
      have hc_BA_1 : w27.cell? ⟨ga,1,none⟩ = some (.int .i64 x2) := (blk_cell BA.out 1).trans rfl
      have hc_BB_0 : w27.cell? ⟨gb,0,none⟩ = some (.int .i64 x1) := (blk_cell BB.out 0).trans rfl
      have hc_BB_1 : w27.cell? ⟨gb,1,none⟩ = some (.int .i64 x2) := (blk_cell BB.out 1).trans rfl
      have hc_BC_0 : w27.cell? ⟨gc,0,none⟩ = some (.int .i64 v1) := (blk_cell BC.out 0).trans rfl
      have hc_BC_1 : w27.cell? ⟨gc,1,none⟩ = some (.int .i64 v2) := (blk_cell BC.out 1).trans rfl
      have hc_BY_0 : w27.cell? ⟨gy,0,none⟩ = some (.int .i64 y1) := (blk_cell BY.out 0).trans rfl
      have hc_BY_1 : w27.cell? ⟨gy,1,none⟩ = some (.int .i64 y2) := (blk_cell BY.out 1).trans rfl
      go_upto_region 30 with (go_at_call 12;refine (impl_NotTable.calls y1 y2 z1 z2 z3 _ HG.out.nt).mono ?_;rintro e w28 ⟨rfl,hb⟩;have n_ := aZ_ (Kd.Heap.C (Kd.heap_int .u8) hb.block HR.out);clear HR;have HR := n_;clear n_;have n_ := aZ_ (below_step HB.out hb);clear HB;have HB := n_;clear n_;have n_ := aZ_ (blk_below BA.out hb);clear BA;have BA := n_;clear n_;have n_ := aZ_ (blk_below BB.out hb);clear BB;have BB := n_;clear n_;have n_ := aZ_ (blk_below BC.out hb);clear BC;have BC := n_;clear n_;have n_ := aZ_ (blk_below BY.out hb);clear BY;have BY := n_;clear n_;clear hb ;clear hc_BA_0 hc_BA_1 hc_BB_0 hc_BB_1 hc_BC_0 hc_BC_1 hc_BY_0 hc_BY_1;have hc_BA_0 : w28.cell? ⟨ga,0,none⟩ = some (.int .i64 x1) := (blk_cell BA.out 0).trans rfl;have hc_BA_1 : w28.cell? ⟨ga,1,none⟩ = some (.int .i64 x2) := (blk_cell BA.out 1).trans rfl;have hc_BB_0 : w28.cell? ⟨gb,0,none⟩ = some (.int .i64 x1) := (blk_cell BB.out 0).trans rfl;have hc_BB_1 : w28.cell? ⟨gb,1,none⟩ = some (.int .i64 x2) := (blk_cell BB.out 1).trans rfl;have hc_BC_0 : w28.cell? ⟨gc,0,none⟩ = some (.int .i64 v1) := (blk_cell BC.out 0).trans rfl;have hc_BC_1 : w28.cell? ⟨gc,1,none⟩ = some (.int .i64 v2) := (blk_cell BC.out 1).trans rfl;have hc_BY_0 : w28.cell? ⟨gy,0,none⟩ = some (.int .i64 y1) := (blk_cell BY.out 0).trans rfl;have hc_BY_1 : w28.cell? ⟨gy,1,none⟩ = some (.int .i64 y2) := (blk_cell BY.out 1).trans rfl)
      clear hc_BA_0 hc_BA_1 hc_BB_0 hc_BB_1 hc_BC_0 hc_BC_1 hc_BY_0 hc_BY_1
      have BD := aZ_ (blk_new w28 (.cells #[.int .i64 z1,.int .i64 z2] 25 (0,0)))
      have hb := below_alloc (Below.refl w28.heap.size w28) (.cells #[.int .i64 z1,.int .i64 z2] 25 (0,0))
      have n_ := aZ_ (Kd.Heap.C (Kd.heap_int .u8) hb.block HR.out)
      clear HR
      have HR := n_
      clear n_
      have n_ := aZ_ (below_step HB.out hb)
      clear HB
      have HB := n_
      clear n_
      have n_ := aZ_ (blk_below BA.out hb)
      clear BA
      have BA := n_
      clear n_
      have n_ := aZ_ (blk_below BB.out hb)
      clear BB
      have BB := n_
      clear n_
      have n_ := aZ_ (blk_below BC.out hb)
      clear BC
      have BC := n_
      clear n_
      have n_ := aZ_ (blk_below BY.out hb)
      clear BY
      have BY := n_
      clear n_
      clear hb
      obtain ⟨gd,hgd_⟩ : ∃ gd,gd = w28.heap.size := ⟨_,rfl⟩
      rw [← hgd_] at BD ⊢
      clear hgd_
      generalize w28.alloc (.cells #[.int .i64 z1,.int .i64 z2] 25 (0,0)) = w29 at HR HB BA BB BC BY BD ⊢
      have hc_BA_0 : w29.cell? ⟨ga,0,none⟩ = some (.int .i64 x1) := (blk_cell BA.out 0).trans rfl
      have hc_BA_1 : w29.cell? ⟨ga,1,none⟩ = some (.int .i64 x2) := (blk_cell BA.out 1).trans rfl
      have hc_BB_0 : w29.cell? ⟨gb,0,none⟩ = some (.int .i64 x1) := (blk_cell BB.out 0).trans rfl
      have hc_BB_1 : w29.cell? ⟨gb,1,none⟩ = some (.int .i64 x2) := (blk_cell BB.out 1).trans rfl
      have hc_BC_0 : w29.cell? ⟨gc,0,none⟩ = some (.int .i64 v1) := (blk_cell BC.out 0).trans rfl
      have hc_BC_1 : w29.cell? ⟨gc,1,none⟩ = some (.int .i64 v2) := (blk_cell BC.out 1).trans rfl
      have hc_BY_0 : w29.cell? ⟨gy,0,none⟩ = some (.int .i64 y1) := (blk_cell BY.out 0).trans rfl
      have hc_BY_1 : w29.cell? ⟨gy,1,none⟩ = some (.int .i64 y2) := (blk_cell BY.out 1).trans rfl
      have hc_BD_0 : w29.cell? ⟨gd,0,none⟩ = some (.int .i64 z1) := (blk_cell BD.out 0).trans rfl
      have hc_BD_1 : w29.cell? ⟨gd,1,none⟩ = some (.int .i64 z2) := (blk_cell BD.out 1).trans rfl
      go_upto_region 31 with (go_at_call 24;refine (spec_NotTable.calls y1 y2 z1 z2 z3 _ HG.out.nt2).mono ?_;rintro e w30 ⟨rfl,hb⟩;have n_ := aZ_ (Kd.Heap.C (Kd.heap_int .u8) hb.block HR.out);clear HR;have HR := n_;clear n_;have n_ := aZ_ (below_step HB.out hb);clear HB;have HB := n_;clear n_;have n_ := aZ_ (blk_below BA.out hb);clear BA;have BA := n_;clear n_;have n_ := aZ_ (blk_below BB.out hb);clear BB;have BB := n_;clear n_;have n_ := aZ_ (blk_below BC.out hb);clear BC;have BC := n_;clear n_;have n_ := aZ_ (blk_below BY.out hb);clear BY;have BY := n_;clear n_;have n_ := aZ_ (blk_below BD.out hb);clear BD;have BD := n_;clear n_;clear hb ;clear hc_BA_0 hc_BA_1 hc_BB_0 hc_BB_1 hc_BC_0 hc_BC_1 hc_BY_0 hc_BY_1 hc_BD_0 hc_BD_1;have hc_BA_0 : w30.cell? ⟨ga,0,none⟩ = some (.int .i64 x1) := (blk_cell BA.out 0).trans rfl;have hc_BA_1 : w30.cell? ⟨ga,1,none⟩ = some (.int .i64 x2) := (blk_cell BA.out 1).trans rfl;have hc_BB_0 : w30.cell? ⟨gb,0,none⟩ = some (.int .i64 x1) := (blk_cell BB.out 0).trans rfl;have hc_BB_1 : w30.cell? ⟨gb,1,none⟩ = some (.int .i64 x2) := (blk_cell BB.out 1).trans rfl;have hc_BC_0 : w30.cell? ⟨gc,0,none⟩ = some (.int .i64 v1) := (blk_cell BC.out 0).trans rfl;have hc_BC_1 : w30.cell? ⟨gc,1,none⟩ = some (.int .i64 v2) := (blk_cell BC.out 1).trans rfl;have hc_BY_0 : w30.cell? ⟨gy,0,none⟩ = some (.int .i64 y1) := (blk_cell BY.out 0).trans rfl;have hc_BY_1 : w30.cell? ⟨gy,1,none⟩ = some (.int .i64 y2) := (blk_cell BY.out 1).trans rfl;have hc_BD_0 : w30.cell? ⟨gd,0,none⟩ = some (.int .i64 z1) := (blk_cell BD.out 0).trans rfl;have hc_BD_1 : w30.cell? ⟨gd,1,none⟩ = some (.int .i64 z2) := (blk_cell BD.out 1).trans rfl)
      clear hc_BA_0 hc_BA_1 hc_BB_0 hc_BB_1 hc_BC_0 hc_BC_1 hc_BY_0 hc_BY_1 hc_BD_0 hc_BD_1
      have BE := aZ_ (blk_new w30 (.cells #[.int .i64 z1,.int .i64 z2] 25 (0,0)))
      have hb := below_alloc (Below.refl w30.heap.size w30) (.cells #[.int .i64 z1,.int .i64 z2] 25 (0,0))
      have n_ := aZ_ (Kd.Heap.C (Kd.heap_int .u8) hb.block HR.out)
      clear HR
      have HR := n_
      clear n_
      have n_ := aZ_ (below_step HB.out hb)
      clear HB
      have HB := n_
      clear n_
      have n_ := aZ_ (blk_below BA.out hb)
      clear BA
      have BA := n_
      clear n_
      have n_ := aZ_ (blk_below BB.out hb)
      clear BB
      have BB := n_
      clear n_
      have n_ := aZ_ (blk_below BC.out hb)
      clear BC
      have BC := n_
      clear n_
      have n_ := aZ_ (blk_below BY.out hb)
      clear BY
      have BY := n_
      clear n_
      have n_ := aZ_ (blk_below BD.out hb)
      clear BD
      have BD := n_
      clear n_
      clear hb
      obtain ⟨ge,hge_⟩ : ∃ ge,ge = w30.heap.size := ⟨_,rfl⟩
      rw [← hge_] at BE ⊢
      clear hge_
      generalize w30.alloc (.cells #[.int .i64 z1,.int .i64 z2] 25 (0,0)) = w31 at HR HB BA BB BC BY BD BE ⊢
      have hc_BA_0 : w31.cell? ⟨ga,0,none⟩ = some (.int .i64 x1) := (blk_cell BA.out 0).trans rfl
      have hc_BA_1 : w31.cell? ⟨ga,1,none⟩ = some (.int .i64 x2) := (blk_cell BA.out 1).trans rfl
      have hc_BB_0 : w31.cell? ⟨gb,0,none⟩ = some (.int .i64 x1) := (blk_cell BB.out 0).trans rfl
      have hc_BB_1 : w31.cell? ⟨gb,1,none⟩ = some (.int .i64 x2) := (blk_cell BB.out 1).trans rfl
      have hc_BC_0 : w31.cell? ⟨gc,0,none⟩ = some (.int .i64 v1) := (blk_cell BC.out 0).trans rfl
      have hc_BC_1 : w31.cell? ⟨gc,1,none⟩ = some (.int .i64 v2) := (blk_cell BC.out 1).trans rfl
      have hc_BY_0 : w31.cell? ⟨gy,0,none⟩ = some (.int .i64 y1) := (blk_cell BY.out 0).trans rfl
      have hc_BY_1 : w31.cell? ⟨gy,1,none⟩ = some (.int .i64 y2) := (blk_cell BY.out 1).trans rfl
      have hc_BD_0 : w31.cell? ⟨gd,0,none⟩ = some (.int .i64 z1) := (blk_cell BD.out 0).trans rfl
      have hc_BD_1 : w31.cell? ⟨gd,1,none⟩ = some (.int .i64 z2) := (blk_cell BD.out 1).trans rfl
      have hc_BE_0 : w31.cell? ⟨ge,0,none⟩ = some (.int .i64 z1) := (blk_cell BE.out 0).trans rfl
      have hc_BE_1 : w31.cell? ⟨ge,1,none⟩ = some (.int .i64 z2) := (blk_cell BE.out 1).trans rfl
      go_upto_region 32 with (go_at_call 25;refine (spec_DrawVariableTable.calls k A0 c0 l0 vb vc _ HR.out HC0.out HG.out.dva).mono ?_;rintro e w32 ⟨rfl,hb⟩;have n_ := aZ_ (Kd.Heap.C (Kd.heap_int .u8) hb.block HR.out);clear HR;have HR := n_;clear n_;have n_ := aZ_ (below_step HB.out hb);clear HB;have HB := n_;clear n_;have n_ := aZ_ (blk_below BA.out hb);clear BA;have BA := n_;clear n_;have n_ := aZ_ (blk_below BB.out hb);clear BB;have BB := n_;clear n_;have n_ := aZ_ (blk_below BC.out hb);clear BC;have BC := n_;clear n_;have n_ := aZ_ (blk_below BY.out hb);clear BY;have BY := n_;clear n_;have n_ := aZ_ (blk_below BD.out hb);clear BD;have BD := n_;clear n_;have n_ := aZ_ (blk_below BE.out hb);clear BE;have BE := n_;clear n_;clear hb ;clear hc_BA_0 hc_BA_1 hc_BB_0 hc_BB_1 hc_BC_0 hc_BC_1 hc_BY_0 hc_BY_1 hc_BD_0 hc_BD_1 hc_BE_0 hc_BE_1;have hc_BA_0 : w32.cell? ⟨ga,0,none⟩ = some (.int .i64 x1) := (blk_cell BA.out 0).trans rfl;have hc_BA_1 : w32.cell? ⟨ga,1,none⟩ = some (.int .i64 x2) := (blk_cell BA.out 1).trans rfl;have hc_BB_0 : w32.cell? ⟨gb,0,none⟩ = some (.int .i64 x1) := (blk_cell BB.out 0).trans rfl;have hc_BB_1 : w32.cell? ⟨gb,1,none⟩ = some (.int .i64 x2) := (blk_cell BB.out 1).trans rfl;have hc_BC_0 : w32.cell? ⟨gc,0,none⟩ = some (.int .i64 v1) := (blk_cell BC.out 0).trans rfl;have hc_BC_1 : w32.cell? ⟨gc,1,none⟩ = some (.int .i64 v2) := (blk_cell BC.out 1).trans rfl;have hc_BY_0 : w32.cell? ⟨gy,0,none⟩ = some (.int .i64 y1) := (blk_cell BY.out 0).trans rfl;have hc_BY_1 : w32.cell? ⟨gy,1,none⟩ = some (.int .i64 y2) := (blk_cell BY.out 1).trans rfl;have hc_BD_0 : w32.cell? ⟨gd,0,none⟩ = some (.int .i64 z1) := (blk_cell BD.out 0).trans rfl;have hc_BD_1 : w32.cell? ⟨gd,1,none⟩ = some (.int .i64 z2) := (blk_cell BD.out 1).trans rfl;have hc_BE_0 : w32.cell? ⟨ge,0,none⟩ = some (.int .i64 z1) := (blk_cell BE.out 0).trans rfl;have hc_BE_1 : w32.cell? ⟨ge,1,none⟩ = some (.int .i64 z2) := (blk_cell BE.out 1).trans rfl)
      go_upto_region 33 with (go_at_call 26;refine (impl_VariableTable.calls vb vc d1 d2 d3 _ HG.out.vt).mono ?_;rintro e w33 ⟨rfl,hb⟩;have n_ := aZ_ (Kd.Heap.C (Kd.heap_int .u8) hb.block HR.out);clear HR;have HR := n_;clear n_;have n_ := aZ_ (below_step HB.out hb);clear HB;have HB := n_;clear n_;have n_ := aZ_ (blk_below BA.out hb);clear BA;have BA := n_;clear n_;have n_ := aZ_ (blk_below BB.out hb);clear BB;have BB := n_;clear n_;have n_ := aZ_ (blk_below BC.out hb);clear BC;have BC := n_;clear n_;have n_ := aZ_ (blk_below BY.out hb);clear BY;have BY := n_;clear n_;have n_ := aZ_ (blk_below BD.out hb);clear BD;have BD := n_;clear n_;have n_ := aZ_ (blk_below BE.out hb);clear BE;have BE := n_;clear n_;clear hb ;clear hc_BA_0 hc_BA_1 hc_BB_0 hc_BB_1 hc_BC_0 hc_BC_1 hc_BY_0 hc_BY_1 hc_BD_0 hc_BD_1 hc_BE_0 hc_BE_1;have hc_BA_0 : w33.cell? ⟨ga,0,none⟩ = some (.int .i64 x1) := (blk_cell BA.out 0).trans rfl;have hc_BA_1 : w33.cell? ⟨ga,1,none⟩ = some (.int .i64 x2) := (blk_cell BA.out 1).trans rfl;have hc_BB_0 : w33.cell? ⟨gb,0,none⟩ = some (.int .i64 x1) := (blk_cell BB.out 0).trans rfl;have hc_BB_1 : w33.cell? ⟨gb,1,none⟩ = some (.int .i64 x2) := (blk_cell BB.out 1).trans rfl;have hc_BC_0 : w33.cell? ⟨gc,0,none⟩ = some (.int .i64 v1) := (blk_cell BC.out 0).trans rfl;have hc_BC_1 : w33.cell? ⟨gc,1,none⟩ = some (.int .i64 v2) := (blk_cell BC.out 1).trans rfl;have hc_BY_0 : w33.cell? ⟨gy,0,none⟩ = some (.int .i64 y1) := (blk_cell BY.out 0).trans rfl;have hc_BY_1 : w33.cell? ⟨gy,1,none⟩ = some (.int .i64 y2) := (blk_cell BY.out 1).trans rfl;have hc_BD_0 : w33.cell? ⟨gd,0,none⟩ = some (.int .i64 z1) := (blk_cell BD.out 0).trans rfl;have hc_BD_1 : w33.cell? ⟨gd,1,none⟩ = some (.int .i64 z2) := (blk_cell BD.out 1).trans rfl;have hc_BE_0 : w33.cell? ⟨ge,0,none⟩ = some (.int .i64 z1) := (blk_cell BE.out 0).trans rfl;have hc_BE_1 : w33.cell? ⟨ge,1,none⟩ = some (.int .i64 z2) := (blk_cell BE.out 1).trans rfl)
      clear hc_BA_0 hc_BA_1 hc_BB_0 hc_BB_1 hc_BC_0 hc_BC_1 hc_BY_0 hc_BY_1 hc_BD_0 hc_BD_1 hc_BE_0 hc_BE_1
      have BF := aZ_ (blk_new w33 (.cells #[.int .i64 d1,.int .i64 d2] 25 (0,0)))
      have hb := below_alloc (Below.refl w33.heap.size w33) (.cells #[.int .i64 d1,.int .i64 d2] 25 (0,0))
      have n_ := aZ_ (Kd.Heap.C (Kd.heap_int .u8) hb.block HR.out)
      clear HR
      have HR := n_
      clear n_
      have n_ := aZ_ (below_step HB.out hb)
      clear HB
      have HB := n_
      clear n_
      have n_ := aZ_ (blk_below BA.out hb)
      clear BA
      have BA := n_
      clear n_
      have n_ := aZ_ (blk_below BB.out hb)
      clear BB
      have BB := n_
      clear n_
      have n_ := aZ_ (blk_below BC.out hb)
      clear BC
      have BC := n_
      clear n_
      have n_ := aZ_ (blk_below BY.out hb)
      clear BY
      have BY := n_
      clear n_
      have n_ := aZ_ (blk_below BD.out hb)
      clear BD
      have BD := n_
      clear n_
      have n_ := aZ_ (blk_below BE.out hb)
      clear BE
      have BE := n_
      clear n_
      clear hb
      obtain ⟨gf1,hgf1_⟩ : ∃ gf1,gf1 = w33.heap.size := ⟨_,rfl⟩
      rw [← hgf1_] at BF ⊢
      clear hgf1_
      generalize w33.alloc (.cells #[.int .i64 d1,.int .i64 d2] 25 (0,0)) = w34 at HR HB BA BB BC BY BD BE BF ⊢
      have hc_BA_0 : w34.cell? ⟨ga,0,none⟩ = some (.int .i64 x1) := (blk_cell BA.out 0).trans rfl
      have hc_BA_1 : w34.cell? ⟨ga,1,none⟩ = some (.int .i64 x2) := (blk_cell BA.out 1).trans rfl
      have hc_BB_0 : w34.cell? ⟨gb,0,none⟩ = some (.int .i64 x1) := (blk_cell BB.out 0).trans rfl
      have hc_BB_1 : w34.cell? ⟨gb,1,none⟩ = some (.int .i64 x2) := (blk_cell BB.out 1).trans rfl
      have hc_BC_0 : w34.cell? ⟨gc,0,none⟩ = some (.int .i64 v1) := (blk_cell BC.out 0).trans rfl
      have hc_BC_1 : w34.cell? ⟨gc,1,none⟩ = some (.int .i64 v2) := (blk_cell BC.out 1).trans rfl
      have hc_BY_0 : w34.cell? ⟨gy,0,none⟩ = some (.int .i64 y1) := (blk_cell BY.out 0).trans rfl
      have hc_BY_1 : w34.cell? ⟨gy,1,none⟩ = some (.int .i64 y2) := (blk_cell BY.out 1).trans rfl
      have hc_BD_0 : w34.cell? ⟨gd,0,none⟩ = some (.int .i64 z1) := (blk_cell BD.out 0).trans rfl
      have hc_BD_1 : w34.cell? ⟨gd,1,none⟩ = some (.int .i64 z2) := (blk_cell BD.out 1).trans rfl
      have hc_BE_0 : w34.cell? ⟨ge,0,none⟩ = some (.int .i64 z1) := (blk_cell BE.out 0).trans rfl
      have hc_BE_1 : w34.cell? ⟨ge,1,none⟩ = some (.int .i64 z2) := (blk_cell BE.out 1).trans rfl
      have hc_BF_0 : w34.cell? ⟨gf1,0,none⟩ = some (.int .i64 d1) := (blk_cell BF.out 0).trans rfl
      have hc_BF_1 : w34.cell? ⟨gf1,1,none⟩ = some (.int .i64 d2) := (blk_cell BF.out 1).trans rfl
      go_upto_region 34 with (go_at_call 27;refine (spec_VariableTable.calls k vb vc d1 d2 d3 _ HG.out.vt2).mono ?_;rintro e w35 ⟨rfl,hb⟩;have n_ := aZ_ (Kd.Heap.C (Kd.heap_int .u8) hb.block HR.out);clear HR;have HR := n_;clear n_;have n_ := aZ_ (below_step HB.out hb);clear HB;have HB := n_;clear n_;have n_ := aZ_ (blk_below BA.out hb);clear BA;have BA := n_;clear n_;have n_ := aZ_ (blk_below BB.out hb);clear BB;have BB := n_;clear n_;have n_ := aZ_ (blk_below BC.out hb);clear BC;have BC := n_;clear n_;have n_ := aZ_ (blk_below BY.out hb);clear BY;have BY := n_;clear n_;have n_ := aZ_ (blk_below BD.out hb);clear BD;have BD := n_;clear n_;have n_ := aZ_ (blk_below BE.out hb);clear BE;have BE := n_;clear n_;have n_ := aZ_ (blk_below BF.out hb);clear BF;have BF := n_;clear n_;clear hb ;clear hc_BA_0 hc_BA_1 hc_BB_0 hc_BB_1 hc_BC_0 hc_BC_1 hc_BY_0 hc_BY_1 hc_BD_0 hc_BD_1 hc_BE_0 hc_BE_1 hc_BF_0 hc_BF_1;have hc_BA_0 : w35.cell? ⟨ga,0,none⟩ = some (.int .i64 x1) := (blk_cell BA.out 0).trans rfl;have hc_BA_1 : w35.cell? ⟨ga,1,none⟩ = some (.int .i64 x2) := (blk_cell BA.out 1).trans rfl;have hc_BB_0 : w35.cell? ⟨gb,0,none⟩ = some (.int .i64 x1) := (blk_cell BB.out 0).trans rfl;have hc_BB_1 : w35.cell? ⟨gb,1,none⟩ = some (.int .i64 x2) := (blk_cell BB.out 1).trans rfl;have hc_BC_0 : w35.cell? ⟨gc,0,none⟩ = some (.int .i64 v1) := (blk_cell BC.out 0).trans rfl;have hc_BC_1 : w35.cell? ⟨gc,1,none⟩ = some (.int .i64 v2) := (blk_cell BC.out 1).trans rfl;have hc_BY_0 : w35.cell? ⟨gy,0,none⟩ = some (.int .i64 y1) := (blk_cell BY.out 0).trans rfl;have hc_BY_1 : w35.cell? ⟨gy,1,none⟩ = some (.int .i64 y2) := (blk_cell BY.out 1).trans rfl;have hc_BD_0 : w35.cell? ⟨gd,0,none⟩ = some (.int .i64 z1) := (blk_cell BD.out 0).trans rfl;have hc_BD_1 : w35.cell? ⟨gd,1,none⟩ = some (.int .i64 z2) := (blk_cell BD.out 1).trans rfl;have hc_BE_0 : w35.cell? ⟨ge,0,none⟩ = some (.int .i64 z1) := (blk_cell BE.out 0).trans rfl;have hc_BE_1 : w35.cell? ⟨ge,1,none⟩ = some (.int .i64 z2) := (blk_cell BE.out 1).trans rfl;have hc_BF_0 : w35.cell? ⟨gf1,0,none⟩ = some (.int .i64 d1) := (blk_cell BF.out 0).trans rfl;have hc_BF_1 : w35.cell? ⟨gf1,1,none⟩ = some (.int .i64 d2) := (blk_cell BF.out 1).trans rfl)
      clear hc_BA_0 hc_BA_1 hc_BB_0 hc_BB_1 hc_BC_0 hc_BC_1 hc_BY_0 hc_BY_1 hc_BD_0 hc_BD_1 hc_BE_0 hc_BE_1 hc_BF_0 hc_BF_1
      have BG := aZ_ (blk_new w35 (.cells #[.int .i64 d1,.int .i64 d2] 25 (0,0)))
      have hb := below_alloc (Below.refl w35.heap.size w35) (.cells #[.int .i64 d1,.int .i64 d2] 25 (0,0))
      have n_ := aZ_ (Kd.Heap.C (Kd.heap_int .u8) hb.block HR.out)
      clear HR
      have HR := n_
      clear n_
      have n_ := aZ_ (below_step HB.out hb)
      clear HB
      have HB := n_
      clear n_
      have n_ := aZ_ (blk_below BA.out hb)
      clear BA
      have BA := n_
      clear n_
      have n_ := aZ_ (blk_below BB.out hb)
      clear BB
      have BB := n_
      clear n_
      have n_ := aZ_ (blk_below BC.out hb)
      clear BC
      have BC := n_
      clear n_
      have n_ := aZ_ (blk_below BY.out hb)
      clear BY
      have BY := n_
      clear n_
      have n_ := aZ_ (blk_below BD.out hb)
      clear BD
      have BD := n_
      clear n_
      have n_ := aZ_ (blk_below BE.out hb)
      clear BE
      have BE := n_
      clear n_
      have n_ := aZ_ (blk_below BF.out hb)
      clear BF
      have BF := n_
      clear n_
      clear hb
      obtain ⟨gg1,hgg1_⟩ : ∃ gg1,gg1 = w35.heap.size := ⟨_,rfl⟩
      rw [← hgg1_] at BG ⊢
      clear hgg1_
      generalize w35.alloc (.cells #[.int .i64 d1,.int .i64 d2] 25 (0,0)) = w36 at HR HB BA BB BC BY BD BE BF BG ⊢
      have hc_BA_0 : w36.cell? ⟨ga,0,none⟩ = some (.int .i64 x1) := (blk_cell BA.out 0).trans rfl
      have hc_BA_1 : w36.cell? ⟨ga,1,none⟩ = some (.int .i64 x2) := (blk_cell BA.out 1).trans rfl
      have hc_BB_0 : w36.cell? ⟨gb,0,none⟩ = some (.int .i64 x1) := (blk_cell BB.out 0).trans rfl
      have hc_BB_1 : w36.cell? ⟨gb,1,none⟩ = some (.int .i64 x2) := (blk_cell BB.out 1).trans rfl
      have hc_BC_0 : w36.cell? ⟨gc,0,none⟩ = some (.int .i64 v1) := (blk_cell BC.out 0).trans rfl
      have hc_BC_1 : w36.cell? ⟨gc,1,none⟩ = some (.int .i64 v2) := (blk_cell BC.out 1).trans rfl
      have hc_BY_0 : w36.cell? ⟨gy,0,none⟩ = some (.int .i64 y1) := (blk_cell BY.out 0).trans rfl
      have hc_BY_1 : w36.cell? ⟨gy,1,none⟩ = some (.int .i64 y2) := (blk_cell BY.out 1).trans rfl
      have hc_BD_0 : w36.cell? ⟨gd,0,none⟩ = some (.int .i64 z1) := (blk_cell BD.out 0).trans rfl
      have hc_BD_1 : w36.cell? ⟨gd,1,none⟩ = some (.int .i64 z2) := (blk_cell BD.out 1).trans rfl
      have hc_BE_0 : w36.cell? ⟨ge,0,none⟩ = some (.int .i64 z1) := (blk_cell BE.out 0).trans rfl
      have hc_BE_1 : w36.cell? ⟨ge,1,none⟩ = some (.int .i64 z2) := (blk_cell BE.out 1).trans rfl
      have hc_BF_0 : w36.cell? ⟨gf1,0,none⟩ = some (.int .i64 d1) := (blk_cell BF.out 0).trans rfl
      have hc_BF_1 : w36.cell? ⟨gf1,1,none⟩ = some (.int .i64 d2) := (blk_cell BF.out 1).trans rfl
      have hc_BG_0 : w36.cell? ⟨gg1,0,none⟩ = some (.int .i64 d1) := (blk_cell BG.out 0).trans rfl
      have hc_BG_1 : w36.cell? ⟨gg1,1,none⟩ = some (.int .i64 d2) := (blk_cell BG.out 1).trans rfl
      go_upto_region 35 with (go_at_call 28;refine (spec_DrawIsConstant.calls k A0 c0 l0 c1 c2 _ HR.out HC0.out HG.out.dc).mono ?_;rintro e w37 ⟨rfl,hb⟩;have n_ := aZ_ (Kd.Heap.C (Kd.heap_int .u8) hb.block HR.out);clear HR;have HR := n_;clear n_;have n_ := aZ_ (below_step HB.out hb);clear HB;have HB := n_;clear n_;have n_ := aZ_ (blk_below BA.out hb);clear BA;have BA := n_;clear n_;have n_ := aZ_ (blk_below BB.out hb);clear BB;have BB := n_;clear n_;have n_ := aZ_ (blk_below BC.out hb);clear BC;have BC := n_;clear n_;have n_ := aZ_ (blk_below BY.out hb);clear BY;have BY := n_;clear n_;have n_ := aZ_ (blk_below BD.out hb);clear BD;have BD := n_;clear n_;have n_ := aZ_ (blk_below BE.out hb);clear BE;have BE := n_;clear n_;have n_ := aZ_ (blk_below BF.out hb);clear BF;have BF := n_;clear n_;have n_ := aZ_ (blk_below BG.out hb);clear BG;have BG := n_;clear n_;clear hb ;clear hc_BA_0 hc_BA_1 hc_BB_0 hc_BB_1 hc_BC_0 hc_BC_1 hc_BY_0 hc_BY_1 hc_BD_0 hc_BD_1 hc_BE_0 hc_BE_1 hc_BF_0 hc_BF_1 hc_BG_0 hc_BG_1;have hc_BA_0 : w37.cell? ⟨ga,0,none⟩ = some (.int .i64 x1) := (blk_cell BA.out 0).trans rfl;have hc_BA_1 : w37.cell? ⟨ga,1,none⟩ = some (.int .i64 x2) := (blk_cell BA.out 1).trans rfl;have hc_BB_0 : w37.cell? ⟨gb,0,none⟩ = some (.int .i64 x1) := (blk_cell BB.out 0).trans rfl;have hc_BB_1 : w37.cell? ⟨gb,1,none⟩ = some (.int .i64 x2) := (blk_cell BB.out 1).trans rfl;have hc_BC_0 : w37.cell? ⟨gc,0,none⟩ = some (.int .i64 v1) := (blk_cell BC.out 0).trans rfl;have hc_BC_1 : w37.cell? ⟨gc,1,none⟩ = some (.int .i64 v2) := (blk_cell BC.out 1).trans rfl;have hc_BY_0 : w37.cell? ⟨gy,0,none⟩ = some (.int .i64 y1) := (blk_cell BY.out 0).trans rfl;have hc_BY_1 : w37.cell? ⟨gy,1,none⟩ = some (.int .i64 y2) := (blk_cell BY.out 1).trans rfl;have hc_BD_0 : w37.cell? ⟨gd,0,none⟩ = some (.int .i64 z1) := (blk_cell BD.out 0).trans rfl;have hc_BD_1 : w37.cell? ⟨gd,1,none⟩ = some (.int .i64 z2) := (blk_cell BD.out 1).trans rfl;have hc_BE_0 : w37.cell? ⟨ge,0,none⟩ = some (.int .i64 z1) := (blk_cell BE.out 0).trans rfl;have hc_BE_1 : w37.cell? ⟨ge,1,none⟩ = some (.int .i64 z2) := (blk_cell BE.out 1).trans rfl;have hc_BF_0 : w37.cell? ⟨gf1,0,none⟩ = some (.int .i64 d1) := (blk_cell BF.out 0).trans rfl;have hc_BF_1 : w37.cell? ⟨gf1,1,none⟩ = some (.int .i64 d2) := (blk_cell BF.out 1).trans rfl;have hc_BG_0 : w37.cell? ⟨gg1,0,none⟩ = some (.int .i64 d1) := (blk_cell BG.out 0).trans rfl;have hc_BG_1 : w37.cell? ⟨gg1,1,none⟩ = some (.int .i64 d2) := (blk_cell BG.out 1).trans rfl)
      clear hc_BA_0 hc_BA_1 hc_BB_0 hc_BB_1 hc_BC_0 hc_BC_1 hc_BY_0 hc_BY_1 hc_BD_0 hc_BD_1 hc_BE_0 hc_BE_1 hc_BF_0 hc_BF_1 hc_BG_0 hc_BG_1
      have BH := aZ_ (blk_new w37 (.cells #[.int .i64 c1,.int .i64 c2] 25 (0,0)))
      have hb := below_alloc (Below.refl w37.heap.size w37) (.cells #[.int .i64 c1,.int .i64 c2] 25 (0,0))
      have n_ := aZ_ (Kd.Heap.C (Kd.heap_int .u8) hb.block HR.out)
      clear HR
      have HR := n_
      clear n_
      have n_ := aZ_ (below_step HB.out hb)
      clear HB
      have HB := n_
      clear n_
      have n_ := aZ_ (blk_below BA.out hb)
      clear BA
      have BA := n_
      clear n_
      have n_ := aZ_ (blk_below BB.out hb)
      clear BB
      have BB := n_
      clear n_
      have n_ := aZ_ (blk_below BC.out hb)
      clear BC
      have BC := n_
      clear n_
      have n_ := aZ_ (blk_below BY.out hb)
      clear BY
      have BY := n_
      clear n_
      have n_ := aZ_ (blk_below BD.out hb)
      clear BD
      have BD := n_
      clear n_
      have n_ := aZ_ (blk_below BE.out hb)
      clear BE
      have BE := n_
      clear n_
      have n_ := aZ_ (blk_below BF.out hb)
      clear BF
      have BF := n_
      clear n_
      have n_ := aZ_ (blk_below BG.out hb)
      clear BG
      have BG := n_
      clear n_
      clear hb
      obtain ⟨gh,hgh_⟩ : ∃ gh,gh = w37.heap.size := ⟨_,rfl⟩
      rw [← hgh_] at BH ⊢
      clear hgh_
      generalize w37.alloc (.cells #[.int .i64 c1,.int .i64 c2] 25 (0,0)) = w38 at HR HB BA BB BC BY BD BE BF BG BH ⊢
      have hc_BA_0 : w38.cell? ⟨ga,0,none⟩ = some (.int .i64 x1) := (blk_cell BA.out 0).trans rfl
      have hc_BA_1 : w38.cell? ⟨ga,1,none⟩ = some (.int .i64 x2) := (blk_cell BA.out 1).trans rfl
      have hc_BB_0 : w38.cell? ⟨gb,0,none⟩ = some (.int .i64 x1) := (blk_cell BB.out 0).trans rfl
      have hc_BB_1 : w38.cell? ⟨gb,1,none⟩ = some (.int .i64 x2) := (blk_cell BB.out 1).trans rfl
      have hc_BC_0 : w38.cell? ⟨gc,0,none⟩ = some (.int .i64 v1) := (blk_cell BC.out 0).trans rfl
      have hc_BC_1 : w38.cell? ⟨gc,1,none⟩ = some (.int .i64 v2) := (blk_cell BC.out 1).trans rfl
      have hc_BY_0 : w38.cell? ⟨gy,0,none⟩ = some (.int .i64 y1) := (blk_cell BY.out 0).trans rfl
      have hc_BY_1 : w38.cell? ⟨gy,1,none⟩ = some (.int .i64 y2) := (blk_cell BY.out 1).trans rfl
      have hc_BD_0 : w38.cell? ⟨gd,0,none⟩ = some (.int .i64 z1) := (blk_cell BD.out 0).trans rfl
      have hc_BD_1 : w38.cell? ⟨gd,1,none⟩ = some (.int .i64 z2) := (blk_cell BD.out 1).trans rfl
      have hc_BE_0 : w38.cell? ⟨ge,0,none⟩ = some (.int .i64 z1) := (blk_cell BE.out 0).trans rfl
      have hc_BE_1 : w38.cell? ⟨ge,1,none⟩ = some (.int .i64 z2) := (blk_cell BE.out 1).trans rfl
      have hc_BF_0 : w38.cell? ⟨gf1,0,none⟩ = some (.int .i64 d1) := (blk_cell BF.out 0).trans rfl
      have hc_BF_1 : w38.cell? ⟨gf1,1,none⟩ = some (.int .i64 d2) := (blk_cell BF.out 1).trans rfl
      have hc_BG_0 : w38.cell? ⟨gg1,0,none⟩ = some (.int .i64 d1) := (blk_cell BG.out 0).trans rfl
      have hc_BG_1 : w38.cell? ⟨gg1,1,none⟩ = some (.int .i64 d2) := (blk_cell BG.out 1).trans rfl
      have hc_BH_0 : w38.cell? ⟨gh,0,none⟩ = some (.int .i64 c1) := (blk_cell BH.out 0).trans rfl
      have hc_BH_1 : w38.cell? ⟨gh,1,none⟩ = some (.int .i64 c2) := (blk_cell BH.out 1).trans rfl
      go_upto_region 36 with (go_at_call 29;refine (spec_DrawDistanceBetween.calls k A0 c0 l0 h1 h2 h3 h4 _ HR.out HC0.out HG.out.dd).mono ?_;rintro e w39 ⟨rfl,hb⟩;have n_ := aZ_ (Kd.Heap.C (Kd.heap_int .u8) hb.block HR.out);clear HR;have HR := n_;clear n_;have n_ := aZ_ (below_step HB.out hb);clear HB;have HB := n_;clear n_;have n_ := aZ_ (blk_below BA.out hb);clear BA;have BA := n_;clear n_;have n_ := aZ_ (blk_below BB.out hb);clear BB;have BB := n_;clear n_;have n_ := aZ_ (blk_below BC.out hb);clear BC;have BC := n_;clear n_;have n_ := aZ_ (blk_below BY.out hb);clear BY;have BY := n_;clear n_;have n_ := aZ_ (blk_below BD.out hb);clear BD;have BD := n_;clear n_;have n_ := aZ_ (blk_below BE.out hb);clear BE;have BE := n_;clear n_;have n_ := aZ_ (blk_below BF.out hb);clear BF;have BF := n_;clear n_;have n_ := aZ_ (blk_below BG.out hb);clear BG;have BG := n_;clear n_;have n_ := aZ_ (blk_below BH.out hb);clear BH;have BH := n_;clear n_;clear hb ;clear hc_BA_0 hc_BA_1 hc_BB_0 hc_BB_1 hc_BC_0 hc_BC_1 hc_BY_0 hc_BY_1 hc_BD_0 hc_BD_1 hc_BE_0 hc_BE_1 hc_BF_0 hc_BF_1 hc_BG_0 hc_BG_1 hc_BH_0 hc_BH_1;have hc_BA_0 : w39.cell? ⟨ga,0,none⟩ = some (.int .i64 x1) := (blk_cell BA.out 0).trans rfl;have hc_BA_1 : w39.cell? ⟨ga,1,none⟩ = some (.int .i64 x2) := (blk_cell BA.out 1).trans rfl;have hc_BB_0 : w39.cell? ⟨gb,0,none⟩ = some (.int .i64 x1) := (blk_cell BB.out 0).trans rfl;have hc_BB_1 : w39.cell? ⟨gb,1,none⟩ = some (.int .i64 x2) := (blk_cell BB.out 1).trans rfl;have hc_BC_0 : w39.cell? ⟨gc,0,none⟩ = some (.int .i64 v1) := (blk_cell BC.out 0).trans rfl;have hc_BC_1 : w39.cell? ⟨gc,1,none⟩ = some (.int .i64 v2) := (blk_cell BC.out 1).trans rfl;have hc_BY_0 : w39.cell? ⟨gy,0,none⟩ = some (.int .i64 y1) := (blk_cell BY.out 0).trans rfl;have hc_BY_1 : w39.cell? ⟨gy,1,none⟩ = some (.int .i64 y2) := (blk_cell BY.out 1).trans rfl;have hc_BD_0 : w39.cell? ⟨gd,0,none⟩ = some (.int .i64 z1) := (blk_cell BD.out 0).trans rfl;have hc_BD_1 : w39.cell? ⟨gd,1,none⟩ = some (.int .i64 z2) := (blk_cell BD.out 1).trans rfl;have hc_BE_0 : w39.cell? ⟨ge,0,none⟩ = some (.int .i64 z1) := (blk_cell BE.out 0).trans rfl;have hc_BE_1 : w39.cell? ⟨ge,1,none⟩ = some (.int .i64 z2) := (blk_cell BE.out 1).trans rfl;have hc_BF_0 : w39.cell? ⟨gf1,0,none⟩ = some (.int .i64 d1) := (blk_cell BF.out 0).trans rfl;have hc_BF_1 : w39.cell? ⟨gf1,1,none⟩ = some (.int .i64 d2) := (blk_cell BF.out 1).trans rfl;have hc_BG_0 : w39.cell? ⟨gg1,0,none⟩ = some (.int .i64 d1) := (blk_cell BG.out 0).trans rfl;have hc_BG_1 : w39.cell? ⟨gg1,1,none⟩ = some (.int .i64 d2) := (blk_cell BG.out 1).trans rfl;have hc_BH_0 : w39.cell? ⟨gh,0,none⟩ = some (.int .i64 c1) := (blk_cell BH.out 0).trans rfl;have hc_BH_1 : w39.cell? ⟨gh,1,none⟩ = some (.int .i64 c2) := (blk_cell BH.out 1).trans rfl)
      clear hc_BA_0 hc_BA_1 hc_BB_0 hc_BB_1 hc_BC_0 hc_BC_1 hc_BY_0 hc_BY_1 hc_BD_0 hc_BD_1 hc_BE_0 hc_BE_1 hc_BF_0 hc_BF_1 hc_BG_0 hc_BG_1 hc_BH_0 hc_BH_1
      have BI := aZ_ (blk_alloc (blk_new w39 (.cells #[.int .i64 h1,.int .i64 h2] 25 (0,0))) (.cells #[.int .i64 h3,.int .i64 h4] 25 (0,0)))
      have BJ : Aside0 (((w39.alloc (.cells #[.int .i64 h1,.int .i64 h2] 25 (0,0))).alloc (.cells #[.int .i64 h3,.int .i64 h4] 25 (0,0))).heap[w39.heap.size + 1]? = some (.cells #[.int .i64 h3,.int .i64 h4] 25 (0,0))) := ⟨by simpa using blk_new (w39.alloc (.cells #[.int .i64 h1,.int .i64 h2] 25 (0,0))) (.cells #[.int .i64 h3,.int .i64 h4] 25 (0,0))⟩
      have hb := below_alloc (below_alloc (Below.refl w39.heap.size w39) (.cells #[.int .i64 h1,.int .i64 h2] 25 (0,0))) (.cells #[.int .i64 h3,.int .i64 h4] 25 (0,0))
      have n_ := aZ_ (Kd.Heap.C (Kd.heap_int .u8) hb.block HR.out)
      clear HR
      have HR := n_
      clear n_
      have n_ := aZ_ (below_step HB.out hb)
      clear HB
      have HB := n_
      clear n_
      have n_ := aZ_ (blk_below BA.out hb)
      clear BA
      have BA := n_
      clear n_
      have n_ := aZ_ (blk_below BB.out hb)
      clear BB
      have BB := n_
      clear n_
      have n_ := aZ_ (blk_below BC.out hb)
      clear BC
      have BC := n_
      clear n_
      have n_ := aZ_ (blk_below BY.out hb)
      clear BY
      have BY := n_
      clear n_
      have n_ := aZ_ (blk_below BD.out hb)
      clear BD
      have BD := n_
      clear n_
      have n_ := aZ_ (blk_below BE.out hb)
      clear BE
      have BE := n_
      clear n_
      have n_ := aZ_ (blk_below BF.out hb)
      clear BF
      have BF := n_
      clear n_
      have n_ := aZ_ (blk_below BG.out hb)
      clear BG
      have BG := n_
      clear n_
      have n_ := aZ_ (blk_below BH.out hb)
      clear BH
      have BH := n_
      clear n_
      clear hb
      obtain ⟨gj,h2_⟩ : ∃ gj,gj = w39.heap.size + 1 := ⟨_,rfl⟩
      rw [← h2_] at BJ ⊢
      clear h2_
      obtain ⟨gi,h1_⟩ : ∃ gi,gi = w39.heap.size := ⟨_,rfl⟩
      rw [← h1_] at BI ⊢
      clear h1_
      generalize (w39.alloc (.cells #[.int .i64 h1,.int .i64 h2] 25 (0,0))).alloc (.cells #[.int .i64 h3,.int .i64 h4] 25 (0,0)) = w40 at HR HB BA BB BC BY BD BE BF BG BH BI BJ ⊢
      have hc_BA_0 : w40.cell? ⟨ga,0,none⟩ = some (.int .i64 x1) := (blk_cell BA.out 0).trans rfl
      have hc_BA_1 : w40.cell? ⟨ga,1,none⟩ = some (.int .i64 x2) := (blk_cell BA.out 1).trans rfl
      have hc_BB_0 : w40.cell? ⟨gb,0,none⟩ = some (.int .i64 x1) := (blk_cell BB.out 0).trans rfl
      have hc_BB_1 : w40.cell? ⟨gb,1,none⟩ = some (.int .i64 x2) := (blk_cell BB.out 1).trans rfl
      have hc_BC_0 : w40.cell? ⟨gc,0,none⟩ = some (.int .i64 v1) := (blk_cell BC.out 0).trans rfl
      have hc_BC_1 : w40.cell? ⟨gc,1,none⟩ = some (.int .i64 v2) := (blk_cell BC.out 1).trans rfl
      have hc_BY_0 : w40.cell? ⟨gy,0,none⟩ = some (.int .i64 y1) := (blk_cell BY.out 0).trans rfl
      have hc_BY_1 : w40.cell? ⟨gy,1,none⟩ = some (.int .i64 y2) := (blk_cell BY.out 1).trans rfl
      have hc_BD_0 : w40.cell? ⟨gd,0,none⟩ = some (.int .i64 z1) := (blk_cell BD.out 0).trans rfl
      have hc_BD_1 : w40.cell? ⟨gd,1,none⟩ = some (.int .i64 z2) := (blk_cell BD.out 1).trans rfl
      have hc_BE_0 : w40.cell? ⟨ge,0,none⟩ = some (.int .i64 z1) := (blk_cell BE.out 0).trans rfl
      have hc_BE_1 : w40.cell? ⟨ge,1,none⟩ = some (.int .i64 z2) := (blk_cell BE.out 1).trans rfl
      have hc_BF_0 : w40.cell? ⟨gf1,0,none⟩ = some (.int .i64 d1) := (blk_cell BF.out 0).trans rfl
      have hc_BF_1 : w40.cell? ⟨gf1,1,none⟩ = some (.int .i64 d2) := (blk_cell BF.out 1).trans rfl
      have hc_BG_0 : w40.cell? ⟨gg1,0,none⟩ = some (.int .i64 d1) := (blk_cell BG.out 0).trans rfl
      have hc_BG_1 : w40.cell? ⟨gg1,1,none⟩ = some (.int .i64 d2) := (blk_cell BG.out 1).trans rfl
      have hc_BH_0 : w40.cell? ⟨gh,0,none⟩ = some (.int .i64 c1) := (blk_cell BH.out 0).trans rfl
      have hc_BH_1 : w40.cell? ⟨gh,1,none⟩ = some (.int .i64 c2) := (blk_cell BH.out 1).trans rfl
      have hc_BI_0 : w40.cell? ⟨gi,0,none⟩ = some (.int .i64 h1) := (blk_cell BI.out 0).trans rfl
      have hc_BI_1 : w40.cell? ⟨gi,1,none⟩ = some (.int .i64 h2) := (blk_cell BI.out 1).trans rfl
      have hc_BJ_0 : w40.cell? ⟨gj,0,none⟩ = some (.int .i64 h3) := (blk_cell BJ.out 0).trans rfl
      have hc_BJ_1 : w40.cell? ⟨gj,1,none⟩ = some (.int .i64 h4) := (blk_cell BJ.out 1).trans rfl
      have C0 := aZ_ hc_BA_0
      have C1 := aZ_ hc_BA_1
      have C2 := aZ_ hc_BB_0
      have C3 := aZ_ hc_BB_1
      have C4 := aZ_ hc_BC_0
      have C5 := aZ_ hc_BC_1
      have C6 := aZ_ hc_BD_0
      have C7 := aZ_ hc_BD_1
      have C8 := aZ_ hc_BE_0
      have C9 := aZ_ hc_BE_1
      have C10 := aZ_ hc_BF_0
      have C11 := aZ_ hc_BF_1
      have C12 := aZ_ hc_BG_0
      have C13 := aZ_ hc_BG_1
      have C14 := aZ_ hc_BH_0
      have C15 := aZ_ hc_BH_1
      have C16 := aZ_ hc_BI_0
      have C17 := aZ_ hc_BI_1
      have C18 := aZ_ hc_BJ_0
      have C19 := aZ_ hc_BJ_1
      clear HR BY BA BB BC BD BE BF BG BH BI BJ hc_BA_0 hc_BA_1 hc_BB_0 hc_BB_1 hc_BC_0 hc_BC_1 hc_BY_0 hc_BY_1 hc_BD_0 hc_BD_1 hc_BE_0 hc_BE_1 hc_BF_0 hc_BF_1 hc_BG_0 hc_BG_1 hc_BH_0 hc_BH_1 hc_BI_0 hc_BI_1 hc_BJ_0 hc_BJ_1
      have h_x1 : (x1 == x1) = true := beq_self_eq_true x1
      have h_x2 : (x2 == x2) = true := beq_self_eq_true x2
      have h_x3 : (x3 == x3) = true := beq_self_eq_true x3
      have h_z1 : (z1 == z1) = true := beq_self_eq_true z1
      have h_z2 : (z2 == z2) = true := beq_self_eq_true z2
      have h_z3 : (z3 == z3) = true := beq_self_eq_true z3
      have h_d1 : (d1 == d1) = true := beq_self_eq_true d1
      have h_d2 : (d2 == d2) = true := beq_self_eq_true d2
      have h_d3 : (d3 == d3) = true := beq_self_eq_true d3
      have h_xv : (xv == xv) = true := beq_self_eq_true xv
      have h_xc : (xc == xc) = true := beq_self_eq_true xc
      have h_xd : (xd == xd) = true := beq_self_eq_true xd
      have h_xo : (xo == xo) = true := beq_self_eq_true xo
      have hb := below_drew (Below.refl w40.heap.size w40)
      have n_ : Aside0 (w40.drew.cell? ⟨ga,0,none⟩ = some (.int .i64 x1)) := ⟨pw_cell_below hb C0.out⟩
      clear C0
      have C0 := n_
      clear n_
      have n_ : Aside0 (w40.drew.cell? ⟨ga,1,none⟩ = some (.int .i64 x2)) := ⟨pw_cell_below hb C1.out⟩
      clear C1
      have C1 := n_
      clear n_
      have n_ : Aside0 (w40.drew.cell? ⟨gb,0,none⟩ = some (.int .i64 x1)) := ⟨pw_cell_below hb C2.out⟩
      clear C2
      have C2 := n_
      clear n_
      have n_ : Aside0 (w40.drew.cell? ⟨gb,1,none⟩ = some (.int .i64 x2)) := ⟨pw_cell_below hb C3.out⟩
      clear C3
      have C3 := n_
      clear n_
      have n_ : Aside0 (w40.drew.cell? ⟨gc,0,none⟩ = some (.int .i64 v1)) := ⟨pw_cell_below hb C4.out⟩
      clear C4
      have C4 := n_
      clear n_
      have n_ : Aside0 (w40.drew.cell? ⟨gc,1,none⟩ = some (.int .i64 v2)) := ⟨pw_cell_below hb C5.out⟩
      clear C5
      have C5 := n_
      clear n_
      have n_ : Aside0 (w40.drew.cell? ⟨gd,0,none⟩ = some (.int .i64 z1)) := ⟨pw_cell_below hb C6.out⟩
      clear C6
      have C6 := n_
      clear n_
      have n_ : Aside0 (w40.drew.cell? ⟨gd,1,none⟩ = some (.int .i64 z2)) := ⟨pw_cell_below hb C7.out⟩
      clear C7
      have C7 := n_
      clear n_
      have n_ : Aside0 (w40.drew.cell? ⟨ge,0,none⟩ = some (.int .i64 z1)) := ⟨pw_cell_below hb C8.out⟩
      clear C8
      have C8 := n_
      clear n_
      have n_ : Aside0 (w40.drew.cell? ⟨ge,1,none⟩ = some (.int .i64 z2)) := ⟨pw_cell_below hb C9.out⟩
      clear C9
      have C9 := n_
      clear n_
      have n_ : Aside0 (w40.drew.cell? ⟨gf1,0,none⟩ = some (.int .i64 d1)) := ⟨pw_cell_below hb C10.out⟩
      clear C10
      have C10 := n_
      clear n_
      have n_ : Aside0 (w40.drew.cell? ⟨gf1,1,none⟩ = some (.int .i64 d2)) := ⟨pw_cell_below hb C11.out⟩
      clear C11
      have C11 := n_
      clear n_
      have n_ : Aside0 (w40.drew.cell? ⟨gg1,0,none⟩ = some (.int .i64 d1)) := ⟨pw_cell_below hb C12.out⟩
      clear C12
      have C12 := n_
      clear n_
      have n_ : Aside0 (w40.drew.cell? ⟨gg1,1,none⟩ = some (.int .i64 d2)) := ⟨pw_cell_below hb C13.out⟩
      clear C13
      have C13 := n_
      clear n_
      have n_ : Aside0 (w40.drew.cell? ⟨gh,0,none⟩ = some (.int .i64 c1)) := ⟨pw_cell_below hb C14.out⟩
      clear C14
      have C14 := n_
      clear n_
      have n_ : Aside0 (w40.drew.cell? ⟨gh,1,none⟩ = some (.int .i64 c2)) := ⟨pw_cell_below hb C15.out⟩
      clear C15
      have C15 := n_
      clear n_
      have n_ : Aside0 (w40.drew.cell? ⟨gi,0,none⟩ = some (.int .i64 h1)) := ⟨pw_cell_below hb C16.out⟩
      clear C16
      have C16 := n_
      clear n_
      have n_ : Aside0 (w40.drew.cell? ⟨gi,1,none⟩ = some (.int .i64 h2)) := ⟨pw_cell_below hb C17.out⟩
      clear C17
      have C17 := n_
      clear n_
      have n_ : Aside0 (w40.drew.cell? ⟨gj,0,none⟩ = some (.int .i64 h3)) := ⟨pw_cell_below hb C18.out⟩
      clear C18
      have C18 := n_
      clear n_
      have n_ : Aside0 (w40.drew.cell? ⟨gj,1,none⟩ = some (.int .i64 h4)) := ⟨pw_cell_below hb C19.out⟩
      clear C19
      have C19 := n_
      clear n_
      have n_ := aZ_ (below_step HB.out hb)
      clear HB
      have HB := n_
      clear n_
      clear hb
      refine start_ (n := 61) (S := (fun w_ => w_.cell? ⟨ga,0,none⟩ = some (.int .i64 x1) ∧ w_.cell? ⟨ga,1,none⟩ = some (.int .i64 x2) ∧ w_.cell? ⟨gb,0,none⟩ = some (.int .i64 x1) ∧ w_.cell? ⟨gb,1,none⟩ = some (.int .i64 x2) ∧ w_.cell? ⟨gc,0,none⟩ = some (.int .i64 v1) ∧ w_.cell? ⟨gc,1,none⟩ = some (.int .i64 v2) ∧ w_.cell? ⟨gd,0,none⟩ = some (.int .i64 z1) ∧ w_.cell? ⟨gd,1,none⟩ = some (.int .i64 z2) ∧ w_.cell? ⟨ge,0,none⟩ = some (.int .i64 z1) ∧ w_.cell? ⟨ge,1,none⟩ = some (.int .i64 z2) ∧ w_.cell? ⟨gf1,0,none⟩ = some (.int .i64 d1) ∧ w_.cell? ⟨gf1,1,none⟩ = some (.int .i64 d2) ∧ w_.cell? ⟨gg1,0,none⟩ = some (.int .i64 d1) ∧ w_.cell? ⟨gg1,1,none⟩ = some (.int .i64 d2) ∧ w_.cell? ⟨gh,0,none⟩ = some (.int .i64 c1) ∧ w_.cell? ⟨gh,1,none⟩ = some (.int .i64 c2) ∧ w_.cell? ⟨gi,0,none⟩ = some (.int .i64 h1) ∧ w_.cell? ⟨gi,1,none⟩ = some (.int .i64 h2) ∧ w_.cell? ⟨gj,0,none⟩ = some (.int .i64 h3) ∧ w_.cell? ⟨gj,1,none⟩ = some (.int .i64 h4))) (ds := []) #[false,false,false,false,false,false,false,false,false,false,false,false,false,false,false,false,false,false,false,false,false,false,false,false,false,false,false,false,false,false,false,false,false,false,false,false,false,false,false,false,false,false,false,false,false,false,false,false,false,false,false,false,false,false,false,false,false,false,false,false,false] T17_ rfl rfl ⟨C0.out,C1.out,C2.out,C3.out,C4.out,C5.out,C6.out,C7.out,C8.out,C9.out,C10.out,C11.out,C12.out,C13.out,C14.out,C15.out,C16.out,C17.out,C18.out,C19.out⟩ (fun hHeld => ?_)
      refine with_tabW laws_FnTables.tab36 laws_FnTables.bits36 (fun HT_ HW_ => ?_)
      generalize w40.drew = W0_ at C0 C1 C2 C3 C4 C5 C6 C7 C8 C9 C10 C11 C12 C13 C14 C15 C16 C17 C18 C19 HB hHeld ⊢
      refine tZ20_ 0 (some 283) #[true,false,false,false,false,false,false,false,false,false,false,false,false,false,false,false,false,false,false,false,false,false,false,false,false,false,false,false,false,false,false,false,false,false,false,false,false,false,false,false,false,false,false,false,false,false,false,false,false,false,false,false,false,false,false,false,false,false,false,false,false] hHeld ?_
      refine tZ20_ 1 (some 284) #[true,true,false,false,false,false,false,false,false,false,false,false,false,false,false,false,false,false,false,false,false,false,false,false,false,false,false,false,false,false,false,false,false,false,false,false,false,false,false,false,false,false,false,false,false,false,false,false,false,false,false,false,false,false,false,false,false,false,false,false,false] hHeld ?_
      refine pZ_ 2 (some 285) #[true,true,true,false,false,false,false,false,false,false,false,false,false,false,false,false,false,false,false,false,false,false,false,false,false,false,false,false,false,false,false,false,false,false,false,false,false,false,false,false,false,false,false,false,false,false,false,false,false,false,false,false,false,false,false,false,false,false,false,false,false] ?_
      refine pZ_ 3 (some 286) #[true,true,true,true,false,false,false,false,false,false,false,false,false,false,false,false,false,false,false,false,false,false,false,false,false,false,false,false,false,false,false,false,false,false,false,false,false,false,false,false,false,false,false,false,false,false,false,false,false,false,false,false,false,false,false,false,false,false,false,false,false] ?_
      refine pZ_ 4 (some 287) #[true,true,true,true,true,false,false,false,false,false,false,false,false,false,false,false,false,false,false,false,false,false,false,false,false,false,false,false,false,false,false,false,false,false,false,false,false,false,false,false,false,false,false,false,false,false,false,false,false,false,false,false,false,false,false,false,false,false,false,false,false] ?_
      refine pZ_ 5 (some 288) #[true,true,true,true,true,true,false,false,false,false,false,false,false,false,false,false,false,false,false,false,false,false,false,false,false,false,false,false,false,false,false,false,false,false,false,false,false,false,false,false,false,false,false,false,false,false,false,false,false,false,false,false,false,false,false,false,false,false,false,false,false] ?_
      refine pZ_ 6 (some 289) #[true,true,true,true,true,true,true,false,false,false,false,false,false,false,false,false,false,false,false,false,false,false,false,false,false,false,false,false,false,false,false,false,false,false,false,false,false,false,false,false,false,false,false,false,false,false,false,false,false,false,false,false,false,false,false,false,false,false,false,false,false] ?_
      refine pZ_ 7 (some 290) #[true,true,true,true,true,true,true,true,false,false,false,false,false,false,false,false,false,false,false,false,false,false,false,false,false,false,false,false,false,false,false,false,false,false,false,false,false,false,false,false,false,false,false,false,false,false,false,false,false,false,false,false,false,false,false,false,false,false,false,false,false] ?_
      refine pZ_ 8 (some 291) #[true,true,true,true,true,true,true,true,true,false,false,false,false,false,false,false,false,false,false,false,false,false,false,false,false,false,false,false,false,false,false,false,false,false,false,false,false,false,false,false,false,false,false,false,false,false,false,false,false,false,false,false,false,false,false,false,false,false,false,false,false] ?_
      refine tZ20_ 9 (some 292) #[true,true,true,true,true,true,true,true,true,true,false,false,false,false,false,false,false,false,false,false,false,false,false,false,false,false,false,false,false,false,false,false,false,false,false,false,false,false,false,false,false,false,false,false,false,false,false,false,false,false,false,false,false,false,false,false,false,false,false,false,false] hHeld ?_
      refine pZ_ 10 (some 293) #[true,true,true,true,true,true,true,true,true,true,true,false,false,false,false,false,false,false,false,false,false,false,false,false,false,false,false,false,false,false,false,false,false,false,false,false,false,false,false,false,false,false,false,false,false,false,false,false,false,false,false,false,false,false,false,false,false,false,false,false,false] ?_
      refine tZ20_ 12 (some 295) #[true,true,true,true,true,true,true,true,true,true,true,false,true,false,false,false,false,false,false,false,false,false,false,false,false,false,false,false,false,false,false,false,false,false,false,false,false,false,false,false,false,false,false,false,false,false,false,false,false,false,false,false,false,false,false,false,false,false,false,false,false] hHeld ?_
      refine pZ_ 13 (some 296) #[true,true,true,true,true,true,true,true,true,true,true,false,true,true,false,false,false,false,false,false,false,false,false,false,false,false,false,false,false,false,false,false,false,false,false,false,false,false,false,false,false,false,false,false,false,false,false,false,false,false,false,false,false,false,false,false,false,false,false,false,false] ?_
      refine one_ (i := 11) (N := some 294) #[true,true,true,true,true,true,true,true,true,true,true,true,true,true,false,false,false,false,false,false,false,false,false,false,false,false,false,false,false,false,false,false,false,false,false,false,false,false,false,false,false,false,false,false,false,false,false,false,false,false,false,false,false,false,false,false,false,false,false,false,false] rfl rfl (one_of HT_.out T17_) T58_ (fun K hK => ?_)
      refine gZ_ Try.func30 #[.agg #[.int .i64 v1,.int .i64 v2],.int .i64 vx] ?_
      with_reducible refine (impl_ValueAt.calls v1 v2 vx xv _ HG.out.va).mono ?_
      rintro e W1_ ⟨rfl,hb⟩
      refine ⟨_,rfl,?_⟩
      have n_ : Aside0 (W1_.cell? ⟨ga,0,none⟩ = some (.int .i64 x1)) := ⟨pw_cell_below hb C0.out⟩
      clear C0
      have C0 := n_
      clear n_
      have n_ : Aside0 (W1_.cell? ⟨ga,1,none⟩ = some (.int .i64 x2)) := ⟨pw_cell_below hb C1.out⟩
      clear C1
      have C1 := n_
      clear n_
      have n_ : Aside0 (W1_.cell? ⟨gb,0,none⟩ = some (.int .i64 x1)) := ⟨pw_cell_below hb C2.out⟩
      clear C2
      have C2 := n_
      clear n_
      have n_ : Aside0 (W1_.cell? ⟨gb,1,none⟩ = some (.int .i64 x2)) := ⟨pw_cell_below hb C3.out⟩
      clear C3
      have C3 := n_
      clear n_
      have n_ : Aside0 (W1_.cell? ⟨gc,0,none⟩ = some (.int .i64 v1)) := ⟨pw_cell_below hb C4.out⟩
      clear C4
      have C4 := n_
      clear n_
      have n_ : Aside0 (W1_.cell? ⟨gc,1,none⟩ = some (.int .i64 v2)) := ⟨pw_cell_below hb C5.out⟩
      clear C5
      have C5 := n_
      clear n_
      have n_ : Aside0 (W1_.cell? ⟨gd,0,none⟩ = some (.int .i64 z1)) := ⟨pw_cell_below hb C6.out⟩
      clear C6
      have C6 := n_
      clear n_
      have n_ : Aside0 (W1_.cell? ⟨gd,1,none⟩ = some (.int .i64 z2)) := ⟨pw_cell_below hb C7.out⟩
      clear C7
      have C7 := n_
      clear n_
      have n_ : Aside0 (W1_.cell? ⟨ge,0,none⟩ = some (.int .i64 z1)) := ⟨pw_cell_below hb C8.out⟩
      clear C8
      have C8 := n_
      clear n_
      have n_ : Aside0 (W1_.cell? ⟨ge,1,none⟩ = some (.int .i64 z2)) := ⟨pw_cell_below hb C9.out⟩
      clear C9
      have C9 := n_
      clear n_
      have n_ : Aside0 (W1_.cell? ⟨gf1,0,none⟩ = some (.int .i64 d1)) := ⟨pw_cell_below hb C10.out⟩
      clear C10
      have C10 := n_
      clear n_
      have n_ : Aside0 (W1_.cell? ⟨gf1,1,none⟩ = some (.int .i64 d2)) := ⟨pw_cell_below hb C11.out⟩
      clear C11
      have C11 := n_
      clear n_
      have n_ : Aside0 (W1_.cell? ⟨gg1,0,none⟩ = some (.int .i64 d1)) := ⟨pw_cell_below hb C12.out⟩
      clear C12
      have C12 := n_
      clear n_
      have n_ : Aside0 (W1_.cell? ⟨gg1,1,none⟩ = some (.int .i64 d2)) := ⟨pw_cell_below hb C13.out⟩
      clear C13
      have C13 := n_
      clear n_
      have n_ : Aside0 (W1_.cell? ⟨gh,0,none⟩ = some (.int .i64 c1)) := ⟨pw_cell_below hb C14.out⟩
      clear C14
      have C14 := n_
      clear n_
      have n_ : Aside0 (W1_.cell? ⟨gh,1,none⟩ = some (.int .i64 c2)) := ⟨pw_cell_below hb C15.out⟩
      clear C15
      have C15 := n_
      clear n_
      have n_ : Aside0 (W1_.cell? ⟨gi,0,none⟩ = some (.int .i64 h1)) := ⟨pw_cell_below hb C16.out⟩
      clear C16
      have C16 := n_
      clear n_
      have n_ : Aside0 (W1_.cell? ⟨gi,1,none⟩ = some (.int .i64 h2)) := ⟨pw_cell_below hb C17.out⟩
      clear C17
      have C17 := n_
      clear n_
      have n_ : Aside0 (W1_.cell? ⟨gj,0,none⟩ = some (.int .i64 h3)) := ⟨pw_cell_below hb C18.out⟩
      clear C18
      have C18 := n_
      clear n_
      have n_ : Aside0 (W1_.cell? ⟨gj,1,none⟩ = some (.int .i64 h4)) := ⟨pw_cell_below hb C19.out⟩
      clear C19
      have C19 := n_
      clear n_
      have n_ := aZ_ (below_step HB.out hb)
      clear HB
      have HB := n_
      clear n_
      clear hb
      refine hK.out _ _ ⟨C0.out,C1.out,C2.out,C3.out,C4.out,C5.out,C6.out,C7.out,C8.out,C9.out,C10.out,C11.out,C12.out,C13.out,C14.out,C15.out,C16.out,C17.out,C18.out,C19.out⟩ (fun hHeld => ?_)
      clear hK K
      refine norm_ (a' := ?_) ?_ ?_
      rotate_left
      ·show Act.put _ (some 294) _ = _
       simp only [Act.put,List.setIfInBounds_toArray,List.set_cons_zero,List.set_cons_succ,i64_w,i32_w]
       rfl
      refine one_ (i := 14) (N := some 297) #[true,true,true,true,true,true,true,true,true,true,true,true,true,true,true,false,false,false,false,false,false,false,false,false,false,false,false,false,false,false,false,false,false,false,false,false,false,false,false,false,false,false,false,false,false,false,false,false,false,false,false,false,false,false,false,false,false,false,false,false,false] rfl rfl (one_of HT_.out T17_) T58_ (fun K hK => ?_)
      refine gZ_ Try.func31 #[.agg #[.int .i64 v1,.int .i64 v2],.int .i64 vx] ?_
      with_reducible refine (spec_ValueAt.calls v1 v2 vx xv _ HG.out.va2).mono ?_
      rintro e W2_ ⟨rfl,hb⟩
      refine ⟨_,rfl,?_⟩
      have n_ : Aside0 (W2_.cell? ⟨ga,0,none⟩ = some (.int .i64 x1)) := ⟨pw_cell_below hb C0.out⟩
      clear C0
      have C0 := n_
      clear n_
      have n_ : Aside0 (W2_.cell? ⟨ga,1,none⟩ = some (.int .i64 x2)) := ⟨pw_cell_below hb C1.out⟩
      clear C1
      have C1 := n_
      clear n_
      have n_ : Aside0 (W2_.cell? ⟨gb,0,none⟩ = some (.int .i64 x1)) := ⟨pw_cell_below hb C2.out⟩
      clear C2
      have C2 := n_
      clear n_
      have n_ : Aside0 (W2_.cell? ⟨gb,1,none⟩ = some (.int .i64 x2)) := ⟨pw_cell_below hb C3.out⟩
      clear C3
      have C3 := n_
      clear n_
      have n_ : Aside0 (W2_.cell? ⟨gc,0,none⟩ = some (.int .i64 v1)) := ⟨pw_cell_below hb C4.out⟩
      clear C4
      have C4 := n_
      clear n_
      have n_ : Aside0 (W2_.cell? ⟨gc,1,none⟩ = some (.int .i64 v2)) := ⟨pw_cell_below hb C5.out⟩
      clear C5
      have C5 := n_
      clear n_
      have n_ : Aside0 (W2_.cell? ⟨gd,0,none⟩ = some (.int .i64 z1)) := ⟨pw_cell_below hb C6.out⟩
      clear C6
      have C6 := n_
      clear n_
      have n_ : Aside0 (W2_.cell? ⟨gd,1,none⟩ = some (.int .i64 z2)) := ⟨pw_cell_below hb C7.out⟩
      clear C7
      have C7 := n_
      clear n_
      have n_ : Aside0 (W2_.cell? ⟨ge,0,none⟩ = some (.int .i64 z1)) := ⟨pw_cell_below hb C8.out⟩
      clear C8
      have C8 := n_
      clear n_
      have n_ : Aside0 (W2_.cell? ⟨ge,1,none⟩ = some (.int .i64 z2)) := ⟨pw_cell_below hb C9.out⟩
      clear C9
      have C9 := n_
      clear n_
      have n_ : Aside0 (W2_.cell? ⟨gf1,0,none⟩ = some (.int .i64 d1)) := ⟨pw_cell_below hb C10.out⟩
      clear C10
      have C10 := n_
      clear n_
      have n_ : Aside0 (W2_.cell? ⟨gf1,1,none⟩ = some (.int .i64 d2)) := ⟨pw_cell_below hb C11.out⟩
      clear C11
      have C11 := n_
      clear n_
      have n_ : Aside0 (W2_.cell? ⟨gg1,0,none⟩ = some (.int .i64 d1)) := ⟨pw_cell_below hb C12.out⟩
      clear C12
      have C12 := n_
      clear n_
      have n_ : Aside0 (W2_.cell? ⟨gg1,1,none⟩ = some (.int .i64 d2)) := ⟨pw_cell_below hb C13.out⟩
      clear C13
      have C13 := n_
      clear n_
      have n_ : Aside0 (W2_.cell? ⟨gh,0,none⟩ = some (.int .i64 c1)) := ⟨pw_cell_below hb C14.out⟩
      clear C14
      have C14 := n_
      clear n_
      have n_ : Aside0 (W2_.cell? ⟨gh,1,none⟩ = some (.int .i64 c2)) := ⟨pw_cell_below hb C15.out⟩
      clear C15
      have C15 := n_
      clear n_
      have n_ : Aside0 (W2_.cell? ⟨gi,0,none⟩ = some (.int .i64 h1)) := ⟨pw_cell_below hb C16.out⟩
      clear C16
      have C16 := n_
      clear n_
      have n_ : Aside0 (W2_.cell? ⟨gi,1,none⟩ = some (.int .i64 h2)) := ⟨pw_cell_below hb C17.out⟩
      clear C17
      have C17 := n_
      clear n_
      have n_ : Aside0 (W2_.cell? ⟨gj,0,none⟩ = some (.int .i64 h3)) := ⟨pw_cell_below hb C18.out⟩
      clear C18
      have C18 := n_
      clear n_
      have n_ : Aside0 (W2_.cell? ⟨gj,1,none⟩ = some (.int .i64 h4)) := ⟨pw_cell_below hb C19.out⟩
      clear C19
      have C19 := n_
      clear n_
      have n_ := aZ_ (below_step HB.out hb)
      clear HB
      have HB := n_
      clear n_
      clear hb
      refine hK.out _ _ ⟨C0.out,C1.out,C2.out,C3.out,C4.out,C5.out,C6.out,C7.out,C8.out,C9.out,C10.out,C11.out,C12.out,C13.out,C14.out,C15.out,C16.out,C17.out,C18.out,C19.out⟩ (fun hHeld => ?_)
      clear hK K
      refine norm_ (a' := ?_) ?_ ?_
      rotate_left
      ·show Act.put _ (some 297) _ = _
       simp only [Act.put,List.setIfInBounds_toArray,List.set_cons_zero,List.set_cons_succ,i64_w,i32_w]
       rfl
      refine pZ_ 15 (some 298) #[true,true,true,true,true,true,true,true,true,true,true,true,true,true,true,true,false,false,false,false,false,false,false,false,false,false,false,false,false,false,false,false,false,false,false,false,false,false,false,false,false,false,false,false,false,false,false,false,false,false,false,false,false,false,false,false,false,false,false,false,false] ?_
      refine pZ_ 16 (some 299) #[true,true,true,true,true,true,true,true,true,true,true,true,true,true,true,true,true,false,false,false,false,false,false,false,false,false,false,false,false,false,false,false,false,false,false,false,false,false,false,false,false,false,false,false,false,false,false,false,false,false,false,false,false,false,false,false,false,false,false,false,false] ?_
      refine pZ_ 17 (some 300) #[true,true,true,true,true,true,true,true,true,true,true,true,true,true,true,true,true,true,false,false,false,false,false,false,false,false,false,false,false,false,false,false,false,false,false,false,false,false,false,false,false,false,false,false,false,false,false,false,false,false,false,false,false,false,false,false,false,false,false,false,false] ?_
      refine tZ20_ 18 (some 301) #[true,true,true,true,true,true,true,true,true,true,true,true,true,true,true,true,true,true,true,false,false,false,false,false,false,false,false,false,false,false,false,false,false,false,false,false,false,false,false,false,false,false,false,false,false,false,false,false,false,false,false,false,false,false,false,false,false,false,false,false,false] hHeld ?_
      refine tZ20_ 19 (some 302) #[true,true,true,true,true,true,true,true,true,true,true,true,true,true,true,true,true,true,true,true,false,false,false,false,false,false,false,false,false,false,false,false,false,false,false,false,false,false,false,false,false,false,false,false,false,false,false,false,false,false,false,false,false,false,false,false,false,false,false,false,false] hHeld ?_
      refine pZ_ 20 (some 303) #[true,true,true,true,true,true,true,true,true,true,true,true,true,true,true,true,true,true,true,true,true,false,false,false,false,false,false,false,false,false,false,false,false,false,false,false,false,false,false,false,false,false,false,false,false,false,false,false,false,false,false,false,false,false,false,false,false,false,false,false,false] ?_
      refine pZ_ 21 (some 304) #[true,true,true,true,true,true,true,true,true,true,true,true,true,true,true,true,true,true,true,true,true,true,false,false,false,false,false,false,false,false,false,false,false,false,false,false,false,false,false,false,false,false,false,false,false,false,false,false,false,false,false,false,false,false,false,false,false,false,false,false,false] ?_
      refine pZ_ 22 (some 305) #[true,true,true,true,true,true,true,true,true,true,true,true,true,true,true,true,true,true,true,true,true,true,true,false,false,false,false,false,false,false,false,false,false,false,false,false,false,false,false,false,false,false,false,false,false,false,false,false,false,false,false,false,false,false,false,false,false,false,false,false,false] ?_
      refine pZ_ 23 (some 306) #[true,true,true,true,true,true,true,true,true,true,true,true,true,true,true,true,true,true,true,true,true,true,true,true,false,false,false,false,false,false,false,false,false,false,false,false,false,false,false,false,false,false,false,false,false,false,false,false,false,false,false,false,false,false,false,false,false,false,false,false,false] ?_
      refine pZ_ 24 (some 307) #[true,true,true,true,true,true,true,true,true,true,true,true,true,true,true,true,true,true,true,true,true,true,true,true,true,false,false,false,false,false,false,false,false,false,false,false,false,false,false,false,false,false,false,false,false,false,false,false,false,false,false,false,false,false,false,false,false,false,false,false,false] ?_
      refine pZ_ 25 (some 308) #[true,true,true,true,true,true,true,true,true,true,true,true,true,true,true,true,true,true,true,true,true,true,true,true,true,true,false,false,false,false,false,false,false,false,false,false,false,false,false,false,false,false,false,false,false,false,false,false,false,false,false,false,false,false,false,false,false,false,false,false,false] ?_
      refine pZ_ 26 (some 309) #[true,true,true,true,true,true,true,true,true,true,true,true,true,true,true,true,true,true,true,true,true,true,true,true,true,true,true,false,false,false,false,false,false,false,false,false,false,false,false,false,false,false,false,false,false,false,false,false,false,false,false,false,false,false,false,false,false,false,false,false,false] ?_
      refine pZ_ 27 (some 310) #[true,true,true,true,true,true,true,true,true,true,true,true,true,true,true,true,true,true,true,true,true,true,true,true,true,true,true,true,false,false,false,false,false,false,false,false,false,false,false,false,false,false,false,false,false,false,false,false,false,false,false,false,false,false,false,false,false,false,false,false,false] ?_
      refine tZ20_ 28 (some 311) #[true,true,true,true,true,true,true,true,true,true,true,true,true,true,true,true,true,true,true,true,true,true,true,true,true,true,true,true,true,false,false,false,false,false,false,false,false,false,false,false,false,false,false,false,false,false,false,false,false,false,false,false,false,false,false,false,false,false,false,false,false] hHeld ?_
      refine tZ20_ 29 (some 312) #[true,true,true,true,true,true,true,true,true,true,true,true,true,true,true,true,true,true,true,true,true,true,true,true,true,true,true,true,true,true,false,false,false,false,false,false,false,false,false,false,false,false,false,false,false,false,false,false,false,false,false,false,false,false,false,false,false,false,false,false,false] hHeld ?_
      refine pZ_ 30 (some 313) #[true,true,true,true,true,true,true,true,true,true,true,true,true,true,true,true,true,true,true,true,true,true,true,true,true,true,true,true,true,true,true,false,false,false,false,false,false,false,false,false,false,false,false,false,false,false,false,false,false,false,false,false,false,false,false,false,false,false,false,false,false] ?_
      refine pZ_ 31 (some 314) #[true,true,true,true,true,true,true,true,true,true,true,true,true,true,true,true,true,true,true,true,true,true,true,true,true,true,true,true,true,true,true,true,false,false,false,false,false,false,false,false,false,false,false,false,false,false,false,false,false,false,false,false,false,false,false,false,false,false,false,false,false] ?_
      refine pZ_ 32 (some 315) #[true,true,true,true,true,true,true,true,true,true,true,true,true,true,true,true,true,true,true,true,true,true,true,true,true,true,true,true,true,true,true,true,true,false,false,false,false,false,false,false,false,false,false,false,false,false,false,false,false,false,false,false,false,false,false,false,false,false,false,false,false] ?_
      refine pZ_ 33 (some 316) #[true,true,true,true,true,true,true,true,true,true,true,true,true,true,true,true,true,true,true,true,true,true,true,true,true,true,true,true,true,true,true,true,true,true,false,false,false,false,false,false,false,false,false,false,false,false,false,false,false,false,false,false,false,false,false,false,false,false,false,false,false] ?_
      refine pZ_ 34 (some 317) #[true,true,true,true,true,true,true,true,true,true,true,true,true,true,true,true,true,true,true,true,true,true,true,true,true,true,true,true,true,true,true,true,true,true,true,false,false,false,false,false,false,false,false,false,false,false,false,false,false,false,false,false,false,false,false,false,false,false,false,false,false] ?_
      refine pZ_ 35 (some 318) #[true,true,true,true,true,true,true,true,true,true,true,true,true,true,true,true,true,true,true,true,true,true,true,true,true,true,true,true,true,true,true,true,true,true,true,true,false,false,false,false,false,false,false,false,false,false,false,false,false,false,false,false,false,false,false,false,false,false,false,false,false] ?_
      refine pZ_ 36 (some 319) #[true,true,true,true,true,true,true,true,true,true,true,true,true,true,true,true,true,true,true,true,true,true,true,true,true,true,true,true,true,true,true,true,true,true,true,true,true,false,false,false,false,false,false,false,false,false,false,false,false,false,false,false,false,false,false,false,false,false,false,false,false] ?_
      refine pZ_ 37 (some 320) #[true,true,true,true,true,true,true,true,true,true,true,true,true,true,true,true,true,true,true,true,true,true,true,true,true,true,true,true,true,true,true,true,true,true,true,true,true,true,false,false,false,false,false,false,false,false,false,false,false,false,false,false,false,false,false,false,false,false,false,false,false] ?_
      refine tZ20_ 38 (some 321) #[true,true,true,true,true,true,true,true,true,true,true,true,true,true,true,true,true,true,true,true,true,true,true,true,true,true,true,true,true,true,true,true,true,true,true,true,true,true,true,false,false,false,false,false,false,false,false,false,false,false,false,false,false,false,false,false,false,false,false,false,false] hHeld ?_
      refine tZ20_ 40 (some 323) #[true,true,true,true,true,true,true,true,true,true,true,true,true,true,true,true,true,true,true,true,true,true,true,true,true,true,true,true,true,true,true,true,true,true,true,true,true,true,true,false,true,false,false,false,false,false,false,false,false,false,false,false,false,false,false,false,false,false,false,false,false] hHeld ?_
      refine one_ (i := 39) (N := some 322) #[true,true,true,true,true,true,true,true,true,true,true,true,true,true,true,true,true,true,true,true,true,true,true,true,true,true,true,true,true,true,true,true,true,true,true,true,true,true,true,true,true,false,false,false,false,false,false,false,false,false,false,false,false,false,false,false,false,false,false,false,false] rfl rfl (one_of HT_.out T17_) T58_ (fun K hK => ?_)
      refine gZ_ Try.func32 #[.agg #[.int .i64 c1,.int .i64 c2]] ?_
      with_reducible refine (impl_IsConstant.calls c1 c2 xc _ HG.out.ic).mono ?_
      rintro e W3_ ⟨rfl,hb⟩
      refine ⟨_,rfl,?_⟩
      have n_ : Aside0 (W3_.cell? ⟨ga,0,none⟩ = some (.int .i64 x1)) := ⟨pw_cell_below hb C0.out⟩
      clear C0
      have C0 := n_
      clear n_
      have n_ : Aside0 (W3_.cell? ⟨ga,1,none⟩ = some (.int .i64 x2)) := ⟨pw_cell_below hb C1.out⟩
      clear C1
      have C1 := n_
      clear n_
      have n_ : Aside0 (W3_.cell? ⟨gb,0,none⟩ = some (.int .i64 x1)) := ⟨pw_cell_below hb C2.out⟩
      clear C2
      have C2 := n_
      clear n_
      have n_ : Aside0 (W3_.cell? ⟨gb,1,none⟩ = some (.int .i64 x2)) := ⟨pw_cell_below hb C3.out⟩
      clear C3
      have C3 := n_
      clear n_
      have n_ : Aside0 (W3_.cell? ⟨gc,0,none⟩ = some (.int .i64 v1)) := ⟨pw_cell_below hb C4.out⟩
      clear C4
      have C4 := n_
      clear n_
      have n_ : Aside0 (W3_.cell? ⟨gc,1,none⟩ = some (.int .i64 v2)) := ⟨pw_cell_below hb C5.out⟩
      clear C5
      have C5 := n_
      clear n_
      have n_ : Aside0 (W3_.cell? ⟨gd,0,none⟩ = some (.int .i64 z1)) := ⟨pw_cell_below hb C6.out⟩
      clear C6
      have C6 := n_
      clear n_
      have n_ : Aside0 (W3_.cell? ⟨gd,1,none⟩ = some (.int .i64 z2)) := ⟨pw_cell_below hb C7.out⟩
      clear C7
      have C7 := n_
      clear n_
      have n_ : Aside0 (W3_.cell? ⟨ge,0,none⟩ = some (.int .i64 z1)) := ⟨pw_cell_below hb C8.out⟩
      clear C8
      have C8 := n_
      clear n_
      have n_ : Aside0 (W3_.cell? ⟨ge,1,none⟩ = some (.int .i64 z2)) := ⟨pw_cell_below hb C9.out⟩
      clear C9
      have C9 := n_
      clear n_
      have n_ : Aside0 (W3_.cell? ⟨gf1,0,none⟩ = some (.int .i64 d1)) := ⟨pw_cell_below hb C10.out⟩
      clear C10
      have C10 := n_
      clear n_
      have n_ : Aside0 (W3_.cell? ⟨gf1,1,none⟩ = some (.int .i64 d2)) := ⟨pw_cell_below hb C11.out⟩
      clear C11
      have C11 := n_
      clear n_
      have n_ : Aside0 (W3_.cell? ⟨gg1,0,none⟩ = some (.int .i64 d1)) := ⟨pw_cell_below hb C12.out⟩
      clear C12
      have C12 := n_
      clear n_
      have n_ : Aside0 (W3_.cell? ⟨gg1,1,none⟩ = some (.int .i64 d2)) := ⟨pw_cell_below hb C13.out⟩
      clear C13
      have C13 := n_
      clear n_
      have n_ : Aside0 (W3_.cell? ⟨gh,0,none⟩ = some (.int .i64 c1)) := ⟨pw_cell_below hb C14.out⟩
      clear C14
      have C14 := n_
      clear n_
      have n_ : Aside0 (W3_.cell? ⟨gh,1,none⟩ = some (.int .i64 c2)) := ⟨pw_cell_below hb C15.out⟩
      clear C15
      have C15 := n_
      clear n_
      have n_ : Aside0 (W3_.cell? ⟨gi,0,none⟩ = some (.int .i64 h1)) := ⟨pw_cell_below hb C16.out⟩
      clear C16
      have C16 := n_
      clear n_
      have n_ : Aside0 (W3_.cell? ⟨gi,1,none⟩ = some (.int .i64 h2)) := ⟨pw_cell_below hb C17.out⟩
      clear C17
      have C17 := n_
      clear n_
      have n_ : Aside0 (W3_.cell? ⟨gj,0,none⟩ = some (.int .i64 h3)) := ⟨pw_cell_below hb C18.out⟩
      clear C18
      have C18 := n_
      clear n_
      have n_ : Aside0 (W3_.cell? ⟨gj,1,none⟩ = some (.int .i64 h4)) := ⟨pw_cell_below hb C19.out⟩
      clear C19
      have C19 := n_
      clear n_
      have n_ := aZ_ (below_step HB.out hb)
      clear HB
      have HB := n_
      clear n_
      clear hb
      refine hK.out _ _ ⟨C0.out,C1.out,C2.out,C3.out,C4.out,C5.out,C6.out,C7.out,C8.out,C9.out,C10.out,C11.out,C12.out,C13.out,C14.out,C15.out,C16.out,C17.out,C18.out,C19.out⟩ (fun hHeld => ?_)
      clear hK K
      refine norm_ (a' := ?_) ?_ ?_
      rotate_left
      ·show Act.put _ (some 322) _ = _
       simp only [Act.put,List.setIfInBounds_toArray,List.set_cons_zero,List.set_cons_succ,i64_w,i32_w]
       rfl
      refine one_ (i := 41) (N := some 324) #[true,true,true,true,true,true,true,true,true,true,true,true,true,true,true,true,true,true,true,true,true,true,true,true,true,true,true,true,true,true,true,true,true,true,true,true,true,true,true,true,true,true,false,false,false,false,false,false,false,false,false,false,false,false,false,false,false,false,false,false,false] rfl rfl (one_of HT_.out T17_) T58_ (fun K hK => ?_)
      refine gZ_ Try.func33 #[.agg #[.int .i64 c1,.int .i64 c2]] ?_
      with_reducible refine (spec_IsConstant.calls c1 c2 xc _ HG.out.ic2).mono ?_
      rintro e W4_ ⟨rfl,hb⟩
      refine ⟨_,rfl,?_⟩
      have n_ : Aside0 (W4_.cell? ⟨ga,0,none⟩ = some (.int .i64 x1)) := ⟨pw_cell_below hb C0.out⟩
      clear C0
      have C0 := n_
      clear n_
      have n_ : Aside0 (W4_.cell? ⟨ga,1,none⟩ = some (.int .i64 x2)) := ⟨pw_cell_below hb C1.out⟩
      clear C1
      have C1 := n_
      clear n_
      have n_ : Aside0 (W4_.cell? ⟨gb,0,none⟩ = some (.int .i64 x1)) := ⟨pw_cell_below hb C2.out⟩
      clear C2
      have C2 := n_
      clear n_
      have n_ : Aside0 (W4_.cell? ⟨gb,1,none⟩ = some (.int .i64 x2)) := ⟨pw_cell_below hb C3.out⟩
      clear C3
      have C3 := n_
      clear n_
      have n_ : Aside0 (W4_.cell? ⟨gc,0,none⟩ = some (.int .i64 v1)) := ⟨pw_cell_below hb C4.out⟩
      clear C4
      have C4 := n_
      clear n_
      have n_ : Aside0 (W4_.cell? ⟨gc,1,none⟩ = some (.int .i64 v2)) := ⟨pw_cell_below hb C5.out⟩
      clear C5
      have C5 := n_
      clear n_
      have n_ : Aside0 (W4_.cell? ⟨gd,0,none⟩ = some (.int .i64 z1)) := ⟨pw_cell_below hb C6.out⟩
      clear C6
      have C6 := n_
      clear n_
      have n_ : Aside0 (W4_.cell? ⟨gd,1,none⟩ = some (.int .i64 z2)) := ⟨pw_cell_below hb C7.out⟩
      clear C7
      have C7 := n_
      clear n_
      have n_ : Aside0 (W4_.cell? ⟨ge,0,none⟩ = some (.int .i64 z1)) := ⟨pw_cell_below hb C8.out⟩
      clear C8
      have C8 := n_
      clear n_
      have n_ : Aside0 (W4_.cell? ⟨ge,1,none⟩ = some (.int .i64 z2)) := ⟨pw_cell_below hb C9.out⟩
      clear C9
      have C9 := n_
      clear n_
      have n_ : Aside0 (W4_.cell? ⟨gf1,0,none⟩ = some (.int .i64 d1)) := ⟨pw_cell_below hb C10.out⟩
      clear C10
      have C10 := n_
      clear n_
      have n_ : Aside0 (W4_.cell? ⟨gf1,1,none⟩ = some (.int .i64 d2)) := ⟨pw_cell_below hb C11.out⟩
      clear C11
      have C11 := n_
      clear n_
      have n_ : Aside0 (W4_.cell? ⟨gg1,0,none⟩ = some (.int .i64 d1)) := ⟨pw_cell_below hb C12.out⟩
      clear C12
      have C12 := n_
      clear n_
      have n_ : Aside0 (W4_.cell? ⟨gg1,1,none⟩ = some (.int .i64 d2)) := ⟨pw_cell_below hb C13.out⟩
      clear C13
      have C13 := n_
      clear n_
      have n_ : Aside0 (W4_.cell? ⟨gh,0,none⟩ = some (.int .i64 c1)) := ⟨pw_cell_below hb C14.out⟩
      clear C14
      have C14 := n_
      clear n_
      have n_ : Aside0 (W4_.cell? ⟨gh,1,none⟩ = some (.int .i64 c2)) := ⟨pw_cell_below hb C15.out⟩
      clear C15
      have C15 := n_
      clear n_
      have n_ : Aside0 (W4_.cell? ⟨gi,0,none⟩ = some (.int .i64 h1)) := ⟨pw_cell_below hb C16.out⟩
      clear C16
      have C16 := n_
      clear n_
      have n_ : Aside0 (W4_.cell? ⟨gi,1,none⟩ = some (.int .i64 h2)) := ⟨pw_cell_below hb C17.out⟩
      clear C17
      have C17 := n_
      clear n_
      have n_ : Aside0 (W4_.cell? ⟨gj,0,none⟩ = some (.int .i64 h3)) := ⟨pw_cell_below hb C18.out⟩
      clear C18
      have C18 := n_
      clear n_
      have n_ : Aside0 (W4_.cell? ⟨gj,1,none⟩ = some (.int .i64 h4)) := ⟨pw_cell_below hb C19.out⟩
      clear C19
      have C19 := n_
      clear n_
      have n_ := aZ_ (below_step HB.out hb)
      clear HB
      have HB := n_
      clear n_
      clear hb
      refine hK.out _ _ ⟨C0.out,C1.out,C2.out,C3.out,C4.out,C5.out,C6.out,C7.out,C8.out,C9.out,C10.out,C11.out,C12.out,C13.out,C14.out,C15.out,C16.out,C17.out,C18.out,C19.out⟩ (fun hHeld => ?_)
      clear hK K
      refine norm_ (a' := ?_) ?_ ?_
      rotate_left
      ·show Act.put _ (some 324) _ = _
       simp only [Act.put,List.setIfInBounds_toArray,List.set_cons_zero,List.set_cons_succ,i64_w,i32_w]
       rfl
      refine pZ_ 42 (some 325) #[true,true,true,true,true,true,true,true,true,true,true,true,true,true,true,true,true,true,true,true,true,true,true,true,true,true,true,true,true,true,true,true,true,true,true,true,true,true,true,true,true,true,true,false,false,false,false,false,false,false,false,false,false,false,false,false,false,false,false,false,false] ?_
      refine pZ_ 43 (some 326) #[true,true,true,true,true,true,true,true,true,true,true,true,true,true,true,true,true,true,true,true,true,true,true,true,true,true,true,true,true,true,true,true,true,true,true,true,true,true,true,true,true,true,true,true,false,false,false,false,false,false,false,false,false,false,false,false,false,false,false,false,false] ?_
      refine pZ_ 44 (some 327) #[true,true,true,true,true,true,true,true,true,true,true,true,true,true,true,true,true,true,true,true,true,true,true,true,true,true,true,true,true,true,true,true,true,true,true,true,true,true,true,true,true,true,true,true,true,false,false,false,false,false,false,false,false,false,false,false,false,false,false,false,false] ?_
      refine tZ20_ 45 (some 328) #[true,true,true,true,true,true,true,true,true,true,true,true,true,true,true,true,true,true,true,true,true,true,true,true,true,true,true,true,true,true,true,true,true,true,true,true,true,true,true,true,true,true,true,true,true,true,false,false,false,false,false,false,false,false,false,false,false,false,false,false,false] hHeld ?_
      refine tZ20_ 46 (some 329) #[true,true,true,true,true,true,true,true,true,true,true,true,true,true,true,true,true,true,true,true,true,true,true,true,true,true,true,true,true,true,true,true,true,true,true,true,true,true,true,true,true,true,true,true,true,true,true,false,false,false,false,false,false,false,false,false,false,false,false,false,false] hHeld ?_
      refine tZ20_ 48 (some 331) #[true,true,true,true,true,true,true,true,true,true,true,true,true,true,true,true,true,true,true,true,true,true,true,true,true,true,true,true,true,true,true,true,true,true,true,true,true,true,true,true,true,true,true,true,true,true,true,false,true,false,false,false,false,false,false,false,false,false,false,false,false] hHeld ?_
      refine tZ20_ 49 (some 332) #[true,true,true,true,true,true,true,true,true,true,true,true,true,true,true,true,true,true,true,true,true,true,true,true,true,true,true,true,true,true,true,true,true,true,true,true,true,true,true,true,true,true,true,true,true,true,true,false,true,true,false,false,false,false,false,false,false,false,false,false,false] hHeld ?_
      refine one_ (i := 47) (N := some 330) #[true,true,true,true,true,true,true,true,true,true,true,true,true,true,true,true,true,true,true,true,true,true,true,true,true,true,true,true,true,true,true,true,true,true,true,true,true,true,true,true,true,true,true,true,true,true,true,true,true,true,false,false,false,false,false,false,false,false,false,false,false] rfl rfl (one_of HT_.out T17_) T58_ (fun K hK => ?_)
      refine gZ_ Try.func14 #[.agg #[.int .i64 h1,.int .i64 h2],.agg #[.int .i64 h3,.int .i64 h4]] ?_
      with_reducible refine (impl_DistanceBetween.calls h1 h2 h3 h4 xd _ HG.out.di).mono ?_
      rintro e W5_ ⟨rfl,hb⟩
      refine ⟨_,rfl,?_⟩
      have n_ : Aside0 (W5_.cell? ⟨ga,0,none⟩ = some (.int .i64 x1)) := ⟨pw_cell_below hb C0.out⟩
      clear C0
      have C0 := n_
      clear n_
      have n_ : Aside0 (W5_.cell? ⟨ga,1,none⟩ = some (.int .i64 x2)) := ⟨pw_cell_below hb C1.out⟩
      clear C1
      have C1 := n_
      clear n_
      have n_ : Aside0 (W5_.cell? ⟨gb,0,none⟩ = some (.int .i64 x1)) := ⟨pw_cell_below hb C2.out⟩
      clear C2
      have C2 := n_
      clear n_
      have n_ : Aside0 (W5_.cell? ⟨gb,1,none⟩ = some (.int .i64 x2)) := ⟨pw_cell_below hb C3.out⟩
      clear C3
      have C3 := n_
      clear n_
      have n_ : Aside0 (W5_.cell? ⟨gc,0,none⟩ = some (.int .i64 v1)) := ⟨pw_cell_below hb C4.out⟩
      clear C4
      have C4 := n_
      clear n_
      have n_ : Aside0 (W5_.cell? ⟨gc,1,none⟩ = some (.int .i64 v2)) := ⟨pw_cell_below hb C5.out⟩
      clear C5
      have C5 := n_
      clear n_
      have n_ : Aside0 (W5_.cell? ⟨gd,0,none⟩ = some (.int .i64 z1)) := ⟨pw_cell_below hb C6.out⟩
      clear C6
      have C6 := n_
      clear n_
      have n_ : Aside0 (W5_.cell? ⟨gd,1,none⟩ = some (.int .i64 z2)) := ⟨pw_cell_below hb C7.out⟩
      clear C7
      have C7 := n_
      clear n_
      have n_ : Aside0 (W5_.cell? ⟨ge,0,none⟩ = some (.int .i64 z1)) := ⟨pw_cell_below hb C8.out⟩
      clear C8
      have C8 := n_
      clear n_
      have n_ : Aside0 (W5_.cell? ⟨ge,1,none⟩ = some (.int .i64 z2)) := ⟨pw_cell_below hb C9.out⟩
      clear C9
      have C9 := n_
      clear n_
      have n_ : Aside0 (W5_.cell? ⟨gf1,0,none⟩ = some (.int .i64 d1)) := ⟨pw_cell_below hb C10.out⟩
      clear C10
      have C10 := n_
      clear n_
      have n_ : Aside0 (W5_.cell? ⟨gf1,1,none⟩ = some (.int .i64 d2)) := ⟨pw_cell_below hb C11.out⟩
      clear C11
      have C11 := n_
      clear n_
      have n_ : Aside0 (W5_.cell? ⟨gg1,0,none⟩ = some (.int .i64 d1)) := ⟨pw_cell_below hb C12.out⟩
      clear C12
      have C12 := n_
      clear n_
      have n_ : Aside0 (W5_.cell? ⟨gg1,1,none⟩ = some (.int .i64 d2)) := ⟨pw_cell_below hb C13.out⟩
      clear C13
      have C13 := n_
      clear n_
      have n_ : Aside0 (W5_.cell? ⟨gh,0,none⟩ = some (.int .i64 c1)) := ⟨pw_cell_below hb C14.out⟩
      clear C14
      have C14 := n_
      clear n_
      have n_ : Aside0 (W5_.cell? ⟨gh,1,none⟩ = some (.int .i64 c2)) := ⟨pw_cell_below hb C15.out⟩
      clear C15
      have C15 := n_
      clear n_
      have n_ : Aside0 (W5_.cell? ⟨gi,0,none⟩ = some (.int .i64 h1)) := ⟨pw_cell_below hb C16.out⟩
      clear C16
      have C16 := n_
      clear n_
      have n_ : Aside0 (W5_.cell? ⟨gi,1,none⟩ = some (.int .i64 h2)) := ⟨pw_cell_below hb C17.out⟩
      clear C17
      have C17 := n_
      clear n_
      have n_ : Aside0 (W5_.cell? ⟨gj,0,none⟩ = some (.int .i64 h3)) := ⟨pw_cell_below hb C18.out⟩
      clear C18
      have C18 := n_
      clear n_
      have n_ : Aside0 (W5_.cell? ⟨gj,1,none⟩ = some (.int .i64 h4)) := ⟨pw_cell_below hb C19.out⟩
      clear C19
      have C19 := n_
      clear n_
      have n_ := aZ_ (below_step HB.out hb)
      clear HB
      have HB := n_
      clear n_
      clear hb
      refine hK.out _ _ ⟨C0.out,C1.out,C2.out,C3.out,C4.out,C5.out,C6.out,C7.out,C8.out,C9.out,C10.out,C11.out,C12.out,C13.out,C14.out,C15.out,C16.out,C17.out,C18.out,C19.out⟩ (fun hHeld => ?_)
      clear hK K
      refine norm_ (a' := ?_) ?_ ?_
      rotate_left
      ·show Act.put _ (some 330) _ = _
       simp only [Act.put,List.setIfInBounds_toArray,List.set_cons_zero,List.set_cons_succ,i64_w,i32_w]
       rfl
      refine one_ (i := 50) (N := some 333) #[true,true,true,true,true,true,true,true,true,true,true,true,true,true,true,true,true,true,true,true,true,true,true,true,true,true,true,true,true,true,true,true,true,true,true,true,true,true,true,true,true,true,true,true,true,true,true,true,true,true,true,false,false,false,false,false,false,false,false,false,false] rfl rfl (one_of HT_.out T17_) T58_ (fun K hK => ?_)
      refine gZ_ Try.func34 #[.agg #[.int .i64 h1,.int .i64 h2],.agg #[.int .i64 h3,.int .i64 h4]] ?_
      with_reducible refine (spec_DistanceBetween.calls k h1 h2 h3 h4 xd _ HG.out.di2).mono ?_
      rintro e W6_ ⟨rfl,hb⟩
      refine ⟨_,rfl,?_⟩
      have n_ : Aside0 (W6_.cell? ⟨ga,0,none⟩ = some (.int .i64 x1)) := ⟨pw_cell_below hb C0.out⟩
      clear C0
      have C0 := n_
      clear n_
      have n_ : Aside0 (W6_.cell? ⟨ga,1,none⟩ = some (.int .i64 x2)) := ⟨pw_cell_below hb C1.out⟩
      clear C1
      have C1 := n_
      clear n_
      have n_ : Aside0 (W6_.cell? ⟨gb,0,none⟩ = some (.int .i64 x1)) := ⟨pw_cell_below hb C2.out⟩
      clear C2
      have C2 := n_
      clear n_
      have n_ : Aside0 (W6_.cell? ⟨gb,1,none⟩ = some (.int .i64 x2)) := ⟨pw_cell_below hb C3.out⟩
      clear C3
      have C3 := n_
      clear n_
      have n_ : Aside0 (W6_.cell? ⟨gc,0,none⟩ = some (.int .i64 v1)) := ⟨pw_cell_below hb C4.out⟩
      clear C4
      have C4 := n_
      clear n_
      have n_ : Aside0 (W6_.cell? ⟨gc,1,none⟩ = some (.int .i64 v2)) := ⟨pw_cell_below hb C5.out⟩
      clear C5
      have C5 := n_
      clear n_
      have n_ : Aside0 (W6_.cell? ⟨gd,0,none⟩ = some (.int .i64 z1)) := ⟨pw_cell_below hb C6.out⟩
      clear C6
      have C6 := n_
      clear n_
      have n_ : Aside0 (W6_.cell? ⟨gd,1,none⟩ = some (.int .i64 z2)) := ⟨pw_cell_below hb C7.out⟩
      clear C7
      have C7 := n_
      clear n_
      have n_ : Aside0 (W6_.cell? ⟨ge,0,none⟩ = some (.int .i64 z1)) := ⟨pw_cell_below hb C8.out⟩
      clear C8
      have C8 := n_
      clear n_
      have n_ : Aside0 (W6_.cell? ⟨ge,1,none⟩ = some (.int .i64 z2)) := ⟨pw_cell_below hb C9.out⟩
      clear C9
      have C9 := n_
      clear n_
      have n_ : Aside0 (W6_.cell? ⟨gf1,0,none⟩ = some (.int .i64 d1)) := ⟨pw_cell_below hb C10.out⟩
      clear C10
      have C10 := n_
      clear n_
      have n_ : Aside0 (W6_.cell? ⟨gf1,1,none⟩ = some (.int .i64 d2)) := ⟨pw_cell_below hb C11.out⟩
      clear C11
      have C11 := n_
      clear n_
      have n_ : Aside0 (W6_.cell? ⟨gg1,0,none⟩ = some (.int .i64 d1)) := ⟨pw_cell_below hb C12.out⟩
      clear C12
      have C12 := n_
      clear n_
      have n_ : Aside0 (W6_.cell? ⟨gg1,1,none⟩ = some (.int .i64 d2)) := ⟨pw_cell_below hb C13.out⟩
      clear C13
      have C13 := n_
      clear n_
      have n_ : Aside0 (W6_.cell? ⟨gh,0,none⟩ = some (.int .i64 c1)) := ⟨pw_cell_below hb C14.out⟩
      clear C14
      have C14 := n_
      clear n_
      have n_ : Aside0 (W6_.cell? ⟨gh,1,none⟩ = some (.int .i64 c2)) := ⟨pw_cell_below hb C15.out⟩
      clear C15
      have C15 := n_
      clear n_
      have n_ : Aside0 (W6_.cell? ⟨gi,0,none⟩ = some (.int .i64 h1)) := ⟨pw_cell_below hb C16.out⟩
      clear C16
      have C16 := n_
      clear n_
      have n_ : Aside0 (W6_.cell? ⟨gi,1,none⟩ = some (.int .i64 h2)) := ⟨pw_cell_below hb C17.out⟩
      clear C17
      have C17 := n_
      clear n_
      have n_ : Aside0 (W6_.cell? ⟨gj,0,none⟩ = some (.int .i64 h3)) := ⟨pw_cell_below hb C18.out⟩
      clear C18
      have C18 := n_
      clear n_
      have n_ : Aside0 (W6_.cell? ⟨gj,1,none⟩ = some (.int .i64 h4)) := ⟨pw_cell_below hb C19.out⟩
      clear C19
      have C19 := n_
      clear n_
      have n_ := aZ_ (below_step HB.out hb)
      clear HB
      have HB := n_
      clear n_
      clear hb
      refine hK.out _ _ ⟨C0.out,C1.out,C2.out,C3.out,C4.out,C5.out,C6.out,C7.out,C8.out,C9.out,C10.out,C11.out,C12.out,C13.out,C14.out,C15.out,C16.out,C17.out,C18.out,C19.out⟩ (fun hHeld => ?_)
      clear hK K
      refine norm_ (a' := ?_) ?_ ?_
      rotate_left
      ·show Act.put _ (some 333) _ = _
       simp only [Act.put,List.setIfInBounds_toArray,List.set_cons_zero,List.set_cons_succ,i64_w,i32_w]
       rfl
      refine pZ_ 51 (some 334) #[true,true,true,true,true,true,true,true,true,true,true,true,true,true,true,true,true,true,true,true,true,true,true,true,true,true,true,true,true,true,true,true,true,true,true,true,true,true,true,true,true,true,true,true,true,true,true,true,true,true,true,true,false,false,false,false,false,false,false,false,false] ?_
      refine pZ_ 52 (some 335) #[true,true,true,true,true,true,true,true,true,true,true,true,true,true,true,true,true,true,true,true,true,true,true,true,true,true,true,true,true,true,true,true,true,true,true,true,true,true,true,true,true,true,true,true,true,true,true,true,true,true,true,true,true,false,false,false,false,false,false,false,false] ?_
      refine pZ_ 53 (some 336) #[true,true,true,true,true,true,true,true,true,true,true,true,true,true,true,true,true,true,true,true,true,true,true,true,true,true,true,true,true,true,true,true,true,true,true,true,true,true,true,true,true,true,true,true,true,true,true,true,true,true,true,true,true,true,false,false,false,false,false,false,false] ?_
      refine tZ20_ 54 (some 337) #[true,true,true,true,true,true,true,true,true,true,true,true,true,true,true,true,true,true,true,true,true,true,true,true,true,true,true,true,true,true,true,true,true,true,true,true,true,true,true,true,true,true,true,true,true,true,true,true,true,true,true,true,true,true,true,false,false,false,false,false,false] hHeld ?_
      refine tZ20_ 56 (some 339) #[true,true,true,true,true,true,true,true,true,true,true,true,true,true,true,true,true,true,true,true,true,true,true,true,true,true,true,true,true,true,true,true,true,true,true,true,true,true,true,true,true,true,true,true,true,true,true,true,true,true,true,true,true,true,true,false,true,false,false,false,false] hHeld ?_
      refine one_ (i := 55) (N := some 338) #[true,true,true,true,true,true,true,true,true,true,true,true,true,true,true,true,true,true,true,true,true,true,true,true,true,true,true,true,true,true,true,true,true,true,true,true,true,true,true,true,true,true,true,true,true,true,true,true,true,true,true,true,true,true,true,true,true,false,false,false,false] rfl rfl (one_of HT_.out T17_) T58_ (fun K hK => ?_)
      refine gZ_ Try.func13 #[.agg #[.int .i64 c1,.int .i64 c2]] ?_
      with_reducible refine (impl_CountOnes.calls c1 c2 xo _ HG.out.co).mono ?_
      rintro e W7_ ⟨rfl,hb⟩
      refine ⟨_,rfl,?_⟩
      have n_ : Aside0 (W7_.cell? ⟨ga,0,none⟩ = some (.int .i64 x1)) := ⟨pw_cell_below hb C0.out⟩
      clear C0
      have C0 := n_
      clear n_
      have n_ : Aside0 (W7_.cell? ⟨ga,1,none⟩ = some (.int .i64 x2)) := ⟨pw_cell_below hb C1.out⟩
      clear C1
      have C1 := n_
      clear n_
      have n_ : Aside0 (W7_.cell? ⟨gb,0,none⟩ = some (.int .i64 x1)) := ⟨pw_cell_below hb C2.out⟩
      clear C2
      have C2 := n_
      clear n_
      have n_ : Aside0 (W7_.cell? ⟨gb,1,none⟩ = some (.int .i64 x2)) := ⟨pw_cell_below hb C3.out⟩
      clear C3
      have C3 := n_
      clear n_
      have n_ : Aside0 (W7_.cell? ⟨gc,0,none⟩ = some (.int .i64 v1)) := ⟨pw_cell_below hb C4.out⟩
      clear C4
      have C4 := n_
      clear n_
      have n_ : Aside0 (W7_.cell? ⟨gc,1,none⟩ = some (.int .i64 v2)) := ⟨pw_cell_below hb C5.out⟩
      clear C5
      have C5 := n_
      clear n_
      have n_ : Aside0 (W7_.cell? ⟨gd,0,none⟩ = some (.int .i64 z1)) := ⟨pw_cell_below hb C6.out⟩
      clear C6
      have C6 := n_
      clear n_
      have n_ : Aside0 (W7_.cell? ⟨gd,1,none⟩ = some (.int .i64 z2)) := ⟨pw_cell_below hb C7.out⟩
      clear C7
      have C7 := n_
      clear n_
      have n_ : Aside0 (W7_.cell? ⟨ge,0,none⟩ = some (.int .i64 z1)) := ⟨pw_cell_below hb C8.out⟩
      clear C8
      have C8 := n_
      clear n_
      have n_ : Aside0 (W7_.cell? ⟨ge,1,none⟩ = some (.int .i64 z2)) := ⟨pw_cell_below hb C9.out⟩
      clear C9
      have C9 := n_
      clear n_
      have n_ : Aside0 (W7_.cell? ⟨gf1,0,none⟩ = some (.int .i64 d1)) := ⟨pw_cell_below hb C10.out⟩
      clear C10
      have C10 := n_
      clear n_
      have n_ : Aside0 (W7_.cell? ⟨gf1,1,none⟩ = some (.int .i64 d2)) := ⟨pw_cell_below hb C11.out⟩
      clear C11
      have C11 := n_
      clear n_
      have n_ : Aside0 (W7_.cell? ⟨gg1,0,none⟩ = some (.int .i64 d1)) := ⟨pw_cell_below hb C12.out⟩
      clear C12
      have C12 := n_
      clear n_
      have n_ : Aside0 (W7_.cell? ⟨gg1,1,none⟩ = some (.int .i64 d2)) := ⟨pw_cell_below hb C13.out⟩
      clear C13
      have C13 := n_
      clear n_
      have n_ : Aside0 (W7_.cell? ⟨gh,0,none⟩ = some (.int .i64 c1)) := ⟨pw_cell_below hb C14.out⟩
      clear C14
      have C14 := n_
      clear n_
      have n_ : Aside0 (W7_.cell? ⟨gh,1,none⟩ = some (.int .i64 c2)) := ⟨pw_cell_below hb C15.out⟩
      clear C15
      have C15 := n_
      clear n_
      have n_ : Aside0 (W7_.cell? ⟨gi,0,none⟩ = some (.int .i64 h1)) := ⟨pw_cell_below hb C16.out⟩
      clear C16
      have C16 := n_
      clear n_
      have n_ : Aside0 (W7_.cell? ⟨gi,1,none⟩ = some (.int .i64 h2)) := ⟨pw_cell_below hb C17.out⟩
      clear C17
      have C17 := n_
      clear n_
      have n_ : Aside0 (W7_.cell? ⟨gj,0,none⟩ = some (.int .i64 h3)) := ⟨pw_cell_below hb C18.out⟩
      clear C18
      have C18 := n_
      clear n_
      have n_ : Aside0 (W7_.cell? ⟨gj,1,none⟩ = some (.int .i64 h4)) := ⟨pw_cell_below hb C19.out⟩
      clear C19
      have C19 := n_
      clear n_
      have n_ := aZ_ (below_step HB.out hb)
      clear HB
      have HB := n_
      clear n_
      clear hb
      refine hK.out _ _ ⟨C0.out,C1.out,C2.out,C3.out,C4.out,C5.out,C6.out,C7.out,C8.out,C9.out,C10.out,C11.out,C12.out,C13.out,C14.out,C15.out,C16.out,C17.out,C18.out,C19.out⟩ (fun hHeld => ?_)
      clear hK K
      refine norm_ (a' := ?_) ?_ ?_
      rotate_left
      ·show Act.put _ (some 338) _ = _
       simp only [Act.put,List.setIfInBounds_toArray,List.set_cons_zero,List.set_cons_succ,i64_w,i32_w]
       rfl
      refine one_ (i := 57) (N := some 340) #[true,true,true,true,true,true,true,true,true,true,true,true,true,true,true,true,true,true,true,true,true,true,true,true,true,true,true,true,true,true,true,true,true,true,true,true,true,true,true,true,true,true,true,true,true,true,true,true,true,true,true,true,true,true,true,true,true,true,false,false,false] rfl rfl (one_of HT_.out T17_) T58_ (fun K hK => ?_)
      refine gZ_ Try.func35 #[.agg #[.int .i64 c1,.int .i64 c2]] ?_
      with_reducible refine (spec_CountOnes.calls k c1 c2 xo _ HG.out.co2).mono ?_
      rintro e W8_ ⟨rfl,hb⟩
      refine ⟨_,rfl,?_⟩
      have n_ : Aside0 (W8_.cell? ⟨ga,0,none⟩ = some (.int .i64 x1)) := ⟨pw_cell_below hb C0.out⟩
      clear C0
      have C0 := n_
      clear n_
      have n_ : Aside0 (W8_.cell? ⟨ga,1,none⟩ = some (.int .i64 x2)) := ⟨pw_cell_below hb C1.out⟩
      clear C1
      have C1 := n_
      clear n_
      have n_ : Aside0 (W8_.cell? ⟨gb,0,none⟩ = some (.int .i64 x1)) := ⟨pw_cell_below hb C2.out⟩
      clear C2
      have C2 := n_
      clear n_
      have n_ : Aside0 (W8_.cell? ⟨gb,1,none⟩ = some (.int .i64 x2)) := ⟨pw_cell_below hb C3.out⟩
      clear C3
      have C3 := n_
      clear n_
      have n_ : Aside0 (W8_.cell? ⟨gc,0,none⟩ = some (.int .i64 v1)) := ⟨pw_cell_below hb C4.out⟩
      clear C4
      have C4 := n_
      clear n_
      have n_ : Aside0 (W8_.cell? ⟨gc,1,none⟩ = some (.int .i64 v2)) := ⟨pw_cell_below hb C5.out⟩
      clear C5
      have C5 := n_
      clear n_
      have n_ : Aside0 (W8_.cell? ⟨gd,0,none⟩ = some (.int .i64 z1)) := ⟨pw_cell_below hb C6.out⟩
      clear C6
      have C6 := n_
      clear n_
      have n_ : Aside0 (W8_.cell? ⟨gd,1,none⟩ = some (.int .i64 z2)) := ⟨pw_cell_below hb C7.out⟩
      clear C7
      have C7 := n_
      clear n_
      have n_ : Aside0 (W8_.cell? ⟨ge,0,none⟩ = some (.int .i64 z1)) := ⟨pw_cell_below hb C8.out⟩
      clear C8
      have C8 := n_
      clear n_
      have n_ : Aside0 (W8_.cell? ⟨ge,1,none⟩ = some (.int .i64 z2)) := ⟨pw_cell_below hb C9.out⟩
      clear C9
      have C9 := n_
      clear n_
      have n_ : Aside0 (W8_.cell? ⟨gf1,0,none⟩ = some (.int .i64 d1)) := ⟨pw_cell_below hb C10.out⟩
      clear C10
      have C10 := n_
      clear n_
      have n_ : Aside0 (W8_.cell? ⟨gf1,1,none⟩ = some (.int .i64 d2)) := ⟨pw_cell_below hb C11.out⟩
      clear C11
      have C11 := n_
      clear n_
      have n_ : Aside0 (W8_.cell? ⟨gg1,0,none⟩ = some (.int .i64 d1)) := ⟨pw_cell_below hb C12.out⟩
      clear C12
      have C12 := n_
      clear n_
      have n_ : Aside0 (W8_.cell? ⟨gg1,1,none⟩ = some (.int .i64 d2)) := ⟨pw_cell_below hb C13.out⟩
      clear C13
      have C13 := n_
      clear n_
      have n_ : Aside0 (W8_.cell? ⟨gh,0,none⟩ = some (.int .i64 c1)) := ⟨pw_cell_below hb C14.out⟩
      clear C14
      have C14 := n_
      clear n_
      have n_ : Aside0 (W8_.cell? ⟨gh,1,none⟩ = some (.int .i64 c2)) := ⟨pw_cell_below hb C15.out⟩
      clear C15
      have C15 := n_
      clear n_
      have n_ : Aside0 (W8_.cell? ⟨gi,0,none⟩ = some (.int .i64 h1)) := ⟨pw_cell_below hb C16.out⟩
      clear C16
      have C16 := n_
      clear n_
      have n_ : Aside0 (W8_.cell? ⟨gi,1,none⟩ = some (.int .i64 h2)) := ⟨pw_cell_below hb C17.out⟩
      clear C17
      have C17 := n_
      clear n_
      have n_ : Aside0 (W8_.cell? ⟨gj,0,none⟩ = some (.int .i64 h3)) := ⟨pw_cell_below hb C18.out⟩
      clear C18
      have C18 := n_
      clear n_
      have n_ : Aside0 (W8_.cell? ⟨gj,1,none⟩ = some (.int .i64 h4)) := ⟨pw_cell_below hb C19.out⟩
      clear C19
      have C19 := n_
      clear n_
      have n_ := aZ_ (below_step HB.out hb)
      clear HB
      have HB := n_
      clear n_
      clear hb
      refine hK.out _ _ ⟨C0.out,C1.out,C2.out,C3.out,C4.out,C5.out,C6.out,C7.out,C8.out,C9.out,C10.out,C11.out,C12.out,C13.out,C14.out,C15.out,C16.out,C17.out,C18.out,C19.out⟩ (fun hHeld => ?_)
      clear hK K
      refine norm_ (a' := ?_) ?_ ?_
      rotate_left
      ·show Act.put _ (some 340) _ = _
       simp only [Act.put,List.setIfInBounds_toArray,List.set_cons_zero,List.set_cons_succ,i64_w,i32_w]
       rfl
      refine pZ_ 58 (some 341) #[true,true,true,true,true,true,true,true,true,true,true,true,true,true,true,true,true,true,true,true,true,true,true,true,true,true,true,true,true,true,true,true,true,true,true,true,true,true,true,true,true,true,true,true,true,true,true,true,true,true,true,true,true,true,true,true,true,true,true,false,false] ?_
      refine pZ_ 59 (some 342) #[true,true,true,true,true,true,true,true,true,true,true,true,true,true,true,true,true,true,true,true,true,true,true,true,true,true,true,true,true,true,true,true,true,true,true,true,true,true,true,true,true,true,true,true,true,true,true,true,true,true,true,true,true,true,true,true,true,true,true,true,false] ?_
      refine pZ_ 60 (some 2) #[true,true,true,true,true,true,true,true,true,true,true,true,true,true,true,true,true,true,true,true,true,true,true,true,true,true,true,true,true,true,true,true,true,true,true,true,true,true,true,true,true,true,true,true,true,true,true,true,true,true,true,true,true,true,true,true,true,true,true,true,true] ?_
      refine done_ (done_of HT_.out T17_) ?_
      clear C0 C1 C2 C3 C4 C5 C6 C7 C8 C9 C10 C11 C12 C13 C14 C15 C16 C17 C18 C19 hHeld HT_ HW_
      go_wp2_with (fail)
      go_ret
      exact ⟨rfl,HB.out⟩
 next => cases h
end Go.Proofs.Ytgojehaneegaeaa.F
