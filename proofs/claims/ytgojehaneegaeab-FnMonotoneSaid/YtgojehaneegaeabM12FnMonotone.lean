/- Walks of Go functions and lemmas on what they compute, for the row of FnMonotone (a part of several): each call ends as the Lean function of its name tells; the conditions are those of each theorem. -/
import Derived.Test.YtgojehaneegaeabM1FnMonotone
import Derived.Test.YtgojehaneegaeabM2FnMonotone
import Derived.Test.YtgojehaneegaeabM3FnMonotone
import Derived.Test.YtgojehaneegaeabM4FnMonotone
import Derived.Test.YtgojehaneegaeabM5FnMonotone
import Derived.Test.YtgojehaneegaeabM7FnMonotone
import Derived.Test.YtgojehaneegaeabM8FnMonotone
import Derived.Test.YtgojehaneegaeabM9FnMonotone
import Derived.Test.YtgojehaneegaeabM10FnMonotone
import Derived.Test.YtgojehaneegaeabM11FnMonotone
namespace Go.Proofs.Ytgojehaneegaeab.F
open Go.RowKit Go.Proofs.YtgojehaneegaeabW.PrintWords Go.Proofs.YtgojehaneegaeabW.PrintLast Go.Proofs.YtgojehaneegaeabW.PrintMore
attribute [local go_sem] max2_int min2_int max_two min_two max_three min_three max_four min_four 
set_option linter.unusedVariables false
set_option linter.unusedSimpArgs false
def spec_IsSelfDual.f (k : Nat) (a0_0 : Int) (a0_1 : Int) : Option (Bool) := (spec_DualTable.f k a0_0 a0_1).bind fun bt102 => (if bt102.2.2 = true then (some (bt102.2.1 == a0_1)) else (some false))
set_option maxHeartbeats 8000000 in
set_option maxRecDepth 100000 in
theorem spec_IsSelfDual.calls (k : Nat) (a0_0 : Int) (a0_1 : Int) (r : Bool) (w : World) (h : spec_IsSelfDual.f k a0_0 a0_1 = some r) :
  Calls Try.prog 27 #[.agg #[.int .i64 a0_0,.int .i64 a0_1]] w fun e w' => e = .returned (.bool r) ∧ Below w.heap.size w w' := by
 have hu25 := Try.underlying25
 have HB := aZ_ (Below.refl w.heap.size w)
 have H : ((spec_DualTable.f k a0_0 a0_1).bind fun bt102 => (if bt102.2.2 = true then (some (bt102.2.1 == a0_1)) else (some false))) = some r := h
 clear h
 replace H := Option.bind_eq_some_iff.mp H
 obtain ⟨⟨t102,t103,t104⟩,A20,H⟩ := H
 replace H : (if t104 = true then (some (t103 == a0_1)) else (some false)) = some r := H
 have A2 := aZ_ A20
 clear A20
 by_cases c3 : t104 = true
 ·subst c3
  have H1 : (some (t103 == a0_1)) = some r := by rw [if_pos rfl] at H;exact H
  clear H
  have H := H1
  clear H1
  obtain rfl := Option.some.inj H
  go_enter Try.func27,Try.ntmps27
  go_wp2_with (first | ((with_reducible refine gate_dst (N := 1) rfl ?_);refine box_event ?hg (N := 1) ?hd (cs := #[.int .i64 a0_0,.int .i64 a0_1]) (t := 25) ?hr ?_;(case hd => rfl);(case hg => rfl);(case hr => first | (go_simp;done) | (go_simp;rfl));intro gb101 hg w4 hbox hb;have n0_ := aZ_ (below_step T6_ hb);have n1_ := aZ_ (hbox);have n2_ := aZ_ ((T2_ : w.heap.size ≤ gb101));have n3_ := aZ_ ((T2_ : w.heap.size ≤ gb101));clear HB;have HB := n0_;have BK101 := n1_;have GW101 := n2_;have GE101 := n3_;clear n0_ n1_ n2_ n3_;clear hb hbox hg;have hcz5_0 : w4.cell? ⟨gb101,0,none⟩ = some (.int .i64 a0_0) := (blk_cell BK101.out 0).trans rfl;have hcz5_1 : w4.cell? ⟨gb101,1,none⟩ = some (.int .i64 a0_1) := (blk_cell BK101.out 1).trans rfl;have hfz5_0 := blk_frozen BK101.out 0;have hfz5_1 := blk_frozen BK101.out 1) | ((with_reducible refine gate_callee (f := 14) rfl ?_);refine goesL_ (some 7) rfl rfl Try.func14 T21_ rfl #[.agg #[.int .i64 a0_0,.int .i64 a0_1]] rfl T4_ ?_;(with_reducible refine (spec_DualTable.calls k a0_0 a0_1 t102 t103 true _ A2.out).mono ?_);rintro e w6 ⟨rfl,hb⟩;refine ⟨_,rfl,?_⟩;have n0_ := aZ_ (blk_below (g := gb101) (o := .cells #[.int .i64 a0_0,.int .i64 a0_1] 25 (0,0)) T1_ hb);have n1_ := aZ_ (below_step T3_ hb);clear BK101;clear HB;have BK101 := n0_;have HB := n1_;clear n0_ n1_;(try clear hb);(try clear hb2);(try clear hk);(try clear hi)) | ((with_reducible refine gate_dst (N := 3) rfl ?_);refine box_event ?hg (N := 3) ?hd (cs := #[.int .i64 0,.int .i64 0]) (t := 25) ?hr ?_;(case hd => rfl);(case hg => rfl);(case hr => first | (go_simp;done) | (go_simp;rfl));intro gb105 hg w7 hbox hb;have n0_ := aZ_ (blk_below (g := gb101) (o := .cells #[.int .i64 a0_0,.int .i64 a0_1] 25 (0,0)) T1_ hb);have n1_ := aZ_ (below_step T3_ hb);have n2_ := aZ_ (hbox);have n3_ := aZ_ ((T5_ : w.heap.size ≤ gb105));have n4_ := aZ_ ((T5_ : w.heap.size ≤ gb105));have n5_ := aZ_ ((T8_ : gb101 ≠ gb105));have n6_ := aZ_ ((T9_ : gb105 ≠ gb101));clear BK101;clear HB;have BK101 := n0_;have HB := n1_;have BK105 := n2_;have GW105 := n3_;have GE105 := n4_;have NB101_105 := n5_;have NB105_101 := n6_;clear n0_ n1_ n2_ n3_ n4_ n5_ n6_;clear hb hbox hg;have hnb8 := NB105_101.out;have hnc8 := NB101_105.out;have hcz9_0 : w7.cell? ⟨gb105,0,none⟩ = some (.int .i64 0) := (blk_cell BK105.out 0).trans rfl;have hcz9_1 : w7.cell? ⟨gb105,1,none⟩ = some (.int .i64 0) := (blk_cell BK105.out 1).trans rfl;have hfz9_0 := blk_frozen BK105.out 0;have hfz9_1 := blk_frozen BK105.out 1;have hcz10_0 : w7.cell? ⟨gb101,0,none⟩ = some (.int .i64 a0_0) := (blk_cell BK101.out 0).trans rfl;have hcz10_1 : w7.cell? ⟨gb101,1,none⟩ = some (.int .i64 a0_1) := (blk_cell BK101.out 1).trans rfl;have hfz10_0 := blk_frozen BK101.out 0;have hfz10_1 := blk_frozen BK101.out 1))
  go_ret
  exact ⟨by first | rfl | (simp [errW_none,errW_some] <;> rfl) | (simp [*,errW_none,errW_some] <;> rfl),by repeat (first | (with_reducible first | exact HB.out | apply below_alloc | apply pw_below_drewN | apply below_drew1 | refine below_set ?_ GE101.out | refine below_set ?_ GE105.out) | exact HB.out)⟩
 ·replace c3 := Bool.eq_false_iff.mpr c3
  subst c3
  have H1 : (some false) = some r := by rw [if_neg (show ¬ (false = true) by decide)] at H;exact H
  clear H
  have H := H1
  clear H1
  obtain rfl := Option.some.inj H
  go_enter Try.func27,Try.ntmps27
  go_wp2_with (first | ((with_reducible refine gate_dst (N := 1) rfl ?_);refine box_event ?hg (N := 1) ?hd (cs := #[.int .i64 a0_0,.int .i64 a0_1]) (t := 25) ?hr ?_;(case hd => rfl);(case hg => rfl);(case hr => first | (go_simp;done) | (go_simp;rfl));intro gb101 hg w11 hbox hb;have n0_ := aZ_ (below_step T6_ hb);have n1_ := aZ_ (hbox);have n2_ := aZ_ ((T2_ : w.heap.size ≤ gb101));have n3_ := aZ_ ((T2_ : w.heap.size ≤ gb101));clear HB;have HB := n0_;have BK101 := n1_;have GW101 := n2_;have GE101 := n3_;clear n0_ n1_ n2_ n3_;clear hb hbox hg;have hcz12_0 : w11.cell? ⟨gb101,0,none⟩ = some (.int .i64 a0_0) := (blk_cell BK101.out 0).trans rfl;have hcz12_1 : w11.cell? ⟨gb101,1,none⟩ = some (.int .i64 a0_1) := (blk_cell BK101.out 1).trans rfl;have hfz12_0 := blk_frozen BK101.out 0;have hfz12_1 := blk_frozen BK101.out 1) | ((with_reducible refine gate_callee (f := 14) rfl ?_);refine goesL_ (some 7) rfl rfl Try.func14 T21_ rfl #[.agg #[.int .i64 a0_0,.int .i64 a0_1]] rfl T4_ ?_;(with_reducible refine (spec_DualTable.calls k a0_0 a0_1 t102 t103 false _ A2.out).mono ?_);rintro e w13 ⟨rfl,hb⟩;refine ⟨_,rfl,?_⟩;have n0_ := aZ_ (blk_below (g := gb101) (o := .cells #[.int .i64 a0_0,.int .i64 a0_1] 25 (0,0)) T1_ hb);have n1_ := aZ_ (below_step T3_ hb);clear BK101;clear HB;have BK101 := n0_;have HB := n1_;clear n0_ n1_;(try clear hb);(try clear hb2);(try clear hk);(try clear hi)) | ((with_reducible refine gate_dst (N := 3) rfl ?_);refine box_event ?hg (N := 3) ?hd (cs := #[.int .i64 0,.int .i64 0]) (t := 25) ?hr ?_;(case hd => rfl);(case hg => rfl);(case hr => first | (go_simp;done) | (go_simp;rfl));intro gb105 hg w14 hbox hb;have n0_ := aZ_ (blk_below (g := gb101) (o := .cells #[.int .i64 a0_0,.int .i64 a0_1] 25 (0,0)) T1_ hb);have n1_ := aZ_ (below_step T3_ hb);have n2_ := aZ_ (hbox);have n3_ := aZ_ ((T5_ : w.heap.size ≤ gb105));have n4_ := aZ_ ((T5_ : w.heap.size ≤ gb105));have n5_ := aZ_ ((T8_ : gb101 ≠ gb105));have n6_ := aZ_ ((T9_ : gb105 ≠ gb101));clear BK101;clear HB;have BK101 := n0_;have HB := n1_;have BK105 := n2_;have GW105 := n3_;have GE105 := n4_;have NB101_105 := n5_;have NB105_101 := n6_;clear n0_ n1_ n2_ n3_ n4_ n5_ n6_;clear hb hbox hg;have hnb15 := NB105_101.out;have hnc15 := NB101_105.out;have hcz16_0 : w14.cell? ⟨gb105,0,none⟩ = some (.int .i64 0) := (blk_cell BK105.out 0).trans rfl;have hcz16_1 : w14.cell? ⟨gb105,1,none⟩ = some (.int .i64 0) := (blk_cell BK105.out 1).trans rfl;have hfz16_0 := blk_frozen BK105.out 0;have hfz16_1 := blk_frozen BK105.out 1))
  go_ret
  exact ⟨by first | rfl | (simp [errW_none,errW_some] <;> rfl) | (simp [*,errW_none,errW_some] <;> rfl),by repeat (first | (with_reducible first | exact HB.out | apply below_alloc | apply pw_below_drewN | apply below_drew1 | refine below_set ?_ GE101.out | refine below_set ?_ GE105.out) | exact HB.out)⟩
structure MonIs (k n : Nat) (u : Int) (p z : List Int) (d1 d2 : Int) (L : List S38) (b : Bool) (q : List Int) : Prop where
 n5 : n ≤ 5
 tp : impl_TableOfPoints.f n p = some ((n : Int),u,true)
 pr : impl_PrimesOf.f k n u = some (L,b)
 len : L.length = p.length
 lz : L.length ≤ 64 ∧ z.length ≤ 64
 mq : impl_MinimalPoints.f k d1 d2 = some q
 lq : q.length = z.length
 one : ∀ e : Nat,e < L.length → ∃ x : Int,(rd_T38 L (e : Int)).f0 = x ∧ (rd_T38 L (e : Int)).f1 = x ∧ laws_has.f k p x = some true
 two : ∀ e : Nat,e < z.length → laws_has.f k q (wrap64 (wrap64 (((2 ^ n : Nat) : Int) - 1) - rd z (e : Int))) = some true
structure MonGo (k : Nat) (code : List Int) (a u : Int) (is : Bool) (p z : List Int) (d1 d2 : Int) (dt : Bool) (h1 h2 : Int) (ht sb : Bool) (nn : Int) (l : List Int) (t1 t2 : Int) (t3 : Bool) (m c s1 s2 : Int) (sx : Bool) : Prop where
 small : laws_big.f code = some false
 draw : spec_DrawIsMonotone.f k code = some (a,u)
 im : impl_IsMonotone.f k a u = some is
 mp : impl_MinimalPoints.f k a u = some p
 mz : impl_MaximalZeros.f k a u = some z
 im2 : spec_IsMonotone.f k a u = some is
 mp2 : spec_MinimalPoints.f k a u = some p
 pp : laws_sameInts.f k p p = some true
 mz2 : spec_MaximalZeros.f k a u = some z
 zz : laws_sameInts.f k z z = some true
 du : impl_DualTable.f a u = some (d1,d2,dt)
 du2 : spec_DualTable.f k a u = some (d1,d2,dt)
 hu : impl_MonotoneHull.f a u = some (h1,h2,ht)
 hu2 : spec_MonotoneHull.f k a u = some (h1,h2,ht)
 sd : impl_IsSelfDual.f a u = some sb
 sdf : dt = false → sb = false
 sdt : dt = true → sb = decide (d2 = u)
 da : dt = true → d1 = a ∧ h1 = a
 back : dt = true → (∃ b,impl_DualTable.f a d2 = some (a,u,b)) ∧ impl_IsMonotone.f k a d2 = some is ∧ impl_IsMonotone.f k a h2 = some true ∧ Go.bits .and .i64 u h2 = u ∧ (is = decide (h2 = u))
 mono : is = true → ∃ (n : Nat) (L : List S38) (b : Bool) (q : List Int),a = (n : Int) ∧ MonIs k n u p z d1 d2 L b q
 dp : spec_DrawTableOfPoints.f k code = some (nn,l)
 tp : impl_TableOfPoints.f nn l = some (t1,t2,t3)
 tp2 : spec_TableOfPoints.f k nn l = some (t1,t2,t3)
 dm : spec_DrawCountMonotone.f k code = some m
 cm : impl_CountMonotone.f m = some c
 cm2 : spec_CountMonotone.f k m = some c
 ds : spec_DrawIsSelfDual.f k code = some (s1,s2)
 si : impl_IsSelfDual.f s1 s2 = some sx
 si2 : spec_IsSelfDual.f k s1 s2 = some sx
def laws_FnMonotone.T27 : Bool × List (List Nat × List Nat) := (true,[([],[]),([],[]),([0,1],[0,1]),([2],[2]),([3],[3]),([],[]),([],[]),([5,6],[5,6]),([7],[7]),([8],[8]),([4,9],[4,9]),([10],[10]),([11],[11]),([11],[11]),([11],[11]),([13,14,11],[11,13,14]),([15,11],[11,15]),([16,11],[11,16]),([12,17,11,11],[11,12,17]),([18,11],[11,18]),([11,19],[11,19])])
def laws_FnMonotone.B27 : List Nat := [0,0,3,7,15,0,0,96,224,480,1023,2047,4095,4095,4095,28671,61439,126975,262143,524287,1048575]
theorem laws_FnMonotone.tab27 : rtab .any (opsOf Try.f3 27) = laws_FnMonotone.T27 := by kernel_rfl
theorem laws_FnMonotone.bits27 : waitsOk laws_FnMonotone.T27.2 laws_FnMonotone.B27 = true := by kernel_rfl
def laws_FnMonotone.T32 : Bool × List (List Nat × List Nat) := (true,[([],[]),([0],[0]),([],[]),([2],[2]),([3],[3]),([4],[4]),([],[]),([],[]),([6,7],[6,7]),([8],[8]),([5,9],[5,9]),([1,10,1],[1,10]),([11],[11])])
def laws_FnMonotone.B32 : List Nat := [0,1,0,4,12,28,0,0,192,448,1020,2047,4095]
theorem laws_FnMonotone.tab32 : rtab .any (opsOf Try.f3 32) = laws_FnMonotone.T32 := by kernel_rfl
theorem laws_FnMonotone.bits32 : waitsOk laws_FnMonotone.T32.2 laws_FnMonotone.B32 = true := by kernel_rfl
def laws_FnMonotone.T39 : Bool × List (List Nat × List Nat) := (true,[([],[]),([],[]),([0,1],[0,1]),([2],[2]),([3],[3]),([3],[3]),([4,5,3],[3,4,5]),([3,6],[3,6]),([7,3],[7]),([8],[8]),([9,8,8],[8,9]),([8],[8]),([11,10,8],[8,11]),([10,12,8],[8,10,12]),([8,13],[8,13]),([14,12],[14]),([15],[15]),([16,15,15],[15,16]),([15],[15]),([18,17,15],[15,18]),([17,19,15],[15,17,19]),([15,20],[15,20]),([21,19,0,1,2,3,4,5,6,7,8,9,10,11,12,13,14,15,16,17,18,19,20,21],[21])])
def laws_FnMonotone.B39 : List Nat := [0,0,3,7,15,15,63,127,255,511,1023,511,4095,8191,16383,32767,65535,131071,65535,524287,1048575,2097151,4194303]
theorem laws_FnMonotone.tab39 : rtab .any (opsOf Try.f3 39) = laws_FnMonotone.T39 := by kernel_rfl
theorem laws_FnMonotone.bits39 : waitsOk laws_FnMonotone.T39.2 laws_FnMonotone.B39 = true := by kernel_rfl
open Classical in
noncomputable def laws_FnMonotone.f (k : Nat) (code : List Int) : Option Bool :=
 if laws_big.f code = some true ∨ ∃ a u is p z d1 d2 dt h1 h2 ht sb nn l t1 t2 t3 m c s1 s2 sx,MonGo k code a u is p z d1 d2 dt h1 h2 ht sb nn l t1 t2 t3 m c s1 s2 sx then some true else none
set_option maxHeartbeats 8000000 in
set_option maxRecDepth 100000 in
theorem laws_FnMonotone.calls (k : Nat) (A0 : Option Addr) (c0 : Nat) (l0 : List Int) (r : Bool) (w : World) (hr0 : Kd.C (Kd.int .u8) w A0 l0.length l0) (hc0 : l0.length ≤ c0) (h : laws_FnMonotone.f k l0 = some r) :
  Calls Try.prog 3 #[.slice A0 l0.length c0] w fun e w' => e = .returned (.bool r) ∧ Below w.heap.size w w' := by
 have hut := Try.underlying25
 unfold laws_FnMonotone.f at h
 split at h
 next hgo =>
  cases h
  rcases hgo with hbig | ⟨a,u,is,p,z,d1,d2,dt,h1,h2,ht,sb,nn,l,t1,t2,t3,m,c,s1,s2,sx,G⟩
  ·have HB := aZ_ hbig
   clear hbig
   go_enter Try.func3,Try.ntmps3
   go_wp2_with (go_at_call 4;refine (laws_big.calls A0 c0 l0 true _ hr0 hc0 HB.out).mono ?_;rintro e w1 ⟨rfl,⟨nd,rfl⟩⟩)
   go_ret
   exact ⟨rfl,pw_below_drewN (Below.refl _ _) _⟩
  ·have HG := aZ_ G
   have HR := aZ_ hr0
   have HC0 := aZ_ hc0
   have HB := aZ_ (Below.refl w.heap.size w)
   clear G hr0 hc0
   go_enter Try.func3,Try.ntmps3
   go_upto_region 3 with (go_at_call 4;refine (laws_big.calls A0 c0 l0 false _ HR.out HC0.out HG.out.small).mono ?_;rintro e w1 ⟨rfl,hd⟩;have hb := hd.below;clear hd;have n_ := aZ_ (Kd.Heap.C (Kd.heap_int .u8) hb.block HR.out);clear HR;have HR := n_;clear n_;have n_ := aZ_ (below_step HB.out hb);clear HB;have HB := n_;clear n_;clear hb )
   go_upto_region 4 with (go_at_call 5;refine (spec_DrawIsMonotone.calls k A0 c0 l0 a u _ HR.out HC0.out HG.out.draw).mono ?_;rintro e w2 ⟨rfl,hb⟩;have n_ := aZ_ (Kd.Heap.C (Kd.heap_int .u8) hb.block HR.out);clear HR;have HR := n_;clear n_;have n_ := aZ_ (below_step HB.out hb);clear HB;have HB := n_;clear n_;clear hb )
   have BF := aZ_ (blk_new w2 (.cells #[.int .i64 a,.int .i64 u] 25 (0,0)))
   have hb := below_alloc (Below.refl w2.heap.size w2) (.cells #[.int .i64 a,.int .i64 u] 25 (0,0))
   have n_ := aZ_ (Kd.Heap.C (Kd.heap_int .u8) hb.block HR.out)
   clear HR
   have HR := n_
   clear n_
   have n_ := aZ_ (below_step HB.out hb)
   clear HB
   have HB := n_
   clear n_
   clear hb
   obtain ⟨gf,hgf_⟩ : ∃ gf,gf = w2.heap.size := ⟨_,rfl⟩
   rw [← hgf_] at BF ⊢
   clear hgf_
   generalize w2.alloc (.cells #[.int .i64 a,.int .i64 u] 25 (0,0)) = w3 at HR HB BF ⊢
   have hc_BF_0 : w3.cell? ⟨gf,0,none⟩ = some (.int .i64 a) := (blk_cell BF.out 0).trans rfl
   have hc_BF_1 : w3.cell? ⟨gf,1,none⟩ = some (.int .i64 u) := (blk_cell BF.out 1).trans rfl
   go_upto_region 5 with (go_at_call 6;refine (impl_IsMonotone.calls k a u is _ HG.out.im).mono ?_;rintro e w4 ⟨rfl,hb⟩;have n_ := aZ_ (Kd.Heap.C (Kd.heap_int .u8) hb.block HR.out);clear HR;have HR := n_;clear n_;have n_ := aZ_ (below_step HB.out hb);clear HB;have HB := n_;clear n_;have n_ := aZ_ (blk_below BF.out hb);clear BF;have BF := n_;clear n_;clear hb ;clear hc_BF_0 hc_BF_1;have hc_BF_0 : w4.cell? ⟨gf,0,none⟩ = some (.int .i64 a) := (blk_cell BF.out 0).trans rfl;have hc_BF_1 : w4.cell? ⟨gf,1,none⟩ = some (.int .i64 u) := (blk_cell BF.out 1).trans rfl)
   go_upto_region 6 with (go_at_call 7;refine (impl_MinimalPoints.calls k a u p _ HG.out.mp).mono ?_;rintro e w5 ⟨vq,rfl,hq,hb⟩;have n_ := aZ_ (Kd.Heap.C (Kd.heap_int .u8) hb.block HR.out);clear HR;have HR := n_;clear n_;have n_ := aZ_ (below_step HB.out hb);clear HB;have HB := n_;clear n_;have n_ := aZ_ (blk_below BF.out hb);clear BF;have BF := n_;clear n_;obtain ⟨Ap,cp,rfl,hlc_,hr_⟩ := Kd.R_reads hq;have HP := aZ_ hr_;have HPc := aZ_ hlc_;clear hr_ hlc_;clear hq;clear hb ;clear hc_BF_0 hc_BF_1;have hc_BF_0 : w5.cell? ⟨gf,0,none⟩ = some (.int .i64 a) := (blk_cell BF.out 0).trans rfl;have hc_BF_1 : w5.cell? ⟨gf,1,none⟩ = some (.int .i64 u) := (blk_cell BF.out 1).trans rfl)
   go_upto_region 7 with (go_at_call 8;refine (impl_MaximalZeros.calls k a u z _ HG.out.mz).mono ?_;rintro e w6 ⟨vq,rfl,hq,hb⟩;have n_ := aZ_ (Kd.Heap.C (Kd.heap_int .u8) hb.block HR.out);clear HR;have HR := n_;clear n_;have n_ := aZ_ (below_step HB.out hb);clear HB;have HB := n_;clear n_;have n_ := aZ_ (blk_below BF.out hb);clear BF;have BF := n_;clear n_;have n_ := aZ_ (Kd.Heap.C (Kd.heap_int .i64) hb.block HP.out);clear HP;have HP := n_;clear n_;obtain ⟨Az,cz,rfl,hlc_,hr_⟩ := Kd.R_reads hq;have HZ := aZ_ hr_;have HZc := aZ_ hlc_;clear hr_ hlc_;clear hq;clear hb ;clear hc_BF_0 hc_BF_1;have hc_BF_0 : w6.cell? ⟨gf,0,none⟩ = some (.int .i64 a) := (blk_cell BF.out 0).trans rfl;have hc_BF_1 : w6.cell? ⟨gf,1,none⟩ = some (.int .i64 u) := (blk_cell BF.out 1).trans rfl)
   have h_is : (is != is) = false := bne_self_eq_false is
   go_upto_region 9 with (first | (go_at_call 9;refine (spec_IsMonotone.calls k a u is _ HG.out.im2).mono ?_;rintro e w7 ⟨rfl,hb⟩;have n_ := aZ_ (Kd.Heap.C (Kd.heap_int .u8) hb.block HR.out);clear HR;have HR := n_;clear n_;have n_ := aZ_ (below_step HB.out hb);clear HB;have HB := n_;clear n_;have n_ := aZ_ (blk_below BF.out hb);clear BF;have BF := n_;clear n_;have n_ := aZ_ (Kd.Heap.C (Kd.heap_int .i64) hb.block HP.out);clear HP;have HP := n_;clear n_;have n_ := aZ_ (Kd.Heap.C (Kd.heap_int .i64) hb.block HZ.out);clear HZ;have HZ := n_;clear n_;clear hb ;clear hc_BF_0 hc_BF_1;have hc_BF_0 : w7.cell? ⟨gf,0,none⟩ = some (.int .i64 a) := (blk_cell BF.out 0).trans rfl;have hc_BF_1 : w7.cell? ⟨gf,1,none⟩ = some (.int .i64 u) := (blk_cell BF.out 1).trans rfl) | (go_at_call 11;refine (spec_MinimalPoints.calls k a u p _ HG.out.mp2).mono ?_;rintro e w8 ⟨vq,rfl,hq,hb⟩;have n_ := aZ_ (Kd.Heap.C (Kd.heap_int .u8) hb.block HR.out);clear HR;have HR := n_;clear n_;have n_ := aZ_ (below_step HB.out hb);clear HB;have HB := n_;clear n_;have n_ := aZ_ (blk_below BF.out hb);clear BF;have BF := n_;clear n_;have n_ := aZ_ (Kd.Heap.C (Kd.heap_int .i64) hb.block HP.out);clear HP;have HP := n_;clear n_;have n_ := aZ_ (Kd.Heap.C (Kd.heap_int .i64) hb.block HZ.out);clear HZ;have HZ := n_;clear n_;obtain ⟨An,cn,rfl,hlc_,hr_⟩ := Kd.R_reads hq;have HN := aZ_ hr_;have HNc := aZ_ hlc_;clear hr_ hlc_;clear hq;clear hb ;clear hc_BF_0 hc_BF_1;have hc_BF_0 : w8.cell? ⟨gf,0,none⟩ = some (.int .i64 a) := (blk_cell BF.out 0).trans rfl;have hc_BF_1 : w8.cell? ⟨gf,1,none⟩ = some (.int .i64 u) := (blk_cell BF.out 1).trans rfl) | (go_at_call 10;refine (laws_sameInts.calls k Ap cp p An cn p true _ HP.out HPc.out HN.out HNc.out HG.out.pp).mono ?_;rintro e w9 ⟨rfl,hd⟩;have hb := hd.below;clear hd;have n_ := aZ_ (Kd.Heap.C (Kd.heap_int .u8) hb.block HR.out);clear HR;have HR := n_;clear n_;have n_ := aZ_ (below_step HB.out hb);clear HB;have HB := n_;clear n_;have n_ := aZ_ (blk_below BF.out hb);clear BF;have BF := n_;clear n_;have n_ := aZ_ (Kd.Heap.C (Kd.heap_int .i64) hb.block HP.out);clear HP;have HP := n_;clear n_;have n_ := aZ_ (Kd.Heap.C (Kd.heap_int .i64) hb.block HZ.out);clear HZ;have HZ := n_;clear n_;have n_ := aZ_ (Kd.Heap.C (Kd.heap_int .i64) hb.block HN.out);clear HN;have HN := n_;clear n_;clear hb ;clear hc_BF_0 hc_BF_1;clear HN;clear HNc;have hc_BF_0 : w9.cell? ⟨gf,0,none⟩ = some (.int .i64 a) := (blk_cell BF.out 0).trans rfl;have hc_BF_1 : w9.cell? ⟨gf,1,none⟩ = some (.int .i64 u) := (blk_cell BF.out 1).trans rfl) | (go_at_call 12;refine (spec_MaximalZeros.calls k a u z _ HG.out.mz2).mono ?_;rintro e w10 ⟨vq,rfl,hq,hb⟩;have n_ := aZ_ (Kd.Heap.C (Kd.heap_int .u8) hb.block HR.out);clear HR;have HR := n_;clear n_;have n_ := aZ_ (below_step HB.out hb);clear HB;have HB := n_;clear n_;have n_ := aZ_ (blk_below BF.out hb);clear BF;have BF := n_;clear n_;have n_ := aZ_ (Kd.Heap.C (Kd.heap_int .i64) hb.block HP.out);clear HP;have HP := n_;clear n_;have n_ := aZ_ (Kd.Heap.C (Kd.heap_int .i64) hb.block HZ.out);clear HZ;have HZ := n_;clear n_;obtain ⟨Am,cm,rfl,hlc_,hr_⟩ := Kd.R_reads hq;have HM := aZ_ hr_;have HMc := aZ_ hlc_;clear hr_ hlc_;clear hq;clear hb ;clear hc_BF_0 hc_BF_1;have hc_BF_0 : w10.cell? ⟨gf,0,none⟩ = some (.int .i64 a) := (blk_cell BF.out 0).trans rfl;have hc_BF_1 : w10.cell? ⟨gf,1,none⟩ = some (.int .i64 u) := (blk_cell BF.out 1).trans rfl) | (go_at_call 10;refine (laws_sameInts.calls k Az cz z Am cm z true _ HZ.out HZc.out HM.out HMc.out HG.out.zz).mono ?_;rintro e w11 ⟨rfl,hd⟩;have hb := hd.below;clear hd;have n_ := aZ_ (Kd.Heap.C (Kd.heap_int .u8) hb.block HR.out);clear HR;have HR := n_;clear n_;have n_ := aZ_ (below_step HB.out hb);clear HB;have HB := n_;clear n_;have n_ := aZ_ (blk_below BF.out hb);clear BF;have BF := n_;clear n_;have n_ := aZ_ (Kd.Heap.C (Kd.heap_int .i64) hb.block HP.out);clear HP;have HP := n_;clear n_;have n_ := aZ_ (Kd.Heap.C (Kd.heap_int .i64) hb.block HZ.out);clear HZ;have HZ := n_;clear n_;have n_ := aZ_ (Kd.Heap.C (Kd.heap_int .i64) hb.block HM.out);clear HM;have HM := n_;clear n_;clear hb ;clear hc_BF_0 hc_BF_1;clear HM;clear HMc;have hc_BF_0 : w11.cell? ⟨gf,0,none⟩ = some (.int .i64 a) := (blk_cell BF.out 0).trans rfl;have hc_BF_1 : w11.cell? ⟨gf,1,none⟩ = some (.int .i64 u) := (blk_cell BF.out 1).trans rfl))
   go_upto_region 10 with (go_at_call 13;refine (impl_DualTable.calls a u d1 d2 dt _ HG.out.du).mono ?_;rintro e w12 ⟨rfl,hb⟩;have n_ := aZ_ (Kd.Heap.C (Kd.heap_int .u8) hb.block HR.out);clear HR;have HR := n_;clear n_;have n_ := aZ_ (below_step HB.out hb);clear HB;have HB := n_;clear n_;have n_ := aZ_ (blk_below BF.out hb);clear BF;have BF := n_;clear n_;have n_ := aZ_ (Kd.Heap.C (Kd.heap_int .i64) hb.block HP.out);clear HP;have HP := n_;clear n_;have n_ := aZ_ (Kd.Heap.C (Kd.heap_int .i64) hb.block HZ.out);clear HZ;have HZ := n_;clear n_;clear hb ;clear hc_BF_0 hc_BF_1;have hc_BF_0 : w12.cell? ⟨gf,0,none⟩ = some (.int .i64 a) := (blk_cell BF.out 0).trans rfl;have hc_BF_1 : w12.cell? ⟨gf,1,none⟩ = some (.int .i64 u) := (blk_cell BF.out 1).trans rfl)
   clear hc_BF_0 hc_BF_1
   have BD := aZ_ (blk_new w12 (.cells #[.int .i64 d1,.int .i64 d2] 25 (0,0)))
   have hb := below_alloc (Below.refl w12.heap.size w12) (.cells #[.int .i64 d1,.int .i64 d2] 25 (0,0))
   have n_ := aZ_ (Kd.Heap.C (Kd.heap_int .u8) hb.block HR.out)
   clear HR
   have HR := n_
   clear n_
   have n_ := aZ_ (below_step HB.out hb)
   clear HB
   have HB := n_
   clear n_
   have n_ := aZ_ (blk_below BF.out hb)
   clear BF
   have BF := n_
   clear n_
   have n_ := aZ_ (Kd.Heap.C (Kd.heap_int .i64) hb.block HP.out)
   clear HP
   have HP := n_
   clear n_
   have n_ := aZ_ (Kd.Heap.C (Kd.heap_int .i64) hb.block HZ.out)
   clear HZ
   have HZ := n_
   clear n_
   clear hb
   obtain ⟨gd,hgd_⟩ : ∃ gd,gd = w12.heap.size := ⟨_,rfl⟩
   rw [← hgd_] at BD ⊢
   clear hgd_
   generalize w12.alloc (.cells #[.int .i64 d1,.int .i64 d2] 25 (0,0)) = w13 at HR HB BF HP HZ BD ⊢
   have hc_BF_0 : w13.cell? ⟨gf,0,none⟩ = some (.int .i64 a) := (blk_cell BF.out 0).trans rfl
   have hc_BF_1 : w13.cell? ⟨gf,1,none⟩ = some (.int .i64 u) := (blk_cell BF.out 1).trans rfl
   have hc_BD_0 : w13.cell? ⟨gd,0,none⟩ = some (.int .i64 d1) := (blk_cell BD.out 0).trans rfl
   have hc_BD_1 : w13.cell? ⟨gd,1,none⟩ = some (.int .i64 d2) := (blk_cell BD.out 1).trans rfl
   go_upto_region 11 with (go_at_call 14;refine (spec_DualTable.calls k a u d1 d2 dt _ HG.out.du2).mono ?_;rintro e w14 ⟨rfl,hb⟩;have n_ := aZ_ (Kd.Heap.C (Kd.heap_int .u8) hb.block HR.out);clear HR;have HR := n_;clear n_;have n_ := aZ_ (below_step HB.out hb);clear HB;have HB := n_;clear n_;have n_ := aZ_ (blk_below BF.out hb);clear BF;have BF := n_;clear n_;have n_ := aZ_ (Kd.Heap.C (Kd.heap_int .i64) hb.block HP.out);clear HP;have HP := n_;clear n_;have n_ := aZ_ (Kd.Heap.C (Kd.heap_int .i64) hb.block HZ.out);clear HZ;have HZ := n_;clear n_;have n_ := aZ_ (blk_below BD.out hb);clear BD;have BD := n_;clear n_;clear hb ;clear hc_BF_0 hc_BF_1 hc_BD_0 hc_BD_1;have hc_BF_0 : w14.cell? ⟨gf,0,none⟩ = some (.int .i64 a) := (blk_cell BF.out 0).trans rfl;have hc_BF_1 : w14.cell? ⟨gf,1,none⟩ = some (.int .i64 u) := (blk_cell BF.out 1).trans rfl;have hc_BD_0 : w14.cell? ⟨gd,0,none⟩ = some (.int .i64 d1) := (blk_cell BD.out 0).trans rfl;have hc_BD_1 : w14.cell? ⟨gd,1,none⟩ = some (.int .i64 d2) := (blk_cell BD.out 1).trans rfl)
   clear hc_BF_0 hc_BF_1 hc_BD_0 hc_BD_1
   have BE := aZ_ (blk_new w14 (.cells #[.int .i64 d1,.int .i64 d2] 25 (0,0)))
   have hb := below_alloc (Below.refl w14.heap.size w14) (.cells #[.int .i64 d1,.int .i64 d2] 25 (0,0))
   have n_ := aZ_ (Kd.Heap.C (Kd.heap_int .u8) hb.block HR.out)
   clear HR
   have HR := n_
   clear n_
   have n_ := aZ_ (below_step HB.out hb)
   clear HB
   have HB := n_
   clear n_
   have n_ := aZ_ (blk_below BF.out hb)
   clear BF
   have BF := n_
   clear n_
   have n_ := aZ_ (Kd.Heap.C (Kd.heap_int .i64) hb.block HP.out)
   clear HP
   have HP := n_
   clear n_
   have n_ := aZ_ (Kd.Heap.C (Kd.heap_int .i64) hb.block HZ.out)
   clear HZ
   have HZ := n_
   clear n_
   have n_ := aZ_ (blk_below BD.out hb)
   clear BD
   have BD := n_
   clear n_
   clear hb
   obtain ⟨ge,hge_⟩ : ∃ ge,ge = w14.heap.size := ⟨_,rfl⟩
   rw [← hge_] at BE ⊢
   clear hge_
   generalize w14.alloc (.cells #[.int .i64 d1,.int .i64 d2] 25 (0,0)) = w15 at HR HB BF HP HZ BD BE ⊢
   have hc_BF_0 : w15.cell? ⟨gf,0,none⟩ = some (.int .i64 a) := (blk_cell BF.out 0).trans rfl
   have hc_BF_1 : w15.cell? ⟨gf,1,none⟩ = some (.int .i64 u) := (blk_cell BF.out 1).trans rfl
   have hc_BD_0 : w15.cell? ⟨gd,0,none⟩ = some (.int .i64 d1) := (blk_cell BD.out 0).trans rfl
   have hc_BD_1 : w15.cell? ⟨gd,1,none⟩ = some (.int .i64 d2) := (blk_cell BD.out 1).trans rfl
   have hc_BE_0 : w15.cell? ⟨ge,0,none⟩ = some (.int .i64 d1) := (blk_cell BE.out 0).trans rfl
   have hc_BE_1 : w15.cell? ⟨ge,1,none⟩ = some (.int .i64 d2) := (blk_cell BE.out 1).trans rfl
   go_upto_region 12 with (go_at_call 15;refine (impl_MonotoneHull.calls a u h1 h2 ht _ HG.out.hu).mono ?_;rintro e w16 ⟨rfl,hb⟩;have n_ := aZ_ (Kd.Heap.C (Kd.heap_int .u8) hb.block HR.out);clear HR;have HR := n_;clear n_;have n_ := aZ_ (below_step HB.out hb);clear HB;have HB := n_;clear n_;have n_ := aZ_ (blk_below BF.out hb);clear BF;have BF := n_;clear n_;have n_ := aZ_ (Kd.Heap.C (Kd.heap_int .i64) hb.block HP.out);clear HP;have HP := n_;clear n_;have n_ := aZ_ (Kd.Heap.C (Kd.heap_int .i64) hb.block HZ.out);clear HZ;have HZ := n_;clear n_;have n_ := aZ_ (blk_below BD.out hb);clear BD;have BD := n_;clear n_;have n_ := aZ_ (blk_below BE.out hb);clear BE;have BE := n_;clear n_;clear hb ;clear hc_BF_0 hc_BF_1 hc_BD_0 hc_BD_1 hc_BE_0 hc_BE_1;have hc_BF_0 : w16.cell? ⟨gf,0,none⟩ = some (.int .i64 a) := (blk_cell BF.out 0).trans rfl;have hc_BF_1 : w16.cell? ⟨gf,1,none⟩ = some (.int .i64 u) := (blk_cell BF.out 1).trans rfl;have hc_BD_0 : w16.cell? ⟨gd,0,none⟩ = some (.int .i64 d1) := (blk_cell BD.out 0).trans rfl;have hc_BD_1 : w16.cell? ⟨gd,1,none⟩ = some (.int .i64 d2) := (blk_cell BD.out 1).trans rfl;have hc_BE_0 : w16.cell? ⟨ge,0,none⟩ = some (.int .i64 d1) := (blk_cell BE.out 0).trans rfl;have hc_BE_1 : w16.cell? ⟨ge,1,none⟩ = some (.int .i64 d2) := (blk_cell BE.out 1).trans rfl)
   clear hc_BF_0 hc_BF_1 hc_BD_0 hc_BD_1 hc_BE_0 hc_BE_1
   have BH := aZ_ (blk_new w16 (.cells #[.int .i64 h1,.int .i64 h2] 25 (0,0)))
   have hb := below_alloc (Below.refl w16.heap.size w16) (.cells #[.int .i64 h1,.int .i64 h2] 25 (0,0))
   have n_ := aZ_ (Kd.Heap.C (Kd.heap_int .u8) hb.block HR.out)
   clear HR
   have HR := n_
   clear n_
   have n_ := aZ_ (below_step HB.out hb)
   clear HB
   have HB := n_
   clear n_
   have n_ := aZ_ (blk_below BF.out hb)
   clear BF
   have BF := n_
   clear n_
   have n_ := aZ_ (Kd.Heap.C (Kd.heap_int .i64) hb.block HP.out)
   clear HP
   have HP := n_
   clear n_
   have n_ := aZ_ (Kd.Heap.C (Kd.heap_int .i64) hb.block HZ.out)
   clear HZ
   have HZ := n_
   clear n_
   have n_ := aZ_ (blk_below BD.out hb)
   clear BD
   have BD := n_
   clear n_
   have n_ := aZ_ (blk_below BE.out hb)
   clear BE
   have BE := n_
   clear n_
   clear hb
   obtain ⟨gh,hgh_⟩ : ∃ gh,gh = w16.heap.size := ⟨_,rfl⟩
   rw [← hgh_] at BH ⊢
   clear hgh_
   generalize w16.alloc (.cells #[.int .i64 h1,.int .i64 h2] 25 (0,0)) = w17 at HR HB BF HP HZ BD BE BH ⊢
   have hc_BF_0 : w17.cell? ⟨gf,0,none⟩ = some (.int .i64 a) := (blk_cell BF.out 0).trans rfl
   have hc_BF_1 : w17.cell? ⟨gf,1,none⟩ = some (.int .i64 u) := (blk_cell BF.out 1).trans rfl
   have hc_BD_0 : w17.cell? ⟨gd,0,none⟩ = some (.int .i64 d1) := (blk_cell BD.out 0).trans rfl
   have hc_BD_1 : w17.cell? ⟨gd,1,none⟩ = some (.int .i64 d2) := (blk_cell BD.out 1).trans rfl
   have hc_BE_0 : w17.cell? ⟨ge,0,none⟩ = some (.int .i64 d1) := (blk_cell BE.out 0).trans rfl
   have hc_BE_1 : w17.cell? ⟨ge,1,none⟩ = some (.int .i64 d2) := (blk_cell BE.out 1).trans rfl
   have hc_BH_0 : w17.cell? ⟨gh,0,none⟩ = some (.int .i64 h1) := (blk_cell BH.out 0).trans rfl
   have hc_BH_1 : w17.cell? ⟨gh,1,none⟩ = some (.int .i64 h2) := (blk_cell BH.out 1).trans rfl
   go_upto_region 13 with (go_at_call 16;refine (spec_MonotoneHull.calls k a u h1 h2 ht _ HG.out.hu2).mono ?_;rintro e w18 ⟨rfl,hb⟩;have n_ := aZ_ (Kd.Heap.C (Kd.heap_int .u8) hb.block HR.out);clear HR;have HR := n_;clear n_;have n_ := aZ_ (below_step HB.out hb);clear HB;have HB := n_;clear n_;have n_ := aZ_ (blk_below BF.out hb);clear BF;have BF := n_;clear n_;have n_ := aZ_ (Kd.Heap.C (Kd.heap_int .i64) hb.block HP.out);clear HP;have HP := n_;clear n_;have n_ := aZ_ (Kd.Heap.C (Kd.heap_int .i64) hb.block HZ.out);clear HZ;have HZ := n_;clear n_;have n_ := aZ_ (blk_below BD.out hb);clear BD;have BD := n_;clear n_;have n_ := aZ_ (blk_below BE.out hb);clear BE;have BE := n_;clear n_;have n_ := aZ_ (blk_below BH.out hb);clear BH;have BH := n_;clear n_;clear hb ;clear hc_BF_0 hc_BF_1 hc_BD_0 hc_BD_1 hc_BE_0 hc_BE_1 hc_BH_0 hc_BH_1;have hc_BF_0 : w18.cell? ⟨gf,0,none⟩ = some (.int .i64 a) := (blk_cell BF.out 0).trans rfl;have hc_BF_1 : w18.cell? ⟨gf,1,none⟩ = some (.int .i64 u) := (blk_cell BF.out 1).trans rfl;have hc_BD_0 : w18.cell? ⟨gd,0,none⟩ = some (.int .i64 d1) := (blk_cell BD.out 0).trans rfl;have hc_BD_1 : w18.cell? ⟨gd,1,none⟩ = some (.int .i64 d2) := (blk_cell BD.out 1).trans rfl;have hc_BE_0 : w18.cell? ⟨ge,0,none⟩ = some (.int .i64 d1) := (blk_cell BE.out 0).trans rfl;have hc_BE_1 : w18.cell? ⟨ge,1,none⟩ = some (.int .i64 d2) := (blk_cell BE.out 1).trans rfl;have hc_BH_0 : w18.cell? ⟨gh,0,none⟩ = some (.int .i64 h1) := (blk_cell BH.out 0).trans rfl;have hc_BH_1 : w18.cell? ⟨gh,1,none⟩ = some (.int .i64 h2) := (blk_cell BH.out 1).trans rfl)
   clear hc_BF_0 hc_BF_1 hc_BD_0 hc_BD_1 hc_BE_0 hc_BE_1 hc_BH_0 hc_BH_1
   have BK := aZ_ (blk_new w18 (.cells #[.int .i64 h1,.int .i64 h2] 25 (0,0)))
   have hb := below_alloc (Below.refl w18.heap.size w18) (.cells #[.int .i64 h1,.int .i64 h2] 25 (0,0))
   have n_ := aZ_ (Kd.Heap.C (Kd.heap_int .u8) hb.block HR.out)
   clear HR
   have HR := n_
   clear n_
   have n_ := aZ_ (below_step HB.out hb)
   clear HB
   have HB := n_
   clear n_
   have n_ := aZ_ (blk_below BF.out hb)
   clear BF
   have BF := n_
   clear n_
   have n_ := aZ_ (Kd.Heap.C (Kd.heap_int .i64) hb.block HP.out)
   clear HP
   have HP := n_
   clear n_
   have n_ := aZ_ (Kd.Heap.C (Kd.heap_int .i64) hb.block HZ.out)
   clear HZ
   have HZ := n_
   clear n_
   have n_ := aZ_ (blk_below BD.out hb)
   clear BD
   have BD := n_
   clear n_
   have n_ := aZ_ (blk_below BE.out hb)
   clear BE
   have BE := n_
   clear n_
   have n_ := aZ_ (blk_below BH.out hb)
   clear BH
   have BH := n_
   clear n_
   clear hb
   obtain ⟨gk,hgk_⟩ : ∃ gk,gk = w18.heap.size := ⟨_,rfl⟩
   rw [← hgk_] at BK ⊢
   clear hgk_
   generalize w18.alloc (.cells #[.int .i64 h1,.int .i64 h2] 25 (0,0)) = w19 at HR HB BF HP HZ BD BE BH BK ⊢
   have hc_BF_0 : w19.cell? ⟨gf,0,none⟩ = some (.int .i64 a) := (blk_cell BF.out 0).trans rfl
   have hc_BF_1 : w19.cell? ⟨gf,1,none⟩ = some (.int .i64 u) := (blk_cell BF.out 1).trans rfl
   have hc_BD_0 : w19.cell? ⟨gd,0,none⟩ = some (.int .i64 d1) := (blk_cell BD.out 0).trans rfl
   have hc_BD_1 : w19.cell? ⟨gd,1,none⟩ = some (.int .i64 d2) := (blk_cell BD.out 1).trans rfl
   have hc_BE_0 : w19.cell? ⟨ge,0,none⟩ = some (.int .i64 d1) := (blk_cell BE.out 0).trans rfl
   have hc_BE_1 : w19.cell? ⟨ge,1,none⟩ = some (.int .i64 d2) := (blk_cell BE.out 1).trans rfl
   have hc_BH_0 : w19.cell? ⟨gh,0,none⟩ = some (.int .i64 h1) := (blk_cell BH.out 0).trans rfl
   have hc_BH_1 : w19.cell? ⟨gh,1,none⟩ = some (.int .i64 h2) := (blk_cell BH.out 1).trans rfl
   have hc_BK_0 : w19.cell? ⟨gk,0,none⟩ = some (.int .i64 h1) := (blk_cell BK.out 0).trans rfl
   have hc_BK_1 : w19.cell? ⟨gk,1,none⟩ = some (.int .i64 h2) := (blk_cell BK.out 1).trans rfl
   clear h_is
   go_cut [107] (fun s107 wx => s107 = .bool false ∧ Aside0 (Kd.C (Kd.int .u8) wx A0 l0.length l0) ∧ Aside0 (Below w.heap.size w wx) ∧ Aside0 (wx.heap[gf]? = some (.cells #[.int .i64 a,.int .i64 u] 25 (0,0))) ∧ Aside0 (wx.heap[ge]? = some (.cells #[.int .i64 d1,.int .i64 d2] 25 (0,0))) ∧ Aside0 (wx.heap[gk]? = some (.cells #[.int .i64 h1,.int .i64 h2] 25 (0,0))) ∧ Aside0 (Kd.C (Kd.int .i64) wx Ap p.length p) ∧ Aside0 (Kd.C (Kd.int .i64) wx Az z.length z))
   case first =>
    as_aux_lemma =>
     have hx1 : (d1 != d1) = false := bne_self_eq_false _
     have hx2 : (d2 != d2) = false := bne_self_eq_false _
     have hx3 : (h1 != h1) = false := bne_self_eq_false _
     have hx4 : (h2 != h2) = false := bne_self_eq_false _
     have hx5 : (ht != ht) = false := bne_self_eq_false _
     cases dt
     case false =>
      have hsb := HG.out.sdf rfl
      subst hsb
      go_wp2_with (go_at_call 17;refine (impl_IsSelfDual.calls a u _ _ HG.out.sd).mono ?_;rintro e w20 ⟨rfl,hb⟩;have n_ := aZ_ (Kd.Heap.C (Kd.heap_int .u8) hb.block HR.out);clear HR;have HR := n_;clear n_;have n_ := aZ_ (below_step HB.out hb);clear HB;have HB := n_;clear n_;have n_ := aZ_ (blk_below BF.out hb);clear BF;have BF := n_;clear n_;have n_ := aZ_ (Kd.Heap.C (Kd.heap_int .i64) hb.block HP.out);clear HP;have HP := n_;clear n_;have n_ := aZ_ (Kd.Heap.C (Kd.heap_int .i64) hb.block HZ.out);clear HZ;have HZ := n_;clear n_;have n_ := aZ_ (blk_below BD.out hb);clear BD;have BD := n_;clear n_;have n_ := aZ_ (blk_below BE.out hb);clear BE;have BE := n_;clear n_;have n_ := aZ_ (blk_below BH.out hb);clear BH;have BH := n_;clear n_;have n_ := aZ_ (blk_below BK.out hb);clear BK;have BK := n_;clear n_;clear hb ;clear hc_BF_0 hc_BF_1 hc_BD_0 hc_BD_1 hc_BE_0 hc_BE_1 hc_BH_0 hc_BH_1 hc_BK_0 hc_BK_1;have hc_BF_0 : w20.cell? ⟨gf,0,none⟩ = some (.int .i64 a) := (blk_cell BF.out 0).trans rfl;have hc_BF_1 : w20.cell? ⟨gf,1,none⟩ = some (.int .i64 u) := (blk_cell BF.out 1).trans rfl;have hc_BD_0 : w20.cell? ⟨gd,0,none⟩ = some (.int .i64 d1) := (blk_cell BD.out 0).trans rfl;have hc_BD_1 : w20.cell? ⟨gd,1,none⟩ = some (.int .i64 d2) := (blk_cell BD.out 1).trans rfl;have hc_BE_0 : w20.cell? ⟨ge,0,none⟩ = some (.int .i64 d1) := (blk_cell BE.out 0).trans rfl;have hc_BE_1 : w20.cell? ⟨ge,1,none⟩ = some (.int .i64 d2) := (blk_cell BE.out 1).trans rfl;have hc_BH_0 : w20.cell? ⟨gh,0,none⟩ = some (.int .i64 h1) := (blk_cell BH.out 0).trans rfl;have hc_BH_1 : w20.cell? ⟨gh,1,none⟩ = some (.int .i64 h2) := (blk_cell BH.out 1).trans rfl;have hc_BK_0 : w20.cell? ⟨gk,0,none⟩ = some (.int .i64 h1) := (blk_cell BK.out 0).trans rfl;have hc_BK_1 : w20.cell? ⟨gk,1,none⟩ = some (.int .i64 h2) := (blk_cell BK.out 1).trans rfl)
      go_meet
      exact ⟨rfl,HR,HB,BF,BE,BK,HP,HZ⟩
     case true =>
      have hda := (HG.out.da rfl).1
      subst hda
      have hsb := HG.out.sdt rfl
      by_cases hdu : u = d2
      case pos =>
       subst hdu
       rw [decide_eq_true rfl] at hsb
       subst hsb
       go_wp2_with (go_at_call 17;refine (impl_IsSelfDual.calls d1 u _ _ HG.out.sd).mono ?_;rintro e w20 ⟨rfl,hb⟩;have n_ := aZ_ (Kd.Heap.C (Kd.heap_int .u8) hb.block HR.out);clear HR;have HR := n_;clear n_;have n_ := aZ_ (below_step HB.out hb);clear HB;have HB := n_;clear n_;have n_ := aZ_ (blk_below BF.out hb);clear BF;have BF := n_;clear n_;have n_ := aZ_ (Kd.Heap.C (Kd.heap_int .i64) hb.block HP.out);clear HP;have HP := n_;clear n_;have n_ := aZ_ (Kd.Heap.C (Kd.heap_int .i64) hb.block HZ.out);clear HZ;have HZ := n_;clear n_;have n_ := aZ_ (blk_below BD.out hb);clear BD;have BD := n_;clear n_;have n_ := aZ_ (blk_below BE.out hb);clear BE;have BE := n_;clear n_;have n_ := aZ_ (blk_below BH.out hb);clear BH;have BH := n_;clear n_;have n_ := aZ_ (blk_below BK.out hb);clear BK;have BK := n_;clear n_;clear hb ;clear hc_BF_0 hc_BF_1 hc_BD_0 hc_BD_1 hc_BE_0 hc_BE_1 hc_BH_0 hc_BH_1 hc_BK_0 hc_BK_1;have hc_BF_0 : w20.cell? ⟨gf,0,none⟩ = some (.int .i64 d1) := (blk_cell BF.out 0).trans rfl;have hc_BF_1 : w20.cell? ⟨gf,1,none⟩ = some (.int .i64 u) := (blk_cell BF.out 1).trans rfl;have hc_BD_0 : w20.cell? ⟨gd,0,none⟩ = some (.int .i64 d1) := (blk_cell BD.out 0).trans rfl;have hc_BD_1 : w20.cell? ⟨gd,1,none⟩ = some (.int .i64 u) := (blk_cell BD.out 1).trans rfl;have hc_BE_0 : w20.cell? ⟨ge,0,none⟩ = some (.int .i64 d1) := (blk_cell BE.out 0).trans rfl;have hc_BE_1 : w20.cell? ⟨ge,1,none⟩ = some (.int .i64 u) := (blk_cell BE.out 1).trans rfl;have hc_BH_0 : w20.cell? ⟨gh,0,none⟩ = some (.int .i64 h1) := (blk_cell BH.out 0).trans rfl;have hc_BH_1 : w20.cell? ⟨gh,1,none⟩ = some (.int .i64 h2) := (blk_cell BH.out 1).trans rfl;have hc_BK_0 : w20.cell? ⟨gk,0,none⟩ = some (.int .i64 h1) := (blk_cell BK.out 0).trans rfl;have hc_BK_1 : w20.cell? ⟨gk,1,none⟩ = some (.int .i64 h2) := (blk_cell BK.out 1).trans rfl)
       go_meet
       exact ⟨rfl,HR,HB,BF,BE,BK,HP,HZ⟩
      case neg =>
       rw [decide_eq_false (fun h => hdu h.symm)] at hsb
       subst hsb
       have hne : (d2 = u) = False := eq_false (fun h => hdu h.symm)
       go_wp2_with (go_at_call 17;refine (impl_IsSelfDual.calls d1 u _ _ HG.out.sd).mono ?_;rintro e w20 ⟨rfl,hb⟩;have n_ := aZ_ (Kd.Heap.C (Kd.heap_int .u8) hb.block HR.out);clear HR;have HR := n_;clear n_;have n_ := aZ_ (below_step HB.out hb);clear HB;have HB := n_;clear n_;have n_ := aZ_ (blk_below BF.out hb);clear BF;have BF := n_;clear n_;have n_ := aZ_ (Kd.Heap.C (Kd.heap_int .i64) hb.block HP.out);clear HP;have HP := n_;clear n_;have n_ := aZ_ (Kd.Heap.C (Kd.heap_int .i64) hb.block HZ.out);clear HZ;have HZ := n_;clear n_;have n_ := aZ_ (blk_below BD.out hb);clear BD;have BD := n_;clear n_;have n_ := aZ_ (blk_below BE.out hb);clear BE;have BE := n_;clear n_;have n_ := aZ_ (blk_below BH.out hb);clear BH;have BH := n_;clear n_;have n_ := aZ_ (blk_below BK.out hb);clear BK;have BK := n_;clear n_;clear hb ;clear hc_BF_0 hc_BF_1 hc_BD_0 hc_BD_1 hc_BE_0 hc_BE_1 hc_BH_0 hc_BH_1 hc_BK_0 hc_BK_1;have hc_BF_0 : w20.cell? ⟨gf,0,none⟩ = some (.int .i64 d1) := (blk_cell BF.out 0).trans rfl;have hc_BF_1 : w20.cell? ⟨gf,1,none⟩ = some (.int .i64 u) := (blk_cell BF.out 1).trans rfl;have hc_BD_0 : w20.cell? ⟨gd,0,none⟩ = some (.int .i64 d1) := (blk_cell BD.out 0).trans rfl;have hc_BD_1 : w20.cell? ⟨gd,1,none⟩ = some (.int .i64 d2) := (blk_cell BD.out 1).trans rfl;have hc_BE_0 : w20.cell? ⟨ge,0,none⟩ = some (.int .i64 d1) := (blk_cell BE.out 0).trans rfl;have hc_BE_1 : w20.cell? ⟨ge,1,none⟩ = some (.int .i64 d2) := (blk_cell BE.out 1).trans rfl;have hc_BH_0 : w20.cell? ⟨gh,0,none⟩ = some (.int .i64 h1) := (blk_cell BH.out 0).trans rfl;have hc_BH_1 : w20.cell? ⟨gh,1,none⟩ = some (.int .i64 h2) := (blk_cell BH.out 1).trans rfl;have hc_BK_0 : w20.cell? ⟨gk,0,none⟩ = some (.int .i64 h1) := (blk_cell BK.out 0).trans rfl;have hc_BK_1 : w20.cell? ⟨gk,1,none⟩ = some (.int .i64 h2) := (blk_cell BK.out 1).trans rfl)
       go_meet
       exact ⟨rfl,HR,HB,BF,BE,BK,HP,HZ⟩
   case rest =>
    clear HR HB BF BE BK HP HZ BD BH hc_BF_0 hc_BF_1 hc_BD_0 hc_BD_1 hc_BE_0 hc_BE_1 hc_BH_0 hc_BH_1 hc_BK_0 hc_BK_1
    obtain ⟨rfl,HR,HB,BF,BE,BK,HP,HZ⟩ := hcut
    have hc_BF_0 : wc.cell? ⟨gf,0,none⟩ = some (.int .i64 a) := (blk_cell BF.out 0).trans rfl
    have hc_BF_1 : wc.cell? ⟨gf,1,none⟩ = some (.int .i64 u) := (blk_cell BF.out 1).trans rfl
    have hc_BE_0 : wc.cell? ⟨ge,0,none⟩ = some (.int .i64 d1) := (blk_cell BE.out 0).trans rfl
    have hc_BE_1 : wc.cell? ⟨ge,1,none⟩ = some (.int .i64 d2) := (blk_cell BE.out 1).trans rfl
    have hc_BK_0 : wc.cell? ⟨gk,0,none⟩ = some (.int .i64 h1) := (blk_cell BK.out 0).trans rfl
    have hc_BK_1 : wc.cell? ⟨gk,1,none⟩ = some (.int .i64 h2) := (blk_cell BK.out 1).trans rfl
    go_upto_if 108 with (fail)
    go_cut [] (fun wx => Aside0 (Kd.C (Kd.int .u8) wx A0 l0.length l0) ∧ Aside0 (Below w.heap.size w wx) ∧ Aside0 (wx.heap[gf]? = some (.cells #[.int .i64 a,.int .i64 u] 25 (0,0))) ∧ Aside0 (wx.heap[ge]? = some (.cells #[.int .i64 d1,.int .i64 d2] 25 (0,0))) ∧ Aside0 (wx.heap[gk]? = some (.cells #[.int .i64 h1,.int .i64 h2] 25 (0,0))) ∧ Aside0 (Kd.C (Kd.int .i64) wx Ap p.length p) ∧ Aside0 (Kd.C (Kd.int .i64) wx Az z.length z))
    case first =>
     as_aux_lemma =>
      cases dt
      case false =>
       go_wp2_with (fail)
       go_meet
       exact ⟨HR,HB,BF,BE,BK,HP,HZ⟩
      case true =>
       obtain ⟨hda,hha⟩ := HG.out.da rfl
       subst hda
       subst hha
       obtain ⟨⟨b,hq1⟩,hq2,hq3,hq4,hq5⟩ := HG.out.back rfl
       have HQ1 := aZ_ hq1
       have HQ2 := aZ_ hq2
       have HQ3 := aZ_ hq3
       clear hq1 hq2 hq3
       have hx2 : (u != u) = false := bne_self_eq_false _
       have hx1 : (h1 != h1) = false := bne_self_eq_false _
       go_upto_region 17 with (go_at_call 13;refine (impl_DualTable.calls h1 d2 h1 u b _ HQ1.out).mono ?_;rintro e w20 ⟨rfl,hb⟩;have n_ := aZ_ (Kd.Heap.C (Kd.heap_int .u8) hb.block HR.out);clear HR;have HR := n_;clear n_;have n_ := aZ_ (below_step HB.out hb);clear HB;have HB := n_;clear n_;have n_ := aZ_ (blk_below BF.out hb);clear BF;have BF := n_;clear n_;have n_ := aZ_ (blk_below BE.out hb);clear BE;have BE := n_;clear n_;have n_ := aZ_ (blk_below BK.out hb);clear BK;have BK := n_;clear n_;have n_ := aZ_ (Kd.Heap.C (Kd.heap_int .i64) hb.block HP.out);clear HP;have HP := n_;clear n_;have n_ := aZ_ (Kd.Heap.C (Kd.heap_int .i64) hb.block HZ.out);clear HZ;have HZ := n_;clear n_;clear hb ;clear hc_BF_0 hc_BF_1 hc_BE_0 hc_BE_1 hc_BK_0 hc_BK_1;have hc_BF_0 : w20.cell? ⟨gf,0,none⟩ = some (.int .i64 h1) := (blk_cell BF.out 0).trans rfl;have hc_BF_1 : w20.cell? ⟨gf,1,none⟩ = some (.int .i64 u) := (blk_cell BF.out 1).trans rfl;have hc_BE_0 : w20.cell? ⟨ge,0,none⟩ = some (.int .i64 h1) := (blk_cell BE.out 0).trans rfl;have hc_BE_1 : w20.cell? ⟨ge,1,none⟩ = some (.int .i64 d2) := (blk_cell BE.out 1).trans rfl;have hc_BK_0 : w20.cell? ⟨gk,0,none⟩ = some (.int .i64 h1) := (blk_cell BK.out 0).trans rfl;have hc_BK_1 : w20.cell? ⟨gk,1,none⟩ = some (.int .i64 h2) := (blk_cell BK.out 1).trans rfl)
       clear hc_BF_0 hc_BF_1 hc_BE_0 hc_BE_1 hc_BK_0 hc_BK_1
       have BB := aZ_ (blk_new w20 (.cells #[.int .i64 h1,.int .i64 u] 25 (0,0)))
       have hb := below_alloc (Below.refl w20.heap.size w20) (.cells #[.int .i64 h1,.int .i64 u] 25 (0,0))
       have n_ := aZ_ (Kd.Heap.C (Kd.heap_int .u8) hb.block HR.out)
       clear HR
       have HR := n_
       clear n_
       have n_ := aZ_ (below_step HB.out hb)
       clear HB
       have HB := n_
       clear n_
       have n_ := aZ_ (blk_below BF.out hb)
       clear BF
       have BF := n_
       clear n_
       have n_ := aZ_ (blk_below BE.out hb)
       clear BE
       have BE := n_
       clear n_
       have n_ := aZ_ (blk_below BK.out hb)
       clear BK
       have BK := n_
       clear n_
       have n_ := aZ_ (Kd.Heap.C (Kd.heap_int .i64) hb.block HP.out)
       clear HP
       have HP := n_
       clear n_
       have n_ := aZ_ (Kd.Heap.C (Kd.heap_int .i64) hb.block HZ.out)
       clear HZ
       have HZ := n_
       clear n_
       clear hb
       obtain ⟨gb,hgb_⟩ : ∃ gb,gb = w20.heap.size := ⟨_,rfl⟩
       rw [← hgb_] at BB ⊢
       clear hgb_
       generalize w20.alloc (.cells #[.int .i64 h1,.int .i64 u] 25 (0,0)) = w21 at HR HB BF BE BK HP HZ BB ⊢
       have hc_BF_0 : w21.cell? ⟨gf,0,none⟩ = some (.int .i64 h1) := (blk_cell BF.out 0).trans rfl
       have hc_BF_1 : w21.cell? ⟨gf,1,none⟩ = some (.int .i64 u) := (blk_cell BF.out 1).trans rfl
       have hc_BE_0 : w21.cell? ⟨ge,0,none⟩ = some (.int .i64 h1) := (blk_cell BE.out 0).trans rfl
       have hc_BE_1 : w21.cell? ⟨ge,1,none⟩ = some (.int .i64 d2) := (blk_cell BE.out 1).trans rfl
       have hc_BK_0 : w21.cell? ⟨gk,0,none⟩ = some (.int .i64 h1) := (blk_cell BK.out 0).trans rfl
       have hc_BK_1 : w21.cell? ⟨gk,1,none⟩ = some (.int .i64 h2) := (blk_cell BK.out 1).trans rfl
       have hc_BB_0 : w21.cell? ⟨gb,0,none⟩ = some (.int .i64 h1) := (blk_cell BB.out 0).trans rfl
       have hc_BB_1 : w21.cell? ⟨gb,1,none⟩ = some (.int .i64 u) := (blk_cell BB.out 1).trans rfl
       by_cases hhu : u = h2
       case pos =>
        subst hhu
        rw [decide_eq_true rfl] at hq5
        subst hq5
        go_wp2_with (first | (go_at_call 6;refine (impl_IsMonotone.calls k h1 d2 _ _ HQ2.out).mono ?_;rintro e w22 ⟨rfl,hb⟩;have n_ := aZ_ (Kd.Heap.C (Kd.heap_int .u8) hb.block HR.out);clear HR;have HR := n_;clear n_;have n_ := aZ_ (below_step HB.out hb);clear HB;have HB := n_;clear n_;have n_ := aZ_ (blk_below BF.out hb);clear BF;have BF := n_;clear n_;have n_ := aZ_ (blk_below BE.out hb);clear BE;have BE := n_;clear n_;have n_ := aZ_ (blk_below BK.out hb);clear BK;have BK := n_;clear n_;have n_ := aZ_ (Kd.Heap.C (Kd.heap_int .i64) hb.block HP.out);clear HP;have HP := n_;clear n_;have n_ := aZ_ (Kd.Heap.C (Kd.heap_int .i64) hb.block HZ.out);clear HZ;have HZ := n_;clear n_;have n_ := aZ_ (blk_below BB.out hb);clear BB;have BB := n_;clear n_;clear hb ;clear hc_BF_0 hc_BF_1 hc_BE_0 hc_BE_1 hc_BK_0 hc_BK_1 hc_BB_0 hc_BB_1;have hc_BF_0 : w22.cell? ⟨gf,0,none⟩ = some (.int .i64 h1) := (blk_cell BF.out 0).trans rfl;have hc_BF_1 : w22.cell? ⟨gf,1,none⟩ = some (.int .i64 u) := (blk_cell BF.out 1).trans rfl;have hc_BE_0 : w22.cell? ⟨ge,0,none⟩ = some (.int .i64 h1) := (blk_cell BE.out 0).trans rfl;have hc_BE_1 : w22.cell? ⟨ge,1,none⟩ = some (.int .i64 d2) := (blk_cell BE.out 1).trans rfl;have hc_BK_0 : w22.cell? ⟨gk,0,none⟩ = some (.int .i64 h1) := (blk_cell BK.out 0).trans rfl;have hc_BK_1 : w22.cell? ⟨gk,1,none⟩ = some (.int .i64 u) := (blk_cell BK.out 1).trans rfl;have hc_BB_0 : w22.cell? ⟨gb,0,none⟩ = some (.int .i64 h1) := (blk_cell BB.out 0).trans rfl;have hc_BB_1 : w22.cell? ⟨gb,1,none⟩ = some (.int .i64 u) := (blk_cell BB.out 1).trans rfl) | (go_at_call 6;refine (impl_IsMonotone.calls k h1 u _ _ HQ3.out).mono ?_;rintro e w23 ⟨rfl,hb⟩;have n_ := aZ_ (Kd.Heap.C (Kd.heap_int .u8) hb.block HR.out);clear HR;have HR := n_;clear n_;have n_ := aZ_ (below_step HB.out hb);clear HB;have HB := n_;clear n_;have n_ := aZ_ (blk_below BF.out hb);clear BF;have BF := n_;clear n_;have n_ := aZ_ (blk_below BE.out hb);clear BE;have BE := n_;clear n_;have n_ := aZ_ (blk_below BK.out hb);clear BK;have BK := n_;clear n_;have n_ := aZ_ (Kd.Heap.C (Kd.heap_int .i64) hb.block HP.out);clear HP;have HP := n_;clear n_;have n_ := aZ_ (Kd.Heap.C (Kd.heap_int .i64) hb.block HZ.out);clear HZ;have HZ := n_;clear n_;have n_ := aZ_ (blk_below BB.out hb);clear BB;have BB := n_;clear n_;clear hb ;clear hc_BF_0 hc_BF_1 hc_BE_0 hc_BE_1 hc_BK_0 hc_BK_1 hc_BB_0 hc_BB_1;have hc_BF_0 : w23.cell? ⟨gf,0,none⟩ = some (.int .i64 h1) := (blk_cell BF.out 0).trans rfl;have hc_BF_1 : w23.cell? ⟨gf,1,none⟩ = some (.int .i64 u) := (blk_cell BF.out 1).trans rfl;have hc_BE_0 : w23.cell? ⟨ge,0,none⟩ = some (.int .i64 h1) := (blk_cell BE.out 0).trans rfl;have hc_BE_1 : w23.cell? ⟨ge,1,none⟩ = some (.int .i64 d2) := (blk_cell BE.out 1).trans rfl;have hc_BK_0 : w23.cell? ⟨gk,0,none⟩ = some (.int .i64 h1) := (blk_cell BK.out 0).trans rfl;have hc_BK_1 : w23.cell? ⟨gk,1,none⟩ = some (.int .i64 u) := (blk_cell BK.out 1).trans rfl;have hc_BB_0 : w23.cell? ⟨gb,0,none⟩ = some (.int .i64 h1) := (blk_cell BB.out 0).trans rfl;have hc_BB_1 : w23.cell? ⟨gb,1,none⟩ = some (.int .i64 u) := (blk_cell BB.out 1).trans rfl))
        go_meet
        exact ⟨HR,HB,BF,BE,BK,HP,HZ⟩
       case neg =>
        rw [decide_eq_false (fun h => hhu h.symm)] at hq5
        subst hq5
        have hne : (h2 = u) = False := eq_false (fun h => hhu h.symm)
        go_wp2_with (first | (go_at_call 6;refine (impl_IsMonotone.calls k h1 d2 _ _ HQ2.out).mono ?_;rintro e w22 ⟨rfl,hb⟩;have n_ := aZ_ (Kd.Heap.C (Kd.heap_int .u8) hb.block HR.out);clear HR;have HR := n_;clear n_;have n_ := aZ_ (below_step HB.out hb);clear HB;have HB := n_;clear n_;have n_ := aZ_ (blk_below BF.out hb);clear BF;have BF := n_;clear n_;have n_ := aZ_ (blk_below BE.out hb);clear BE;have BE := n_;clear n_;have n_ := aZ_ (blk_below BK.out hb);clear BK;have BK := n_;clear n_;have n_ := aZ_ (Kd.Heap.C (Kd.heap_int .i64) hb.block HP.out);clear HP;have HP := n_;clear n_;have n_ := aZ_ (Kd.Heap.C (Kd.heap_int .i64) hb.block HZ.out);clear HZ;have HZ := n_;clear n_;have n_ := aZ_ (blk_below BB.out hb);clear BB;have BB := n_;clear n_;clear hb ;clear hc_BF_0 hc_BF_1 hc_BE_0 hc_BE_1 hc_BK_0 hc_BK_1 hc_BB_0 hc_BB_1;have hc_BF_0 : w22.cell? ⟨gf,0,none⟩ = some (.int .i64 h1) := (blk_cell BF.out 0).trans rfl;have hc_BF_1 : w22.cell? ⟨gf,1,none⟩ = some (.int .i64 u) := (blk_cell BF.out 1).trans rfl;have hc_BE_0 : w22.cell? ⟨ge,0,none⟩ = some (.int .i64 h1) := (blk_cell BE.out 0).trans rfl;have hc_BE_1 : w22.cell? ⟨ge,1,none⟩ = some (.int .i64 d2) := (blk_cell BE.out 1).trans rfl;have hc_BK_0 : w22.cell? ⟨gk,0,none⟩ = some (.int .i64 h1) := (blk_cell BK.out 0).trans rfl;have hc_BK_1 : w22.cell? ⟨gk,1,none⟩ = some (.int .i64 h2) := (blk_cell BK.out 1).trans rfl;have hc_BB_0 : w22.cell? ⟨gb,0,none⟩ = some (.int .i64 h1) := (blk_cell BB.out 0).trans rfl;have hc_BB_1 : w22.cell? ⟨gb,1,none⟩ = some (.int .i64 u) := (blk_cell BB.out 1).trans rfl) | (go_at_call 6;refine (impl_IsMonotone.calls k h1 h2 _ _ HQ3.out).mono ?_;rintro e w23 ⟨rfl,hb⟩;have n_ := aZ_ (Kd.Heap.C (Kd.heap_int .u8) hb.block HR.out);clear HR;have HR := n_;clear n_;have n_ := aZ_ (below_step HB.out hb);clear HB;have HB := n_;clear n_;have n_ := aZ_ (blk_below BF.out hb);clear BF;have BF := n_;clear n_;have n_ := aZ_ (blk_below BE.out hb);clear BE;have BE := n_;clear n_;have n_ := aZ_ (blk_below BK.out hb);clear BK;have BK := n_;clear n_;have n_ := aZ_ (Kd.Heap.C (Kd.heap_int .i64) hb.block HP.out);clear HP;have HP := n_;clear n_;have n_ := aZ_ (Kd.Heap.C (Kd.heap_int .i64) hb.block HZ.out);clear HZ;have HZ := n_;clear n_;have n_ := aZ_ (blk_below BB.out hb);clear BB;have BB := n_;clear n_;clear hb ;clear hc_BF_0 hc_BF_1 hc_BE_0 hc_BE_1 hc_BK_0 hc_BK_1 hc_BB_0 hc_BB_1;have hc_BF_0 : w23.cell? ⟨gf,0,none⟩ = some (.int .i64 h1) := (blk_cell BF.out 0).trans rfl;have hc_BF_1 : w23.cell? ⟨gf,1,none⟩ = some (.int .i64 u) := (blk_cell BF.out 1).trans rfl;have hc_BE_0 : w23.cell? ⟨ge,0,none⟩ = some (.int .i64 h1) := (blk_cell BE.out 0).trans rfl;have hc_BE_1 : w23.cell? ⟨ge,1,none⟩ = some (.int .i64 d2) := (blk_cell BE.out 1).trans rfl;have hc_BK_0 : w23.cell? ⟨gk,0,none⟩ = some (.int .i64 h1) := (blk_cell BK.out 0).trans rfl;have hc_BK_1 : w23.cell? ⟨gk,1,none⟩ = some (.int .i64 h2) := (blk_cell BK.out 1).trans rfl;have hc_BB_0 : w23.cell? ⟨gb,0,none⟩ = some (.int .i64 h1) := (blk_cell BB.out 0).trans rfl;have hc_BB_1 : w23.cell? ⟨gb,1,none⟩ = some (.int .i64 u) := (blk_cell BB.out 1).trans rfl))
        go_meet
        exact ⟨HR,HB,BF,BE,BK,HP,HZ⟩
    case rest =>
     clear HR HB BF BE BK HP HZ hc_BF_0 hc_BF_1 hc_BE_0 hc_BE_1 hc_BK_0 hc_BK_1
     obtain ⟨HR,HB,BF,BE,BK,HP,HZ⟩ := hcut
     have hc_BF_0 : wc.cell? ⟨gf,0,none⟩ = some (.int .i64 a) := (blk_cell BF.out 0).trans rfl
     have hc_BF_1 : wc.cell? ⟨gf,1,none⟩ = some (.int .i64 u) := (blk_cell BF.out 1).trans rfl
     have hc_BE_0 : wc.cell? ⟨ge,0,none⟩ = some (.int .i64 d1) := (blk_cell BE.out 0).trans rfl
     have hc_BE_1 : wc.cell? ⟨ge,1,none⟩ = some (.int .i64 d2) := (blk_cell BE.out 1).trans rfl
     have hc_BK_0 : wc.cell? ⟨gk,0,none⟩ = some (.int .i64 h1) := (blk_cell BK.out 0).trans rfl
     have hc_BK_1 : wc.cell? ⟨gk,1,none⟩ = some (.int .i64 h2) := (blk_cell BK.out 1).trans rfl
     go_upto_if 145 with (fail)
     go_cut [] (fun wx => Aside0 (Kd.C (Kd.int .u8) wx A0 l0.length l0) ∧ Aside0 (Below w.heap.size w wx))
     case first =>
      as_aux_lemma =>
       cases is
       case false =>
        go_wp2_with (fail)
        go_meet
        exact ⟨HR,HB⟩
       case true =>
        obtain ⟨n,L,b,q,rfl,gm⟩ := HG.out.mono rfl
        have HM := aZ_ gm
        clear gm
        have hx1 : (((n : Nat) : Int) != (n : Int)) = false := bne_self_eq_false _
        have hx2 : (u != u) = false := bne_self_eq_false _
        go_upto_region 21 with (go_at_call 18;refine (impl_TableOfPoints.calls n Ap cp p n u true _ HP.out HPc.out HM.out.tp).mono ?_;rintro e w20 ⟨rfl,hb⟩;have n_ := aZ_ (Kd.Heap.C (Kd.heap_int .u8) hb.block HR.out);clear HR;have HR := n_;clear n_;have n_ := aZ_ (below_step HB.out hb);clear HB;have HB := n_;clear n_;have n_ := aZ_ (blk_below BF.out hb);clear BF;have BF := n_;clear n_;have n_ := aZ_ (blk_below BE.out hb);clear BE;have BE := n_;clear n_;have n_ := aZ_ (blk_below BK.out hb);clear BK;have BK := n_;clear n_;have n_ := aZ_ (Kd.Heap.C (Kd.heap_int .i64) hb.block HP.out);clear HP;have HP := n_;clear n_;have n_ := aZ_ (Kd.Heap.C (Kd.heap_int .i64) hb.block HZ.out);clear HZ;have HZ := n_;clear n_;clear hb ;clear hc_BF_0 hc_BF_1 hc_BE_0 hc_BE_1 hc_BK_0 hc_BK_1;have hc_BF_0 : w20.cell? ⟨gf,0,none⟩ = some (.int .i64 n) := (blk_cell BF.out 0).trans rfl;have hc_BF_1 : w20.cell? ⟨gf,1,none⟩ = some (.int .i64 u) := (blk_cell BF.out 1).trans rfl;have hc_BE_0 : w20.cell? ⟨ge,0,none⟩ = some (.int .i64 d1) := (blk_cell BE.out 0).trans rfl;have hc_BE_1 : w20.cell? ⟨ge,1,none⟩ = some (.int .i64 d2) := (blk_cell BE.out 1).trans rfl;have hc_BK_0 : w20.cell? ⟨gk,0,none⟩ = some (.int .i64 h1) := (blk_cell BK.out 0).trans rfl;have hc_BK_1 : w20.cell? ⟨gk,1,none⟩ = some (.int .i64 h2) := (blk_cell BK.out 1).trans rfl)
        clear hc_BF_0 hc_BF_1 hc_BE_0 hc_BE_1 hc_BK_0 hc_BK_1
        have BT := aZ_ (blk_new w20 (.cells #[.int .i64 n,.int .i64 u] 25 (0,0)))
        have hb := below_alloc (Below.refl w20.heap.size w20) (.cells #[.int .i64 n,.int .i64 u] 25 (0,0))
        have n_ := aZ_ (Kd.Heap.C (Kd.heap_int .u8) hb.block HR.out)
        clear HR
        have HR := n_
        clear n_
        have n_ := aZ_ (below_step HB.out hb)
        clear HB
        have HB := n_
        clear n_
        have n_ := aZ_ (blk_below BF.out hb)
        clear BF
        have BF := n_
        clear n_
        have n_ := aZ_ (blk_below BE.out hb)
        clear BE
        have BE := n_
        clear n_
        have n_ := aZ_ (blk_below BK.out hb)
        clear BK
        have BK := n_
        clear n_
        have n_ := aZ_ (Kd.Heap.C (Kd.heap_int .i64) hb.block HP.out)
        clear HP
        have HP := n_
        clear n_
        have n_ := aZ_ (Kd.Heap.C (Kd.heap_int .i64) hb.block HZ.out)
        clear HZ
        have HZ := n_
        clear n_
        clear hb
        obtain ⟨gt,hgt_⟩ : ∃ gt,gt = w20.heap.size := ⟨_,rfl⟩
        rw [← hgt_] at BT ⊢
        clear hgt_
        generalize w20.alloc (.cells #[.int .i64 n,.int .i64 u] 25 (0,0)) = w21 at HR HB BF BE BK HP HZ BT ⊢
        have hc_BF_0 : w21.cell? ⟨gf,0,none⟩ = some (.int .i64 n) := (blk_cell BF.out 0).trans rfl
        have hc_BF_1 : w21.cell? ⟨gf,1,none⟩ = some (.int .i64 u) := (blk_cell BF.out 1).trans rfl
        have hc_BE_0 : w21.cell? ⟨ge,0,none⟩ = some (.int .i64 d1) := (blk_cell BE.out 0).trans rfl
        have hc_BE_1 : w21.cell? ⟨ge,1,none⟩ = some (.int .i64 d2) := (blk_cell BE.out 1).trans rfl
        have hc_BK_0 : w21.cell? ⟨gk,0,none⟩ = some (.int .i64 h1) := (blk_cell BK.out 0).trans rfl
        have hc_BK_1 : w21.cell? ⟨gk,1,none⟩ = some (.int .i64 h2) := (blk_cell BK.out 1).trans rfl
        have hc_BT_0 : w21.cell? ⟨gt,0,none⟩ = some (.int .i64 n) := (blk_cell BT.out 0).trans rfl
        have hc_BT_1 : w21.cell? ⟨gt,1,none⟩ = some (.int .i64 u) := (blk_cell BT.out 1).trans rfl
        go_upto_region 22 with (go_at_call 19;refine (impl_PrimesOf.calls k n u L b _ HM.out.pr).mono ?_;rintro e w22 ⟨vq,rfl,hq,hb⟩;have n_ := aZ_ (Kd.Heap.C (Kd.heap_int .u8) hb.block HR.out);clear HR;have HR := n_;clear n_;have n_ := aZ_ (below_step HB.out hb);clear HB;have HB := n_;clear n_;have n_ := aZ_ (blk_below BF.out hb);clear BF;have BF := n_;clear n_;have n_ := aZ_ (blk_below BE.out hb);clear BE;have BE := n_;clear n_;have n_ := aZ_ (blk_below BK.out hb);clear BK;have BK := n_;clear n_;have n_ := aZ_ (Kd.Heap.C (Kd.heap_int .i64) hb.block HP.out);clear HP;have HP := n_;clear n_;have n_ := aZ_ (Kd.Heap.C (Kd.heap_int .i64) hb.block HZ.out);clear HZ;have HZ := n_;clear n_;have n_ := aZ_ (blk_below BT.out hb);clear BT;have BT := n_;clear n_;obtain ⟨Al,cl,rfl,hlc_,hr_⟩ := Kd.R_reads hq;have HL := aZ_ hr_;have HLc := aZ_ hlc_;clear hr_ hlc_;clear hq;clear hb ;clear hc_BF_0 hc_BF_1 hc_BE_0 hc_BE_1 hc_BK_0 hc_BK_1 hc_BT_0 hc_BT_1;have hc_BF_0 : w22.cell? ⟨gf,0,none⟩ = some (.int .i64 n) := (blk_cell BF.out 0).trans rfl;have hc_BF_1 : w22.cell? ⟨gf,1,none⟩ = some (.int .i64 u) := (blk_cell BF.out 1).trans rfl;have hc_BE_0 : w22.cell? ⟨ge,0,none⟩ = some (.int .i64 d1) := (blk_cell BE.out 0).trans rfl;have hc_BE_1 : w22.cell? ⟨ge,1,none⟩ = some (.int .i64 d2) := (blk_cell BE.out 1).trans rfl;have hc_BK_0 : w22.cell? ⟨gk,0,none⟩ = some (.int .i64 h1) := (blk_cell BK.out 0).trans rfl;have hc_BK_1 : w22.cell? ⟨gk,1,none⟩ = some (.int .i64 h2) := (blk_cell BK.out 1).trans rfl;have hc_BT_0 : w22.cell? ⟨gt,0,none⟩ = some (.int .i64 n) := (blk_cell BT.out 0).trans rfl;have hc_BT_1 : w22.cell? ⟨gt,1,none⟩ = some (.int .i64 u) := (blk_cell BT.out 1).trans rfl)
        have hl1 : ((L.length : Int) != (p.length : Int)) = false := by rw [HM.out.len];exact bne_self_eq_false _
        have hl2 : ((q.length : Int) != (z.length : Int)) = false := by rw [HM.out.lq];exact bne_self_eq_false _
        go_upto_region 24 with (go_at_call 7;refine (impl_MinimalPoints.calls k d1 d2 q _ HM.out.mq).mono ?_;rintro e w23 ⟨vq,rfl,hq,hb⟩;have n_ := aZ_ (Kd.Heap.C (Kd.heap_int .u8) hb.block HR.out);clear HR;have HR := n_;clear n_;have n_ := aZ_ (below_step HB.out hb);clear HB;have HB := n_;clear n_;have n_ := aZ_ (blk_below BF.out hb);clear BF;have BF := n_;clear n_;have n_ := aZ_ (blk_below BE.out hb);clear BE;have BE := n_;clear n_;have n_ := aZ_ (blk_below BK.out hb);clear BK;have BK := n_;clear n_;have n_ := aZ_ (Kd.Heap.C (Kd.heap_int .i64) hb.block HP.out);clear HP;have HP := n_;clear n_;have n_ := aZ_ (Kd.Heap.C (Kd.heap_int .i64) hb.block HZ.out);clear HZ;have HZ := n_;clear n_;have n_ := aZ_ (blk_below BT.out hb);clear BT;have BT := n_;clear n_;have n_ := aZ_ (Kd.C_below HL.out hb);clear HL;have HL := n_;clear n_;obtain ⟨Aq,cq,rfl,hlc_,hr_⟩ := Kd.R_reads hq;have HQ := aZ_ hr_;have HQc := aZ_ hlc_;clear hr_ hlc_;clear hq;clear hb ;clear hc_BF_0 hc_BF_1 hc_BE_0 hc_BE_1 hc_BK_0 hc_BK_1 hc_BT_0 hc_BT_1;have hc_BF_0 : w23.cell? ⟨gf,0,none⟩ = some (.int .i64 n) := (blk_cell BF.out 0).trans rfl;have hc_BF_1 : w23.cell? ⟨gf,1,none⟩ = some (.int .i64 u) := (blk_cell BF.out 1).trans rfl;have hc_BE_0 : w23.cell? ⟨ge,0,none⟩ = some (.int .i64 d1) := (blk_cell BE.out 0).trans rfl;have hc_BE_1 : w23.cell? ⟨ge,1,none⟩ = some (.int .i64 d2) := (blk_cell BE.out 1).trans rfl;have hc_BK_0 : w23.cell? ⟨gk,0,none⟩ = some (.int .i64 h1) := (blk_cell BK.out 0).trans rfl;have hc_BK_1 : w23.cell? ⟨gk,1,none⟩ = some (.int .i64 h2) := (blk_cell BK.out 1).trans rfl;have hc_BT_0 : w23.cell? ⟨gt,0,none⟩ = some (.int .i64 n) := (blk_cell BT.out 0).trans rfl;have hc_BT_1 : w23.cell? ⟨gt,1,none⟩ = some (.int .i64 u) := (blk_cell BT.out 1).trans rfl)
        clear hl1 hl2 hx1 hx2 HQ HQc
        clear BT hc_BT_0 hc_BT_1
        clear BK hc_BF_0 hc_BF_1 hc_BE_0 hc_BE_1 hc_BK_0 hc_BK_1
        go_wp2_with (fail)
        go_loopg [21] L.length (fun gg v21 wr => ∃ e : Nat,e ≤ L.length ∧ L.length - e ≤ gg ∧ v21 = .int .i64 (e : Int) ∧ Aside0 (Kd.C (Kd.int .u8) wr A0 l0.length l0) ∧ Aside0 (Below w.heap.size w wr) ∧ Aside0 (wr.heap[gf]? = some (.cells #[.int .i64 n,.int .i64 u] 25 (0,0))) ∧ Aside0 (wr.heap[ge]? = some (.cells #[.int .i64 d1,.int .i64 d2] 25 (0,0))) ∧ Aside0 (Kd.C (Kd.int .i64) wr Ap p.length p) ∧ Aside0 (Kd.C (Kd.int .i64) wr Az z.length z) ∧ Aside0 (Kd.C k38 wr Al L.length L))
        case atStart => exact ⟨0,Nat.zero_le _,by omega,rfl,HR,HB,BF,BE,HP,HZ,HL⟩
        case round =>
         clear HR HB BF BE HP HZ HL
         obtain ⟨e,he,hg,rfl,HR,HB,BF,BE,HP,HZ,HL⟩ := hrel
         by_cases hlt : e < L.length
         case pos =>
          have hltz : (e : Int) < (L.length : Int) := by omega
          have h0z : (0 : Int) ≤ (e : Int) := by omega
          obtain ⟨v,hv0,hv1,hv2⟩ := HM.out.one e hlt
          have HV := aZ_ hv2
          have HE := aZ_ (And.intro hlt (And.intro hg HM.out.lz.1))
          obtain ⟨al,hal,hc0,hc1⟩ := at_T38 HL.out (e : Int) h0z hltz
          subst hal
          rw [hv0,Int.toNat_natCast] at hc0
          rw [hv1,Int.toNat_natCast] at hc1
          have C0 := aZ_ hc0
          have C1 := aZ_ hc1
          clear hc0 hc1 hv0 hv1 hv2 hlt hg he
          have hvv : (v != v) = false := bne_self_eq_false v
          go_upto_region 27 with (fail)
          have hb := below_drew (Below.refl wr.heap.size wr)
          have n_ : Aside0 (wr.drew.cell? (al.add (e * 2)) = some (.int .i64 v)) := ⟨pw_cell_below hb C0.out⟩
          clear C0
          have C0 := n_
          clear n_
          have n_ : Aside0 (wr.drew.cell? ⟨(al.add (e * 2)).block,(al.add (e * 2)).off + 1,none⟩ = some (.int .i64 v)) := ⟨pw_cell_below hb C1.out⟩
          clear C1
          have C1 := n_
          clear n_
          have n_ := aZ_ (Kd.Heap.C (Kd.heap_int .u8) hb.block HR.out)
          clear HR
          have HR := n_
          clear n_
          have n_ := aZ_ (below_step HB.out hb)
          clear HB
          have HB := n_
          clear n_
          have n_ := aZ_ (blk_below BF.out hb)
          clear BF
          have BF := n_
          clear n_
          have n_ := aZ_ (blk_below BE.out hb)
          clear BE
          have BE := n_
          clear n_
          have n_ := aZ_ (Kd.Heap.C (Kd.heap_int .i64) hb.block HP.out)
          clear HP
          have HP := n_
          clear n_
          have n_ := aZ_ (Kd.Heap.C (Kd.heap_int .i64) hb.block HZ.out)
          clear HZ
          have HZ := n_
          clear n_
          have n_ := aZ_ (Kd.C_below HL.out hb)
          clear HL
          have HL := n_
          clear n_
          clear hb
          refine start_ (n := 21) (S := (fun w_ => w_.cell? (al.add (e * 2)) = some (.int .i64 v) ∧ w_.cell? ⟨(al.add (e * 2)).block,(al.add (e * 2)).off + 1,none⟩ = some (.int .i64 v))) (ds := []) #[false,false,false,false,false,false,false,false,false,false,false,false,false,false,false,false,false,false,false,false,false] T21_ rfl rfl ⟨C0.out,C1.out⟩ (fun hHeld => ?_)
          refine with_tabW laws_FnMonotone.tab27 laws_FnMonotone.bits27 (fun HT_ HW_ => ?_)
          generalize wr.drew = W0_ at C0 C1 HR HB BF BE HP HZ HL hHeld ⊢
          refine pZ_ 0 (some 186) #[true,false,false,false,false,false,false,false,false,false,false,false,false,false,false,false,false,false,false,false,false] ?_
          refine pZ_ 1 (some 187) #[true,true,false,false,false,false,false,false,false,false,false,false,false,false,false,false,false,false,false,false,false] ?_
          refine pZ_ 2 (some 188) #[true,true,true,false,false,false,false,false,false,false,false,false,false,false,false,false,false,false,false,false,false] ?_
          refine pZ_ 3 (some 189) #[true,true,true,true,false,false,false,false,false,false,false,false,false,false,false,false,false,false,false,false,false] ?_
          refine tZ2_ 4 (some 190) #[true,true,true,true,true,false,false,false,false,false,false,false,false,false,false,false,false,false,false,false,false] hHeld ?_
          refine pZ_ 5 (some 191) #[true,true,true,true,true,true,false,false,false,false,false,false,false,false,false,false,false,false,false,false,false] ?_
          refine pZ_ 6 (some 192) #[true,true,true,true,true,true,true,false,false,false,false,false,false,false,false,false,false,false,false,false,false] ?_
          refine pZ_ 7 (some 193) #[true,true,true,true,true,true,true,true,false,false,false,false,false,false,false,false,false,false,false,false,false] ?_
          refine pZ_ 8 (some 194) #[true,true,true,true,true,true,true,true,true,false,false,false,false,false,false,false,false,false,false,false,false] ?_
          refine tZ2_ 9 (some 195) #[true,true,true,true,true,true,true,true,true,true,false,false,false,false,false,false,false,false,false,false,false] hHeld ?_
          refine pZ_ 10 (some 196) #[true,true,true,true,true,true,true,true,true,true,true,false,false,false,false,false,false,false,false,false,false] ?_
          refine pZ_ 11 (some 197) #[true,true,true,true,true,true,true,true,true,true,true,true,false,false,false,false,false,false,false,false,false] ?_
          refine pZ_ 12 (some 198) #[true,true,true,true,true,true,true,true,true,true,true,true,true,false,false,false,false,false,false,false,false] ?_
          refine pZ_ 13 (some 199) #[true,true,true,true,true,true,true,true,true,true,true,true,true,true,false,false,false,false,false,false,false] ?_
          refine pZ_ 14 (some 200) #[true,true,true,true,true,true,true,true,true,true,true,true,true,true,true,false,false,false,false,false,false] ?_
          refine pZ_ 15 (some 201) #[true,true,true,true,true,true,true,true,true,true,true,true,true,true,true,true,false,false,false,false,false] ?_
          refine pZ_ 16 (some 202) #[true,true,true,true,true,true,true,true,true,true,true,true,true,true,true,true,true,false,false,false,false] ?_
          refine tZ2_ 17 (some 203) #[true,true,true,true,true,true,true,true,true,true,true,true,true,true,true,true,true,true,false,false,false] hHeld ?_
          refine one_ (i := 18) (N := some 204) #[true,true,true,true,true,true,true,true,true,true,true,true,true,true,true,true,true,true,true,false,false] rfl rfl (one_of HT_.out T21_) T66_ (fun K hK => ?_)
          refine gZ_ Try.func20 #[.slice Ap p.length cp,.int .i64 v] ?_
          with_reducible refine (laws_has.calls k Ap cp p v true _ HP.out HPc.out HV.out).mono ?_
          rintro e W1_ ⟨rfl,hd⟩
          have hb := hd.below
          clear hd
          refine ⟨_,rfl,?_⟩
          have n_ : Aside0 (W1_.cell? (al.add (e * 2)) = some (.int .i64 v)) := ⟨pw_cell_below hb C0.out⟩
          clear C0
          have C0 := n_
          clear n_
          have n_ : Aside0 (W1_.cell? ⟨(al.add (e * 2)).block,(al.add (e * 2)).off + 1,none⟩ = some (.int .i64 v)) := ⟨pw_cell_below hb C1.out⟩
          clear C1
          have C1 := n_
          clear n_
          have n_ := aZ_ (Kd.Heap.C (Kd.heap_int .u8) hb.block HR.out)
          clear HR
          have HR := n_
          clear n_
          have n_ := aZ_ (below_step HB.out hb)
          clear HB
          have HB := n_
          clear n_
          have n_ := aZ_ (blk_below BF.out hb)
          clear BF
          have BF := n_
          clear n_
          have n_ := aZ_ (blk_below BE.out hb)
          clear BE
          have BE := n_
          clear n_
          have n_ := aZ_ (Kd.Heap.C (Kd.heap_int .i64) hb.block HP.out)
          clear HP
          have HP := n_
          clear n_
          have n_ := aZ_ (Kd.Heap.C (Kd.heap_int .i64) hb.block HZ.out)
          clear HZ
          have HZ := n_
          clear n_
          have n_ := aZ_ (Kd.C_below HL.out hb)
          clear HL
          have HL := n_
          clear n_
          clear hb
          refine hK.out _ _ ⟨C0.out,C1.out⟩ (fun hHeld => ?_)
          clear hK K
          refine norm_ (a' := ?_) ?_ ?_
          rotate_left
          ·show Act.put _ (some 204) _ = _
           simp only [Act.put,List.setIfInBounds_toArray,List.set_cons_zero,List.set_cons_succ,i64_w,i32_w]
           rfl
          refine pZ_ 19 (some 205) #[true,true,true,true,true,true,true,true,true,true,true,true,true,true,true,true,true,true,true,true,false] ?_
          refine pZ_ 20 (some 206) #[true,true,true,true,true,true,true,true,true,true,true,true,true,true,true,true,true,true,true,true,true] ?_
          refine done_ (done_of HT_.out T21_) ?_
          clear C0 C1 hHeld HT_ HW_
          go_wp2_with (fail)
          go_roundg (L.length - (e + 1))
          case measure => have := HE.out;omega
          case rel => exact ⟨e + 1,by have := HE.out;omega,by omega,congrArg (Value.int .i64) (by have := HE.out;rw [B.wrap64_of T74_ T74_];rfl),HR,HB,BF,BE,HP,HZ,HL⟩
         case neg =>
          have hltz : ¬ (e : Int) < (L.length : Int) := by omega
          clear hlt he hg
          clear HL
          go_wp2_with (fail)
          go_loopg [22] z.length (fun g2 v22 wr => ∃ e : Nat,e ≤ z.length ∧ z.length - e ≤ g2 ∧ v22 = .int .i64 (e : Int) ∧ Aside0 (Kd.C (Kd.int .u8) wr A0 l0.length l0) ∧ Aside0 (Below w.heap.size w wr) ∧ Aside0 (wr.heap[gf]? = some (.cells #[.int .i64 n,.int .i64 u] 25 (0,0))) ∧ Aside0 (wr.heap[ge]? = some (.cells #[.int .i64 d1,.int .i64 d2] 25 (0,0))) ∧ Aside0 (Kd.C (Kd.int .i64) wr Ap p.length p) ∧ Aside0 (Kd.C (Kd.int .i64) wr Az z.length z))
          case atStart => exact ⟨0,Nat.zero_le _,by omega,rfl,HR,HB,BF,BE,HP,HZ⟩
          case round =>
           clear HR HB BF BE HP HZ
           obtain ⟨e,he,hg,rfl,HR,HB,BF,BE,HP,HZ⟩ := hrel
           by_cases hlt : e < z.length
           case pos =>
            have hltz : (e : Int) < (z.length : Int) := by omega
            have h0z : (0 : Int) ≤ (e : Int) := by omega
            have HV := aZ_ (HM.out.two e hlt)
            have HE := aZ_ (And.intro hlt (And.intro hg HM.out.lz.2))
            have hn5 := HM.out.n5
            have h63 : (n : Int) ≤ 64 := by omega
            have h0n : (0 : Int) ≤ n := by omega
            obtain ⟨M,hM⟩ : ∃ M : Nat,M = 2 ^ n := ⟨_,rfl⟩
            rw [← hM] at HV
            have hM32 : M ≤ 32 := by rw [hM];exact B.pow_le hn5
            have hwr : wrap64 (2 ^ n) = (M : Int) := by rw [show (2 : Int) ^ n = (M : Int) by rw [hM];simp];exact B.wrap64_of T74_ T74_
            obtain ⟨T,hT⟩ : ∃ T,wrap64 ((M : Int) - 1) = T := ⟨_,rfl⟩
            rw [hT] at HV
            obtain ⟨az,rfl,hc0⟩ := Kd.at_int HZ.out (e : Int) h0z hltz
            rw [Int.toNat_natCast] at hc0
            have C0 := aZ_ ((blk_cell BF.out 0).trans rfl : wr.cell? ⟨gf,0,none⟩ = some (.int .i64 n))
            have C1 := aZ_ ((blk_cell BE.out 0).trans rfl : wr.cell? ⟨ge,0,none⟩ = some (.int .i64 d1))
            have C2 := aZ_ ((blk_cell BE.out 1).trans rfl : wr.cell? ⟨ge,1,none⟩ = some (.int .i64 d2))
            have C3 := aZ_ hc0
            clear hc0 hlt hg he hM
            go_upto_region 32 with (fail)
            have hb := below_drew (Below.refl wr.heap.size wr)
            have n_ : Aside0 (wr.drew.cell? ⟨gf,0,none⟩ = some (.int .i64 n)) := ⟨pw_cell_below hb C0.out⟩
            clear C0
            have C0 := n_
            clear n_
            have n_ : Aside0 (wr.drew.cell? ⟨ge,0,none⟩ = some (.int .i64 d1)) := ⟨pw_cell_below hb C1.out⟩
            clear C1
            have C1 := n_
            clear n_
            have n_ : Aside0 (wr.drew.cell? ⟨ge,1,none⟩ = some (.int .i64 d2)) := ⟨pw_cell_below hb C2.out⟩
            clear C2
            have C2 := n_
            clear n_
            have n_ : Aside0 (wr.drew.cell? (az.add e) = some (.int .i64 (rd z (e : Int)))) := ⟨pw_cell_below hb C3.out⟩
            clear C3
            have C3 := n_
            clear n_
            have n_ := aZ_ (Kd.Heap.C (Kd.heap_int .u8) hb.block HR.out)
            clear HR
            have HR := n_
            clear n_
            have n_ := aZ_ (below_step HB.out hb)
            clear HB
            have HB := n_
            clear n_
            have n_ := aZ_ (blk_below BF.out hb)
            clear BF
            have BF := n_
            clear n_
            have n_ := aZ_ (blk_below BE.out hb)
            clear BE
            have BE := n_
            clear n_
            have n_ := aZ_ (Kd.Heap.C (Kd.heap_int .i64) hb.block HP.out)
            clear HP
            have HP := n_
            clear n_
            have n_ := aZ_ (Kd.Heap.C (Kd.heap_int .i64) hb.block HZ.out)
            clear HZ
            have HZ := n_
            clear n_
            clear hb
            refine start_ (n := 13) (S := (fun w_ => w_.cell? ⟨gf,0,none⟩ = some (.int .i64 n) ∧ w_.cell? ⟨ge,0,none⟩ = some (.int .i64 d1) ∧ w_.cell? ⟨ge,1,none⟩ = some (.int .i64 d2) ∧ w_.cell? (az.add e) = some (.int .i64 (rd z (e : Int))))) (ds := []) #[false,false,false,false,false,false,false,false,false,false,false,false,false] T21_ rfl rfl ⟨C0.out,C1.out,C2.out,C3.out⟩ (fun hHeld => ?_)
            refine with_tabW laws_FnMonotone.tab32 laws_FnMonotone.bits32 (fun HT_ HW_ => ?_)
            generalize wr.drew = W0_ at C0 C1 C2 C3 HR HB BF BE HP HZ hHeld ⊢
            refine tZ4_ 0 (some 213) #[true,false,false,false,false,false,false,false,false,false,false,false,false] hHeld ?_
            refine pZ_ 2 (some 215) #[true,false,true,false,false,false,false,false,false,false,false,false,false] ?_
            refine tZ4_ 3 (some 216) #[true,false,true,true,false,false,false,false,false,false,false,false,false] hHeld ?_
            refine pZ_ 4 (some 217) #[true,false,true,true,true,false,false,false,false,false,false,false,false] ?_
            refine pZ_ 5 (some 218) #[true,false,true,true,true,true,false,false,false,false,false,false,false] ?_
            refine pZ_ 6 (some 219) #[true,false,true,true,true,true,true,false,false,false,false,false,false] ?_
            refine pZ_ 7 (some 220) #[true,false,true,true,true,true,true,true,false,false,false,false,false] ?_
            refine pZ_ 8 (some 221) #[true,false,true,true,true,true,true,true,true,false,false,false,false] ?_
            refine tZ4_ 9 (some 222) #[true,false,true,true,true,true,true,true,true,true,false,false,false] hHeld ?_
            refine pZ_ 10 (some 223) #[true,false,true,true,true,true,true,true,true,true,true,false,false] ?_
            refine one_ (i := 1) (N := some 214) #[true,true,true,true,true,true,true,true,true,true,true,false,false] rfl rfl (one_of HT_.out T21_) T66_ (fun K hK => ?_)
            refine gZ_ Try.func7 #[.agg #[.int .i64 d1,.int .i64 d2]] ?_
            with_reducible refine (impl_MinimalPoints.calls k d1 d2 q _ HM.out.mq).mono ?_
            rintro e W1_ ⟨vq,rfl,hq,hb⟩
            obtain ⟨Aq,cq,rfl,hlc_,hr_⟩ := Kd.R_reads hq
            clear hq
            refine ⟨_,rfl,?_⟩
            have n_ : Aside0 (W1_.cell? ⟨gf,0,none⟩ = some (.int .i64 n)) := ⟨pw_cell_below hb C0.out⟩
            clear C0
            have C0 := n_
            clear n_
            have n_ : Aside0 (W1_.cell? ⟨ge,0,none⟩ = some (.int .i64 d1)) := ⟨pw_cell_below hb C1.out⟩
            clear C1
            have C1 := n_
            clear n_
            have n_ : Aside0 (W1_.cell? ⟨ge,1,none⟩ = some (.int .i64 d2)) := ⟨pw_cell_below hb C2.out⟩
            clear C2
            have C2 := n_
            clear n_
            have n_ : Aside0 (W1_.cell? (az.add e) = some (.int .i64 (rd z (e : Int)))) := ⟨pw_cell_below hb C3.out⟩
            clear C3
            have C3 := n_
            clear n_
            have n_ := aZ_ (Kd.Heap.C (Kd.heap_int .u8) hb.block HR.out)
            clear HR
            have HR := n_
            clear n_
            have n_ := aZ_ (below_step HB.out hb)
            clear HB
            have HB := n_
            clear n_
            have n_ := aZ_ (blk_below BF.out hb)
            clear BF
            have BF := n_
            clear n_
            have n_ := aZ_ (blk_below BE.out hb)
            clear BE
            have BE := n_
            clear n_
            have n_ := aZ_ (Kd.Heap.C (Kd.heap_int .i64) hb.block HP.out)
            clear HP
            have HP := n_
            clear n_
            have n_ := aZ_ (Kd.Heap.C (Kd.heap_int .i64) hb.block HZ.out)
            clear HZ
            have HZ := n_
            clear n_
            clear hb
            have HQ := aZ_ hr_
            have HQc := aZ_ hlc_
            clear hr_ hlc_
            refine hK.out _ _ ⟨C0.out,C1.out,C2.out,C3.out⟩ (fun hHeld => ?_)
            clear hK K
            refine norm_ (a' := ?_) ?_ ?_
            rotate_left
            ·show Act.put _ (some 214) _ = _
             simp only [Act.put,List.setIfInBounds_toArray,List.set_cons_zero,List.set_cons_succ,i64_w,i32_w]
             rfl
            refine one_ (i := 11) (N := some 224) #[true,true,true,true,true,true,true,true,true,true,true,true,false] rfl rfl (one_of HT_.out T21_) T66_ (fun K hK => ?_)
            refine gZ_ Try.func20 #[.slice Aq q.length cq,.int .i64 (wrap64 (T - rd z (e : Int)))] ?_
            with_reducible refine (laws_has.calls k Aq cq q (wrap64 (T - rd z (e : Int))) true _ HQ.out HQc.out HV.out).mono ?_
            rintro e W2_ ⟨rfl,hd⟩
            have hb := hd.below
            clear hd
            refine ⟨_,rfl,?_⟩
            have n_ : Aside0 (W2_.cell? ⟨gf,0,none⟩ = some (.int .i64 n)) := ⟨pw_cell_below hb C0.out⟩
            clear C0
            have C0 := n_
            clear n_
            have n_ : Aside0 (W2_.cell? ⟨ge,0,none⟩ = some (.int .i64 d1)) := ⟨pw_cell_below hb C1.out⟩
            clear C1
            have C1 := n_
            clear n_
            have n_ : Aside0 (W2_.cell? ⟨ge,1,none⟩ = some (.int .i64 d2)) := ⟨pw_cell_below hb C2.out⟩
            clear C2
            have C2 := n_
            clear n_
            have n_ : Aside0 (W2_.cell? (az.add e) = some (.int .i64 (rd z (e : Int)))) := ⟨pw_cell_below hb C3.out⟩
            clear C3
            have C3 := n_
            clear n_
            have n_ := aZ_ (Kd.Heap.C (Kd.heap_int .u8) hb.block HR.out)
            clear HR
            have HR := n_
            clear n_
            have n_ := aZ_ (below_step HB.out hb)
            clear HB
            have HB := n_
            clear n_
            have n_ := aZ_ (blk_below BF.out hb)
            clear BF
            have BF := n_
            clear n_
            have n_ := aZ_ (blk_below BE.out hb)
            clear BE
            have BE := n_
            clear n_
            have n_ := aZ_ (Kd.Heap.C (Kd.heap_int .i64) hb.block HP.out)
            clear HP
            have HP := n_
            clear n_
            have n_ := aZ_ (Kd.Heap.C (Kd.heap_int .i64) hb.block HZ.out)
            clear HZ
            have HZ := n_
            clear n_
            have n_ := aZ_ (Kd.Heap.C (Kd.heap_int .i64) hb.block HQ.out)
            clear HQ
            have HQ := n_
            clear n_
            clear hb
            refine hK.out _ _ ⟨C0.out,C1.out,C2.out,C3.out⟩ (fun hHeld => ?_)
            clear hK K
            refine norm_ (a' := ?_) ?_ ?_
            rotate_left
            ·show Act.put _ (some 224) _ = _
             simp only [Act.put,List.setIfInBounds_toArray,List.set_cons_zero,List.set_cons_succ,i64_w,i32_w]
             rfl
            refine pZ_ 12 (some 225) #[true,true,true,true,true,true,true,true,true,true,true,true,true] ?_
            refine done_ (done_of HT_.out T21_) ?_
            clear C0 C1 C2 C3 hHeld HT_ HW_ HQ HQc
            go_wp2_with (fail)
            go_roundg (z.length - (e + 1))
            case measure => have := HE.out;omega
            case rel => exact ⟨e + 1,by have := HE.out;omega,by omega,congrArg (Value.int .i64) (by have := HE.out;rw [B.wrap64_of T74_ T74_];rfl),HR,HB,BF,BE,HP,HZ⟩
           case neg =>
            have hltz : ¬ (e : Int) < (z.length : Int) := by omega
            clear hlt he hg
            go_wp2_with (fail)
            go_meet
            exact ⟨HR,HB⟩
     case rest =>
      as_aux_lemma =>
       clear HR HB BF BE BK HP HZ hc_BF_0 hc_BF_1 hc_BE_0 hc_BE_1 hc_BK_0 hc_BK_1
       obtain ⟨HR,HB⟩ := hcut
       go_upto_region 35 with (go_at_call 21;refine (spec_DrawTableOfPoints.calls k A0 c0 l0 nn l _ HR.out HC0.out HG.out.dp).mono ?_;rintro e w20 ⟨vq,rfl,hq,hb⟩;have n_ := aZ_ (Kd.Heap.C (Kd.heap_int .u8) hb.block HR.out);clear HR;have HR := n_;clear n_;have n_ := aZ_ (below_step HB.out hb);clear HB;have HB := n_;clear n_;obtain ⟨Al,cl,rfl,hlc_,hr_⟩ := Kd.R_reads hq;have HL := aZ_ hr_;have HLc := aZ_ hlc_;clear hr_ hlc_;clear hq;clear hb )
       go_upto_region 36 with (go_at_call 18;refine (impl_TableOfPoints.calls nn Al cl l t1 t2 t3 _ HL.out HLc.out HG.out.tp).mono ?_;rintro e w21 ⟨rfl,hb⟩;have n_ := aZ_ (Kd.Heap.C (Kd.heap_int .u8) hb.block HR.out);clear HR;have HR := n_;clear n_;have n_ := aZ_ (below_step HB.out hb);clear HB;have HB := n_;clear n_;have n_ := aZ_ (Kd.Heap.C (Kd.heap_int .i64) hb.block HL.out);clear HL;have HL := n_;clear n_;clear hb )
       have B1 := aZ_ (blk_new w21 (.cells #[.int .i64 t1,.int .i64 t2] 25 (0,0)))
       have hb := below_alloc (Below.refl w21.heap.size w21) (.cells #[.int .i64 t1,.int .i64 t2] 25 (0,0))
       have n_ := aZ_ (Kd.Heap.C (Kd.heap_int .u8) hb.block HR.out)
       clear HR
       have HR := n_
       clear n_
       have n_ := aZ_ (below_step HB.out hb)
       clear HB
       have HB := n_
       clear n_
       have n_ := aZ_ (Kd.Heap.C (Kd.heap_int .i64) hb.block HL.out)
       clear HL
       have HL := n_
       clear n_
       clear hb
       obtain ⟨g1,hg1_⟩ : ∃ g1,g1 = w21.heap.size := ⟨_,rfl⟩
       rw [← hg1_] at B1 ⊢
       clear hg1_
       generalize w21.alloc (.cells #[.int .i64 t1,.int .i64 t2] 25 (0,0)) = w22 at HR HB HL B1 ⊢
       have hc_B1_0 : w22.cell? ⟨g1,0,none⟩ = some (.int .i64 t1) := (blk_cell B1.out 0).trans rfl
       have hc_B1_1 : w22.cell? ⟨g1,1,none⟩ = some (.int .i64 t2) := (blk_cell B1.out 1).trans rfl
       go_upto_region 37 with (go_at_call 22;refine (spec_TableOfPoints.calls k nn Al cl l t1 t2 t3 _ HL.out HLc.out HG.out.tp2).mono ?_;rintro e w23 ⟨rfl,hb⟩;have n_ := aZ_ (Kd.Heap.C (Kd.heap_int .u8) hb.block HR.out);clear HR;have HR := n_;clear n_;have n_ := aZ_ (below_step HB.out hb);clear HB;have HB := n_;clear n_;have n_ := aZ_ (Kd.Heap.C (Kd.heap_int .i64) hb.block HL.out);clear HL;have HL := n_;clear n_;have n_ := aZ_ (blk_below B1.out hb);clear B1;have B1 := n_;clear n_;clear hb ;clear hc_B1_0 hc_B1_1;have hc_B1_0 : w23.cell? ⟨g1,0,none⟩ = some (.int .i64 t1) := (blk_cell B1.out 0).trans rfl;have hc_B1_1 : w23.cell? ⟨g1,1,none⟩ = some (.int .i64 t2) := (blk_cell B1.out 1).trans rfl)
       clear hc_B1_0 hc_B1_1
       have B2 := aZ_ (blk_new w23 (.cells #[.int .i64 t1,.int .i64 t2] 25 (0,0)))
       have hb := below_alloc (Below.refl w23.heap.size w23) (.cells #[.int .i64 t1,.int .i64 t2] 25 (0,0))
       have n_ := aZ_ (Kd.Heap.C (Kd.heap_int .u8) hb.block HR.out)
       clear HR
       have HR := n_
       clear n_
       have n_ := aZ_ (below_step HB.out hb)
       clear HB
       have HB := n_
       clear n_
       have n_ := aZ_ (Kd.Heap.C (Kd.heap_int .i64) hb.block HL.out)
       clear HL
       have HL := n_
       clear n_
       have n_ := aZ_ (blk_below B1.out hb)
       clear B1
       have B1 := n_
       clear n_
       clear hb
       obtain ⟨g2,hg2_⟩ : ∃ g2,g2 = w23.heap.size := ⟨_,rfl⟩
       rw [← hg2_] at B2 ⊢
       clear hg2_
       generalize w23.alloc (.cells #[.int .i64 t1,.int .i64 t2] 25 (0,0)) = w24 at HR HB HL B1 B2 ⊢
       have hc_B1_0 : w24.cell? ⟨g1,0,none⟩ = some (.int .i64 t1) := (blk_cell B1.out 0).trans rfl
       have hc_B1_1 : w24.cell? ⟨g1,1,none⟩ = some (.int .i64 t2) := (blk_cell B1.out 1).trans rfl
       have hc_B2_0 : w24.cell? ⟨g2,0,none⟩ = some (.int .i64 t1) := (blk_cell B2.out 0).trans rfl
       have hc_B2_1 : w24.cell? ⟨g2,1,none⟩ = some (.int .i64 t2) := (blk_cell B2.out 1).trans rfl
       go_upto_region 38 with (go_at_call 23;refine (spec_DrawCountMonotone.calls k A0 c0 l0 m _ HR.out HC0.out HG.out.dm).mono ?_;rintro e w25 ⟨rfl,hb⟩;have n_ := aZ_ (Kd.Heap.C (Kd.heap_int .u8) hb.block HR.out);clear HR;have HR := n_;clear n_;have n_ := aZ_ (below_step HB.out hb);clear HB;have HB := n_;clear n_;have n_ := aZ_ (Kd.Heap.C (Kd.heap_int .i64) hb.block HL.out);clear HL;have HL := n_;clear n_;have n_ := aZ_ (blk_below B1.out hb);clear B1;have B1 := n_;clear n_;have n_ := aZ_ (blk_below B2.out hb);clear B2;have B2 := n_;clear n_;clear hb ;clear hc_B1_0 hc_B1_1 hc_B2_0 hc_B2_1;have hc_B1_0 : w25.cell? ⟨g1,0,none⟩ = some (.int .i64 t1) := (blk_cell B1.out 0).trans rfl;have hc_B1_1 : w25.cell? ⟨g1,1,none⟩ = some (.int .i64 t2) := (blk_cell B1.out 1).trans rfl;have hc_B2_0 : w25.cell? ⟨g2,0,none⟩ = some (.int .i64 t1) := (blk_cell B2.out 0).trans rfl;have hc_B2_1 : w25.cell? ⟨g2,1,none⟩ = some (.int .i64 t2) := (blk_cell B2.out 1).trans rfl)
       go_upto_region 39 with (go_at_call 24;refine (spec_DrawIsSelfDual.calls k A0 c0 l0 s1 s2 _ HR.out HC0.out HG.out.ds).mono ?_;rintro e w26 ⟨rfl,hb⟩;have n_ := aZ_ (Kd.Heap.C (Kd.heap_int .u8) hb.block HR.out);clear HR;have HR := n_;clear n_;have n_ := aZ_ (below_step HB.out hb);clear HB;have HB := n_;clear n_;have n_ := aZ_ (Kd.Heap.C (Kd.heap_int .i64) hb.block HL.out);clear HL;have HL := n_;clear n_;have n_ := aZ_ (blk_below B1.out hb);clear B1;have B1 := n_;clear n_;have n_ := aZ_ (blk_below B2.out hb);clear B2;have B2 := n_;clear n_;clear hb ;clear hc_B1_0 hc_B1_1 hc_B2_0 hc_B2_1;have hc_B1_0 : w26.cell? ⟨g1,0,none⟩ = some (.int .i64 t1) := (blk_cell B1.out 0).trans rfl;have hc_B1_1 : w26.cell? ⟨g1,1,none⟩ = some (.int .i64 t2) := (blk_cell B1.out 1).trans rfl;have hc_B2_0 : w26.cell? ⟨g2,0,none⟩ = some (.int .i64 t1) := (blk_cell B2.out 0).trans rfl;have hc_B2_1 : w26.cell? ⟨g2,1,none⟩ = some (.int .i64 t2) := (blk_cell B2.out 1).trans rfl)
       clear hc_B1_0 hc_B1_1 hc_B2_0 hc_B2_1
       have B3 := aZ_ (blk_new w26 (.cells #[.int .i64 s1,.int .i64 s2] 25 (0,0)))
       have hb := below_alloc (Below.refl w26.heap.size w26) (.cells #[.int .i64 s1,.int .i64 s2] 25 (0,0))
       have n_ := aZ_ (Kd.Heap.C (Kd.heap_int .u8) hb.block HR.out)
       clear HR
       have HR := n_
       clear n_
       have n_ := aZ_ (below_step HB.out hb)
       clear HB
       have HB := n_
       clear n_
       have n_ := aZ_ (Kd.Heap.C (Kd.heap_int .i64) hb.block HL.out)
       clear HL
       have HL := n_
       clear n_
       have n_ := aZ_ (blk_below B1.out hb)
       clear B1
       have B1 := n_
       clear n_
       have n_ := aZ_ (blk_below B2.out hb)
       clear B2
       have B2 := n_
       clear n_
       clear hb
       obtain ⟨g3,hg3_⟩ : ∃ g3,g3 = w26.heap.size := ⟨_,rfl⟩
       rw [← hg3_] at B3 ⊢
       clear hg3_
       generalize w26.alloc (.cells #[.int .i64 s1,.int .i64 s2] 25 (0,0)) = w27 at HR HB HL B1 B2 B3 ⊢
       have hc_B1_0 : w27.cell? ⟨g1,0,none⟩ = some (.int .i64 t1) := (blk_cell B1.out 0).trans rfl
       have hc_B1_1 : w27.cell? ⟨g1,1,none⟩ = some (.int .i64 t2) := (blk_cell B1.out 1).trans rfl
       have hc_B2_0 : w27.cell? ⟨g2,0,none⟩ = some (.int .i64 t1) := (blk_cell B2.out 0).trans rfl
       have hc_B2_1 : w27.cell? ⟨g2,1,none⟩ = some (.int .i64 t2) := (blk_cell B2.out 1).trans rfl
       have hc_B3_0 : w27.cell? ⟨g3,0,none⟩ = some (.int .i64 s1) := (blk_cell B3.out 0).trans rfl
       have hc_B3_1 : w27.cell? ⟨g3,1,none⟩ = some (.int .i64 s2) := (blk_cell B3.out 1).trans rfl
       have C0 := aZ_ hc_B1_0
       have C1 := aZ_ hc_B1_1
       have C2 := aZ_ hc_B2_0
       have C3 := aZ_ hc_B2_1
       have C4 := aZ_ hc_B3_0
       have C5 := aZ_ hc_B3_1
       clear HR HL HLc B1 B2 B3 hc_B1_0 hc_B1_1 hc_B2_0 hc_B2_1 hc_B3_0 hc_B3_1
       have h_t1 : (t1 == t1) = true := beq_self_eq_true t1
       have h_t2 : (t2 == t2) = true := beq_self_eq_true t2
       have h_t3 : (t3 == t3) = true := beq_self_eq_true t3
       have h_c : (c == c) = true := beq_self_eq_true c
       have h_sx : (sx == sx) = true := beq_self_eq_true sx
       have hb := below_drew (Below.refl w27.heap.size w27)
       have n_ : Aside0 (w27.drew.cell? ⟨g1,0,none⟩ = some (.int .i64 t1)) := ⟨pw_cell_below hb C0.out⟩
       clear C0
       have C0 := n_
       clear n_
       have n_ : Aside0 (w27.drew.cell? ⟨g1,1,none⟩ = some (.int .i64 t2)) := ⟨pw_cell_below hb C1.out⟩
       clear C1
       have C1 := n_
       clear n_
       have n_ : Aside0 (w27.drew.cell? ⟨g2,0,none⟩ = some (.int .i64 t1)) := ⟨pw_cell_below hb C2.out⟩
       clear C2
       have C2 := n_
       clear n_
       have n_ : Aside0 (w27.drew.cell? ⟨g2,1,none⟩ = some (.int .i64 t2)) := ⟨pw_cell_below hb C3.out⟩
       clear C3
       have C3 := n_
       clear n_
       have n_ : Aside0 (w27.drew.cell? ⟨g3,0,none⟩ = some (.int .i64 s1)) := ⟨pw_cell_below hb C4.out⟩
       clear C4
       have C4 := n_
       clear n_
       have n_ : Aside0 (w27.drew.cell? ⟨g3,1,none⟩ = some (.int .i64 s2)) := ⟨pw_cell_below hb C5.out⟩
       clear C5
       have C5 := n_
       clear n_
       have n_ := aZ_ (below_step HB.out hb)
       clear HB
       have HB := n_
       clear n_
       clear hb
       refine start_ (n := 23) (S := (fun w_ => w_.cell? ⟨g1,0,none⟩ = some (.int .i64 t1) ∧ w_.cell? ⟨g1,1,none⟩ = some (.int .i64 t2) ∧ w_.cell? ⟨g2,0,none⟩ = some (.int .i64 t1) ∧ w_.cell? ⟨g2,1,none⟩ = some (.int .i64 t2) ∧ w_.cell? ⟨g3,0,none⟩ = some (.int .i64 s1) ∧ w_.cell? ⟨g3,1,none⟩ = some (.int .i64 s2))) (ds := []) #[false,false,false,false,false,false,false,false,false,false,false,false,false,false,false,false,false,false,false,false,false,false,false] T21_ rfl rfl ⟨C0.out,C1.out,C2.out,C3.out,C4.out,C5.out⟩ (fun hHeld => ?_)
       refine with_tabW laws_FnMonotone.tab39 laws_FnMonotone.bits39 (fun HT_ HW_ => ?_)
       generalize w27.drew = W0_ at C0 C1 C2 C3 C4 C5 HB hHeld ⊢
       refine tZ6_ 0 (some 247) #[true,false,false,false,false,false,false,false,false,false,false,false,false,false,false,false,false,false,false,false,false,false,false] hHeld ?_
       refine tZ6_ 1 (some 248) #[true,true,false,false,false,false,false,false,false,false,false,false,false,false,false,false,false,false,false,false,false,false,false] hHeld ?_
       refine pZ_ 2 (some 249) #[true,true,true,false,false,false,false,false,false,false,false,false,false,false,false,false,false,false,false,false,false,false,false] ?_
       refine pZ_ 3 (some 250) #[true,true,true,true,false,false,false,false,false,false,false,false,false,false,false,false,false,false,false,false,false,false,false] ?_
       refine pZ_ 4 (some 251) #[true,true,true,true,true,false,false,false,false,false,false,false,false,false,false,false,false,false,false,false,false,false,false] ?_
       refine pZ_ 5 (some 252) #[true,true,true,true,true,true,false,false,false,false,false,false,false,false,false,false,false,false,false,false,false,false,false] ?_
       refine pZ_ 6 (some 253) #[true,true,true,true,true,true,true,false,false,false,false,false,false,false,false,false,false,false,false,false,false,false,false] ?_
       refine pZ_ 7 (some 254) #[true,true,true,true,true,true,true,true,false,false,false,false,false,false,false,false,false,false,false,false,false,false,false] ?_
       refine pZ_ 8 (some 255) #[true,true,true,true,true,true,true,true,true,false,false,false,false,false,false,false,false,false,false,false,false,false,false] ?_
       refine pZ_ 9 (some 256) #[true,true,true,true,true,true,true,true,true,true,false,false,false,false,false,false,false,false,false,false,false,false,false] ?_
       refine pZ_ 11 (some 258) #[true,true,true,true,true,true,true,true,true,true,false,true,false,false,false,false,false,false,false,false,false,false,false] ?_
       refine one_ (i := 10) (N := some 257) #[true,true,true,true,true,true,true,true,true,true,true,true,false,false,false,false,false,false,false,false,false,false,false] rfl rfl (one_of HT_.out T21_) T66_ (fun K hK => ?_)
       refine gZ_ Try.func25 #[.int .i64 m] ?_
       with_reducible refine (impl_CountMonotone.calls m c _ HG.out.cm).mono ?_
       rintro e W1_ ⟨rfl,hb⟩
       refine ⟨_,rfl,?_⟩
       have n_ : Aside0 (W1_.cell? ⟨g1,0,none⟩ = some (.int .i64 t1)) := ⟨pw_cell_below hb C0.out⟩
       clear C0
       have C0 := n_
       clear n_
       have n_ : Aside0 (W1_.cell? ⟨g1,1,none⟩ = some (.int .i64 t2)) := ⟨pw_cell_below hb C1.out⟩
       clear C1
       have C1 := n_
       clear n_
       have n_ : Aside0 (W1_.cell? ⟨g2,0,none⟩ = some (.int .i64 t1)) := ⟨pw_cell_below hb C2.out⟩
       clear C2
       have C2 := n_
       clear n_
       have n_ : Aside0 (W1_.cell? ⟨g2,1,none⟩ = some (.int .i64 t2)) := ⟨pw_cell_below hb C3.out⟩
       clear C3
       have C3 := n_
       clear n_
       have n_ : Aside0 (W1_.cell? ⟨g3,0,none⟩ = some (.int .i64 s1)) := ⟨pw_cell_below hb C4.out⟩
       clear C4
       have C4 := n_
       clear n_
       have n_ : Aside0 (W1_.cell? ⟨g3,1,none⟩ = some (.int .i64 s2)) := ⟨pw_cell_below hb C5.out⟩
       clear C5
       have C5 := n_
       clear n_
       have n_ := aZ_ (below_step HB.out hb)
       clear HB
       have HB := n_
       clear n_
       clear hb
       refine hK.out _ _ ⟨C0.out,C1.out,C2.out,C3.out,C4.out,C5.out⟩ (fun hHeld => ?_)
       clear hK K
       refine norm_ (a' := ?_) ?_ ?_
       rotate_left
       ·show Act.put _ (some 257) _ = _
        simp only [Act.put,List.setIfInBounds_toArray,List.set_cons_zero,List.set_cons_succ,i64_w,i32_w]
        rfl
       refine one_ (i := 12) (N := some 259) #[true,true,true,true,true,true,true,true,true,true,true,true,true,false,false,false,false,false,false,false,false,false,false] rfl rfl (one_of HT_.out T21_) T66_ (fun K hK => ?_)
       refine gZ_ Try.func26 #[.int .i64 m] ?_
       with_reducible refine (spec_CountMonotone.calls k m c _ HG.out.cm2).mono ?_
       rintro e W2_ ⟨rfl,hb⟩
       refine ⟨_,rfl,?_⟩
       have n_ : Aside0 (W2_.cell? ⟨g1,0,none⟩ = some (.int .i64 t1)) := ⟨pw_cell_below hb C0.out⟩
       clear C0
       have C0 := n_
       clear n_
       have n_ : Aside0 (W2_.cell? ⟨g1,1,none⟩ = some (.int .i64 t2)) := ⟨pw_cell_below hb C1.out⟩
       clear C1
       have C1 := n_
       clear n_
       have n_ : Aside0 (W2_.cell? ⟨g2,0,none⟩ = some (.int .i64 t1)) := ⟨pw_cell_below hb C2.out⟩
       clear C2
       have C2 := n_
       clear n_
       have n_ : Aside0 (W2_.cell? ⟨g2,1,none⟩ = some (.int .i64 t2)) := ⟨pw_cell_below hb C3.out⟩
       clear C3
       have C3 := n_
       clear n_
       have n_ : Aside0 (W2_.cell? ⟨g3,0,none⟩ = some (.int .i64 s1)) := ⟨pw_cell_below hb C4.out⟩
       clear C4
       have C4 := n_
       clear n_
       have n_ : Aside0 (W2_.cell? ⟨g3,1,none⟩ = some (.int .i64 s2)) := ⟨pw_cell_below hb C5.out⟩
       clear C5
       have C5 := n_
       clear n_
       have n_ := aZ_ (below_step HB.out hb)
       clear HB
       have HB := n_
       clear n_
       clear hb
       refine hK.out _ _ ⟨C0.out,C1.out,C2.out,C3.out,C4.out,C5.out⟩ (fun hHeld => ?_)
       clear hK K
       refine norm_ (a' := ?_) ?_ ?_
       rotate_left
       ·show Act.put _ (some 259) _ = _
        simp only [Act.put,List.setIfInBounds_toArray,List.set_cons_zero,List.set_cons_succ,i64_w,i32_w]
        rfl
       refine pZ_ 13 (some 260) #[true,true,true,true,true,true,true,true,true,true,true,true,true,true,false,false,false,false,false,false,false,false,false] ?_
       refine pZ_ 14 (some 261) #[true,true,true,true,true,true,true,true,true,true,true,true,true,true,true,false,false,false,false,false,false,false,false] ?_
       refine pZ_ 15 (some 262) #[true,true,true,true,true,true,true,true,true,true,true,true,true,true,true,true,false,false,false,false,false,false,false] ?_
       refine tZ6_ 16 (some 263) #[true,true,true,true,true,true,true,true,true,true,true,true,true,true,true,true,true,false,false,false,false,false,false] hHeld ?_
       refine tZ6_ 18 (some 265) #[true,true,true,true,true,true,true,true,true,true,true,true,true,true,true,true,true,false,true,false,false,false,false] hHeld ?_
       refine one_ (i := 17) (N := some 264) #[true,true,true,true,true,true,true,true,true,true,true,true,true,true,true,true,true,true,true,false,false,false,false] rfl rfl (one_of HT_.out T21_) T66_ (fun K hK => ?_)
       refine gZ_ Try.func17 #[.agg #[.int .i64 s1,.int .i64 s2]] ?_
       with_reducible refine (impl_IsSelfDual.calls s1 s2 sx _ HG.out.si).mono ?_
       rintro e W3_ ⟨rfl,hb⟩
       refine ⟨_,rfl,?_⟩
       have n_ : Aside0 (W3_.cell? ⟨g1,0,none⟩ = some (.int .i64 t1)) := ⟨pw_cell_below hb C0.out⟩
       clear C0
       have C0 := n_
       clear n_
       have n_ : Aside0 (W3_.cell? ⟨g1,1,none⟩ = some (.int .i64 t2)) := ⟨pw_cell_below hb C1.out⟩
       clear C1
       have C1 := n_
       clear n_
       have n_ : Aside0 (W3_.cell? ⟨g2,0,none⟩ = some (.int .i64 t1)) := ⟨pw_cell_below hb C2.out⟩
       clear C2
       have C2 := n_
       clear n_
       have n_ : Aside0 (W3_.cell? ⟨g2,1,none⟩ = some (.int .i64 t2)) := ⟨pw_cell_below hb C3.out⟩
       clear C3
       have C3 := n_
       clear n_
       have n_ : Aside0 (W3_.cell? ⟨g3,0,none⟩ = some (.int .i64 s1)) := ⟨pw_cell_below hb C4.out⟩
       clear C4
       have C4 := n_
       clear n_
       have n_ : Aside0 (W3_.cell? ⟨g3,1,none⟩ = some (.int .i64 s2)) := ⟨pw_cell_below hb C5.out⟩
       clear C5
       have C5 := n_
       clear n_
       have n_ := aZ_ (below_step HB.out hb)
       clear HB
       have HB := n_
       clear n_
       clear hb
       refine hK.out _ _ ⟨C0.out,C1.out,C2.out,C3.out,C4.out,C5.out⟩ (fun hHeld => ?_)
       clear hK K
       refine norm_ (a' := ?_) ?_ ?_
       rotate_left
       ·show Act.put _ (some 264) _ = _
        simp only [Act.put,List.setIfInBounds_toArray,List.set_cons_zero,List.set_cons_succ,i64_w,i32_w]
        rfl
       refine one_ (i := 19) (N := some 266) #[true,true,true,true,true,true,true,true,true,true,true,true,true,true,true,true,true,true,true,true,false,false,false] rfl rfl (one_of HT_.out T21_) T66_ (fun K hK => ?_)
       refine gZ_ Try.func27 #[.agg #[.int .i64 s1,.int .i64 s2]] ?_
       with_reducible refine (spec_IsSelfDual.calls k s1 s2 sx _ HG.out.si2).mono ?_
       rintro e W4_ ⟨rfl,hb⟩
       refine ⟨_,rfl,?_⟩
       have n_ : Aside0 (W4_.cell? ⟨g1,0,none⟩ = some (.int .i64 t1)) := ⟨pw_cell_below hb C0.out⟩
       clear C0
       have C0 := n_
       clear n_
       have n_ : Aside0 (W4_.cell? ⟨g1,1,none⟩ = some (.int .i64 t2)) := ⟨pw_cell_below hb C1.out⟩
       clear C1
       have C1 := n_
       clear n_
       have n_ : Aside0 (W4_.cell? ⟨g2,0,none⟩ = some (.int .i64 t1)) := ⟨pw_cell_below hb C2.out⟩
       clear C2
       have C2 := n_
       clear n_
       have n_ : Aside0 (W4_.cell? ⟨g2,1,none⟩ = some (.int .i64 t2)) := ⟨pw_cell_below hb C3.out⟩
       clear C3
       have C3 := n_
       clear n_
       have n_ : Aside0 (W4_.cell? ⟨g3,0,none⟩ = some (.int .i64 s1)) := ⟨pw_cell_below hb C4.out⟩
       clear C4
       have C4 := n_
       clear n_
       have n_ : Aside0 (W4_.cell? ⟨g3,1,none⟩ = some (.int .i64 s2)) := ⟨pw_cell_below hb C5.out⟩
       clear C5
       have C5 := n_
       clear n_
       have n_ := aZ_ (below_step HB.out hb)
       clear HB
       have HB := n_
       clear n_
       clear hb
       refine hK.out _ _ ⟨C0.out,C1.out,C2.out,C3.out,C4.out,C5.out⟩ (fun hHeld => ?_)
       clear hK K
       refine norm_ (a' := ?_) ?_ ?_
       rotate_left
       ·show Act.put _ (some 266) _ = _
        simp only [Act.put,List.setIfInBounds_toArray,List.set_cons_zero,List.set_cons_succ,i64_w,i32_w]
        rfl
       refine pZ_ 20 (some 267) #[true,true,true,true,true,true,true,true,true,true,true,true,true,true,true,true,true,true,true,true,true,false,false] ?_
       refine pZ_ 21 (some 268) #[true,true,true,true,true,true,true,true,true,true,true,true,true,true,true,true,true,true,true,true,true,true,false] ?_
       refine pZ_ 22 (some 2) #[true,true,true,true,true,true,true,true,true,true,true,true,true,true,true,true,true,true,true,true,true,true,true] ?_
       refine done_ (done_of HT_.out T21_) ?_
       clear C0 C1 C2 C3 C4 C5 hHeld HT_ HW_
       go_wp2_with (fail)
       go_ret
       exact ⟨rfl,HB.out⟩
 next => cases h
end Go.Proofs.Ytgojehaneegaeab.F
