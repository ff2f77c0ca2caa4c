/- Walks of Go functions and lemmas on what they compute, for the row of FnLinear (a part of several): each call ends as the Lean function of its name tells; the conditions are those of each theorem. -/
import Derived.Test.YtgojehaneegaeacM1FnLinear
import Derived.Test.YtgojehaneegaeacM2FnLinear
import Derived.Test.YtgojehaneegaeacM3FnLinear
import Derived.Test.YtgojehaneegaeacM4FnLinear
import Derived.Test.YtgojehaneegaeacM5FnLinear
import Derived.Test.YtgojehaneegaeacM7FnLinear
import Derived.Test.YtgojehaneegaeacM8FnLinear
import Derived.Test.YtgojehaneegaeacM9FnLinear
import Derived.Test.YtgojehaneegaeacM10FnLinear
import Derived.Test.YtgojehaneegaeacM11FnLinear
namespace Go.Proofs.Ytgojehaneegaeac.F
open Go.RowKit Go.Proofs.YtgojehaneegaeacW.PrintWords Go.Proofs.YtgojehaneegaeacW.PrintLast Go.Proofs.YtgojehaneegaeacW.PrintMore
attribute [local go_sem] max2_int min2_int max_two min_two max_three min_three max_four min_four 
set_option linter.unusedVariables false
set_option linter.unusedSimpArgs false
structure LinGo (k : Nat) (code : List Int) (f1 f2 : Int) (is tb : Bool) (g1 g2 nu nb nd : Int) (no : Bool) (k1 k2 : Int) (m : List Int) (mo : Bool) (an ax ay p1 p2 : Int) (po : Bool) (r1 r2 rr s1 s2 sk : Int) (sj : Bool) : Prop where
 small : laws_big.f code = some false
 draw : spec_DrawIsAffine.f k code = some (f1,f2)
 ia : impl_IsAffine.f k f1 f2 = some is
 ia2 : spec_IsAffine.f k f1 f2 = some is
 it : spec_IsTable.f f1 f2 = some tb
 lin : tb = true → ∃ q dg v : Int,impl_TestRejects.f k f1 f2 = some q ∧ impl_DegreeMod2.f f1 f2 = some dg ∧ impl_ValueAt.f f1 f2 0 = some v ∧ decide (dg ≤ 1) = is ∧ (q == 0) = (is && (v == 0))
 dn : spec_DrawNearestAffine.f k code = some (g1,g2)
 na : impl_NearestAffine.f k g1 g2 = some (nu,nb,nd,no)
 na2 : spec_NearestAffine.f k g1 g2 = some (nu,nb,nd,no)
 near : no = true → ∃ h2 : Int,impl_AffineTable.f g1 nu nb = some (g1,h2,true) ∧ impl_DistanceBetween.f g1 g2 g1 h2 = some nd ∧ impl_IsAffine.f k g1 h2 = some true
 dl : spec_DrawLinearStructures.f k code = some (k1,k2)
 ls : impl_LinearStructures.f k k1 k2 = some (m,mo)
 ls2 : spec_LinearStructures.f k k1 k2 = some (m,mo)
 mm : laws_sameInts.f k m m = some true
 len : m.length ≤ 64
 sums : mo = true → ∀ i j : Nat,i < m.length → j < i → laws_has.f k m (Go.bits .xor .i64 (rd m (i : Int)) (rd m (j : Int))) = some true
 da : spec_DrawAffineTable.f k code = some (an,ax,ay)
 at1 : impl_AffineTable.f an ax ay = some (p1,p2,po)
 at2 : spec_AffineTable.f k an ax ay = some (p1,p2,po)
 dt : spec_DrawTestRejects.f k code = some (r1,r2)
 tr : impl_TestRejects.f k r1 r2 = some rr
 tr2 : spec_TestRejects.f k r1 r2 = some rr
 dj : spec_DrawIsJunta.f k code = some (s1,s2,sk)
 ij : impl_IsJunta.f k s1 s2 sk = some sj
 ij2 : spec_IsJunta.f k s1 s2 sk = some sj
def laws_FnLinear.T32 : Bool × List (List Nat × List Nat) := (true,[([],[]),([],[]),([],[]),([1,2],[1,2]),([3],[3]),([],[]),([],[]),([5,6],[5,6]),([7],[7]),([4,8],[4,8]),([0,9],[0,9]),([10],[10])])
def laws_FnLinear.B32 : List Nat := [0,0,0,6,14,0,0,96,224,510,1023,2047]
theorem laws_FnLinear.tab32 : rtab .any (opsOf Try.f3 32) = laws_FnLinear.T32 := by kernel_rfl
theorem laws_FnLinear.bits32 : waitsOk laws_FnLinear.T32.2 laws_FnLinear.B32 = true := by kernel_rfl
def laws_FnLinear.T39 : Bool × List (List Nat × List Nat) := (true,[([],[]),([],[]),([0,1],[0,1]),([2],[2]),([3],[3]),([3],[3]),([4,5,3],[3,4,5]),([3,6],[3,6]),([7,3],[7]),([8],[8]),([9,8,8],[8,9]),([8],[8]),([11,10,8],[8,11]),([10,12,8],[8,10,12]),([8,13],[8,13]),([14,12],[14]),([15],[15]),([15],[15]),([16,17,15,15],[15,16,17]),([15],[15]),([15],[15]),([19,20,18,15],[15,19,20]),([18,21,15],[15,18,21]),([15,22],[15,22]),([23,21,0,1,2,3,4,5,6,7,8,9,10,11,12,13,14,15,16,17,18,19,20,21,22,23],[23])])
def laws_FnLinear.B39 : List Nat := [0,0,3,7,15,15,63,127,255,511,1023,511,4095,8191,16383,32767,65535,65535,262143,65535,65535,2097151,4194303,8388607,16777215]
theorem laws_FnLinear.tab39 : rtab .any (opsOf Try.f3 39) = laws_FnLinear.T39 := by kernel_rfl
theorem laws_FnLinear.bits39 : waitsOk laws_FnLinear.T39.2 laws_FnLinear.B39 = true := by kernel_rfl
open Classical in
noncomputable def laws_FnLinear.f (k : Nat) (code : List Int) : Option Bool :=
 if laws_big.f code = some true ∨ ∃ f1 f2 is tb g1 g2 nu nb nd no k1 k2 m mo an ax ay p1 p2 po r1 r2 rr s1 s2 sk sj,LinGo k code f1 f2 is tb g1 g2 nu nb nd no k1 k2 m mo an ax ay p1 p2 po r1 r2 rr s1 s2 sk sj then some true else none
set_option maxHeartbeats 8000000 in
set_option maxRecDepth 100000 in
theorem laws_FnLinear.calls (k : Nat) (A0 : Option Addr) (c0 : Nat) (l0 : List Int) (r : Bool) (w : World) (hr0 : Kd.C (Kd.int .u8) w A0 l0.length l0) (hc0 : l0.length ≤ c0) (h : laws_FnLinear.f k l0 = some r) :
  Calls Try.prog 3 #[.slice A0 l0.length c0] w fun e w' => e = .returned (.bool r) ∧ Below w.heap.size w w' := by
 have hut := Try.underlying25
 unfold laws_FnLinear.f at h
 split at h
 next hgo =>
  cases h
  rcases hgo with hbig | ⟨f1,f2,is,tb,g1,g2,nu,nb,nd,no,k1,k2,m,mo,an,ax,ay,p1,p2,po,r1,r2,rr,s1,s2,sk,sj,G⟩
  ·have HB := aZ_ hbig
   clear hbig
   go_enter Try.func3,Try.ntmps3
   go_wp2_with (go_at_call 4;refine (laws_big.calls A0 c0 l0 true _ hr0 hc0 HB.out).mono ?_;rintro e w1 ⟨rfl,⟨nd_,rfl⟩⟩)
   go_ret
   exact ⟨rfl,pw_below_drewN (Below.refl _ _) _⟩
  ·have HG := aZ_ G
   have HR := aZ_ hr0
   have HC0 := aZ_ hc0
   have HB := aZ_ (Below.refl w.heap.size w)
   clear G hr0 hc0
   go_enter Try.func3,Try.ntmps3
   go_upto_region 3 with (go_at_call 4;refine (laws_big.calls A0 c0 l0 false _ HR.out HC0.out HG.out.small).mono ?_;rintro e w1 ⟨rfl,hd⟩;have hb := hd.below;clear hd;have n_ := aZ_ (Kd.Heap.C (Kd.heap_int .u8) hb.block HR.out);clear HR;have HR := n_;clear n_;have n_ := aZ_ (below_step HB.out hb);clear HB;have HB := n_;clear n_;clear hb )
   go_upto_region 4 with (go_at_call 5;refine (spec_DrawIsAffine.calls k A0 c0 l0 f1 f2 _ HR.out HC0.out HG.out.draw).mono ?_;rintro e w2 ⟨rfl,hb⟩;have n_ := aZ_ (Kd.Heap.C (Kd.heap_int .u8) hb.block HR.out);clear HR;have HR := n_;clear n_;have n_ := aZ_ (below_step HB.out hb);clear HB;have HB := n_;clear n_;clear hb )
   have BF := aZ_ (blk_new w2 (.cells #[.int .i64 f1,.int .i64 f2] 25 (0,0)))
   have hb := below_alloc (Below.refl w2.heap.size w2) (.cells #[.int .i64 f1,.int .i64 f2] 25 (0,0))
   have n_ := aZ_ (Kd.Heap.C (Kd.heap_int .u8) hb.block HR.out)
   clear HR
   have HR := n_
   clear n_
   have n_ := aZ_ (below_step HB.out hb)
   clear HB
   have HB := n_
   clear n_
   clear hb
   obtain ⟨gf,hgf_⟩ : ∃ gf,gf = w2.heap.size := ⟨_,rfl⟩
   rw [← hgf_] at BF ⊢
   clear hgf_
   generalize w2.alloc (.cells #[.int .i64 f1,.int .i64 f2] 25 (0,0)) = w3 at HR HB BF ⊢
   have hc_BF_0 : w3.cell? ⟨gf,0,none⟩ = some (.int .i64 f1) := (blk_cell BF.out 0).trans rfl
   have hc_BF_1 : w3.cell? ⟨gf,1,none⟩ = some (.int .i64 f2) := (blk_cell BF.out 1).trans rfl
   go_upto_region 5 with (go_at_call 6;refine (impl_IsAffine.calls k f1 f2 is _ HG.out.ia).mono ?_;rintro e w4 ⟨rfl,hb⟩;have n_ := aZ_ (Kd.Heap.C (Kd.heap_int .u8) hb.block HR.out);clear HR;have HR := n_;clear n_;have n_ := aZ_ (below_step HB.out hb);clear HB;have HB := n_;clear n_;have n_ := aZ_ (blk_below BF.out hb);clear BF;have BF := n_;clear n_;clear hb ;clear hc_BF_0 hc_BF_1;have hc_BF_0 : w4.cell? ⟨gf,0,none⟩ = some (.int .i64 f1) := (blk_cell BF.out 0).trans rfl;have hc_BF_1 : w4.cell? ⟨gf,1,none⟩ = some (.int .i64 f2) := (blk_cell BF.out 1).trans rfl)
   have h_is : (is != is) = false := bne_self_eq_false is
   go_upto_region 7 with (go_at_call 7;refine (spec_IsAffine.calls k f1 f2 is _ HG.out.ia2).mono ?_;rintro e w5 ⟨rfl,hb⟩;have n_ := aZ_ (Kd.Heap.C (Kd.heap_int .u8) hb.block HR.out);clear HR;have HR := n_;clear n_;have n_ := aZ_ (below_step HB.out hb);clear HB;have HB := n_;clear n_;have n_ := aZ_ (blk_below BF.out hb);clear BF;have BF := n_;clear n_;clear hb ;clear hc_BF_0 hc_BF_1;have hc_BF_0 : w5.cell? ⟨gf,0,none⟩ = some (.int .i64 f1) := (blk_cell BF.out 0).trans rfl;have hc_BF_1 : w5.cell? ⟨gf,1,none⟩ = some (.int .i64 f2) := (blk_cell BF.out 1).trans rfl)
   clear h_is
   go_upto_if 45 with (go_at_call 8;refine (spec_IsTable.calls f1 f2 tb _ HG.out.it).mono ?_;rintro e w6 ⟨rfl,hb⟩;have n_ := aZ_ (Kd.Heap.C (Kd.heap_int .u8) hb.block HR.out);clear HR;have HR := n_;clear n_;have n_ := aZ_ (below_step HB.out hb);clear HB;have HB := n_;clear n_;have n_ := aZ_ (blk_below BF.out hb);clear BF;have BF := n_;clear n_;clear hb ;clear hc_BF_0 hc_BF_1;have hc_BF_0 : w6.cell? ⟨gf,0,none⟩ = some (.int .i64 f1) := (blk_cell BF.out 0).trans rfl;have hc_BF_1 : w6.cell? ⟨gf,1,none⟩ = some (.int .i64 f2) := (blk_cell BF.out 1).trans rfl)
   go_cut [] (fun wx => Aside0 (Kd.C (Kd.int .u8) wx A0 l0.length l0) ∧ Aside0 (Below w.heap.size w wx))
   case first =>
    as_aux_lemma =>
     cases tb
     case false =>
      go_wp2_with (fail)
      go_meet
      exact ⟨HR,HB⟩
     case true =>
      obtain ⟨q,dg,v,hq1,hq2,hq3,hq4,hq5⟩ := HG.out.lin rfl
      have HQ1 := aZ_ hq1
      have HQ2 := aZ_ hq2
      have HQ3 := aZ_ hq3
      clear hq1 hq2 hq3
      go_upto_region 9 with (go_at_call 9;refine (impl_TestRejects.calls k f1 f2 q _ HQ1.out).mono ?_;rintro e w7 ⟨rfl,hb⟩;have n_ := aZ_ (Kd.Heap.C (Kd.heap_int .u8) hb.block HR.out);clear HR;have HR := n_;clear n_;have n_ := aZ_ (below_step HB.out hb);clear HB;have HB := n_;clear n_;have n_ := aZ_ (blk_below BF.out hb);clear BF;have BF := n_;clear n_;clear hb ;clear hc_BF_0 hc_BF_1;have hc_BF_0 : w7.cell? ⟨gf,0,none⟩ = some (.int .i64 f1) := (blk_cell BF.out 0).trans rfl;have hc_BF_1 : w7.cell? ⟨gf,1,none⟩ = some (.int .i64 f2) := (blk_cell BF.out 1).trans rfl)
      cases is
      case false =>
       rw [Bool.false_and] at hq5
       have hq6 : decide (q = 0) = false := decide_eq_false (beq_eq_false_iff_ne.mp hq5)
       go_wp2_with (go_at_call 10;refine (impl_DegreeMod2.calls f1 f2 dg _ HQ2.out).mono ?_;rintro e w8 ⟨rfl,hb⟩;have n_ := aZ_ (Kd.Heap.C (Kd.heap_int .u8) hb.block HR.out);clear HR;have HR := n_;clear n_;have n_ := aZ_ (below_step HB.out hb);clear HB;have HB := n_;clear n_;have n_ := aZ_ (blk_below BF.out hb);clear BF;have BF := n_;clear n_;clear hb ;clear hc_BF_0 hc_BF_1;have hc_BF_0 : w8.cell? ⟨gf,0,none⟩ = some (.int .i64 f1) := (blk_cell BF.out 0).trans rfl;have hc_BF_1 : w8.cell? ⟨gf,1,none⟩ = some (.int .i64 f2) := (blk_cell BF.out 1).trans rfl)
       go_meet
       exact ⟨HR,HB⟩
      case true =>
       rw [Bool.true_and] at hq5
       by_cases hv : v = 0
       case pos =>
        have hv1 : (v == 0) = true := beq_iff_eq.mpr hv
        rw [hv1] at hq5
        have hq6 : decide (q = 0) = true := decide_eq_true (beq_iff_eq.mp hq5)
        have hv2 : decide (v = 0) = true := decide_eq_true hv
        clear hv
        go_wp2_with (first | (go_at_call 10;refine (impl_DegreeMod2.calls f1 f2 dg _ HQ2.out).mono ?_;rintro e w8 ⟨rfl,hb⟩;have n_ := aZ_ (Kd.Heap.C (Kd.heap_int .u8) hb.block HR.out);clear HR;have HR := n_;clear n_;have n_ := aZ_ (below_step HB.out hb);clear HB;have HB := n_;clear n_;have n_ := aZ_ (blk_below BF.out hb);clear BF;have BF := n_;clear n_;clear hb ;clear hc_BF_0 hc_BF_1;have hc_BF_0 : w8.cell? ⟨gf,0,none⟩ = some (.int .i64 f1) := (blk_cell BF.out 0).trans rfl;have hc_BF_1 : w8.cell? ⟨gf,1,none⟩ = some (.int .i64 f2) := (blk_cell BF.out 1).trans rfl) | (go_at_call 11;refine (impl_ValueAt.calls f1 f2 0 v _ HQ3.out).mono ?_;rintro e w9 ⟨rfl,hb⟩;have n_ := aZ_ (Kd.Heap.C (Kd.heap_int .u8) hb.block HR.out);clear HR;have HR := n_;clear n_;have n_ := aZ_ (below_step HB.out hb);clear HB;have HB := n_;clear n_;have n_ := aZ_ (blk_below BF.out hb);clear BF;have BF := n_;clear n_;clear hb ;clear hc_BF_0 hc_BF_1;have hc_BF_0 : w9.cell? ⟨gf,0,none⟩ = some (.int .i64 f1) := (blk_cell BF.out 0).trans rfl;have hc_BF_1 : w9.cell? ⟨gf,1,none⟩ = some (.int .i64 f2) := (blk_cell BF.out 1).trans rfl))
        go_meet
        exact ⟨HR,HB⟩
       case neg =>
        have hv1 : (v == 0) = false := beq_eq_false_iff_ne.mpr hv
        rw [hv1] at hq5
        have hq6 : decide (q = 0) = false := decide_eq_false (beq_eq_false_iff_ne.mp hq5)
        have hv2 : decide (v = 0) = false := decide_eq_false hv
        clear hv
        go_wp2_with (first | (go_at_call 10;refine (impl_DegreeMod2.calls f1 f2 dg _ HQ2.out).mono ?_;rintro e w8 ⟨rfl,hb⟩;have n_ := aZ_ (Kd.Heap.C (Kd.heap_int .u8) hb.block HR.out);clear HR;have HR := n_;clear n_;have n_ := aZ_ (below_step HB.out hb);clear HB;have HB := n_;clear n_;have n_ := aZ_ (blk_below BF.out hb);clear BF;have BF := n_;clear n_;clear hb ;clear hc_BF_0 hc_BF_1;have hc_BF_0 : w8.cell? ⟨gf,0,none⟩ = some (.int .i64 f1) := (blk_cell BF.out 0).trans rfl;have hc_BF_1 : w8.cell? ⟨gf,1,none⟩ = some (.int .i64 f2) := (blk_cell BF.out 1).trans rfl) | (go_at_call 11;refine (impl_ValueAt.calls f1 f2 0 v _ HQ3.out).mono ?_;rintro e w9 ⟨rfl,hb⟩;have n_ := aZ_ (Kd.Heap.C (Kd.heap_int .u8) hb.block HR.out);clear HR;have HR := n_;clear n_;have n_ := aZ_ (below_step HB.out hb);clear HB;have HB := n_;clear n_;have n_ := aZ_ (blk_below BF.out hb);clear BF;have BF := n_;clear n_;clear hb ;clear hc_BF_0 hc_BF_1;have hc_BF_0 : w9.cell? ⟨gf,0,none⟩ = some (.int .i64 f1) := (blk_cell BF.out 0).trans rfl;have hc_BF_1 : w9.cell? ⟨gf,1,none⟩ = some (.int .i64 f2) := (blk_cell BF.out 1).trans rfl))
        go_meet
        exact ⟨HR,HB⟩
   case rest =>
    clear HR HB BF hc_BF_0 hc_BF_1
    obtain ⟨HR,HB⟩ := hcut
    go_upto_region 12 with (go_at_call 12;refine (spec_DrawNearestAffine.calls k A0 c0 l0 g1 g2 _ HR.out HC0.out HG.out.dn).mono ?_;rintro e w7 ⟨rfl,hb⟩;have n_ := aZ_ (Kd.Heap.C (Kd.heap_int .u8) hb.block HR.out);clear HR;have HR := n_;clear n_;have n_ := aZ_ (below_step HB.out hb);clear HB;have HB := n_;clear n_;clear hb )
    have BG := aZ_ (blk_new w7 (.cells #[.int .i64 g1,.int .i64 g2] 25 (0,0)))
    have hb := below_alloc (Below.refl w7.heap.size w7) (.cells #[.int .i64 g1,.int .i64 g2] 25 (0,0))
    have n_ := aZ_ (Kd.Heap.C (Kd.heap_int .u8) hb.block HR.out)
    clear HR
    have HR := n_
    clear n_
    have n_ := aZ_ (below_step HB.out hb)
    clear HB
    have HB := n_
    clear n_
    clear hb
    obtain ⟨gg,hgg_⟩ : ∃ gg,gg = w7.heap.size := ⟨_,rfl⟩
    rw [← hgg_] at BG ⊢
    clear hgg_
    generalize w7.alloc (.cells #[.int .i64 g1,.int .i64 g2] 25 (0,0)) = w8 at HR HB BG ⊢
    have hc_BG_0 : w8.cell? ⟨gg,0,none⟩ = some (.int .i64 g1) := (blk_cell BG.out 0).trans rfl
    have hc_BG_1 : w8.cell? ⟨gg,1,none⟩ = some (.int .i64 g2) := (blk_cell BG.out 1).trans rfl
    go_upto_region 13 with (go_at_call 13;refine (impl_NearestAffine.calls k g1 g2 nu nb nd no _ HG.out.na).mono ?_;rintro e w9 ⟨rfl,hb⟩;have n_ := aZ_ (Kd.Heap.C (Kd.heap_int .u8) hb.block HR.out);clear HR;have HR := n_;clear n_;have n_ := aZ_ (below_step HB.out hb);clear HB;have HB := n_;clear n_;have n_ := aZ_ (blk_below BG.out hb);clear BG;have BG := n_;clear n_;clear hb ;clear hc_BG_0 hc_BG_1;have hc_BG_0 : w9.cell? ⟨gg,0,none⟩ = some (.int .i64 g1) := (blk_cell BG.out 0).trans rfl;have hc_BG_1 : w9.cell? ⟨gg,1,none⟩ = some (.int .i64 g2) := (blk_cell BG.out 1).trans rfl)
    go_upto_region 14 with (go_at_call 14;refine (spec_NearestAffine.calls k g1 g2 nu nb nd no _ HG.out.na2).mono ?_;rintro e w10 ⟨rfl,hb⟩;have n_ := aZ_ (Kd.Heap.C (Kd.heap_int .u8) hb.block HR.out);clear HR;have HR := n_;clear n_;have n_ := aZ_ (below_step HB.out hb);clear HB;have HB := n_;clear n_;have n_ := aZ_ (blk_below BG.out hb);clear BG;have BG := n_;clear n_;clear hb ;clear hc_BG_0 hc_BG_1;have hc_BG_0 : w10.cell? ⟨gg,0,none⟩ = some (.int .i64 g1) := (blk_cell BG.out 0).trans rfl;have hc_BG_1 : w10.cell? ⟨gg,1,none⟩ = some (.int .i64 g2) := (blk_cell BG.out 1).trans rfl)
    have h_nu : (nu != nu) = false := bne_self_eq_false nu
    have h_nb : (nb != nb) = false := bne_self_eq_false nb
    have h_nd : (nd != nd) = false := bne_self_eq_false nd
    have h_no : (no != no) = false := bne_self_eq_false no
    go_upto_if 98 with (fail)
    clear h_nu h_nb h_no
    go_cut [] (fun wx => Aside0 (Kd.C (Kd.int .u8) wx A0 l0.length l0) ∧ Aside0 (Below w.heap.size w wx))
    case first =>
     as_aux_lemma =>
      cases no
      case false =>
       go_wp2_with (fail)
       go_meet
       exact ⟨HR,HB⟩
      case true =>
       obtain ⟨h2,hq1,hq2,hq3⟩ := HG.out.near rfl
       have HQ1 := aZ_ hq1
       have HQ2 := aZ_ hq2
       have HQ3 := aZ_ hq3
       clear hq1 hq2 hq3
       go_upto_region 18 with (go_at_call 15;refine (impl_AffineTable.calls g1 nu nb g1 h2 true _ HQ1.out).mono ?_;rintro e w11 ⟨rfl,hb⟩;have n_ := aZ_ (Kd.Heap.C (Kd.heap_int .u8) hb.block HR.out);clear HR;have HR := n_;clear n_;have n_ := aZ_ (below_step HB.out hb);clear HB;have HB := n_;clear n_;have n_ := aZ_ (blk_below BG.out hb);clear BG;have BG := n_;clear n_;clear hb ;clear hc_BG_0 hc_BG_1;have hc_BG_0 : w11.cell? ⟨gg,0,none⟩ = some (.int .i64 g1) := (blk_cell BG.out 0).trans rfl;have hc_BG_1 : w11.cell? ⟨gg,1,none⟩ = some (.int .i64 g2) := (blk_cell BG.out 1).trans rfl)
       clear hc_BG_0 hc_BG_1
       have BH := aZ_ (blk_new w11 (.cells #[.int .i64 g1,.int .i64 h2] 25 (0,0)))
       have hb := below_alloc (Below.refl w11.heap.size w11) (.cells #[.int .i64 g1,.int .i64 h2] 25 (0,0))
       have n_ := aZ_ (Kd.Heap.C (Kd.heap_int .u8) hb.block HR.out)
       clear HR
       have HR := n_
       clear n_
       have n_ := aZ_ (below_step HB.out hb)
       clear HB
       have HB := n_
       clear n_
       have n_ := aZ_ (blk_below BG.out hb)
       clear BG
       have BG := n_
       clear n_
       clear hb
       obtain ⟨gh,hgh_⟩ : ∃ gh,gh = w11.heap.size := ⟨_,rfl⟩
       rw [← hgh_] at BH ⊢
       clear hgh_
       generalize w11.alloc (.cells #[.int .i64 g1,.int .i64 h2] 25 (0,0)) = w12 at HR HB BG BH ⊢
       have hc_BG_0 : w12.cell? ⟨gg,0,none⟩ = some (.int .i64 g1) := (blk_cell BG.out 0).trans rfl
       have hc_BG_1 : w12.cell? ⟨gg,1,none⟩ = some (.int .i64 g2) := (blk_cell BG.out 1).trans rfl
       have hc_BH_0 : w12.cell? ⟨gh,0,none⟩ = some (.int .i64 g1) := (blk_cell BH.out 0).trans rfl
       have hc_BH_1 : w12.cell? ⟨gh,1,none⟩ = some (.int .i64 h2) := (blk_cell BH.out 1).trans rfl
       go_wp2_with (first | (go_at_call 16;refine (impl_DistanceBetween.calls g1 g2 g1 h2 nd _ HQ2.out).mono ?_;rintro e w13 ⟨rfl,hb⟩;have n_ := aZ_ (Kd.Heap.C (Kd.heap_int .u8) hb.block HR.out);clear HR;have HR := n_;clear n_;have n_ := aZ_ (below_step HB.out hb);clear HB;have HB := n_;clear n_;have n_ := aZ_ (blk_below BG.out hb);clear BG;have BG := n_;clear n_;have n_ := aZ_ (blk_below BH.out hb);clear BH;have BH := n_;clear n_;clear hb ;clear hc_BG_0 hc_BG_1 hc_BH_0 hc_BH_1;have hc_BG_0 : w13.cell? ⟨gg,0,none⟩ = some (.int .i64 g1) := (blk_cell BG.out 0).trans rfl;have hc_BG_1 : w13.cell? ⟨gg,1,none⟩ = some (.int .i64 g2) := (blk_cell BG.out 1).trans rfl;have hc_BH_0 : w13.cell? ⟨gh,0,none⟩ = some (.int .i64 g1) := (blk_cell BH.out 0).trans rfl;have hc_BH_1 : w13.cell? ⟨gh,1,none⟩ = some (.int .i64 h2) := (blk_cell BH.out 1).trans rfl) | (go_at_call 6;refine (impl_IsAffine.calls k g1 h2 true _ HQ3.out).mono ?_;rintro e w14 ⟨rfl,hb⟩;have n_ := aZ_ (Kd.Heap.C (Kd.heap_int .u8) hb.block HR.out);clear HR;have HR := n_;clear n_;have n_ := aZ_ (below_step HB.out hb);clear HB;have HB := n_;clear n_;have n_ := aZ_ (blk_below BG.out hb);clear BG;have BG := n_;clear n_;have n_ := aZ_ (blk_below BH.out hb);clear BH;have BH := n_;clear n_;clear hb ;clear hc_BG_0 hc_BG_1 hc_BH_0 hc_BH_1;have hc_BG_0 : w14.cell? ⟨gg,0,none⟩ = some (.int .i64 g1) := (blk_cell BG.out 0).trans rfl;have hc_BG_1 : w14.cell? ⟨gg,1,none⟩ = some (.int .i64 g2) := (blk_cell BG.out 1).trans rfl;have hc_BH_0 : w14.cell? ⟨gh,0,none⟩ = some (.int .i64 g1) := (blk_cell BH.out 0).trans rfl;have hc_BH_1 : w14.cell? ⟨gh,1,none⟩ = some (.int .i64 h2) := (blk_cell BH.out 1).trans rfl))
       go_meet
       exact ⟨HR,HB⟩
    case rest =>
     clear HR HB BG h_nd hc_BG_0 hc_BG_1
     obtain ⟨HR,HB⟩ := hcut
     go_upto_region 21 with (go_at_call 17;refine (spec_DrawLinearStructures.calls k A0 c0 l0 k1 k2 _ HR.out HC0.out HG.out.dl).mono ?_;rintro e w11 ⟨rfl,hb⟩;have n_ := aZ_ (Kd.Heap.C (Kd.heap_int .u8) hb.block HR.out);clear HR;have HR := n_;clear n_;have n_ := aZ_ (below_step HB.out hb);clear HB;have HB := n_;clear n_;clear hb )
     have BK := aZ_ (blk_new w11 (.cells #[.int .i64 k1,.int .i64 k2] 25 (0,0)))
     have hb := below_alloc (Below.refl w11.heap.size w11) (.cells #[.int .i64 k1,.int .i64 k2] 25 (0,0))
     have n_ := aZ_ (Kd.Heap.C (Kd.heap_int .u8) hb.block HR.out)
     clear HR
     have HR := n_
     clear n_
     have n_ := aZ_ (below_step HB.out hb)
     clear HB
     have HB := n_
     clear n_
     clear hb
     obtain ⟨gk,hgk_⟩ : ∃ gk,gk = w11.heap.size := ⟨_,rfl⟩
     rw [← hgk_] at BK ⊢
     clear hgk_
     generalize w11.alloc (.cells #[.int .i64 k1,.int .i64 k2] 25 (0,0)) = w12 at HR HB BK ⊢
     have hc_BK_0 : w12.cell? ⟨gk,0,none⟩ = some (.int .i64 k1) := (blk_cell BK.out 0).trans rfl
     have hc_BK_1 : w12.cell? ⟨gk,1,none⟩ = some (.int .i64 k2) := (blk_cell BK.out 1).trans rfl
     go_upto_region 22 with (go_at_call 18;refine (impl_LinearStructures.calls k k1 k2 m mo _ HG.out.ls).mono ?_;rintro e w13 ⟨vq,rfl,hq,hb⟩;have n_ := aZ_ (Kd.Heap.C (Kd.heap_int .u8) hb.block HR.out);clear HR;have HR := n_;clear n_;have n_ := aZ_ (below_step HB.out hb);clear HB;have HB := n_;clear n_;have n_ := aZ_ (blk_below BK.out hb);clear BK;have BK := n_;clear n_;obtain ⟨Al,cl,rfl,hlc_,hr_⟩ := Kd.R_reads hq;have HL := aZ_ hr_;have HLc := aZ_ hlc_;clear hr_ hlc_;clear hq;clear hb ;clear hc_BK_0 hc_BK_1;have hc_BK_0 : w13.cell? ⟨gk,0,none⟩ = some (.int .i64 k1) := (blk_cell BK.out 0).trans rfl;have hc_BK_1 : w13.cell? ⟨gk,1,none⟩ = some (.int .i64 k2) := (blk_cell BK.out 1).trans rfl)
     go_upto_region 23 with (go_at_call 19;refine (spec_LinearStructures.calls k k1 k2 m mo _ HG.out.ls2).mono ?_;rintro e w14 ⟨vq,rfl,hq,hb⟩;have n_ := aZ_ (Kd.Heap.C (Kd.heap_int .u8) hb.block HR.out);clear HR;have HR := n_;clear n_;have n_ := aZ_ (below_step HB.out hb);clear HB;have HB := n_;clear n_;have n_ := aZ_ (blk_below BK.out hb);clear BK;have BK := n_;clear n_;have n_ := aZ_ (Kd.Heap.C (Kd.heap_int .i64) hb.block HL.out);clear HL;have HL := n_;clear n_;obtain ⟨Am,cm,rfl,hlc_,hr_⟩ := Kd.R_reads hq;have HM := aZ_ hr_;have HMc := aZ_ hlc_;clear hr_ hlc_;clear hq;clear hb ;clear hc_BK_0 hc_BK_1;have hc_BK_0 : w14.cell? ⟨gk,0,none⟩ = some (.int .i64 k1) := (blk_cell BK.out 0).trans rfl;have hc_BK_1 : w14.cell? ⟨gk,1,none⟩ = some (.int .i64 k2) := (blk_cell BK.out 1).trans rfl)
     clear BK hc_BK_0 hc_BK_1
     have h_mo : (mo != mo) = false := bne_self_eq_false mo
     go_upto_if 142 with (go_at_call 20;refine (laws_sameInts.calls k Al cl m Am cm m true _ HL.out HLc.out HM.out HMc.out HG.out.mm).mono ?_;rintro e w15 ⟨rfl,hd⟩;have hb := hd.below;clear hd;have n_ := aZ_ (Kd.Heap.C (Kd.heap_int .u8) hb.block HR.out);clear HR;have HR := n_;clear n_;have n_ := aZ_ (below_step HB.out hb);clear HB;have HB := n_;clear n_;have n_ := aZ_ (Kd.Heap.C (Kd.heap_int .i64) hb.block HL.out);clear HL;have HL := n_;clear n_;have n_ := aZ_ (Kd.Heap.C (Kd.heap_int .i64) hb.block HM.out);clear HM;have HM := n_;clear n_;clear hb )
     clear h_mo HL HLc
     go_cut [] (fun wx => Aside0 (Kd.C (Kd.int .u8) wx A0 l0.length l0) ∧ Aside0 (Below w.heap.size w wx))
     case first =>
      as_aux_lemma =>
       cases mo
       case false =>
        go_wp2_with (fail)
        go_meet
        exact ⟨HR,HB⟩
       case true =>
        have HSU := aZ_ (HG.out.sums rfl)
        have HLN := aZ_ HG.out.len
        go_wp2_with (fail)
        go_loopg [22,23] m.length (fun gg v22 v23 wr => ∃ e : Nat,e ≤ m.length ∧ m.length - e ≤ gg ∧ v22 = .int .i64 (e : Int) ∧ Aside0 (Kd.C (Kd.int .u8) wr A0 l0.length l0) ∧ Aside0 (Below w.heap.size w wr) ∧ Aside0 (Kd.C (Kd.int .i64) wr Am m.length m))
        case atStart => exact ⟨0,Nat.zero_le _,by omega,rfl,HR,HB,HM⟩
        case round =>
         clear HR HB HM
         obtain ⟨e,he,hg,rfl,HR,HB,HM⟩ := hrel
         by_cases hlt : e < m.length
         case pos =>
          have hltz : (e : Int) < (m.length : Int) := by omega
          have h0z : (0 : Int) ≤ (e : Int) := by omega
          have HE := aZ_ (And.intro hlt (And.intro hg HLN.out))
          clear hlt hg he
          go_wp2_with (fail)
          go_loopg [23] e (fun g2 v23 wq => ∃ j : Nat,j ≤ e ∧ e - j ≤ g2 ∧ v23 = .int .i64 (j : Int) ∧ Aside0 (Kd.C (Kd.int .u8) wq A0 l0.length l0) ∧ Aside0 (Below w.heap.size w wq) ∧ Aside0 (Kd.C (Kd.int .i64) wq Am m.length m))
          case atStart => exact ⟨0,Nat.zero_le _,by omega,rfl,HR,HB,HM⟩
          case round =>
           clear HR HB HM
           obtain ⟨j,hj,hg2,rfl,HR,HB,HM⟩ := hrel
           by_cases hlt2 : j < e
           case pos =>
            have hltz2 : (j : Int) < (e : Int) := by omega
            have h0z2 : (0 : Int) ≤ (j : Int) := by omega
            have hltz3 : (j : Int) < (m.length : Int) := by omega
            have HV := aZ_ (HSU.out e j HE.out.1 hlt2)
            have HJ := aZ_ (And.intro hlt2 hg2)
            obtain ⟨am,rfl,hc0⟩ := Kd.at_int HM.out (e : Int) h0z hltz
            obtain ⟨a2_,e2_,hc1⟩ := Kd.at_int HM.out (j : Int) h0z2 hltz3
            obtain rfl : am = a2_ := by injection e2_
            clear e2_
            rw [Int.toNat_natCast] at hc0 hc1
            have C0 := aZ_ hc0
            have C1 := aZ_ hc1
            clear hc0 hc1 hlt2 hg2 hj
            go_upto_region 32 with (fail)
            have hb := below_drew (Below.refl wr.heap.size wr)
            have n_ : Aside0 (wr.drew.cell? (am.add e) = some (.int .i64 (rd m (e : Int)))) := ⟨pw_cell_below hb C0.out⟩
            clear C0
            have C0 := n_
            clear n_
            have n_ : Aside0 (wr.drew.cell? (am.add j) = some (.int .i64 (rd m (j : Int)))) := ⟨pw_cell_below hb C1.out⟩
            clear C1
            have C1 := n_
            clear n_
            have n_ := aZ_ (Kd.Heap.C (Kd.heap_int .u8) hb.block HR.out)
            clear HR
            have HR := n_
            clear n_
            have n_ := aZ_ (below_step HB.out hb)
            clear HB
            have HB := n_
            clear n_
            have n_ := aZ_ (Kd.Heap.C (Kd.heap_int .i64) hb.block HM.out)
            clear HM
            have HM := n_
            clear n_
            clear hb
            refine start_ (n := 12) (S := (fun w_ => w_.cell? (am.add e) = some (.int .i64 (rd m (e : Int))) ∧ w_.cell? (am.add j) = some (.int .i64 (rd m (j : Int))))) (ds := []) #[false,false,false,false,false,false,false,false,false,false,false,false] T17_ rfl rfl ⟨C0.out,C1.out⟩ (fun hHeld => ?_)
            refine with_tabW laws_FnLinear.tab32 laws_FnLinear.bits32 (fun HT_ HW_ => ?_)
            generalize wr.drew = W0_ at C0 C1 HR HB HM hHeld ⊢
            refine pZ_ 0 (some 154) #[true,false,false,false,false,false,false,false,false,false,false,false] ?_
            refine pZ_ 1 (some 155) #[true,true,false,false,false,false,false,false,false,false,false,false] ?_
            refine pZ_ 2 (some 156) #[true,true,true,false,false,false,false,false,false,false,false,false] ?_
            refine pZ_ 3 (some 157) #[true,true,true,true,false,false,false,false,false,false,false,false] ?_
            refine tZ2_ 4 (some 158) #[true,true,true,true,true,false,false,false,false,false,false,false] hHeld ?_
            refine pZ_ 5 (some 159) #[true,true,true,true,true,true,false,false,false,false,false,false] ?_
            refine pZ_ 6 (some 160) #[true,true,true,true,true,true,true,false,false,false,false,false] ?_
            refine pZ_ 7 (some 161) #[true,true,true,true,true,true,true,true,false,false,false,false] ?_
            refine tZ2_ 8 (some 162) #[true,true,true,true,true,true,true,true,true,false,false,false] hHeld ?_
            refine pZ_ 9 (some 163) #[true,true,true,true,true,true,true,true,true,true,false,false] ?_
            refine one_ (i := 10) (N := some 164) #[true,true,true,true,true,true,true,true,true,true,true,false] rfl rfl (one_of HT_.out T17_) T46_ (fun K hK => ?_)
            refine gZ_ Try.func21 #[.slice (some am) m.length cm,.int .i64 (Go.bits .xor .i64 (rd m (e : Int)) (rd m (j : Int)))] ?_
            with_reducible refine (laws_has.calls k (some am) cm m (Go.bits .xor .i64 (rd m (e : Int)) (rd m (j : Int))) true _ HM.out HMc.out HV.out).mono ?_
            rintro e W1_ ⟨rfl,hd⟩
            have hb := hd.below
            clear hd
            refine ⟨_,rfl,?_⟩
            have n_ : Aside0 (W1_.cell? (am.add e) = some (.int .i64 (rd m (e : Int)))) := ⟨pw_cell_below hb C0.out⟩
            clear C0
            have C0 := n_
            clear n_
            have n_ : Aside0 (W1_.cell? (am.add j) = some (.int .i64 (rd m (j : Int)))) := ⟨pw_cell_below hb C1.out⟩
            clear C1
            have C1 := n_
            clear n_
            have n_ := aZ_ (Kd.Heap.C (Kd.heap_int .u8) hb.block HR.out)
            clear HR
            have HR := n_
            clear n_
            have n_ := aZ_ (below_step HB.out hb)
            clear HB
            have HB := n_
            clear n_
            have n_ := aZ_ (Kd.Heap.C (Kd.heap_int .i64) hb.block HM.out)
            clear HM
            have HM := n_
            clear n_
            clear hb
            refine hK.out _ _ ⟨C0.out,C1.out⟩ (fun hHeld => ?_)
            clear hK K
            refine norm_ (a' := ?_) ?_ ?_
            rotate_left
            ·show Act.put _ (some 164) _ = _
             simp only [Act.put,List.setIfInBounds_toArray,List.set_cons_zero,List.set_cons_succ,i64_w,i32_w]
             rfl
            refine pZ_ 11 (some 165) #[true,true,true,true,true,true,true,true,true,true,true,true] ?_
            refine done_ (done_of HT_.out T17_) ?_
            clear C0 C1 hHeld HT_ HW_
            go_wp2_with (fail)
            go_roundg (e - (j + 1))
            case measure => have := HJ.out;omega
            case rel => exact ⟨j + 1,by have := HJ.out;omega,by omega,congrArg (Value.int .i64) (by have := HJ.out;have := HE.out;rw [B.wrap64_of (by omega) (by omega)];rfl),HR,HB,HM⟩
           case neg =>
            have hltz2 : ¬ (j : Int) < (e : Int) := by omega
            clear hlt2 hj hg2
            go_wp2_with (fail)
            go_roundg (m.length - (e + 1))
            case measure => have := HE.out;omega
            case rel => exact ⟨e + 1,by have := HE.out;omega,by omega,congrArg (Value.int .i64) (by have := HE.out;rw [B.wrap64_of (by omega) (by omega)];rfl),HR,HB,HM⟩
         case neg =>
          have hltz : ¬ (e : Int) < (m.length : Int) := by omega
          clear hlt he hg
          go_wp2_with (fail)
          go_meet
          exact ⟨HR,HB⟩
     case rest =>
      as_aux_lemma =>
       clear HR HB HM HMc 
       obtain ⟨HR,HB⟩ := hcut
       go_upto_region 35 with (go_at_call 22;refine (spec_DrawAffineTable.calls k A0 c0 l0 an ax ay _ HR.out HC0.out HG.out.da).mono ?_;rintro e w16 ⟨rfl,hb⟩;have n_ := aZ_ (Kd.Heap.C (Kd.heap_int .u8) hb.block HR.out);clear HR;have HR := n_;clear n_;have n_ := aZ_ (below_step HB.out hb);clear HB;have HB := n_;clear n_;clear hb )
       go_upto_region 36 with (go_at_call 15;refine (impl_AffineTable.calls an ax ay p1 p2 po _ HG.out.at1).mono ?_;rintro e w17 ⟨rfl,hb⟩;have n_ := aZ_ (Kd.Heap.C (Kd.heap_int .u8) hb.block HR.out);clear HR;have HR := n_;clear n_;have n_ := aZ_ (below_step HB.out hb);clear HB;have HB := n_;clear n_;clear hb )
       have B1 := aZ_ (blk_new w17 (.cells #[.int .i64 p1,.int .i64 p2] 25 (0,0)))
       have hb := below_alloc (Below.refl w17.heap.size w17) (.cells #[.int .i64 p1,.int .i64 p2] 25 (0,0))
       have n_ := aZ_ (Kd.Heap.C (Kd.heap_int .u8) hb.block HR.out)
       clear HR
       have HR := n_
       clear n_
       have n_ := aZ_ (below_step HB.out hb)
       clear HB
       have HB := n_
       clear n_
       clear hb
       obtain ⟨g1_,hg1__⟩ : ∃ g1_,g1_ = w17.heap.size := ⟨_,rfl⟩
       rw [← hg1__] at B1 ⊢
       clear hg1__
       generalize w17.alloc (.cells #[.int .i64 p1,.int .i64 p2] 25 (0,0)) = w18 at HR HB B1 ⊢
       have hc_B1_0 : w18.cell? ⟨g1_,0,none⟩ = some (.int .i64 p1) := (blk_cell B1.out 0).trans rfl
       have hc_B1_1 : w18.cell? ⟨g1_,1,none⟩ = some (.int .i64 p2) := (blk_cell B1.out 1).trans rfl
       go_upto_region 37 with (go_at_call 23;refine (spec_AffineTable.calls k an ax ay p1 p2 po _ HG.out.at2).mono ?_;rintro e w19 ⟨rfl,hb⟩;have n_ := aZ_ (Kd.Heap.C (Kd.heap_int .u8) hb.block HR.out);clear HR;have HR := n_;clear n_;have n_ := aZ_ (below_step HB.out hb);clear HB;have HB := n_;clear n_;have n_ := aZ_ (blk_below B1.out hb);clear B1;have B1 := n_;clear n_;clear hb ;clear hc_B1_0 hc_B1_1;have hc_B1_0 : w19.cell? ⟨g1_,0,none⟩ = some (.int .i64 p1) := (blk_cell B1.out 0).trans rfl;have hc_B1_1 : w19.cell? ⟨g1_,1,none⟩ = some (.int .i64 p2) := (blk_cell B1.out 1).trans rfl)
       clear hc_B1_0 hc_B1_1
       have B2 := aZ_ (blk_new w19 (.cells #[.int .i64 p1,.int .i64 p2] 25 (0,0)))
       have hb := below_alloc (Below.refl w19.heap.size w19) (.cells #[.int .i64 p1,.int .i64 p2] 25 (0,0))
       have n_ := aZ_ (Kd.Heap.C (Kd.heap_int .u8) hb.block HR.out)
       clear HR
       have HR := n_
       clear n_
       have n_ := aZ_ (below_step HB.out hb)
       clear HB
       have HB := n_
       clear n_
       have n_ := aZ_ (blk_below B1.out hb)
       clear B1
       have B1 := n_
       clear n_
       clear hb
       obtain ⟨g2_,hg2__⟩ : ∃ g2_,g2_ = w19.heap.size := ⟨_,rfl⟩
       rw [← hg2__] at B2 ⊢
       clear hg2__
       generalize w19.alloc (.cells #[.int .i64 p1,.int .i64 p2] 25 (0,0)) = w20 at HR HB B1 B2 ⊢
       have hc_B1_0 : w20.cell? ⟨g1_,0,none⟩ = some (.int .i64 p1) := (blk_cell B1.out 0).trans rfl
       have hc_B1_1 : w20.cell? ⟨g1_,1,none⟩ = some (.int .i64 p2) := (blk_cell B1.out 1).trans rfl
       have hc_B2_0 : w20.cell? ⟨g2_,0,none⟩ = some (.int .i64 p1) := (blk_cell B2.out 0).trans rfl
       have hc_B2_1 : w20.cell? ⟨g2_,1,none⟩ = some (.int .i64 p2) := (blk_cell B2.out 1).trans rfl
       go_upto_region 38 with (go_at_call 24;refine (spec_DrawTestRejects.calls k A0 c0 l0 r1 r2 _ HR.out HC0.out HG.out.dt).mono ?_;rintro e w21 ⟨rfl,hb⟩;have n_ := aZ_ (Kd.Heap.C (Kd.heap_int .u8) hb.block HR.out);clear HR;have HR := n_;clear n_;have n_ := aZ_ (below_step HB.out hb);clear HB;have HB := n_;clear n_;have n_ := aZ_ (blk_below B1.out hb);clear B1;have B1 := n_;clear n_;have n_ := aZ_ (blk_below B2.out hb);clear B2;have B2 := n_;clear n_;clear hb ;clear hc_B1_0 hc_B1_1 hc_B2_0 hc_B2_1;have hc_B1_0 : w21.cell? ⟨g1_,0,none⟩ = some (.int .i64 p1) := (blk_cell B1.out 0).trans rfl;have hc_B1_1 : w21.cell? ⟨g1_,1,none⟩ = some (.int .i64 p2) := (blk_cell B1.out 1).trans rfl;have hc_B2_0 : w21.cell? ⟨g2_,0,none⟩ = some (.int .i64 p1) := (blk_cell B2.out 0).trans rfl;have hc_B2_1 : w21.cell? ⟨g2_,1,none⟩ = some (.int .i64 p2) := (blk_cell B2.out 1).trans rfl)
       clear hc_B1_0 hc_B1_1 hc_B2_0 hc_B2_1
       have B3 := aZ_ (blk_new w21 (.cells #[.int .i64 r1,.int .i64 r2] 25 (0,0)))
       have hb := below_alloc (Below.refl w21.heap.size w21) (.cells #[.int .i64 r1,.int .i64 r2] 25 (0,0))
       have n_ := aZ_ (Kd.Heap.C (Kd.heap_int .u8) hb.block HR.out)
       clear HR
       have HR := n_
       clear n_
       have n_ := aZ_ (below_step HB.out hb)
       clear HB
       have HB := n_
       clear n_
       have n_ := aZ_ (blk_below B1.out hb)
       clear B1
       have B1 := n_
       clear n_
       have n_ := aZ_ (blk_below B2.out hb)
       clear B2
       have B2 := n_
       clear n_
       clear hb
       obtain ⟨g3_,hg3__⟩ : ∃ g3_,g3_ = w21.heap.size := ⟨_,rfl⟩
       rw [← hg3__] at B3 ⊢
       clear hg3__
       generalize w21.alloc (.cells #[.int .i64 r1,.int .i64 r2] 25 (0,0)) = w22 at HR HB B1 B2 B3 ⊢
       have hc_B1_0 : w22.cell? ⟨g1_,0,none⟩ = some (.int .i64 p1) := (blk_cell B1.out 0).trans rfl
       have hc_B1_1 : w22.cell? ⟨g1_,1,none⟩ = some (.int .i64 p2) := (blk_cell B1.out 1).trans rfl
       have hc_B2_0 : w22.cell? ⟨g2_,0,none⟩ = some (.int .i64 p1) := (blk_cell B2.out 0).trans rfl
       have hc_B2_1 : w22.cell? ⟨g2_,1,none⟩ = some (.int .i64 p2) := (blk_cell B2.out 1).trans rfl
       have hc_B3_0 : w22.cell? ⟨g3_,0,none⟩ = some (.int .i64 r1) := (blk_cell B3.out 0).trans rfl
       have hc_B3_1 : w22.cell? ⟨g3_,1,none⟩ = some (.int .i64 r2) := (blk_cell B3.out 1).trans rfl
       go_upto_region 39 with (go_at_call 25;refine (spec_DrawIsJunta.calls k A0 c0 l0 s1 s2 sk _ HR.out HC0.out HG.out.dj).mono ?_;rintro e w23 ⟨rfl,hb⟩;have n_ := aZ_ (Kd.Heap.C (Kd.heap_int .u8) hb.block HR.out);clear HR;have HR := n_;clear n_;have n_ := aZ_ (below_step HB.out hb);clear HB;have HB := n_;clear n_;have n_ := aZ_ (blk_below B1.out hb);clear B1;have B1 := n_;clear n_;have n_ := aZ_ (blk_below B2.out hb);clear B2;have B2 := n_;clear n_;have n_ := aZ_ (blk_below B3.out hb);clear B3;have B3 := n_;clear n_;clear hb ;clear hc_B1_0 hc_B1_1 hc_B2_0 hc_B2_1 hc_B3_0 hc_B3_1;have hc_B1_0 : w23.cell? ⟨g1_,0,none⟩ = some (.int .i64 p1) := (blk_cell B1.out 0).trans rfl;have hc_B1_1 : w23.cell? ⟨g1_,1,none⟩ = some (.int .i64 p2) := (blk_cell B1.out 1).trans rfl;have hc_B2_0 : w23.cell? ⟨g2_,0,none⟩ = some (.int .i64 p1) := (blk_cell B2.out 0).trans rfl;have hc_B2_1 : w23.cell? ⟨g2_,1,none⟩ = some (.int .i64 p2) := (blk_cell B2.out 1).trans rfl;have hc_B3_0 : w23.cell? ⟨g3_,0,none⟩ = some (.int .i64 r1) := (blk_cell B3.out 0).trans rfl;have hc_B3_1 : w23.cell? ⟨g3_,1,none⟩ = some (.int .i64 r2) := (blk_cell B3.out 1).trans rfl)
       clear hc_B1_0 hc_B1_1 hc_B2_0 hc_B2_1 hc_B3_0 hc_B3_1
       have B4 := aZ_ (blk_new w23 (.cells #[.int .i64 s1,.int .i64 s2] 25 (0,0)))
       have hb := below_alloc (Below.refl w23.heap.size w23) (.cells #[.int .i64 s1,.int .i64 s2] 25 (0,0))
       have n_ := aZ_ (Kd.Heap.C (Kd.heap_int .u8) hb.block HR.out)
       clear HR
       have HR := n_
       clear n_
       have n_ := aZ_ (below_step HB.out hb)
       clear HB
       have HB := n_
       clear n_
       have n_ := aZ_ (blk_below B1.out hb)
       clear B1
       have B1 := n_
       clear n_
       have n_ := aZ_ (blk_below B2.out hb)
       clear B2
       have B2 := n_
       clear n_
       have n_ := aZ_ (blk_below B3.out hb)
       clear B3
       have B3 := n_
       clear n_
       clear hb
       obtain ⟨g4_,hg4__⟩ : ∃ g4_,g4_ = w23.heap.size := ⟨_,rfl⟩
       rw [← hg4__] at B4 ⊢
       clear hg4__
       generalize w23.alloc (.cells #[.int .i64 s1,.int .i64 s2] 25 (0,0)) = w24 at HR HB B1 B2 B3 B4 ⊢
       have hc_B1_0 : w24.cell? ⟨g1_,0,none⟩ = some (.int .i64 p1) := (blk_cell B1.out 0).trans rfl
       have hc_B1_1 : w24.cell? ⟨g1_,1,none⟩ = some (.int .i64 p2) := (blk_cell B1.out 1).trans rfl
       have hc_B2_0 : w24.cell? ⟨g2_,0,none⟩ = some (.int .i64 p1) := (blk_cell B2.out 0).trans rfl
       have hc_B2_1 : w24.cell? ⟨g2_,1,none⟩ = some (.int .i64 p2) := (blk_cell B2.out 1).trans rfl
       have hc_B3_0 : w24.cell? ⟨g3_,0,none⟩ = some (.int .i64 r1) := (blk_cell B3.out 0).trans rfl
       have hc_B3_1 : w24.cell? ⟨g3_,1,none⟩ = some (.int .i64 r2) := (blk_cell B3.out 1).trans rfl
       have hc_B4_0 : w24.cell? ⟨g4_,0,none⟩ = some (.int .i64 s1) := (blk_cell B4.out 0).trans rfl
       have hc_B4_1 : w24.cell? ⟨g4_,1,none⟩ = some (.int .i64 s2) := (blk_cell B4.out 1).trans rfl
       have C0 := aZ_ hc_B1_0
       have C1 := aZ_ hc_B1_1
       have C2 := aZ_ hc_B2_0
       have C3 := aZ_ hc_B2_1
       have C4 := aZ_ hc_B3_0
       have C5 := aZ_ hc_B3_1
       have C6 := aZ_ hc_B4_0
       have C7 := aZ_ hc_B4_1
       clear HR B1 B2 B3 B4 hc_B1_0 hc_B1_1 hc_B2_0 hc_B2_1 hc_B3_0 hc_B3_1 hc_B4_0 hc_B4_1
       have h_p1 : (p1 == p1) = true := beq_self_eq_true p1
       have h_p2 : (p2 == p2) = true := beq_self_eq_true p2
       have h_po : (po == po) = true := beq_self_eq_true po
       have h_rr : (rr == rr) = true := beq_self_eq_true rr
       have h_sj : (sj == sj) = true := beq_self_eq_true sj
       have hb := below_drew (Below.refl w24.heap.size w24)
       have n_ : Aside0 (w24.drew.cell? ⟨g1_,0,none⟩ = some (.int .i64 p1)) := ⟨pw_cell_below hb C0.out⟩
       clear C0
       have C0 := n_
       clear n_
       have n_ : Aside0 (w24.drew.cell? ⟨g1_,1,none⟩ = some (.int .i64 p2)) := ⟨pw_cell_below hb C1.out⟩
       clear C1
       have C1 := n_
       clear n_
       have n_ : Aside0 (w24.drew.cell? ⟨g2_,0,none⟩ = some (.int .i64 p1)) := ⟨pw_cell_below hb C2.out⟩
       clear C2
       have C2 := n_
       clear n_
       have n_ : Aside0 (w24.drew.cell? ⟨g2_,1,none⟩ = some (.int .i64 p2)) := ⟨pw_cell_below hb C3.out⟩
       clear C3
       have C3 := n_
       clear n_
       have n_ : Aside0 (w24.drew.cell? ⟨g3_,0,none⟩ = some (.int .i64 r1)) := ⟨pw_cell_below hb C4.out⟩
       clear C4
       have C4 := n_
       clear n_
       have n_ : Aside0 (w24.drew.cell? ⟨g3_,1,none⟩ = some (.int .i64 r2)) := ⟨pw_cell_below hb C5.out⟩
       clear C5
       have C5 := n_
       clear n_
       have n_ : Aside0 (w24.drew.cell? ⟨g4_,0,none⟩ = some (.int .i64 s1)) := ⟨pw_cell_below hb C6.out⟩
       clear C6
       have C6 := n_
       clear n_
       have n_ : Aside0 (w24.drew.cell? ⟨g4_,1,none⟩ = some (.int .i64 s2)) := ⟨pw_cell_below hb C7.out⟩
       clear C7
       have C7 := n_
       clear n_
       have n_ := aZ_ (below_step HB.out hb)
       clear HB
       have HB := n_
       clear n_
       clear hb
       refine start_ (n := 25) (S := (fun w_ => w_.cell? ⟨g1_,0,none⟩ = some (.int .i64 p1) ∧ w_.cell? ⟨g1_,1,none⟩ = some (.int .i64 p2) ∧ w_.cell? ⟨g2_,0,none⟩ = some (.int .i64 p1) ∧ w_.cell? ⟨g2_,1,none⟩ = some (.int .i64 p2) ∧ w_.cell? ⟨g3_,0,none⟩ = some (.int .i64 r1) ∧ w_.cell? ⟨g3_,1,none⟩ = some (.int .i64 r2) ∧ w_.cell? ⟨g4_,0,none⟩ = some (.int .i64 s1) ∧ w_.cell? ⟨g4_,1,none⟩ = some (.int .i64 s2))) (ds := []) #[false,false,false,false,false,false,false,false,false,false,false,false,false,false,false,false,false,false,false,false,false,false,false,false,false] T17_ rfl rfl ⟨C0.out,C1.out,C2.out,C3.out,C4.out,C5.out,C6.out,C7.out⟩ (fun hHeld => ?_)
       refine with_tabW laws_FnLinear.tab39 laws_FnLinear.bits39 (fun HT_ HW_ => ?_)
       generalize w24.drew = W0_ at C0 C1 C2 C3 C4 C5 C6 C7 HB hHeld ⊢
       refine tZ8_ 0 (some 193) #[true,false,false,false,false,false,false,false,false,false,false,false,false,false,false,false,false,false,false,false,false,false,false,false,false] hHeld ?_
       refine tZ8_ 1 (some 194) #[true,true,false,false,false,false,false,false,false,false,false,false,false,false,false,false,false,false,false,false,false,false,false,false,false] hHeld ?_
       refine pZ_ 2 (some 195) #[true,true,true,false,false,false,false,false,false,false,false,false,false,false,false,false,false,false,false,false,false,false,false,false,false] ?_
       refine pZ_ 3 (some 196) #[true,true,true,true,false,false,false,false,false,false,false,false,false,false,false,false,false,false,false,false,false,false,false,false,false] ?_
       refine pZ_ 4 (some 197) #[true,true,true,true,true,false,false,false,false,false,false,false,false,false,false,false,false,false,false,false,false,false,false,false,false] ?_
       refine pZ_ 5 (some 198) #[true,true,true,true,true,true,false,false,false,false,false,false,false,false,false,false,false,false,false,false,false,false,false,false,false] ?_
       refine pZ_ 6 (some 199) #[true,true,true,true,true,true,true,false,false,false,false,false,false,false,false,false,false,false,false,false,false,false,false,false,false] ?_
       refine pZ_ 7 (some 200) #[true,true,true,true,true,true,true,true,false,false,false,false,false,false,false,false,false,false,false,false,false,false,false,false,false] ?_
       refine pZ_ 8 (some 201) #[true,true,true,true,true,true,true,true,true,false,false,false,false,false,false,false,false,false,false,false,false,false,false,false,false] ?_
       refine tZ8_ 9 (some 202) #[true,true,true,true,true,true,true,true,true,true,false,false,false,false,false,false,false,false,false,false,false,false,false,false,false] hHeld ?_
       refine tZ8_ 11 (some 204) #[true,true,true,true,true,true,true,true,true,true,false,true,false,false,false,false,false,false,false,false,false,false,false,false,false] hHeld ?_
       refine one_ (i := 10) (N := some 203) #[true,true,true,true,true,true,true,true,true,true,true,true,false,false,false,false,false,false,false,false,false,false,false,false,false] rfl rfl (one_of HT_.out T17_) T46_ (fun K hK => ?_)
       refine gZ_ Try.func9 #[.agg #[.int .i64 r1,.int .i64 r2]] ?_
       with_reducible refine (impl_TestRejects.calls k r1 r2 rr _ HG.out.tr).mono ?_
       rintro e W1_ ⟨rfl,hb⟩
       refine ⟨_,rfl,?_⟩
       have n_ : Aside0 (W1_.cell? ⟨g1_,0,none⟩ = some (.int .i64 p1)) := ⟨pw_cell_below hb C0.out⟩
       clear C0
       have C0 := n_
       clear n_
       have n_ : Aside0 (W1_.cell? ⟨g1_,1,none⟩ = some (.int .i64 p2)) := ⟨pw_cell_below hb C1.out⟩
       clear C1
       have C1 := n_
       clear n_
       have n_ : Aside0 (W1_.cell? ⟨g2_,0,none⟩ = some (.int .i64 p1)) := ⟨pw_cell_below hb C2.out⟩
       clear C2
       have C2 := n_
       clear n_
       have n_ : Aside0 (W1_.cell? ⟨g2_,1,none⟩ = some (.int .i64 p2)) := ⟨pw_cell_below hb C3.out⟩
       clear C3
       have C3 := n_
       clear n_
       have n_ : Aside0 (W1_.cell? ⟨g3_,0,none⟩ = some (.int .i64 r1)) := ⟨pw_cell_below hb C4.out⟩
       clear C4
       have C4 := n_
       clear n_
       have n_ : Aside0 (W1_.cell? ⟨g3_,1,none⟩ = some (.int .i64 r2)) := ⟨pw_cell_below hb C5.out⟩
       clear C5
       have C5 := n_
       clear n_
       have n_ : Aside0 (W1_.cell? ⟨g4_,0,none⟩ = some (.int .i64 s1)) := ⟨pw_cell_below hb C6.out⟩
       clear C6
       have C6 := n_
       clear n_
       have n_ : Aside0 (W1_.cell? ⟨g4_,1,none⟩ = some (.int .i64 s2)) := ⟨pw_cell_below hb C7.out⟩
       clear C7
       have C7 := n_
       clear n_
       have n_ := aZ_ (below_step HB.out hb)
       clear HB
       have HB := n_
       clear n_
       clear hb
       refine hK.out _ _ ⟨C0.out,C1.out,C2.out,C3.out,C4.out,C5.out,C6.out,C7.out⟩ (fun hHeld => ?_)
       clear hK K
       refine norm_ (a' := ?_) ?_ ?_
       rotate_left
       ·show Act.put _ (some 203) _ = _
        simp only [Act.put,List.setIfInBounds_toArray,List.set_cons_zero,List.set_cons_succ,i64_w,i32_w]
        rfl
       refine one_ (i := 12) (N := some 205) #[true,true,true,true,true,true,true,true,true,true,true,true,true,false,false,false,false,false,false,false,false,false,false,false,false] rfl rfl (one_of HT_.out T17_) T46_ (fun K hK => ?_)
       refine gZ_ Try.func26 #[.agg #[.int .i64 r1,.int .i64 r2]] ?_
       with_reducible refine (spec_TestRejects.calls k r1 r2 rr _ HG.out.tr2).mono ?_
       rintro e W2_ ⟨rfl,hb⟩
       refine ⟨_,rfl,?_⟩
       have n_ : Aside0 (W2_.cell? ⟨g1_,0,none⟩ = some (.int .i64 p1)) := ⟨pw_cell_below hb C0.out⟩
       clear C0
       have C0 := n_
       clear n_
       have n_ : Aside0 (W2_.cell? ⟨g1_,1,none⟩ = some (.int .i64 p2)) := ⟨pw_cell_below hb C1.out⟩
       clear C1
       have C1 := n_
       clear n_
       have n_ : Aside0 (W2_.cell? ⟨g2_,0,none⟩ = some (.int .i64 p1)) := ⟨pw_cell_below hb C2.out⟩
       clear C2
       have C2 := n_
       clear n_
       have n_ : Aside0 (W2_.cell? ⟨g2_,1,none⟩ = some (.int .i64 p2)) := ⟨pw_cell_below hb C3.out⟩
       clear C3
       have C3 := n_
       clear n_
       have n_ : Aside0 (W2_.cell? ⟨g3_,0,none⟩ = some (.int .i64 r1)) := ⟨pw_cell_below hb C4.out⟩
       clear C4
       have C4 := n_
       clear n_
       have n_ : Aside0 (W2_.cell? ⟨g3_,1,none⟩ = some (.int .i64 r2)) := ⟨pw_cell_below hb C5.out⟩
       clear C5
       have C5 := n_
       clear n_
       have n_ : Aside0 (W2_.cell? ⟨g4_,0,none⟩ = some (.int .i64 s1)) := ⟨pw_cell_below hb C6.out⟩
       clear C6
       have C6 := n_
       clear n_
       have n_ : Aside0 (W2_.cell? ⟨g4_,1,none⟩ = some (.int .i64 s2)) := ⟨pw_cell_below hb C7.out⟩
       clear C7
       have C7 := n_
       clear n_
       have n_ := aZ_ (below_step HB.out hb)
       clear HB
       have HB := n_
       clear n_
       clear hb
       refine hK.out _ _ ⟨C0.out,C1.out,C2.out,C3.out,C4.out,C5.out,C6.out,C7.out⟩ (fun hHeld => ?_)
       clear hK K
       refine norm_ (a' := ?_) ?_ ?_
       rotate_left
       ·show Act.put _ (some 205) _ = _
        simp only [Act.put,List.setIfInBounds_toArray,List.set_cons_zero,List.set_cons_succ,i64_w,i32_w]
        rfl
       refine pZ_ 13 (some 206) #[true,true,true,true,true,true,true,true,true,true,true,true,true,true,false,false,false,false,false,false,false,false,false,false,false] ?_
       refine pZ_ 14 (some 207) #[true,true,true,true,true,true,true,true,true,true,true,true,true,true,true,false,false,false,false,false,false,false,false,false,false] ?_
       refine pZ_ 15 (some 208) #[true,true,true,true,true,true,true,true,true,true,true,true,true,true,true,true,false,false,false,false,false,false,false,false,false] ?_
       refine tZ8_ 16 (some 209) #[true,true,true,true,true,true,true,true,true,true,true,true,true,true,true,true,true,false,false,false,false,false,false,false,false] hHeld ?_
       refine pZ_ 17 (some 210) #[true,true,true,true,true,true,true,true,true,true,true,true,true,true,true,true,true,true,false,false,false,false,false,false,false] ?_
       refine tZ8_ 19 (some 212) #[true,true,true,true,true,true,true,true,true,true,true,true,true,true,true,true,true,true,false,true,false,false,false,false,false] hHeld ?_
       refine pZ_ 20 (some 213) #[true,true,true,true,true,true,true,true,true,true,true,true,true,true,true,true,true,true,false,true,true,false,false,false,false] ?_
       refine one_ (i := 18) (N := some 211) #[true,true,true,true,true,true,true,true,true,true,true,true,true,true,true,true,true,true,true,true,true,false,false,false,false] rfl rfl (one_of HT_.out T17_) T46_ (fun K hK => ?_)
       refine gZ_ Try.func27 #[.agg #[.int .i64 s1,.int .i64 s2],.int .i64 sk] ?_
       with_reducible refine (impl_IsJunta.calls k s1 s2 sk sj _ HG.out.ij).mono ?_
       rintro e W3_ ⟨rfl,hb⟩
       refine ⟨_,rfl,?_⟩
       have n_ : Aside0 (W3_.cell? ⟨g1_,0,none⟩ = some (.int .i64 p1)) := ⟨pw_cell_below hb C0.out⟩
       clear C0
       have C0 := n_
       clear n_
       have n_ : Aside0 (W3_.cell? ⟨g1_,1,none⟩ = some (.int .i64 p2)) := ⟨pw_cell_below hb C1.out⟩
       clear C1
       have C1 := n_
       clear n_
       have n_ : Aside0 (W3_.cell? ⟨g2_,0,none⟩ = some (.int .i64 p1)) := ⟨pw_cell_below hb C2.out⟩
       clear C2
       have C2 := n_
       clear n_
       have n_ : Aside0 (W3_.cell? ⟨g2_,1,none⟩ = some (.int .i64 p2)) := ⟨pw_cell_below hb C3.out⟩
       clear C3
       have C3 := n_
       clear n_
       have n_ : Aside0 (W3_.cell? ⟨g3_,0,none⟩ = some (.int .i64 r1)) := ⟨pw_cell_below hb C4.out⟩
       clear C4
       have C4 := n_
       clear n_
       have n_ : Aside0 (W3_.cell? ⟨g3_,1,none⟩ = some (.int .i64 r2)) := ⟨pw_cell_below hb C5.out⟩
       clear C5
       have C5 := n_
       clear n_
       have n_ : Aside0 (W3_.cell? ⟨g4_,0,none⟩ = some (.int .i64 s1)) := ⟨pw_cell_below hb C6.out⟩
       clear C6
       have C6 := n_
       clear n_
       have n_ : Aside0 (W3_.cell? ⟨g4_,1,none⟩ = some (.int .i64 s2)) := ⟨pw_cell_below hb C7.out⟩
       clear C7
       have C7 := n_
       clear n_
       have n_ := aZ_ (below_step HB.out hb)
       clear HB
       have HB := n_
       clear n_
       clear hb
       refine hK.out _ _ ⟨C0.out,C1.out,C2.out,C3.out,C4.out,C5.out,C6.out,C7.out⟩ (fun hHeld => ?_)
       clear hK K
       refine norm_ (a' := ?_) ?_ ?_
       rotate_left
       ·show Act.put _ (some 211) _ = _
        simp only [Act.put,List.setIfInBounds_toArray,List.set_cons_zero,List.set_cons_succ,i64_w,i32_w]
        rfl
       refine one_ (i := 21) (N := some 214) #[true,true,true,true,true,true,true,true,true,true,true,true,true,true,true,true,true,true,true,true,true,true,false,false,false] rfl rfl (one_of HT_.out T17_) T46_ (fun K hK => ?_)
       refine gZ_ Try.func28 #[.agg #[.int .i64 s1,.int .i64 s2],.int .i64 sk] ?_
       with_reducible refine (spec_IsJunta.calls k s1 s2 sk sj _ HG.out.ij2).mono ?_
       rintro e W4_ ⟨rfl,hb⟩
       refine ⟨_,rfl,?_⟩
       have n_ : Aside0 (W4_.cell? ⟨g1_,0,none⟩ = some (.int .i64 p1)) := ⟨pw_cell_below hb C0.out⟩
       clear C0
       have C0 := n_
       clear n_
       have n_ : Aside0 (W4_.cell? ⟨g1_,1,none⟩ = some (.int .i64 p2)) := ⟨pw_cell_below hb C1.out⟩
       clear C1
       have C1 := n_
       clear n_
       have n_ : Aside0 (W4_.cell? ⟨g2_,0,none⟩ = some (.int .i64 p1)) := ⟨pw_cell_below hb C2.out⟩
       clear C2
       have C2 := n_
       clear n_
       have n_ : Aside0 (W4_.cell? ⟨g2_,1,none⟩ = some (.int .i64 p2)) := ⟨pw_cell_below hb C3.out⟩
       clear C3
       have C3 := n_
       clear n_
       have n_ : Aside0 (W4_.cell? ⟨g3_,0,none⟩ = some (.int .i64 r1)) := ⟨pw_cell_below hb C4.out⟩
       clear C4
       have C4 := n_
       clear n_
       have n_ : Aside0 (W4_.cell? ⟨g3_,1,none⟩ = some (.int .i64 r2)) := ⟨pw_cell_below hb C5.out⟩
       clear C5
       have C5 := n_
       clear n_
       have n_ : Aside0 (W4_.cell? ⟨g4_,0,none⟩ = some (.int .i64 s1)) := ⟨pw_cell_below hb C6.out⟩
       clear C6
       have C6 := n_
       clear n_
       have n_ : Aside0 (W4_.cell? ⟨g4_,1,none⟩ = some (.int .i64 s2)) := ⟨pw_cell_below hb C7.out⟩
       clear C7
       have C7 := n_
       clear n_
       have n_ := aZ_ (below_step HB.out hb)
       clear HB
       have HB := n_
       clear n_
       clear hb
       refine hK.out _ _ ⟨C0.out,C1.out,C2.out,C3.out,C4.out,C5.out,C6.out,C7.out⟩ (fun hHeld => ?_)
       clear hK K
       refine norm_ (a' := ?_) ?_ ?_
       rotate_left
       ·show Act.put _ (some 214) _ = _
        simp only [Act.put,List.setIfInBounds_toArray,List.set_cons_zero,List.set_cons_succ,i64_w,i32_w]
        rfl
       refine pZ_ 22 (some 215) #[true,true,true,true,true,true,true,true,true,true,true,true,true,true,true,true,true,true,true,true,true,true,true,false,false] ?_
       refine pZ_ 23 (some 216) #[true,true,true,true,true,true,true,true,true,true,true,true,true,true,true,true,true,true,true,true,true,true,true,true,false] ?_
       refine pZ_ 24 (some 2) #[true,true,true,true,true,true,true,true,true,true,true,true,true,true,true,true,true,true,true,true,true,true,true,true,true] ?_
       refine done_ (done_of HT_.out T17_) ?_
       clear C0 C1 C2 C3 C4 C5 C6 C7 hHeld HT_ HW_
       go_wp2_with (fail)
       go_ret
       exact ⟨rfl,HB.out⟩
 next => cases h
end Go.Proofs.Ytgojehaneegaeac.F
namespace Go.Proofs.Ytgojehaneegaeac.U
open Go.RowKit Go.Proofs.YtgojehaneegaeacW.PrintWords Go.Proofs.YtgojehaneegaeacW.PrintLast Go.Proofs.YtgojehaneegaeacW.PrintMore Go.Proofs.Ytgojehaneegaeac.F Go.Proofs.Ytgojehaneegaeac.B
set_option linter.unusedVariables false
set_option linter.unusedSimpArgs false
def isTab (a b : Int) : Bool := decide (0 ≤ a ∧ a ≤ 5 ∧ 0 ≤ b ∧ b < 2 ^ 2 ^ a.toNat)
theorem isTab_of {n w : Nat} (h : Tab n w) : isTab n w = true := by
  unfold isTab
  have h2 : (w : Int) < 2 ^ 2 ^ n := by exact_mod_cast h.2
  exact decide_eq_true ⟨by omega,by have := h.1;omega,by omega,by simpa using h2⟩
theorem tab_of {a b : Int} (h : isTab a b = true) : ∃ n w : Nat,a = n ∧ b = w ∧ Tab n w := by
  have h := of_decide_eq_true h
  obtain ⟨n,rfl⟩ := Int.eq_ofNat_of_zero_le h.1
  obtain ⟨w,rfl⟩ := Int.eq_ofNat_of_zero_le h.2.2.1
  refine ⟨n,w,rfl,rfl,by omega,?_⟩
  have h2 := h.2.2.2
  rw [Int.toNat_natCast] at h2
  exact_mod_cast h2
theorem spec_isTable (a b : Int) : spec_IsTable.f a b = some (isTab a b) := rfl
theorem size_some {n : Nat} (v : Int) (hn : n ≤ 62) : impl_Table_size.f n v = some ((2 ^ n : Nat) : Int) := by
  unfold impl_Table_size.f
  rw [if_pos (by omega),shl1_of (by omega)]
theorem at_some' {n : Int} {w x : Nat} (hw : w < 9223372036854775808) (hx : x ≤ 64) : impl_Table_at.f n w x = some ((bitN w x : Nat) : Int) := by
  unfold impl_Table_at.f
  rw [if_pos (by omega),bit_cast hw hx]
theorem shr_zero_iff {w m : Nat} : w >>> m = 0 ↔ w < 2 ^ m := by
  rw [Nat.shiftRight_eq_div_pow,Nat.div_eq_zero_iff]
  have := pow_pos m
  omega
theorem impl_isTable {a b : Int} (h0 : -9223372036854775808 ≤ b) (h1 : b ≤ 9223372036854775807) : impl_IsTable.f a b = some (isTab a b) := by
  have hb : impl_isBits.f a = some (decide (0 ≤ a ∧ a ≤ 5)) := by
    unfold impl_isBits.f
    by_cases h : a ≥ 0
    · rw [if_pos h];congr 1;exact decide_eq_decide.mpr (by omega)
    · rw [if_neg h];congr 1;symm;exact decide_eq_false (by omega)
  unfold impl_IsTable.f
  rw [hb]
  simp only [Option.bind_some,decide_eq_true_eq]
  by_cases h : 0 ≤ a ∧ a ≤ 5
  · rw [if_pos h]
    by_cases hb0 : b ≥ 0
    · rw [if_pos hb0]
      obtain ⟨n,rfl⟩ := Int.eq_ofNat_of_zero_le h.1
      obtain ⟨w,rfl⟩ := Int.eq_ofNat_of_zero_le hb0
      have hM := pow_le (n := n) (by omega)
      rw [size_some _ (by omega)]
      simp only [Option.bind_some]
      rw [if_pos (Int.natCast_nonneg _),shr_cast w _ (by omega)]
      congr 1
      unfold isTab
      apply Bool.eq_iff_iff.mpr
      rw [beq_iff_eq,decide_eq_true_eq,Int.toNat_natCast]
      have e := @shr_zero_iff w (2 ^ n)
      constructor
      · intro hz
        have hz : w >>> 2 ^ n = 0 := by exact_mod_cast hz
        have := e.mp hz
        exact ⟨h.1,h.2,hb0,by exact_mod_cast this⟩
      · intro hh
        have hh := hh.2.2.2
        have := e.mpr (by exact_mod_cast hh)
        exact_mod_cast this
    · rw [if_neg hb0]
      congr 1;symm
      exact decide_eq_false (by omega)
  · rw [if_neg h]
    congr 1;symm
    exact decide_eq_false (by omega)
end Go.Proofs.Ytgojehaneegaeac.U
namespace Go.Proofs.Ytgojehaneegaeac.U
open Go.RowKit Go.Proofs.YtgojehaneegaeacW.PrintWords Go.Proofs.YtgojehaneegaeacW.PrintLast Go.Proofs.YtgojehaneegaeacW.PrintMore Go.Proofs.Ytgojehaneegaeac.F Go.Proofs.Ytgojehaneegaeac.B
set_option linter.unusedVariables false
set_option linter.unusedSimpArgs false
theorem full_some {n : Nat} (hn : n ≤ 5) : spec_l2Full.f n = some (((2 ^ 2 ^ n - 1 : Nat)) : Int) := by
  unfold spec_l2Full.f
  rw [if_pos (by omega),Int.toNat_natCast]
  congr 1
  have := pow_pos (2 ^ n)
  rw [Int.natCast_sub (by omega)]
  simp
end Go.Proofs.Ytgojehaneegaeac.U
namespace Go.Proofs.Ytgojehaneegaeac.U
open Go.RowKit Go.Proofs.YtgojehaneegaeacW.PrintWords Go.Proofs.YtgojehaneegaeacW.PrintLast Go.Proofs.YtgojehaneegaeacW.PrintMore Go.Proofs.Ytgojehaneegaeac.F Go.Proofs.Ytgojehaneegaeac.B
set_option linter.unusedVariables false
set_option linter.unusedSimpArgs false
theorem xor_lt {n x s : Nat} (hx : x < 2 ^ n) (hs : s < 2 ^ n) : x ^^^ s < 2 ^ n := Nat.xor_lt_two_pow hx hs
theorem xor_xor (x s : Nat) : x ^^^ s ^^^ s = x := by rw [Nat.xor_assoc,Nat.xor_self,Nat.xor_zero]
def shiftW (n w s : Nat) : Nat := tabN (fun x => w.testBit (x ^^^ s)) (2 ^ n)
theorem l3Shift_loop {n w s : Nat} (ht : Tab n w) (hs : s < 2 ^ n) : ∀ d k x,x + d = 2 ^ n → d < k →
    spec_l3Shift.l0 k s ((orN (fun i => bitN w i <<< (i ^^^ s)) x : Nat) : Int) x n w = some ((n : Int),((orN (fun i => bitN w i <<< (i ^^^ s)) (2 ^ n) : Nat) : Int)) := by
  have hM := pow_le ht.1
  have hn5 := ht.1
  intro d
  induction d with
  | zero =>
    intro k x hx hk
    obtain ⟨k,rfl⟩ : ∃ m,k = m + 1 := ⟨k - 1,by omega⟩
    obtain rfl : x = 2 ^ n := by omega
    simp only [spec_l3Shift.l0]
    rw [if_pos (by omega),shl1_of (by omega),if_neg (by omega)]
  | succ d ih =>
    intro k x hx hk
    obtain ⟨k,rfl⟩ : ∃ m,k = m + 1 := ⟨k - 1,by omega⟩
    have hlt : x < 2 ^ n := by omega
    have hq := xor_lt hlt hs
    have hb := @bitN_shl_lt w x (x ^^^ s) 32 (by omega)
    have ho : orN (fun i => bitN w i <<< (i ^^^ s)) x < 2 ^ 32 := orN_lt fun i hi => bitN_shl_lt (by have := xor_lt (show i < 2 ^ n by omega) hs;omega)
    simp only [spec_l3Shift.l0]
    rw [if_pos (by omega),shl1_of (by omega),if_pos (by exact_mod_cast hlt),if_pos (by omega),xor_cast (by omega) (by omega),if_pos (Int.natCast_nonneg _),bit_cast ht.lt63 (by omega),shl_cast (by omega) (by omega),or_cast (by omega) (by omega),wrap64_succ (by omega)]
    exact ih k (x + 1) (by omega) (by omega)
theorem l3Shift_some {n w s k : Nat} (ht : Tab n w) (hs : s < 2 ^ n) (hk : 32 < k) : spec_l3Shift.f k n w s = some ((n : Int),((shiftW n w s : Nat) : Int)) := by
  have hM := pow_le ht.1
  have h := l3Shift_loop ht hs (2 ^ n) k 0 (by omega) (by omega)
  rw [orN_perm w (2 ^ n) (fun i => i ^^^ s) (fun i => i ^^^ s) (fun i hi => xor_lt hi hs) (fun i hi => xor_lt hi hs) (fun i _ => xor_xor i s) (fun i _ => xor_xor i s)] at h
  exact h
def cnt (w : Nat) : Nat := cntN (fun i => w.testBit i) 32
theorem cntN_add (p : Nat → Bool) (m : Nat) : ∀ n,cntN p (m + n) = cntN p m + cntN (fun i => p (m + i)) n := by
  intro n
  induction n with
  | zero => rfl
  | succ n ih => rw [← Nat.add_assoc,cntN,cntN,ih];omega
theorem cntN_first (p : Nat → Bool) (n : Nat) : cntN p (n + 1) = (p 0).toNat + cntN (fun i => p (i + 1)) n := by
  rw [Nat.add_comm,cntN_add]
  simp only [cntN,Nat.zero_add]
  congr 2
  funext i
  rw [Nat.add_comm]
theorem cntN_zero {p : Nat → Bool} (h : ∀ i,p i = false) : ∀ n,cntN p n = 0 := by
  intro n
  induction n with
  | zero => rfl
  | succ n ih => rw [cntN,ih,h];rfl
theorem ref_loop : ∀ (n k a x : Nat),x < 2 ^ n → n < k → a + n < 9223372036854775808 → x < 9223372036854775808 →
    spec_l2Count.l0 k (a : Int) (x : Int) = some ((a + cntN (fun i => x.testBit i) n : Nat) : Int) := by
  intro n
  induction n with
  | zero =>
    intro k a x hx hk ha _
    obtain ⟨k,rfl⟩ : ∃ m,k = m + 1 := ⟨k - 1,by omega⟩
    obtain rfl : x = 0 := by simpa using hx
    simp only [spec_l2Count.l0]
    rw [if_neg (by omega)]
    rfl
  | succ n ih =>
    intro k a x hx hk ha hx63
    obtain ⟨k,rfl⟩ : ∃ m,k = m + 1 := ⟨k - 1,by omega⟩
    simp only [spec_l2Count.l0]
    by_cases h0 : (x : Int) > 0
    · have hb : Go.bits .and .i64 (x : Int) 1 = ((bitN x 0 : Nat) : Int) := by
        rw [← shr_and_one,Nat.shiftRight_zero]
        exact and_cast (b := 1) hx63 (by decide)
      have h1 := bitN_le x 0
      rw [if_pos h0,hb,show wrap64 ((a : Int) + ((bitN x 0 : Nat) : Int)) = ((a + bitN x 0 : Nat) : Int) by rw [wrap64_of (by omega) (by omega)];omega,show ((x : Int) / 2) = ((x / 2 : Nat) : Int) by simp]
      rw [ih k (a + bitN x 0) (x / 2) (by rw [Nat.pow_succ] at hx;omega) (by omega) (by omega) (by omega),cntN_first]
      congr 2
      have e : (fun i => (x / 2).testBit i) = fun i => x.testBit (i + 1) := by funext i;rw [Nat.testBit_succ]
      rw [e]
      show a + (x.testBit 0).toNat + _ = _
      omega
    · obtain rfl : x = 0 := by omega
      rw [if_neg h0,cntN_zero (fun i => Nat.zero_testBit i)]
      rfl
theorem cnt_ref {x k : Nat} (hx : x < 4294967296) (hk : 33 ≤ k) : spec_l2Count.f k x = some ((cnt x : Nat) : Int) := by
  have h := ref_loop 32 k 0 x hx (by omega) (by omega) (by omega)
  rw [Nat.zero_add] at h
  exact h
theorem land_lane (k : Nat) {a c : Nat} (b d : Nat) (ha : a < 2 ^ k) (hc : c < 2 ^ k) : (a + 2 ^ k * b) &&& (c + 2 ^ k * d) = (a &&& c) + 2 ^ k * (b &&& d) := by
  have hac : a &&& c < 2 ^ k := Nat.and_lt_two_pow _ hc
  apply Nat.eq_of_testBit_eq
  intro i
  rw [Nat.testBit_and,Nat.add_comm a,Nat.add_comm c,Nat.add_comm (a &&& c),Nat.testBit_two_pow_mul_add _ ha,Nat.testBit_two_pow_mul_add _ hc,Nat.testBit_two_pow_mul_add _ hac]
  split
  · rw [Nat.testBit_and]
  · rw [Nat.testBit_and]
theorem lane_bit (a y i : Nat) (ha : a < 256) : (a + 256 * y).testBit (8 + i) = y.testBit i ∧ (i < 8 → (a + 256 * y).testBit i = a.testBit i) := by
  have h : ∀ j,(a + 256 * y).testBit j = if j < 8 then a.testBit j else y.testBit (j - 8) := fun j => by
    rw [Nat.add_comm];exact Nat.testBit_two_pow_mul_add y (i := 8) ha j
  constructor
  · rw [h,if_neg (by omega),show 8 + i - 8 = i by omega]
  · intro hi;rw [h,if_pos hi]
def cnt8 (a : Nat) : Nat := cntN (fun i => a.testBit i) 8
theorem cnt_lane (a y n : Nat) (ha : a < 256) : cntN (fun i => (a + 256 * y).testBit i) (8 + n) = cnt8 a + cntN (fun i => y.testBit i) n := by
  rw [cntN_add]
  congr 1
  · exact cntN_congr fun i hi => (lane_bit a y i ha).2 hi
  · exact cntN_congr fun i _ => (lane_bit a y i ha).1
theorem byte_split {n x : Nat} (hx : x < 256 * n) : ∃ a y,x = a + 256 * y ∧ a < 256 ∧ y < n := ⟨x % 256,x / 256,by omega,by omega,by omega⟩
theorem bytes_of {x : Nat} (hx : x < 4294967296) : ∃ a b c d,x = a + 256 * (b + 256 * (c + 256 * d)) ∧ a < 256 ∧ b < 256 ∧ c < 256 ∧ d < 256 := by
  obtain ⟨a,y,rfl,ha,hy⟩ := byte_split (n := 16777216) (x := x) (by omega)
  obtain ⟨b,z,rfl,hb,hz⟩ := byte_split (n := 65536) (x := y) (by omega)
  obtain ⟨c,d,rfl,hc,hd⟩ := byte_split (n := 256) (x := z) (by omega)
  exact ⟨a,b,c,d,rfl,ha,hb,hc,hd⟩
theorem cnt_bytes {a b c d : Nat} (ha : a < 256) (hb : b < 256) (hc : c < 256) (hd : d < 256) : cnt (a + 256 * (b + 256 * (c + 256 * d))) = cnt8 a + cnt8 b + cnt8 c + cnt8 d := by
  have h1 : cnt (a + 256 * (b + 256 * (c + 256 * d))) = cnt8 a + cntN (fun i => (b + 256 * (c + 256 * d)).testBit i) 24 := cnt_lane a _ 24 ha
  have h2 : cntN (fun i => (b + 256 * (c + 256 * d)).testBit i) 24 = cnt8 b + cntN (fun i => (c + 256 * d).testBit i) 16 := cnt_lane b _ 16 hb
  have h3 : cntN (fun i => (c + 256 * d).testBit i) 16 = cnt8 c + cnt8 d := cnt_lane c d 8 hc
  rw [h1,h2,h3,Nat.add_assoc,Nat.add_assoc]
def t1 (a : Nat) : Nat := (a / 2 &&& 85) + (a &&& 85)
def t2 (a : Nat) : Nat := (a / 4 &&& 51) + (a &&& 51)
def t3 (a : Nat) : Nat := (a / 16 + a) &&& 15
theorem t_facts {a : Nat} (ha : a < 256) : t1 a < 256 ∧ t2 (t1 a) ≤ 68 ∧ t2 (t1 a) % 16 ≤ 4 ∧ t3 (t2 (t1 a)) = cnt8 a ∧ cnt8 a ≤ 8 := by
  have h : ∀ a : Fin 256,t1 a.val < 256 ∧ t2 (t1 a.val) ≤ 68 ∧ t2 (t1 a.val) % 16 ≤ 4 ∧ t3 (t2 (t1 a.val)) = cnt8 a.val ∧ cnt8 a.val ≤ 8 := by decide +kernel
  exact h ⟨a,ha⟩
theorem mask1 {a b : Nat} (ha : a < 256) : (a / 2 + 128 * (b % 2)) &&& 85 = a / 2 &&& 85 := by
  have h : ∀ a : Fin 256,∀ b : Fin 2,(a.val / 2 + 128 * b.val) &&& 85 = a.val / 2 &&& 85 := by decide +kernel
  exact h ⟨a,ha⟩ ⟨b % 2,by omega⟩
theorem mask2 {a b : Nat} (ha : a < 256) : (a / 4 + 64 * (b % 4)) &&& 51 = a / 4 &&& 51 := by
  have h : ∀ a : Fin 256,∀ b : Fin 4,(a.val / 4 + 64 * b.val) &&& 51 = a.val / 4 &&& 51 := by decide +kernel
  exact h ⟨a,ha⟩ ⟨b % 4,by omega⟩
theorem mask3 {a b : Nat} (ha : a ≤ 68) (hb : b ≤ 4) : (a / 16 + a + 16 * b) &&& 15 = (a / 16 + a) &&& 15 := by
  have h : ∀ a : Fin 69,∀ b : Fin 5,(a.val / 16 + a.val + 16 * b.val) &&& 15 = (a.val / 16 + a.val) &&& 15 := by decide +kernel
  exact h ⟨a,by omega⟩ ⟨b,by omega⟩
theorem step1 {a y d : Nat} (ha : a < 256) : ((a + 256 * y) / 2 &&& (85 + 256 * d)) + ((a + 256 * y) &&& (85 + 256 * d)) = t1 a + 256 * ((y / 2 &&& d) + (y &&& d)) := by
  have e1 := land_lane 8 (a := a) (c := 85) y d ha (by decide)
  have e2 := land_lane 8 (a := a / 2 + 128 * (y % 2)) (c := 85) (y / 2) d (by show _ < 256;omega) (by decide)
  have e3 := mask1 (b := y) ha
  have e4 : (a + 256 * y) / 2 = a / 2 + 128 * (y % 2) + 2 ^ 8 * (y / 2) := by show _ = _ + 256 * _;omega
  have e5 : a + 256 * y = a + 2 ^ 8 * y := rfl
  have e6 : 85 + 256 * d = 85 + 2 ^ 8 * d := rfl
  rw [e4,e6,e2,e5,e1,e3]
  unfold t1
  show _ + 256 * _ + (_ + 256 * _) = _
  omega
theorem step2 {a y d : Nat} (ha : a < 256) : ((a + 256 * y) / 4 &&& (51 + 256 * d)) + ((a + 256 * y) &&& (51 + 256 * d)) = t2 a + 256 * ((y / 4 &&& d) + (y &&& d)) := by
  have e1 := land_lane 8 (a := a) (c := 51) y d ha (by decide)
  have e2 := land_lane 8 (a := a / 4 + 64 * (y % 4)) (c := 51) (y / 4) d (by show _ < 256;omega) (by decide)
  have e3 := mask2 (b := y) ha
  have e4 : (a + 256 * y) / 4 = a / 4 + 64 * (y % 4) + 2 ^ 8 * (y / 4) := by show _ = _ + 256 * _;omega
  have e5 : a + 256 * y = a + 2 ^ 8 * y := rfl
  have e6 : 51 + 256 * d = 51 + 2 ^ 8 * d := rfl
  rw [e4,e6,e2,e5,e1,e3]
  unfold t2
  show _ + 256 * _ + (_ + 256 * _) = _
  omega
theorem step3 {a y d : Nat} (ha : a ≤ 68) (hy : y % 16 ≤ 4) : ((a + 256 * y) / 16 + (a + 256 * y)) &&& (15 + 256 * d) = t3 a + 256 * ((y / 16 + y) &&& d) := by
  have e2 := land_lane 8 (a := a / 16 + a + 16 * (y % 16)) (c := 15) (y / 16 + y) d (by show _ < 256;omega) (by decide)
  have e3 := mask3 ha hy
  have e4 : (a + 256 * y) / 16 + (a + 256 * y) = a / 16 + a + 16 * (y % 16) + 2 ^ 8 * (y / 16 + y) := by show _ = _ + 256 * _;omega
  have e6 : 15 + 256 * d = 15 + 2 ^ 8 * d := rfl
  rw [e4,e6,e2,e3]
  rfl
theorem and_low {x c : Nat} (hx : x < 4294967296) : x &&& (c % 4294967296 + 4294967296 * (c / 4294967296)) = x &&& (c % 4294967296) := by
  have e := land_lane 32 (a := x) (c := c % 4294967296) 0 (c / 4294967296) hx (Nat.mod_lt _ (by decide))
  rw [Nat.mul_zero,Nat.add_zero,Nat.zero_and,Nat.mul_zero,Nat.add_zero] at e
  exact e
theorem low0 {x : Nat} (hx : x < 4294967296) : x &&& 6148914691236517205 = x &&& (85 + 256 * (85 + 256 * (85 + 256 * 85))) := and_low (c := 6148914691236517205) hx
theorem low1 {x : Nat} (hx : x < 4294967296) : x &&& 3689348814741910323 = x &&& (51 + 256 * (51 + 256 * (51 + 256 * 51))) := and_low (c := 3689348814741910323) hx
theorem low2 {x : Nat} (hx : x < 4294967296) : x &&& 1085102592571150095 = x &&& (15 + 256 * (15 + 256 * (15 + 256 * 15))) := and_low (c := 1085102592571150095) hx
theorem andu_cast {a b : Nat} (ha : a < 9223372036854775808) (hb : b < 9223372036854775808) : Go.bits .and .u64 (a : Int) (b : Int) = ((a &&& b : Nat) : Int) := by
  have h := Nat.and_lt_two_pow a (lt63 hb)
  have e : (BitVec.ofNat 64 a &&& BitVec.ofNat 64 b).toNat = a &&& b := by rw [BitVec.toNat_and,BitVec.toNat_ofNat,BitVec.toNat_ofNat,mod64 ha,mod64 hb]
  simp only [Go.bits,IntKind.bits,BitVec.ofInt_natCast]
  exact (congrArg (fun m : Nat => IntKind.u64.wrap (m : Int)) e).trans (wrapu_of (n := ((a &&& b : Nat) : Int)) (by omega) (by omega))
theorem wrapu_cast {n : Nat} (h : n < 18446744073709551616) : IntKind.u64.wrap (n : Int) = n := wrapu_of (by omega) (by omega)
theorem stage1 {x : Nat} (hx : x < 4294967296) : IntKind.u64.wrap (Go.bits .and .u64 ((x : Int) / 2) 6148914691236517205 + Go.bits .and .u64 (x : Int) 6148914691236517205) = (((x / 2 &&& 6148914691236517205) + (x &&& 6148914691236517205) : Nat) : Int) := by
  have h1 : x / 2 &&& 6148914691236517205 ≤ x / 2 := Nat.and_le_left
  have h2 : x &&& 6148914691236517205 ≤ x := Nat.and_le_left
  have e1 : Go.bits .and .u64 ((x : Int) / 2) 6148914691236517205 = ((x / 2 &&& 6148914691236517205 : Nat) : Int) := andu_cast (a := x / 2) (b := 6148914691236517205) (by omega) (by decide)
  have e2 : Go.bits .and .u64 (x : Int) 6148914691236517205 = ((x &&& 6148914691236517205 : Nat) : Int) := andu_cast (b := 6148914691236517205) (by omega) (by decide)
  rw [e1,e2,← Int.natCast_add,wrapu_cast (by omega)]
theorem stage2 {x : Nat} (hx : x < 4294967296) : IntKind.u64.wrap (Go.bits .and .u64 ((x : Int) / 4) 3689348814741910323 + Go.bits .and .u64 (x : Int) 3689348814741910323) = (((x / 4 &&& 3689348814741910323) + (x &&& 3689348814741910323) : Nat) : Int) := by
  have h1 : x / 4 &&& 3689348814741910323 ≤ x / 4 := Nat.and_le_left
  have h2 : x &&& 3689348814741910323 ≤ x := Nat.and_le_left
  have e1 : Go.bits .and .u64 ((x : Int) / 4) 3689348814741910323 = ((x / 4 &&& 3689348814741910323 : Nat) : Int) := andu_cast (a := x / 4) (b := 3689348814741910323) (by omega) (by decide)
  have e2 : Go.bits .and .u64 (x : Int) 3689348814741910323 = ((x &&& 3689348814741910323 : Nat) : Int) := andu_cast (b := 3689348814741910323) (by omega) (by decide)
  rw [e1,e2,← Int.natCast_add,wrapu_cast (by omega)]
theorem stage3 {x : Nat} (hx : x < 4294967296) : Go.bits .and .u64 (IntKind.u64.wrap ((x : Int) / 16 + (x : Int))) 1085102592571150095 = (((x / 16 + x) &&& 1085102592571150095 : Nat) : Int) := by
  rw [show ((x : Int) / 16 + (x : Int)) = ((x / 16 + x : Nat) : Int) by simp,wrapu_cast (by omega)]
  exact andu_cast (b := 1085102592571150095) (by omega) (by decide)
theorem stage4 {x : Nat} (n : Nat) (hx : x < 4294967296) : IntKind.u64.wrap ((x : Int) + (x : Int) / (n : Int)) = ((x + x / n : Nat) : Int) := by
  have : x / n ≤ x := Nat.div_le_self _ _
  rw [show ((x : Int) + (x : Int) / (n : Int)) = ((x + x / n : Nat) : Int) by simp,wrapu_cast (by omega)]
theorem cnt_ones {x : Nat} (hx : x < 4294967296) : impl_ones.f x = some ((cnt x : Nat) : Int) := by
  obtain ⟨a,b,c,d,rfl,ha,hb,hc,hd⟩ := bytes_of hx
  obtain ⟨a1,a2,a3,a4,a5⟩ := t_facts ha
  obtain ⟨b1,b2,b3,b4,b5⟩ := t_facts hb
  obtain ⟨c1,c2,c3,c4,c5⟩ := t_facts hc
  obtain ⟨d1,d2,d3,d4,d5⟩ := t_facts hd
  rw [cnt_bytes ha hb hc hd]
  have f1 := stage1 hx
  rw [low0 hx,low0 (x := (a + 256 * (b + 256 * (c + 256 * d))) / 2) (by omega),step1 ha,step1 hb,step1 hc,show (d / 2 &&& 85) + (d &&& 85) = t1 d from rfl] at f1
  have g1 : t1 a + 256 * (t1 b + 256 * (t1 c + 256 * t1 d)) < 4294967296 := by omega
  have f2 := stage2 g1
  rw [low1 g1,low1 (x := (t1 a + 256 * (t1 b + 256 * (t1 c + 256 * t1 d))) / 4) (by omega),step2 a1,step2 b1,step2 c1,show (t1 d / 4 &&& 51) + (t1 d &&& 51) = t2 (t1 d) from rfl] at f2
  have g2 : t2 (t1 a) + 256 * (t2 (t1 b) + 256 * (t2 (t1 c) + 256 * t2 (t1 d))) < 2000000000 := by omega
  have f3 := stage3 (x := t2 (t1 a) + 256 * (t2 (t1 b) + 256 * (t2 (t1 c) + 256 * t2 (t1 d)))) (by omega)
  rw [low2 (x := (t2 (t1 a) + 256 * (t2 (t1 b) + 256 * (t2 (t1 c) + 256 * t2 (t1 d)))) / 16 + (t2 (t1 a) + 256 * (t2 (t1 b) + 256 * (t2 (t1 c) + 256 * t2 (t1 d))))) (by omega),step3 a2 (by omega),step3 b2 (by omega),step3 c2 (by omega),show (t2 (t1 d) / 16 + t2 (t1 d)) &&& 15 = t3 (t2 (t1 d)) from rfl,a4,b4,c4,d4] at f3
  unfold impl_ones.f bits_OnesCount64.f
  rw [wrapu_cast (n := a + 256 * (b + 256 * (c + 256 * d))) (by omega),f1,f2,f3]
  clear f1 f2 f3 g1 g2 a1 a2 a3 a4 b1 b2 b3 b4 c1 c2 c3 c4 d1 d2 d3 d4 hx
  generalize cnt8 a = p at a5 ⊢
  generalize cnt8 b = q at b5 ⊢
  generalize cnt8 c = r at c5 ⊢
  generalize cnt8 d = s at d5 ⊢
  have h1 := stage4 (x := p + 256 * (q + 256 * (r + 256 * s))) 256 (by omega)
  have h2 := stage4 (x := p + 256 * (q + 256 * (r + 256 * s)) + (p + 256 * (q + 256 * (r + 256 * s))) / 256) 65536 (by omega)
  rw [show ((p + 256 * (q + 256 * (r + 256 * s)) + (p + 256 * (q + 256 * (r + 256 * s))) / 256) + (p + 256 * (q + 256 * (r + 256 * s)) + (p + 256 * (q + 256 * (r + 256 * s))) / 256) / 65536) = (p + q + r + s) + 256 * ((q + r + s) + 256 * ((r + s) + 256 * s)) by omega] at h2
  have h3 := stage4 (x := (p + q + r + s) + 256 * ((q + r + s) + 256 * ((r + s) + 256 * s))) 4294967296 (by omega)
  rw [show (p + q + r + s) + 256 * ((q + r + s) + 256 * ((r + s) + 256 * s)) + ((p + q + r + s) + 256 * ((q + r + s) + 256 * ((r + s) + 256 * s))) / 4294967296 = (p + q + r + s) + 256 * ((q + r + s) + 256 * ((r + s) + 256 * s)) by omega] at h3
  have e1 : ((256 : Nat) : Int) = 256 := rfl
  have e2 : ((65536 : Nat) : Int) = 65536 := rfl
  have e3 : ((4294967296 : Nat) : Int) = 4294967296 := rfl
  rw [e1] at h1
  rw [e2] at h2
  rw [e3] at h3
  rw [h1,h2,h3,wrap64_cast (by omega)]
  have e4 : Go.bits .and .i64 (((p + q + r + s) + 256 * ((q + r + s) + 256 * ((r + s) + 256 * s)) : Nat) : Int) 127 = ((((p + q + r + s) + 256 * ((q + r + s) + 256 * ((r + s) + 256 * s))) &&& 127 : Nat) : Int) := and_cast (b := 127) (by omega) (by decide)
  rw [e4,show (127 : Nat) = 2 ^ 7 - 1 from rfl,Nat.and_two_pow_sub_one_eq_mod,Option.bind_some]
  congr 2
  show _ % 128 = _
  omega
theorem isBits_some (a : Int) : impl_isBits.f a = some (decide (0 ≤ a ∧ a ≤ 5)) := by
  unfold impl_isBits.f
  by_cases h : a ≥ 0
  · rw [if_pos h];congr 1;exact decide_eq_decide.mpr (by omega)
  · rw [if_neg h];congr 1;symm;exact decide_eq_false (by omega)
def noInp (n : Nat) (x : Int) : Bool := !decide (0 ≤ x ∧ x < ((2 ^ n : Nat) : Int))
theorem isInput_some {n : Nat} (hn : n ≤ 5) (x : Int) : impl_isInput.f n x = some (!noInp n x) := by
  have hM := pow_le hn
  unfold impl_isInput.f noInp
  rw [Bool.not_not]
  by_cases h : x ≥ 0
  · rw [if_pos h,if_pos (Int.natCast_nonneg _),shl1_of (by omega)];congr 1;exact decide_eq_decide.mpr (by omega)
  · rw [if_neg h];congr 1;symm;exact decide_eq_false (by omega)
def I64 (x : Int) : Prop := -9223372036854775808 ≤ x ∧ x ≤ 9223372036854775807
theorem isTab_I {a b : Int} (h : I64 b) : impl_IsTable.f a b = some (isTab a b) := impl_isTable h.1 h.2
def fit (a b c d : Int) : Bool := isTab a b && (isTab c d && (a == c))
theorem impl_fit {a b c d : Int} (hb : I64 b) (hd : I64 d) : impl_areTables.f a b c d = some (fit a b c d) := by
  unfold impl_areTables.f fit
  rw [isTab_I hb,isTab_I hd,Option.bind_some]
  cases isTab a b with
  | false => rfl
  | true => cases isTab c d <;> rfl
theorem fit_of {a b c d : Int} (h : fit a b c d = true) : ∃ n w v : Nat,a = n ∧ b = w ∧ c = n ∧ d = v ∧ Tab n w ∧ Tab n v := by
  unfold fit at h
  rw [Bool.and_eq_true,Bool.and_eq_true,beq_iff_eq] at h
  obtain ⟨n,w,rfl,rfl,h1⟩ := tab_of h.1
  obtain ⟨m,v,e,rfl,h2⟩ := tab_of h.2.1
  obtain rfl : n = m := by have := h.2.2;omega
  exact ⟨n,w,v,rfl,rfl,e,rfl,h1,h2⟩
theorem fit_to {n w v : Nat} (h1 : Tab n w) (h2 : Tab n v) : fit n w n v = true := by
  unfold fit
  rw [isTab_of h1,isTab_of h2]
  simp
theorem xor_lt32b {a b : Nat} (ha : a < 4294967296) (hb : b < 4294967296) : a ^^^ b < 4294967296 := Nat.xor_lt_two_pow (n := 32) ha hb
def distI (a b c d : Int) : Int := if fit a b c d = true then ((cnt (b.toNat ^^^ d.toNat) : Nat) : Int) else -1
theorem impl_distI {a b c d : Int} (hb : I64 b) (hd : I64 d) : impl_DistanceBetween.f a b c d = some (distI a b c d) := by
  unfold impl_DistanceBetween.f distI
  rw [impl_fit hb hd,Option.bind_some]
  by_cases h : fit a b c d = true
  · obtain ⟨n,w,v,rfl,rfl,rfl,rfl,h1,h2⟩ := fit_of h
    rw [if_pos h,if_pos h,xor_cast h1.lt63 h2.lt63,cnt_ones (xor_lt32b h1.lt h2.lt),Option.bind_some,Int.toNat_natCast,Int.toNat_natCast]
  · rw [if_neg h,if_neg h]
def valI (a b x : Int) : Int := if isTab a b = true then (if noInp a.toNat x = true then -1 else ((bitN b.toNat x.toNat : Nat) : Int)) else -1
theorem impl_valI {a b : Int} (x : Int) (hb : I64 b) : impl_ValueAt.f a b x = some (valI a b x) := by
  unfold impl_ValueAt.f impl_hasInput.f valI
  rw [isTab_I hb,Option.bind_some]
  by_cases h : isTab a b = true
  · obtain ⟨n,w,rfl,rfl,ht⟩ := tab_of h
    have hM := pow_le ht.1
    rw [if_pos h,if_pos h,isInput_some ht.1,Option.bind_some,Option.bind_some,Int.toNat_natCast,Int.toNat_natCast]
    by_cases hx : noInp n x = true
    · rw [hx,if_neg (by decide),if_pos rfl]
    · have hx' : noInp n x = false := by simpa using hx
      have hd : decide (0 ≤ x ∧ x < ((2 ^ n : Nat) : Int)) = true := by unfold noInp at hx';simpa using hx'
      have hd := of_decide_eq_true hd
      obtain ⟨x,rfl⟩ := Int.eq_ofNat_of_zero_le hd.1
      rw [hx',if_pos (show (!false) = true from rfl),if_neg (by decide),at_some' ht.lt63 (by omega),Option.bind_some,Int.toNat_natCast]
  · rw [if_neg h,if_neg h,Option.bind_some,if_neg (by decide)]
def pop (x : Nat) : Nat := bitN x 0 + bitN x 1 + bitN x 2 + bitN x 3 + bitN x 4
theorem ones_small {x : Nat} (hx : x < 32) : impl_ones.f x = some ((pop x : Nat) : Int) := by
  have h : ∀ x : Fin 32,impl_ones.f ((x.val : Nat) : Int) = some ((pop x.val : Nat) : Int) := by decide +kernel
  exact h ⟨x,hx⟩
theorem pop_le {n x : Nat} (hn : n ≤ 5) (hx : x < 2 ^ n) : pop x ≤ n := by
  have h : ∀ n : Fin 6,∀ x : Fin 32,x.val < 2 ^ n.val → pop x.val ≤ n.val := by decide +kernel
  have := pow_le hn
  exact h ⟨n,by omega⟩ ⟨x,by omega⟩ hx
theorem ones_ref {x k : Nat} (hx : x < 32) (hk : 10 ≤ k) : spec_l2Count.f k x = some ((pop x : Nat) : Int) := by
  have hh : ∀ x : Fin 32,spec_l2Count.f 10 ((x.val : Nat) : Int) = some ((pop x.val : Nat) : Int) := by decide +kernel
  exact at_rounds (g := fun K => spec_l2Count.f K x) (fun K => spec_l2Count.mono _ K) hk (hh ⟨x,hx⟩)
end Go.Proofs.Ytgojehaneegaeac.U
namespace Go.Proofs.Ytgojehaneegaeac.U
open Go.RowKit Go.Proofs.YtgojehaneegaeacW.PrintWords Go.Proofs.YtgojehaneegaeacW.PrintLast Go.Proofs.YtgojehaneegaeacW.PrintMore Go.Proofs.Ytgojehaneegaeac.F Go.Proofs.Ytgojehaneegaeac.B
set_option linter.unusedVariables false
set_option linter.unusedSimpArgs false
set_option maxRecDepth 100000
def affB (u b x : Nat) : Bool := (pop (u &&& x) + b) % 2 == 1
def affW (n u b : Nat) : Nat := tabN (affB u b) (2 ^ n)
theorem affW_lt {n : Nat} (hn : n ≤ 5) (u b : Nat) : affW n u b < 4294967296 := Nat.lt_of_lt_of_le (tabN_lt _ _) (full_le hn)
theorem and_small {u x : Nat} (hx : x < 32) : u &&& x < 32 := Nat.lt_of_le_of_lt Nat.and_le_right hx
theorem impl_aff {n u b : Nat} (hn : n ≤ 5) (hu : u < 32) (hb : b ≤ 1) : impl_affine.f n u b = some ((n : Int),((affW n u b : Nat) : Int)) := by
  have ho : ∀ x : Nat,x < 2 ^ n → impl_ones.f ((u &&& x : Nat) : Int) = some ((pop (u &&& x) : Nat) : Int) := fun x hx => ones_small (and_small (Nat.lt_of_lt_of_le hx (pow_le hn)))
  have hp : ∀ x : Nat,x < 2 ^ n → pop (u &&& x) ≤ 5 := fun x hx => pop_le (n := 5) (by omega) (and_small (Nat.lt_of_lt_of_le hx (pow_le hn)))
  unfold impl_affine.f
  rw [if_pos ⟨by omega,by
    rw [Int.toNat_natCast,Int.toNat_natCast]
    refine allN_iff.mpr fun x hx => ?_
    have := hp x hx
    unfold impl_affine.okx
    rw [ho x hx]
    exact decide_eq_true ⟨by omega,by omega⟩⟩,Int.toNat_natCast,Int.toNat_natCast,Int.toNat_natCast]
  congr 3
  refine tabN_congr fun x hx => ?_
  unfold impl_affine.p affB
  rw [ho x hx]
  show ((((pop (u &&& x) : Nat) : Int) + (b : Int)) % 2 == 1) = _
  rw [show (((pop (u &&& x) : Nat) : Int) + (b : Int)) % 2 = (((pop (u &&& x) + b) % 2 : Nat) : Int) by omega]
  rcases Nat.mod_two_eq_zero_or_one (pop (u &&& x) + b) with h | h <;> rw [h] <;> rfl
theorem spec_aff_loop {n u b : Nat} (hn : n ≤ 5) (hu : u < 32) (hb : b ≤ 1) : ∀ (d k x : Nat),x + d = 2 ^ n → d + 10 < k →
    spec_l14Affine.l0 k n u b ((tabN (affB u b) x : Nat) : Int) x = some ((affW n u b : Nat) : Int) := by
  have hM := pow_le hn
  intro d
  induction d with
  | zero =>
    intro k x hx hk
    obtain ⟨k,rfl⟩ : ∃ m,k = m + 1 := ⟨k - 1,by omega⟩
    obtain rfl : x = 2 ^ n := by omega
    simp only [spec_l14Affine.l0]
    rw [if_pos (Int.natCast_nonneg _),shl1_of (by omega),if_neg (by omega)]
    rfl
  | succ d ih =>
    intro k x hx hk
    obtain ⟨k,rfl⟩ : ∃ m,k = m + 1 := ⟨k - 1,by omega⟩
    have h5 := pop_le (n := 5) (by omega) (and_small (u := u) (show x < 32 by omega))
    have hT := tabN_lt63 (affB u b) (show x ≤ 32 by omega)
    have hs : (affB u b x).toNat <<< x < 2 ^ 32 := by
      have := @bitN_shl_lt (if affB u b x = true then 1 else 0) 0 x 32 (by omega)
      have e : bitN (if affB u b x = true then 1 else 0) 0 = (affB u b x).toNat := by cases affB u b x <;> rfl
      rw [e] at this
      exact this
    have hm : Int.tmod (wrap64 (((pop (u &&& x) : Nat) : Int) + (b : Int))) 2 = (((affB u b x).toNat : Nat) : Int) := by
      rw [wrap64_of (by omega) (by omega),Int.tmod_eq_emod_of_nonneg (by omega),show (((pop (u &&& x) : Nat) : Int) + (b : Int)) % 2 = (((pop (u &&& x) + b) % 2 : Nat) : Int) by omega]
      unfold affB
      rcases Nat.mod_two_eq_zero_or_one (pop (u &&& x) + b) with h | h <;> rw [h] <;> rfl
    simp only [spec_l14Affine.l0]
    rw [if_pos (Int.natCast_nonneg _),shl1_of (by omega),if_pos (by omega),and_cast (by omega) (by omega),ones_ref (and_small (by omega)) (by omega),Option.bind_some,if_pos (Int.natCast_nonneg _),hm,shl_cast (by omega) (by omega),or_cast hT (by omega),wrap64_succ (by omega)]
    exact ih k (x + 1) (by omega) (by omega)
theorem spec_aff {n u b k : Nat} (hn : n ≤ 5) (hu : u < 32) (hb : b ≤ 1) (hk : 45 < k) : spec_l14Affine.f k n u b = some ((affW n u b : Nat) : Int) := by
  have hM := pow_le hn
  exact spec_aff_loop hn hu hb (2 ^ n) k 0 (by omega) (by omega)
def dist (n w u b : Nat) : Nat := cnt (w ^^^ affW n u b)
def nearS (n w u b : Nat) (s : Nat × Nat × Nat) : Nat × Nat × Nat := if dist n w u b < s.2.2 then (u,b,dist n w u b) else s
def goN {σ : Type} (f : Nat → σ → σ) : Nat → Nat → σ → σ
  | 0,_,s => s
  | d + 1,i,s => goN f d (i + 1) (f i s)
def nearU (n w u : Nat) (s : Nat × Nat × Nat) : Nat × Nat × Nat := nearS n w u 1 (nearS n w u 0 s)
theorem xor_lt32 {n w u b : Nat} (ht : Tab n w) : w ^^^ affW n u b < 4294967296 := Nat.xor_lt_two_pow (n := 32) ht.lt (affW_lt ht.1 u b)
theorem impl_near_b {n w u b : Nat} (ht : Tab n w) (hu : u < 2 ^ n) (hb : b < 2) (k : Nat) (s : Nat × Nat × Nat) :
    impl_NearestAffine.l1 (k + 1) s.1 s.2.1 s.2.2 u ((2 ^ n : Nat) : Int) u b n w = impl_NearestAffine.l1 k (nearS n w u b s).1 (nearS n w u b s).2.1 (nearS n w u b s).2.2 u ((2 ^ n : Nat) : Int) u ((b + 1 : Nat) : Int) n w := by
  have hM := pow_le ht.1
  have ha := affW_lt ht.1 u b
  have hl := ht.lt
  simp only [impl_NearestAffine.l1]
  rw [if_pos (by omega),impl_aff ht.1 (by omega) (by omega),Option.bind_some,xor_cast (by omega) (by omega),cnt_ones (xor_lt32 ht),Option.bind_some,wrap64_succ (by omega)]
  unfold nearS dist
  by_cases h : cnt (w ^^^ affW n u b) < s.2.2
  · rw [if_pos (by omega),if_pos h]
  · rw [if_neg (by omega),if_neg h]
theorem impl_near_u {n w u : Nat} (ht : Tab n w) (hu : u < 2 ^ n) (k : Nat) (s : Nat × Nat × Nat) :
    impl_NearestAffine.l0 (k + 4) s.1 s.2.1 s.2.2 ((2 ^ n : Nat) : Int) u n w = impl_NearestAffine.l0 k (nearU n w u s).1 (nearU n w u s).2.1 (nearU n w u s).2.2 ((2 ^ n : Nat) : Int) ((u + 1 : Nat) : Int) n w := by
  have hM := pow_le ht.1
  have h0 := impl_near_b ht hu (b := 0) (by decide) (k + 2) s
  have h1 := impl_near_b ht hu (b := 1) (by decide) (k + 1) (nearS n w u 0 s)
  rw [show k + 4 = (k + 3) + 1 from rfl]
  simp only [impl_NearestAffine.l0]
  rw [if_pos (by omega)]
  refine Eq.trans h0 (Eq.trans h1 ?_)
  simp only [impl_NearestAffine.l1]
  rw [if_neg (by omega),wrap64_succ (by omega)]
  rfl
theorem impl_near {n w : Nat} (ht : Tab n w) : ∀ (d k u : Nat) (s : Nat × Nat × Nat),u + d = 2 ^ n → d * 4 < k →
    impl_NearestAffine.l0 k s.1 s.2.1 s.2.2 ((2 ^ n : Nat) : Int) u n w = some (((goN (nearU n w) d u s).1 : Int),((goN (nearU n w) d u s).2.1 : Int),((goN (nearU n w) d u s).2.2 : Int),true) := by
  intro d
  induction d with
  | zero =>
    intro k u s hu hk
    obtain ⟨k,rfl⟩ : ∃ m,k = m + 1 := ⟨k - 1,by omega⟩
    simp only [impl_NearestAffine.l0]
    rw [if_neg (by omega)]
    rfl
  | succ d ih =>
    intro k u s hu hk
    obtain ⟨k,rfl⟩ : ∃ m,k = m + 4 := ⟨k - 4,by omega⟩
    rw [impl_near_u ht (by omega)]
    exact ih k (u + 1) _ (by omega) (by omega)
theorem spec_near_b {n w u b k : Nat} (ht : Tab n w) (hu : u < 2 ^ n) (hb : b < 2) (hk : 50 < k) (s : Nat × Nat × Nat) :
    spec_NearestAffine.l1 (k + 1) s.1 s.2.1 s.2.2 u b n w = spec_NearestAffine.l1 k (nearS n w u b s).1 (nearS n w u b s).2.1 (nearS n w u b s).2.2 u ((b + 1 : Nat) : Int) n w := by
  have hM := pow_le ht.1
  have ha := affW_lt ht.1 u b
  have hl := ht.lt
  simp only [spec_NearestAffine.l1]
  rw [if_pos (by omega),spec_aff ht.1 (by omega) (by omega) (by omega),Option.bind_some,xor_cast (by omega) (by omega),cnt_ref (xor_lt32 ht) (by omega),Option.bind_some,wrap64_succ (by omega)]
  unfold nearS dist
  by_cases h : cnt (w ^^^ affW n u b) < s.2.2
  · rw [if_pos (by omega),if_pos h]
  · rw [if_neg (by omega),if_neg h]
theorem spec_near_u {n w u k : Nat} (ht : Tab n w) (hu : u < 2 ^ n) (hk : 50 < k) (s : Nat × Nat × Nat) :
    spec_NearestAffine.l0 (k + 4) s.1 s.2.1 s.2.2 u n w = spec_NearestAffine.l0 k (nearU n w u s).1 (nearU n w u s).2.1 (nearU n w u s).2.2 ((u + 1 : Nat) : Int) n w := by
  have hM := pow_le ht.1
  have hn := ht.1
  have h0 := spec_near_b ht hu (b := 0) (k := k + 2) (by decide) (by omega) s
  have h1 := spec_near_b ht hu (b := 1) (k := k + 1) (by decide) (by omega) (nearS n w u 0 s)
  rw [show k + 4 = (k + 3) + 1 from rfl]
  simp only [spec_NearestAffine.l0]
  rw [if_pos (Int.natCast_nonneg _),shl1_of (by omega),if_pos (by omega)]
  refine Eq.trans h0 (Eq.trans h1 ?_)
  simp only [spec_NearestAffine.l1]
  rw [if_neg (by omega),wrap64_succ (by omega)]
  rfl
theorem spec_near {n w : Nat} (ht : Tab n w) : ∀ (d k u : Nat) (s : Nat × Nat × Nat),u + d = 2 ^ n → d * 4 + 60 < k →
    spec_NearestAffine.l0 k s.1 s.2.1 s.2.2 u n w = some (((goN (nearU n w) d u s).1 : Int),((goN (nearU n w) d u s).2.1 : Int),((goN (nearU n w) d u s).2.2 : Int),true) := by
  have hM := pow_le ht.1
  have hn := ht.1
  intro d
  induction d with
  | zero =>
    intro k u s hu hk
    obtain ⟨k,rfl⟩ : ∃ m,k = m + 1 := ⟨k - 1,by omega⟩
    simp only [spec_NearestAffine.l0]
    rw [if_pos (Int.natCast_nonneg _),shl1_of (by omega),if_neg (by omega)]
    rfl
  | succ d ih =>
    intro k u s hu hk
    obtain ⟨k,rfl⟩ : ∃ m,k = m + 4 := ⟨k - 4,by omega⟩
    rw [spec_near_u ht (by omega) (by omega)]
    exact ih k (u + 1) _ (by omega) (by omega)
theorem cntN_cut {p : Nat → Bool} {m : Nat} (h : ∀ i,m ≤ i → p i = false) : ∀ r,cntN p (m + r) = cntN p m := by
  intro r
  induction r with
  | zero => rfl
  | succ r ih => rw [← Nat.add_assoc,cntN,ih,h _ (by omega)];rfl
theorem dist_le {n w : Nat} (ht : Tab n w) (u b : Nat) : dist n w u b ≤ 2 ^ n := by
  have hM := pow_le ht.1
  have hx : w ^^^ affW n u b < 2 ^ 2 ^ n := Nat.xor_lt_two_pow ht.2 (tabN_lt _ _)
  unfold dist cnt
  rw [show 32 = 2 ^ n + (32 - 2 ^ n) by omega,cntN_cut (fun i hi => testBit_ge hx hi)]
  exact cntN_le _ _
theorem near_first {n w : Nat} (ht : Tab n w) (a b : Nat) (ha : 2 ^ n < a) (hb : 2 ^ n < b) : goN (nearU n w) (2 ^ n) 0 (0,0,a) = goN (nearU n w) (2 ^ n) 0 (0,0,b) := by
  have hd := dist_le ht 0 0
  obtain ⟨d,hd'⟩ : ∃ d,2 ^ n = d + 1 := ⟨2 ^ n - 1,by have := pow_pos n;omega⟩
  rw [hd',goN,goN]
  congr 1
  unfold nearU
  congr 1
  unfold nearS
  rw [if_pos (show dist n w 0 0 < a by omega),if_pos (show dist n w 0 0 < b by omega)]
def nearI (a b : Int) : Int × Int × Int × Bool := if isTab a b = true then (((goN (nearU a.toNat b.toNat) (2 ^ a.toNat) 0 (0,0,100)).1 : Int),((goN (nearU a.toNat b.toNat) (2 ^ a.toNat) 0 (0,0,100)).2.1 : Int),((goN (nearU a.toNat b.toNat) (2 ^ a.toNat) 0 (0,0,100)).2.2 : Int),true) else (0,0,0,false)
theorem impl_nearest {a b : Int} (h0 : -9223372036854775808 ≤ b) (h1 : b ≤ 9223372036854775807) {k : Nat} (hk : 200 < k) : impl_NearestAffine.f k a b = some (nearI a b) := by
  unfold impl_NearestAffine.f nearI
  rw [impl_isTable h0 h1,Option.bind_some]
  cases hT : isTab a b with
  | false => rw [if_neg (by decide),if_neg (by decide)]
  | true =>
    obtain ⟨n,w,rfl,rfl,ht⟩ := tab_of hT
    have hM := pow_le ht.1
    have hn := ht.1
    rw [if_pos rfl,if_pos rfl,size_some _ (by omega),Option.bind_some,Option.bind_some,wrap64_succ (by omega),Int.toNat_natCast,Int.toNat_natCast,← near_first ht (2 ^ n + 1) 100 (by omega) (by omega)]
    exact impl_near ht (2 ^ n) k 0 (0,0,2 ^ n + 1) (by omega) (by omega)
theorem spec_nearest (a b : Int) {k : Nat} (hk : 300 < k) : spec_NearestAffine.f k a b = some (nearI a b) := by
  unfold spec_NearestAffine.f nearI
  rw [spec_isTable,Option.bind_some]
  cases hT : isTab a b with
  | false => rw [if_neg (by decide),if_neg (by decide)]
  | true =>
    obtain ⟨n,w,rfl,rfl,ht⟩ := tab_of hT
    have hM := pow_le ht.1
    rw [if_pos rfl,if_pos rfl,Int.toNat_natCast,Int.toNat_natCast]
    exact spec_near ht (2 ^ n) k 0 (0,0,100) (by omega) (by omega)
end Go.Proofs.Ytgojehaneegaeac.U
namespace Go.Proofs.Ytgojehaneegaeac.U
open Go.RowKit Go.Proofs.YtgojehaneegaeacW.PrintWords Go.Proofs.YtgojehaneegaeacW.PrintLast Go.Proofs.YtgojehaneegaeacW.PrintMore Go.Proofs.Ytgojehaneegaeac.F Go.Proofs.Ytgojehaneegaeac.B
set_option linter.unusedVariables false
set_option linter.unusedSimpArgs false
theorem in_some (x lo hi : Int) : spec_l1In.f x lo hi = some (decide (lo ≤ x ∧ x ≤ hi)) := by
  unfold spec_l1In.f
  by_cases h : x ≥ lo
  · rw [if_pos h];congr 1;exact decide_eq_decide.mpr (by omega)
  · rw [if_neg h];congr 1;symm;exact decide_eq_false (by omega)
def affI (a u b : Int) : Int × Int × Bool := if 0 ≤ a ∧ a ≤ 5 ∧ 0 ≤ u ∧ u < ((2 ^ a.toNat : Nat) : Int) ∧ 0 ≤ b ∧ b ≤ 1 then (a,((affW a.toNat u.toNat b.toNat : Nat) : Int),true) else (0,0,false)
theorem impl_affI (a u b : Int) : impl_AffineTable.f a u b = some (affI a u b) := by
  unfold impl_AffineTable.f affI
  rw [isBits_some,Option.bind_some]
  by_cases h1 : 0 ≤ a ∧ a ≤ 5
  · rw [decide_eq_true h1,if_pos rfl]
    obtain ⟨n,rfl⟩ := Int.eq_ofNat_of_zero_le h1.1
    have hM := pow_le (show n ≤ 5 by omega)
    rw [isInput_some (by omega),Option.bind_some,Int.toNat_natCast]
    by_cases h2 : 0 ≤ u ∧ u < ((2 ^ n : Nat) : Int)
    · have e : (!noInp n u) = true := by unfold noInp;rw [decide_eq_true h2];rfl
      rw [e,if_pos rfl]
      unfold impl_isBit.f
      by_cases h3 : b = 0
      · subst h3
        obtain ⟨v,rfl⟩ := Int.eq_ofNat_of_zero_le h2.1
        have := impl_aff (n := n) (u := v) (b := 0) (by omega) (by omega) (by omega)
        have this : impl_affine.f n v 0 = some ((n : Int),((affW n v 0 : Nat) : Int)) := this
        rw [if_pos rfl,Option.bind_some,if_pos rfl,this,Option.bind_some,if_pos (by omega),Int.toNat_natCast]
        rfl
      · rw [if_neg h3,Option.bind_some]
        by_cases h4 : b = 1
        · subst h4
          obtain ⟨v,rfl⟩ := Int.eq_ofNat_of_zero_le h2.1
          have := impl_aff (n := n) (u := v) (b := 1) (by omega) (by omega) (by omega)
          have this : impl_affine.f n v 1 = some ((n : Int),((affW n v 1 : Nat) : Int)) := this
          rw [if_pos (by decide),this,Option.bind_some,if_pos (by omega),Int.toNat_natCast]
          rfl
        · rw [if_neg (by rw [beq_iff_eq];exact h4),if_neg (by omega)]
    · have e : (!noInp n u) = false := by unfold noInp;rw [decide_eq_false h2];rfl
      rw [e,if_neg (by decide),if_neg (by omega)]
  · rw [decide_eq_false h1,if_neg (by decide),if_neg (by omega)]
theorem spec_affI (a u b : Int) {k : Nat} (hk : 45 < k) : spec_AffineTable.f k a u b = some (affI a u b) := by
  unfold spec_AffineTable.f affI
  rw [in_some,Option.bind_some]
  by_cases h1 : 0 ≤ a ∧ a ≤ 5
  · rw [decide_eq_true h1,if_pos rfl,if_pos h1.1]
    obtain ⟨n,rfl⟩ := Int.eq_ofNat_of_zero_le h1.1
    have hM := pow_le (show n ≤ 5 by omega)
    have hp := pow_pos n
    rw [shl1_of (by omega),wrap64_of (by omega) (by omega),in_some,Option.bind_some,Int.toNat_natCast]
    by_cases h2 : 0 ≤ u ∧ u < ((2 ^ n : Nat) : Int)
    · rw [decide_eq_true (by omega),if_pos rfl,in_some,Option.bind_some]
      by_cases h3 : 0 ≤ b ∧ b ≤ 1
      · obtain ⟨v,rfl⟩ := Int.eq_ofNat_of_zero_le h2.1
        obtain ⟨c,rfl⟩ := Int.eq_ofNat_of_zero_le h3.1
        rw [decide_eq_true h3,if_pos rfl,spec_aff (by omega) (by omega) (by omega) hk,Option.bind_some,if_pos (by omega),Int.toNat_natCast,Int.toNat_natCast]
      · rw [decide_eq_false h3,if_neg (by decide),if_neg (by omega)]
    · rw [decide_eq_false (by omega),if_neg (by decide),if_neg (by omega)]
  · rw [decide_eq_false h1,if_neg (by decide),if_neg (by omega)]
def NearAt (n w m : Nat) (s : Nat × Nat × Nat) : Prop := (s.1 < 2 ^ n ∧ s.2.1 ≤ 1 ∧ s.2.2 = dist n w s.1 s.2.1 ∨ s.2.2 = 100) ∧ ∀ u b : Nat,u < m → b ≤ 1 → s.2.2 ≤ dist n w u b
theorem nearS_le {n w u b : Nat} (s : Nat × Nat × Nat) : (nearS n w u b s).2.2 ≤ s.2.2 ∧ (nearS n w u b s).2.2 ≤ dist n w u b ∧ (nearS n w u b s = (u,b,dist n w u b) ∨ nearS n w u b s = s) := by
  unfold nearS
  split
  · exact ⟨by dsimp only;omega,Nat.le_refl _,.inl rfl⟩
  · exact ⟨Nat.le_refl _,by omega,.inr rfl⟩
theorem near_next {n w m : Nat} (hm : m < 2 ^ n) {s : Nat × Nat × Nat} (h : NearAt n w m s) : NearAt n w (m + 1) (nearU n w m s) := by
  unfold nearU
  obtain ⟨a1,a2,a3⟩ := nearS_le (n := n) (w := w) (u := m) (b := 0) s
  obtain ⟨b1,b2,b3⟩ := nearS_le (n := n) (w := w) (u := m) (b := 1) (nearS n w m 0 s)
  refine ⟨?_,fun u b hu hb => ?_⟩
  · rcases b3 with e | e
    · rw [e];exact .inl ⟨hm,Nat.le_refl _,rfl⟩
    · rw [e]
      rcases a3 with e | e
      · rw [e];exact .inl ⟨hm,(show 0 ≤ 1 from Nat.zero_le 1),rfl⟩
      · rw [e];exact h.1
  · by_cases e : u = m
    · subst e
      rcases (show b = 0 ∨ b = 1 by omega) with rfl | rfl
      · omega
      · exact b2
    · have := h.2 u b (by omega) hb
      omega
theorem near_all {n w : Nat} : ∀ (d m : Nat) (s : Nat × Nat × Nat),m + d = 2 ^ n → NearAt n w m s → NearAt n w (2 ^ n) (goN (nearU n w) d m s) := by
  intro d
  induction d with
  | zero =>
    intro m s hm h
    rw [goN]
    obtain rfl : m = 2 ^ n := by omega
    exact h
  | succ d ih => intro m s hm h;rw [goN];exact ih (m + 1) _ (by omega) (near_next (by omega) h)
theorem near_is {n w : Nat} (ht : Tab n w) : ∃ u b : Nat,u < 2 ^ n ∧ b ≤ 1 ∧ nearI n w = ((u : Int),(b : Int),((dist n w u b : Nat) : Int),true) ∧ ∀ u' b' : Nat,u' < 2 ^ n → b' ≤ 1 → dist n w u b ≤ dist n w u' b' := by
  have h := near_all (n := n) (w := w) (2 ^ n) 0 (0,0,100) (by omega) ⟨.inr rfl,fun u b hu => by omega⟩
  unfold nearI
  rw [if_pos (isTab_of ht),Int.toNat_natCast,Int.toNat_natCast]
  generalize goN (nearU n w) (2 ^ n) 0 (0,0,100) = s at h
  obtain ⟨h1,h2⟩ := h
  have hd := dist_le ht 0 0
  have hM := pow_le ht.1
  have h3 := h2 0 0 (pow_pos n) (by decide)
  rcases h1 with ⟨q1,q2,q3⟩ | q
  · exact ⟨s.1,s.2.1,q1,q2,by rw [q3],fun u' b' hu hb => by have := h2 u' b' hu hb;omega⟩
  · omega
theorem cntN_pos {p : Nat → Bool} {m i : Nat} (hi : i < m) (h : p i = true) : 0 < cntN p m := by
  induction m with
  | zero => omega
  | succ m ih =>
    rw [cntN]
    by_cases e : i = m
    · subst e;rw [h];simp
    · have := ih (by omega);omega
theorem cnt_zero {w : Nat} (hw : w < 4294967296) : cnt w = 0 ↔ w = 0 := by
  constructor
  · intro h
    refine word_ext (m := 32) hw (by decide) fun i hi => ?_
    rw [Nat.zero_testBit]
    cases e : w.testBit i with
    | false => rfl
    | true => have := cntN_pos (p := fun i => w.testBit i) hi e;unfold cnt at h;omega
  · rintro rfl
    exact cntN_zero (fun i => Nat.zero_testBit i) 32
theorem xor_zero_iff {a b : Nat} : a ^^^ b = 0 ↔ a = b := by
  constructor
  · intro h
    have : a ^^^ b ^^^ b = b := by rw [h,Nat.zero_xor]
    rwa [Nat.xor_assoc,Nat.xor_self,Nat.xor_zero] at this
  · rintro rfl;exact Nat.xor_self _
theorem dist_zero {n w u b : Nat} (ht : Tab n w) : dist n w u b = 0 ↔ w = affW n u b := by
  unfold dist
  rw [cnt_zero (Nat.xor_lt_two_pow (n := 32) ht.lt (affW_lt ht.1 u b)),xor_zero_iff]
def Affine (n w : Nat) : Prop := ∃ u b : Nat,u < 2 ^ n ∧ b ≤ 1 ∧ w = affW n u b
def isAffI (a b : Int) : Bool := (nearI a b).2.2.2 && decide ((nearI a b).2.2.1 = 0)
theorem isAff_iff {n w : Nat} (ht : Tab n w) : isAffI n w = true ↔ Affine n w := by
  obtain ⟨u,b,hu,hb,e,hmin⟩ := near_is ht
  unfold isAffI
  rw [e]
  show (true && decide (((dist n w u b : Nat) : Int) = 0)) = true ↔ _
  rw [Bool.true_and,decide_eq_true_eq]
  constructor
  · intro h
    exact ⟨u,b,hu,hb,(dist_zero ht).mp (by omega)⟩
  · rintro ⟨u',b',hu',hb',hw⟩
    have := hmin u' b' hu' hb'
    rw [(dist_zero ht).mpr hw] at this
    omega
theorem impl_isAff {a b : Int} (h0 : -9223372036854775808 ≤ b) (h1 : b ≤ 9223372036854775807) {k : Nat} (hk : 200 < k) : impl_IsAffine.f k a b = some (isAffI a b) := by
  unfold impl_IsAffine.f isAffI
  rw [impl_nearest h0 h1 hk,Option.bind_some]
  generalize nearI a b = r
  obtain ⟨r1,r2,r3,r4⟩ := r
  cases r4 with
  | true => rw [if_pos rfl];rfl
  | false => rw [if_neg (show ¬ (false = true) by decide)];rfl
theorem spec_isAff (a b : Int) {k : Nat} (hk : 300 < k) : spec_IsAffine.f k a b = some (isAffI a b) := by
  unfold spec_IsAffine.f isAffI
  rw [spec_nearest a b hk,Option.bind_some]
  generalize nearI a b = r
  obtain ⟨r1,r2,r3,r4⟩ := r
  cases r4 with
  | true => rw [if_pos rfl];rfl
  | false => rw [if_neg (show ¬ (false = true) by decide)];rfl
theorem tab_aff {n : Nat} (hn : n ≤ 5) (u b : Nat) : Tab n (affW n u b) := ⟨hn,tabN_lt _ _⟩
theorem pop_xor {u x y : Nat} (hu : u < 32) (hx : x < 32) (hy : y < 32) : pop (u &&& (x ^^^ y)) % 2 = (pop (u &&& x) + pop (u &&& y)) % 2 := by
  have hh : ∀ u x y : Fin 32,pop (u.val &&& (x.val ^^^ y.val)) % 2 = (pop (u.val &&& x.val) + pop (u.val &&& y.val)) % 2 := by decide +kernel
  exact hh ⟨u,hu⟩ ⟨x,hx⟩ ⟨y,hy⟩
end Go.Proofs.Ytgojehaneegaeac.U
