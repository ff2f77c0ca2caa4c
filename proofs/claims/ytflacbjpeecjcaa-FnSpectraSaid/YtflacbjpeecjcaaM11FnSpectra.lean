/- Walks of Go functions and lemmas on what they compute, for the row of FnSpectra (a part of several): each call ends as the Lean function of its name tells; the conditions are those of each theorem. -/
import Derived.Test.YtflacbjpeecjcaaM1FnSpectra
import Derived.Test.YtflacbjpeecjcaaM2FnSpectra
import Derived.Test.YtflacbjpeecjcaaM3FnSpectra
import Derived.Test.YtflacbjpeecjcaaM6FnSpectra
import Derived.Test.YtflacbjpeecjcaaM7FnSpectra
import Derived.Test.YtflacbjpeecjcaaM8FnSpectra
import Derived.Test.YtflacbjpeecjcaaM9FnSpectra
import Derived.Test.YtflacbjpeecjcaaM10FnSpectra
namespace Go.Proofs.Ytflacbjpeecjcaa.F
open Go.RowKit Go.Proofs.YtflacbjpeecjcaaW.PrintWords Go.Proofs.YtflacbjpeecjcaaW.PrintLast Go.Proofs.YtflacbjpeecjcaaW.PrintMore
attribute [local go_sem] max2_int min2_int max_two min_two max_three min_three max_four min_four 
set_option linter.unusedVariables false
set_option linter.unusedSimpArgs false
def laws_FnSpectra.sq (q : List Int) : Nat → Int
 | 0 => 0
 | e + 1 => wrap64 (laws_FnSpectra.sq q e + wrap64 (rd q (e : Int) * rd q (e : Int)))
def laws_FnSpectra.cu (q : List Int) : Nat → Int
 | 0 => 0
 | e + 1 => wrap64 (laws_FnSpectra.cu q e + wrap64 (wrap64 (rd q (e : Int) * rd q (e : Int)) * rd q (e : Int)))
def laws_FnSpectra.sh (q : List Int) (pa : Nat → Int) : Nat → Int
 | 0 => 0
 | e + 1 => if pa e = 1 then wrap64 (laws_FnSpectra.sh q pa e - wrap64 (rd q (e : Int) * rd q (e : Int))) else wrap64 (laws_FnSpectra.sh q pa e + wrap64 (rd q (e : Int) * rd q (e : Int)))
structure SpecBig (k : Nat) (code q : List Int) (f1 f2 v1 : Int) (nu nb xa q1 rj z r2 q2 m2 m3 cv sv : Int) (au el : List Int) (xn : Nat) (pa : Nat → Int) : Prop where
 tos : impl_TableOfSpectrum.f k q = some (f1,f2,true)
 near : impl_NearestAffine.f k f1 f2 = some (nu,nb,v1,true)
 aut : impl_AutocorrelationOf.f k f1 f2 = some au
 at3 : laws_at.f code 3 = some xa
 tm : Int.tmod xa (q.length : Int) = (xn : Int)
 xlt : xn < au.length
 par : ∀ i : Nat,i < q.length → laws_parity.f k (Go.bits .and .i64 (xn : Int) (i : Int)) = some (pa i)
 ones : impl_CountOnes.f f1 f2 = some q1
 rej : impl_TestRejects.f k f1 f2 = some rj
 en : impl_EnergyByLevel.f k f1 f2 = some el
 tot : laws_total.f k el = some m2
 s1 : laws_FnSpectra.sq q q.length = m2
 s2 : laws_FnSpectra.cu q q.length = cv
 s3 : laws_FnSpectra.sh q pa q.length = sv
 e1 : wrap64 ((q.length : Int) * (q.length : Int)) = m2
 e2 : wrap64 (2 * q1) = q2
 e3 : wrap64 ((q.length : Int) - q2) = rd q 0
 e4 : wrap64 ((q.length : Int) * rd au (xn : Int)) = sv
 e5 : wrap64 (2 * rj) = r2
 e6 : wrap64 (r2 * (q.length : Int)) = z
 e7 : wrap64 (m2 * (q.length : Int)) = m3
 e8 : wrap64 (m3 - cv) = z
structure SpecGo (k : Nat) (code : List Int) (f1 f2 : Int) (q : List Int) (v1 v2 : Int) (l : List Int) (a1 a2 : Int) (o1 : Bool) (g1 g2 c1 c2 : Int) (o3 : Bool) (h1 h2 : Int) (m : List Int) : Prop where
 small : laws_big.f code = some false
 draw : spec_DrawSpectrumOf.f k code = some (f1,f2)
 sp1 : impl_SpectrumOf.f k f1 f2 = some q
 sp2 : spec_SpectrumOf.f k f1 f2 = some q
 mm : laws_sameInts.f k q q = some true
 len : q.length ≤ 64
 nl1 : impl_Nonlinearity.f k f1 f2 = some v1
 nl2 : spec_Nonlinearity.f k f1 f2 = some v1
 ci1 : impl_CorrelationImmunity.f k f1 f2 = some v2
 ci2 : spec_CorrelationImmunity.f k f1 f2 = some v2
 big : 0 < q.length → ∃ nu nb xa q1 rj z r2 q2 m2 m3 cv sv au el xn pa,SpecBig k code q f1 f2 v1 nu nb xa q1 rj z r2 q2 m2 m3 cv sv au el xn pa
 dt : spec_DrawTableOfSpectrum.f k code = some l
 ts1 : impl_TableOfSpectrum.f k l = some (a1,a2,o1)
 ts2 : spec_TableOfSpectrum.f k l = some (a1,a2,o1)
 db : spec_DrawDualOfBent.f k code = some (g1,g2)
 du1 : impl_DualOfBent.f k g1 g2 = some (c1,c2,o3)
 du2 : spec_DualOfBent.f k g1 g2 = some (c1,c2,o3)
 ib : impl_IsBent.f k g1 g2 = some o3
 back : o3 = true → ∃ nv : Int,impl_DualOfBent.f k c1 c2 = some (g1,g2,true) ∧ impl_IsBent.f k c1 c2 = some true ∧ impl_Nonlinearity.f k g1 g2 = some nv ∧ (g1 = 2 ∧ nv = 1 ∨ g1 = 4 ∧ nv = 6)
 dh : spec_DrawAutocorrelationOf.f k code = some (h1,h2)
 au1 : impl_AutocorrelationOf.f k h1 h2 = some m
 au2 : spec_AutocorrelationOf.f k h1 h2 = some m
 ms : laws_sameInts.f k m m = some true
def laws_FnSpectra.T5 : Bool × List (List Nat × List Nat) := (true,[([],[]),([],[]),([1],[1]),([0,2,2],[0,2]),([3],[3]),([4,3],[4]),([5],[5]),([6,5,5],[5,6]),([5],[5]),([8,7,5],[5,8]),([7,9,5],[5,7,9]),([5,10],[5,10]),([11,9],[11]),([12],[12]),([13,12,12],[12,13]),([12],[12]),([15,14,12],[12,15]),([14,16,12],[12,14,16]),([12,17],[12,17])])
def laws_FnSpectra.B5 : List Nat := [0,0,2,7,15,31,63,127,63,511,1023,2047,4095,8191,16383,8191,65535,131071,262143]
theorem laws_FnSpectra.tab5 : rtab .any (opsOf Try.f3 5) = laws_FnSpectra.T5 := by kernel_rfl
theorem laws_FnSpectra.bits5 : waitsOk laws_FnSpectra.T5.2 laws_FnSpectra.B5 = true := by kernel_rfl
def laws_FnSpectra.T14 : Bool × List (List Nat × List Nat) := (true,[([],[]),([],[]),([],[]),([1,2],[1,2]),([3],[3]),([],[]),([],[]),([5,6],[5,6]),([7],[7]),([4,8],[4,8]),([0,9],[0,9]),([10,0,1,2,3,4,5,6,7,8,9,10],[0,10])])
def laws_FnSpectra.B14 : List Nat := [0,0,0,6,14,0,0,96,224,510,1023,2047]
theorem laws_FnSpectra.tab14 : rtab .any (opsOf Try.f3 14) = laws_FnSpectra.T14 := by kernel_rfl
theorem laws_FnSpectra.bits14 : waitsOk laws_FnSpectra.T14.2 laws_FnSpectra.B14 = true := by kernel_rfl
def laws_FnSpectra.T15 : Bool × List (List Nat × List Nat) := (true,[([],[]),([],[]),([],[]),([1,2],[1,2]),([3],[3]),([],[]),([],[]),([5,6],[5,6]),([7],[7]),([4,8],[4,8]),([],[]),([],[]),([10,11],[10,11]),([12],[12]),([9,13],[9,13]),([0,14],[0,14]),([15,0,1,2,3,4,5,6,7,8,9,10,11,12,13,14,15],[0,15])])
def laws_FnSpectra.B15 : List Nat := [0,0,0,6,14,0,0,96,224,510,0,0,3072,7168,16382,32767,65535]
theorem laws_FnSpectra.tab15 : rtab .any (opsOf Try.f3 15) = laws_FnSpectra.T15 := by kernel_rfl
theorem laws_FnSpectra.bits15 : waitsOk laws_FnSpectra.T15.2 laws_FnSpectra.B15 = true := by kernel_rfl
def laws_FnSpectra.T24 : Bool × List (List Nat × List Nat) := (true,[([],[]),([],[]),([],[]),([1,2],[1,2]),([3],[3]),([],[]),([],[]),([5,6],[5,6]),([7],[7]),([4,8],[4,8]),([0,9],[0,9]),([10,0,1,2,3,4,5,6,7,8,9,10],[0,10])])
def laws_FnSpectra.B24 : List Nat := [0,0,0,6,14,0,0,96,224,510,1023,2047]
theorem laws_FnSpectra.tab24 : rtab .any (opsOf Try.f3 24) = laws_FnSpectra.T24 := by kernel_rfl
theorem laws_FnSpectra.bits24 : waitsOk laws_FnSpectra.T24.2 laws_FnSpectra.B24 = true := by kernel_rfl
def laws_FnSpectra.T25 : Bool × List (List Nat × List Nat) := (true,[([],[]),([],[]),([],[]),([1,2],[1,2]),([3],[3]),([],[]),([],[]),([5,6],[5,6]),([7],[7]),([4,8],[4,8]),([0,9],[0,9]),([10,0,1,2,3,4,5,6,7,8,9,10],[0,10])])
def laws_FnSpectra.B25 : List Nat := [0,0,0,6,14,0,0,96,224,510,1023,2047]
theorem laws_FnSpectra.tab25 : rtab .any (opsOf Try.f3 25) = laws_FnSpectra.T25 := by kernel_rfl
theorem laws_FnSpectra.bits25 : waitsOk laws_FnSpectra.T25.2 laws_FnSpectra.B25 = true := by kernel_rfl
def laws_FnSpectra.T26 : Bool × List (List Nat × List Nat) := (true,[([],[]),([0],[0]),([1],[1]),([2],[2]),([2],[2]),([3,4,2],[2,3,4]),([2,5],[2,5]),([6,2],[6]),([7],[7]),([7],[7]),([9,7],[7,9]),([7],[7]),([11,7],[7,11]),([10,12,7],[7,10,12]),([8,13,7],[7,8,13]),([7,14],[7,14]),([15,7],[15]),([16],[16]),([17,16],[16,17]),([18,16],[16,18]),([16],[16]),([20,16],[16,20]),([16],[16]),([22,16,16],[16,22]),([23,16],[16,23]),([21,24,16],[16,21,24]),([19,25,16],[16,19,25]),([16,26],[16,26]),([27,23],[27]),([28],[28]),([29,28],[28,29]),([28,30],[28,30]),([31,28],[31]),([32],[32]),([33,32,32],[32,33]),([32],[32]),([34,35,32],[32,34,35]),([32,36],[32,36]),([37,34],[37]),([38],[38]),([38],[38]),([40,38],[38,40]),([38],[38]),([38],[38]),([42,43,38],[38,42,43]),([44,38],[38,44]),([41,45,38],[38,41,45]),([39,46,38],[38,39,46]),([38,47],[38,47]),([48,38],[48]),([49],[49]),([50,49,49],[49,50]),([51,49],[49,51]),([49],[49]),([53,49],[49,53]),([52,54,49],[49,52,54]),([49],[49]),([56,49],[49,56]),([49],[49]),([58,49],[49,58]),([57,59,49],[49,57,59]),([49],[49]),([61,49],[49,61]),([60,62,49],[49,60,62]),([49],[49]),([63,64,49],[49,63,64]),([55,65,49],[49,55,65]),([49,66],[49,66]),([67,51],[67]),([68],[68]),([69,68,68],[68,69]),([70,70,68],[68,70]),([68],[68]),([71,72,68],[68,71,72]),([68,73],[68,73])])
def laws_FnSpectra.B26 : List Nat := [0,1,3,7,7,31,63,127,255,255,767,255,2303,7935,16383,32767,65535,131071,262143,524287,131071,1179647,131071,4325375,12713983,32636927,67108863,134217727,268435455,536870911,1073741823,2147483647,4294967295,8589934591,17179869183,8589934591,68719476735,137438953471,274877906943,549755813887,549755813887,1649267441663,549755813887,549755813887,13743895347199,31336081391615,69818988363775,140737488355327,281474976710655,562949953421311,1125899906842623,2251799813685247,4503599627370495,1125899906842623,10133099161583615,36028797018963967,1125899906842623,73183493944770559,1125899906842623,289356276058554367,1081989810475761663,1125899906842623,2306968909120536575,9152440342723690495,1125899906842623,36822556453288017919,73786976294838206463,147573952589676412927,295147905179352825855,590295810358705651711,1180591620717411303423,2361183241434822606847,590295810358705651711,9444732965739290427391,18889465931478580854783]
theorem laws_FnSpectra.tab26 : rtab .any (opsOf Try.f3 26) = laws_FnSpectra.T26 := by kernel_rfl
theorem laws_FnSpectra.bits26 : waitsOk laws_FnSpectra.T26.2 laws_FnSpectra.B26 = true := by kernel_rfl
def laws_FnSpectra.T38 : Bool × List (List Nat × List Nat) := (true,[([],[]),([0],[0]),([1],[1]),([2],[2]),([2],[2]),([3,4,2],[2,3,4]),([2,5],[2,5]),([6,2],[6]),([7],[7]),([8,7,7],[7,8]),([9,7],[7,9]),([7,10],[7,10]),([11,9],[11]),([12],[12]),([13,12,12],[12,13]),([14,12],[12,14]),([12],[12]),([16,12],[12,16]),([17,12],[12,17]),([12],[12]),([19,12],[12,19]),([20,12],[12,20]),([21,12],[12,21]),([18,22,12],[12,18,22]),([15,23,12],[12,15,23]),([12,24],[12,24])])
def laws_FnSpectra.B38 : List Nat := [0,1,3,7,7,31,63,127,255,511,1023,2047,4095,8191,16383,32767,8191,73727,204799,8191,532479,1581055,3678207,8331263,16777215,33554431]
theorem laws_FnSpectra.tab38 : rtab .any (opsOf Try.f3 38) = laws_FnSpectra.T38 := by kernel_rfl
theorem laws_FnSpectra.bits38 : waitsOk laws_FnSpectra.T38.2 laws_FnSpectra.B38 = true := by kernel_rfl
def laws_FnSpectra.T41 : Bool × List (List Nat × List Nat) := (true,[([],[]),([0],[0]),([],[]),([2,1],[2]),([1,3,3],[1,3]),([4,4,0,1,2,3,4],[4])])
def laws_FnSpectra.B41 : List Nat := [0,1,0,7,15,31]
theorem laws_FnSpectra.tab41 : rtab .any (opsOf Try.f3 41) = laws_FnSpectra.T41 := by kernel_rfl
theorem laws_FnSpectra.bits41 : waitsOk laws_FnSpectra.T41.2 laws_FnSpectra.B41 = true := by kernel_rfl
open Classical in
noncomputable def laws_FnSpectra.f (k : Nat) (code : List Int) : Option Bool :=
 if laws_big.f code = some true ∨ ∃ f1 f2 q v1 v2 l a1 a2 o1 g1 g2 c1 c2 o3 h1 h2 m,SpecGo k code f1 f2 q v1 v2 l a1 a2 o1 g1 g2 c1 c2 o3 h1 h2 m then some true else none
set_option maxHeartbeats 8000000 in
set_option maxRecDepth 100000 in
theorem laws_FnSpectra.calls (k : Nat) (A0 : Option Addr) (c0 : Nat) (l0 : List Int) (r : Bool) (w : World) (hr0 : Kd.C (Kd.int .u8) w A0 l0.length l0) (hc0 : l0.length ≤ c0) (h : laws_FnSpectra.f k l0 = some r) :
  Calls Try.prog 3 #[.slice A0 l0.length c0] w fun e w' => e = .returned (.bool r) ∧ Below w.heap.size w w' := by
 have hut := Try.underlying25
 unfold laws_FnSpectra.f at h
 split at h
 next hgo =>
  cases h
  rcases hgo with hbig | ⟨f1,f2,q,v1,v2,l,a1,a2,o1,g1,g2,c1,c2,o3,h1,h2,m,G⟩
  ·have HB := aZ_ hbig
   clear hbig
   go_enter Try.func3,Try.ntmps3
   go_wp2_with (go_at_call 4;refine (laws_big.calls A0 c0 l0 true _ hr0 hc0 HB.out).mono ?_;rintro e w1 ⟨rfl,⟨nd_,rfl⟩⟩)
   go_ret
   exact ⟨rfl,pw_below_drewN (Below.refl _ _) _⟩
  ·have HG := aZ_ G
   have HR := aZ_ hr0
   have HC0 := aZ_ hc0
   have HB := aZ_ (Below.refl w.heap.size w)
   clear G hr0 hc0
   go_enter Try.func3,Try.ntmps3
   go_upto_region 3 with (go_at_call 4;refine (laws_big.calls A0 c0 l0 false _ HR.out HC0.out HG.out.small).mono ?_;rintro e w1 ⟨rfl,hd⟩;have hb := hd.below;clear hd;have n_ := aZ_ (Kd.Heap.C (Kd.heap_int .u8) hb.block HR.out);clear HR;have HR := n_;clear n_;have n_ := aZ_ (below_step HB.out hb);clear HB;have HB := n_;clear n_;clear hb )
   go_upto_region 4 with (go_at_call 5;refine (spec_DrawSpectrumOf.calls k A0 c0 l0 f1 f2 _ HR.out HC0.out HG.out.draw).mono ?_;rintro e w2 ⟨rfl,hb⟩;have n_ := aZ_ (Kd.Heap.C (Kd.heap_int .u8) hb.block HR.out);clear HR;have HR := n_;clear n_;have n_ := aZ_ (below_step HB.out hb);clear HB;have HB := n_;clear n_;clear hb )
   have BF := aZ_ (blk_new w2 (.cells #[.int .i64 f1,.int .i64 f2] 25 (0,0)))
   have hb := below_alloc (Below.refl w2.heap.size w2) (.cells #[.int .i64 f1,.int .i64 f2] 25 (0,0))
   have n_ := aZ_ (Kd.Heap.C (Kd.heap_int .u8) hb.block HR.out)
   clear HR
   have HR := n_
   clear n_
   have n_ := aZ_ (below_step HB.out hb)
   clear HB
   have HB := n_
   clear n_
   clear hb
   obtain ⟨gf,hgf_⟩ : ∃ gf,gf = w2.heap.size := ⟨_,rfl⟩
   rw [← hgf_] at BF ⊢
   clear hgf_
   generalize w2.alloc (.cells #[.int .i64 f1,.int .i64 f2] 25 (0,0)) = w3 at HR HB BF ⊢
   have hc_BF_0 : w3.cell? ⟨gf,0,none⟩ = some (.int .i64 f1) := (blk_cell BF.out 0).trans rfl
   have hc_BF_1 : w3.cell? ⟨gf,1,none⟩ = some (.int .i64 f2) := (blk_cell BF.out 1).trans rfl
   go_upto_region 5 with (go_at_call 6;refine (impl_SpectrumOf.calls k f1 f2 q _ HG.out.sp1).mono ?_;rintro e w4 ⟨vq,rfl,hq,hb⟩;have n_ := aZ_ (Kd.Heap.C (Kd.heap_int .u8) hb.block HR.out);clear HR;have HR := n_;clear n_;have n_ := aZ_ (below_step HB.out hb);clear HB;have HB := n_;clear n_;have n_ := aZ_ (blk_below BF.out hb);clear BF;have BF := n_;clear n_;obtain ⟨Aw,cw,rfl,hlc_,hr_⟩ := Kd.R_reads hq;have HW := aZ_ hr_;have HWc := aZ_ hlc_;clear hr_ hlc_;clear hq;clear hb ;clear hc_BF_0 hc_BF_1;have hc_BF_0 : w4.cell? ⟨gf,0,none⟩ = some (.int .i64 f1) := (blk_cell BF.out 0).trans rfl;have hc_BF_1 : w4.cell? ⟨gf,1,none⟩ = some (.int .i64 f2) := (blk_cell BF.out 1).trans rfl)
   have C0 := aZ_ hc_BF_0
   have C1 := aZ_ hc_BF_1
   clear hc_BF_0 hc_BF_1
   have h_v1 : (v1 != v1) = false := bne_self_eq_false v1
   have h_v2 : (v2 != v2) = false := bne_self_eq_false v2
   have hb := below_drew (Below.refl w4.heap.size w4)
   have n_ : Aside0 (w4.drew.cell? ⟨gf,0,none⟩ = some (.int .i64 f1)) := ⟨pw_cell_below hb C0.out⟩
   clear C0
   have C0 := n_
   clear n_
   have n_ : Aside0 (w4.drew.cell? ⟨gf,1,none⟩ = some (.int .i64 f2)) := ⟨pw_cell_below hb C1.out⟩
   clear C1
   have C1 := n_
   clear n_
   have n_ := aZ_ (Kd.Heap.C (Kd.heap_int .u8) hb.block HR.out)
   clear HR
   have HR := n_
   clear n_
   have n_ := aZ_ (below_step HB.out hb)
   clear HB
   have HB := n_
   clear n_
   have n_ := aZ_ (blk_below BF.out hb)
   clear BF
   have BF := n_
   clear n_
   have n_ := aZ_ (Kd.Heap.C (Kd.heap_int .i64) hb.block HW.out)
   clear HW
   have HW := n_
   clear n_
   clear hb
   refine start_ (n := 19) (S := (fun w_ => w_.cell? ⟨gf,0,none⟩ = some (.int .i64 f1) ∧ w_.cell? ⟨gf,1,none⟩ = some (.int .i64 f2))) (ds := []) #[false,false,false,false,false,false,false,false,false,false,false,false,false,false,false,false,false,false,false] T16_ rfl rfl ⟨C0.out,C1.out⟩ (fun hHeld => ?_)
   refine with_tabW laws_FnSpectra.tab5 laws_FnSpectra.bits5 (fun HT_ HW_ => ?_)
   generalize w4.drew = W0_ at C0 C1 HR HB BF HW hHeld ⊢
   refine pZ_ 0 (some 37) #[true,false,false,false,false,false,false,false,false,false,false,false,false,false,false,false,false,false,false] ?_
   refine tZ2_ 1 (some 38) #[true,true,false,false,false,false,false,false,false,false,false,false,false,false,false,false,false,false,false] hHeld ?_
   refine one_ (i := 2) (N := some 39) #[true,true,true,false,false,false,false,false,false,false,false,false,false,false,false,false,false,false,false] rfl rfl (one_of HT_.out T16_) T43_ (fun K hK => ?_)
   refine gZ_ Try.func8 #[.agg #[.int .i64 f1,.int .i64 f2]] ?_
   with_reducible refine (spec_SpectrumOf.calls k f1 f2 q _ HG.out.sp2).mono ?_
   rintro e W1_ ⟨vq,rfl,hq,hb⟩
   obtain ⟨Aq,cq,rfl,hlc_,hr_⟩ := Kd.R_reads hq
   clear hq
   refine ⟨_,rfl,?_⟩
   have n_ : Aside0 (W1_.cell? ⟨gf,0,none⟩ = some (.int .i64 f1)) := ⟨pw_cell_below hb C0.out⟩
   clear C0
   have C0 := n_
   clear n_
   have n_ : Aside0 (W1_.cell? ⟨gf,1,none⟩ = some (.int .i64 f2)) := ⟨pw_cell_below hb C1.out⟩
   clear C1
   have C1 := n_
   clear n_
   have n_ := aZ_ (Kd.Heap.C (Kd.heap_int .u8) hb.block HR.out)
   clear HR
   have HR := n_
   clear n_
   have n_ := aZ_ (below_step HB.out hb)
   clear HB
   have HB := n_
   clear n_
   have n_ := aZ_ (blk_below BF.out hb)
   clear BF
   have BF := n_
   clear n_
   have n_ := aZ_ (Kd.Heap.C (Kd.heap_int .i64) hb.block HW.out)
   clear HW
   have HW := n_
   clear n_
   clear hb
   have HQ := aZ_ hr_
   have HQc := aZ_ hlc_
   clear hr_ hlc_
   refine hK.out _ _ ⟨C0.out,C1.out⟩ (fun hHeld => ?_)
   clear hK K
   refine norm_ (a' := ?_) ?_ ?_
   rotate_left
   ·show Act.put _ (some 39) _ = _
    simp only [Act.put,List.setIfInBounds_toArray,List.set_cons_zero,List.set_cons_succ,i64_w,i32_w]
    rfl
   refine one_ (i := 3) (N := some 40) #[true,true,true,true,false,false,false,false,false,false,false,false,false,false,false,false,false,false,false] rfl rfl (one_of HT_.out T16_) T43_ (fun K hK => ?_)
   refine gZ_ Try.func7 #[.slice Aw q.length cw,.slice Aq q.length cq] ?_
   with_reducible refine (laws_sameInts.calls k Aw cw q Aq cq q true _ HW.out HWc.out HQ.out HQc.out HG.out.mm).mono ?_
   rintro e W2_ ⟨rfl,hd⟩
   have hb := hd.below
   clear hd
   refine ⟨_,rfl,?_⟩
   have n_ : Aside0 (W2_.cell? ⟨gf,0,none⟩ = some (.int .i64 f1)) := ⟨pw_cell_below hb C0.out⟩
   clear C0
   have C0 := n_
   clear n_
   have n_ : Aside0 (W2_.cell? ⟨gf,1,none⟩ = some (.int .i64 f2)) := ⟨pw_cell_below hb C1.out⟩
   clear C1
   have C1 := n_
   clear n_
   have n_ := aZ_ (Kd.Heap.C (Kd.heap_int .u8) hb.block HR.out)
   clear HR
   have HR := n_
   clear n_
   have n_ := aZ_ (below_step HB.out hb)
   clear HB
   have HB := n_
   clear n_
   have n_ := aZ_ (blk_below BF.out hb)
   clear BF
   have BF := n_
   clear n_
   have n_ := aZ_ (Kd.Heap.C (Kd.heap_int .i64) hb.block HW.out)
   clear HW
   have HW := n_
   clear n_
   have n_ := aZ_ (Kd.Heap.C (Kd.heap_int .i64) hb.block HQ.out)
   clear HQ
   have HQ := n_
   clear n_
   clear hb
   refine hK.out _ _ ⟨C0.out,C1.out⟩ (fun hHeld => ?_)
   clear hK K
   refine norm_ (a' := ?_) ?_ ?_
   rotate_left
   ·show Act.put _ (some 40) _ = _
    simp only [Act.put,List.setIfInBounds_toArray,List.set_cons_zero,List.set_cons_succ,i64_w,i32_w]
    rfl
   refine pZ_ 4 (some 41) #[true,true,true,true,true,false,false,false,false,false,false,false,false,false,false,false,false,false,false] ?_
   refine pZ_ 5 (some 42) #[true,true,true,true,true,true,false,false,false,false,false,false,false,false,false,false,false,false,false] ?_
   refine tZ2_ 6 (some 43) #[true,true,true,true,true,true,true,false,false,false,false,false,false,false,false,false,false,false,false] hHeld ?_
   refine tZ2_ 8 (some 45) #[true,true,true,true,true,true,true,false,true,false,false,false,false,false,false,false,false,false,false] hHeld ?_
   refine one_ (i := 7) (N := some 44) #[true,true,true,true,true,true,true,true,true,false,false,false,false,false,false,false,false,false,false] rfl rfl (one_of HT_.out T16_) T43_ (fun K hK => ?_)
   refine gZ_ Try.func9 #[.agg #[.int .i64 f1,.int .i64 f2]] ?_
   with_reducible refine (impl_Nonlinearity.calls k f1 f2 v1 _ HG.out.nl1).mono ?_
   rintro e W3_ ⟨rfl,hb⟩
   refine ⟨_,rfl,?_⟩
   have n_ : Aside0 (W3_.cell? ⟨gf,0,none⟩ = some (.int .i64 f1)) := ⟨pw_cell_below hb C0.out⟩
   clear C0
   have C0 := n_
   clear n_
   have n_ : Aside0 (W3_.cell? ⟨gf,1,none⟩ = some (.int .i64 f2)) := ⟨pw_cell_below hb C1.out⟩
   clear C1
   have C1 := n_
   clear n_
   have n_ := aZ_ (Kd.Heap.C (Kd.heap_int .u8) hb.block HR.out)
   clear HR
   have HR := n_
   clear n_
   have n_ := aZ_ (below_step HB.out hb)
   clear HB
   have HB := n_
   clear n_
   have n_ := aZ_ (blk_below BF.out hb)
   clear BF
   have BF := n_
   clear n_
   have n_ := aZ_ (Kd.Heap.C (Kd.heap_int .i64) hb.block HW.out)
   clear HW
   have HW := n_
   clear n_
   have n_ := aZ_ (Kd.Heap.C (Kd.heap_int .i64) hb.block HQ.out)
   clear HQ
   have HQ := n_
   clear n_
   clear hb
   refine hK.out _ _ ⟨C0.out,C1.out⟩ (fun hHeld => ?_)
   clear hK K
   refine norm_ (a' := ?_) ?_ ?_
   rotate_left
   ·show Act.put _ (some 44) _ = _
    simp only [Act.put,List.setIfInBounds_toArray,List.set_cons_zero,List.set_cons_succ,i64_w,i32_w]
    rfl
   refine one_ (i := 9) (N := some 46) #[true,true,true,true,true,true,true,true,true,true,false,false,false,false,false,false,false,false,false] rfl rfl (one_of HT_.out T16_) T43_ (fun K hK => ?_)
   refine gZ_ Try.func10 #[.agg #[.int .i64 f1,.int .i64 f2]] ?_
   with_reducible refine (spec_Nonlinearity.calls k f1 f2 v1 _ HG.out.nl2).mono ?_
   rintro e W4_ ⟨rfl,hb⟩
   refine ⟨_,rfl,?_⟩
   have n_ : Aside0 (W4_.cell? ⟨gf,0,none⟩ = some (.int .i64 f1)) := ⟨pw_cell_below hb C0.out⟩
   clear C0
   have C0 := n_
   clear n_
   have n_ : Aside0 (W4_.cell? ⟨gf,1,none⟩ = some (.int .i64 f2)) := ⟨pw_cell_below hb C1.out⟩
   clear C1
   have C1 := n_
   clear n_
   have n_ := aZ_ (Kd.Heap.C (Kd.heap_int .u8) hb.block HR.out)
   clear HR
   have HR := n_
   clear n_
   have n_ := aZ_ (below_step HB.out hb)
   clear HB
   have HB := n_
   clear n_
   have n_ := aZ_ (blk_below BF.out hb)
   clear BF
   have BF := n_
   clear n_
   have n_ := aZ_ (Kd.Heap.C (Kd.heap_int .i64) hb.block HW.out)
   clear HW
   have HW := n_
   clear n_
   have n_ := aZ_ (Kd.Heap.C (Kd.heap_int .i64) hb.block HQ.out)
   clear HQ
   have HQ := n_
   clear n_
   clear hb
   refine hK.out _ _ ⟨C0.out,C1.out⟩ (fun hHeld => ?_)
   clear hK K
   refine norm_ (a' := ?_) ?_ ?_
   rotate_left
   ·show Act.put _ (some 46) _ = _
    simp only [Act.put,List.setIfInBounds_toArray,List.set_cons_zero,List.set_cons_succ,i64_w,i32_w]
    rfl
   refine pZ_ 10 (some 47) #[true,true,true,true,true,true,true,true,true,true,true,false,false,false,false,false,false,false,false] ?_
   refine pZ_ 11 (some 48) #[true,true,true,true,true,true,true,true,true,true,true,true,false,false,false,false,false,false,false] ?_
   refine pZ_ 12 (some 49) #[true,true,true,true,true,true,true,true,true,true,true,true,true,false,false,false,false,false,false] ?_
   refine tZ2_ 13 (some 50) #[true,true,true,true,true,true,true,true,true,true,true,true,true,true,false,false,false,false,false] hHeld ?_
   refine tZ2_ 15 (some 52) #[true,true,true,true,true,true,true,true,true,true,true,true,true,true,false,true,false,false,false] hHeld ?_
   refine one_ (i := 14) (N := some 51) #[true,true,true,true,true,true,true,true,true,true,true,true,true,true,true,true,false,false,false] rfl rfl (one_of HT_.out T16_) T43_ (fun K hK => ?_)
   refine gZ_ Try.func11 #[.agg #[.int .i64 f1,.int .i64 f2]] ?_
   with_reducible refine (impl_CorrelationImmunity.calls k f1 f2 v2 _ HG.out.ci1).mono ?_
   rintro e W5_ ⟨rfl,hb⟩
   refine ⟨_,rfl,?_⟩
   have n_ : Aside0 (W5_.cell? ⟨gf,0,none⟩ = some (.int .i64 f1)) := ⟨pw_cell_below hb C0.out⟩
   clear C0
   have C0 := n_
   clear n_
   have n_ : Aside0 (W5_.cell? ⟨gf,1,none⟩ = some (.int .i64 f2)) := ⟨pw_cell_below hb C1.out⟩
   clear C1
   have C1 := n_
   clear n_
   have n_ := aZ_ (Kd.Heap.C (Kd.heap_int .u8) hb.block HR.out)
   clear HR
   have HR := n_
   clear n_
   have n_ := aZ_ (below_step HB.out hb)
   clear HB
   have HB := n_
   clear n_
   have n_ := aZ_ (blk_below BF.out hb)
   clear BF
   have BF := n_
   clear n_
   have n_ := aZ_ (Kd.Heap.C (Kd.heap_int .i64) hb.block HW.out)
   clear HW
   have HW := n_
   clear n_
   have n_ := aZ_ (Kd.Heap.C (Kd.heap_int .i64) hb.block HQ.out)
   clear HQ
   have HQ := n_
   clear n_
   clear hb
   refine hK.out _ _ ⟨C0.out,C1.out⟩ (fun hHeld => ?_)
   clear hK K
   refine norm_ (a' := ?_) ?_ ?_
   rotate_left
   ·show Act.put _ (some 51) _ = _
    simp only [Act.put,List.setIfInBounds_toArray,List.set_cons_zero,List.set_cons_succ,i64_w,i32_w]
    rfl
   refine one_ (i := 16) (N := some 53) #[true,true,true,true,true,true,true,true,true,true,true,true,true,true,true,true,true,false,false] rfl rfl (one_of HT_.out T16_) T43_ (fun K hK => ?_)
   refine gZ_ Try.func12 #[.agg #[.int .i64 f1,.int .i64 f2]] ?_
   with_reducible refine (spec_CorrelationImmunity.calls k f1 f2 v2 _ HG.out.ci2).mono ?_
   rintro e W6_ ⟨rfl,hb⟩
   refine ⟨_,rfl,?_⟩
   have n_ : Aside0 (W6_.cell? ⟨gf,0,none⟩ = some (.int .i64 f1)) := ⟨pw_cell_below hb C0.out⟩
   clear C0
   have C0 := n_
   clear n_
   have n_ : Aside0 (W6_.cell? ⟨gf,1,none⟩ = some (.int .i64 f2)) := ⟨pw_cell_below hb C1.out⟩
   clear C1
   have C1 := n_
   clear n_
   have n_ := aZ_ (Kd.Heap.C (Kd.heap_int .u8) hb.block HR.out)
   clear HR
   have HR := n_
   clear n_
   have n_ := aZ_ (below_step HB.out hb)
   clear HB
   have HB := n_
   clear n_
   have n_ := aZ_ (blk_below BF.out hb)
   clear BF
   have BF := n_
   clear n_
   have n_ := aZ_ (Kd.Heap.C (Kd.heap_int .i64) hb.block HW.out)
   clear HW
   have HW := n_
   clear n_
   have n_ := aZ_ (Kd.Heap.C (Kd.heap_int .i64) hb.block HQ.out)
   clear HQ
   have HQ := n_
   clear n_
   clear hb
   refine hK.out _ _ ⟨C0.out,C1.out⟩ (fun hHeld => ?_)
   clear hK K
   refine norm_ (a' := ?_) ?_ ?_
   rotate_left
   ·show Act.put _ (some 53) _ = _
    simp only [Act.put,List.setIfInBounds_toArray,List.set_cons_zero,List.set_cons_succ,i64_w,i32_w]
    rfl
   refine pZ_ 17 (some 54) #[true,true,true,true,true,true,true,true,true,true,true,true,true,true,true,true,true,true,false] ?_
   refine pZ_ 18 (some 55) #[true,true,true,true,true,true,true,true,true,true,true,true,true,true,true,true,true,true,true] ?_
   refine done_ (done_of HT_.out T16_) ?_
   clear C0 C1 hHeld HT_ HW_ HQ HQc h_v1 h_v2
   have hc_BF_0 : W6_.cell? ⟨gf,0,none⟩ = some (.int .i64 f1) := (blk_cell BF.out 0).trans rfl
   have hc_BF_1 : W6_.cell? ⟨gf,1,none⟩ = some (.int .i64 f2) := (blk_cell BF.out 1).trans rfl
   go_upto_if 58 with (fail)
   go_cut [] (fun wx => Aside0 (Kd.C (Kd.int .u8) wx A0 l0.length l0) ∧ Aside0 (Below w.heap.size w wx))
   case first =>
    as_aux_lemma =>
     by_cases h0 : 0 < q.length
     case neg =>
      have h0z : ¬ (0 : Int) < (q.length : Int) := by omega
      have h0g : decide ((q.length : Int) > 0) = false := decide_eq_false h0z
      clear h0
      go_wp2_with (fail)
      go_meet
      exact ⟨HR,HB⟩
     case pos =>
      obtain ⟨nu,nb,xa,q1,rj,z,r2,q2,m2,m3,cv,sv,au,el,xn,pa,GB⟩ := HG.out.big h0
      have HX := aZ_ GB
      clear GB
      have h0z : (0 : Int) < (q.length : Int) := by omega
      have h0g : decide ((q.length : Int) > 0) = true := decide_eq_true h0z
      obtain ⟨aw,rfl,hz_⟩ := Kd.at_int HW.out 0 (Int.le_refl 0) h0z
      clear hz_
      have HN := aZ_ (And.intro h0 HG.out.len)
      clear h0
      go_upto_region 9 with (go_at_call 13;refine (impl_TableOfSpectrum.calls k (some aw) cw q f1 f2 true _ HW.out HWc.out HX.out.tos).mono ?_;rintro e w5 ⟨rfl,hb⟩;have n_ := aZ_ (Kd.Heap.C (Kd.heap_int .u8) hb.block HR.out);clear HR;have HR := n_;clear n_;have n_ := aZ_ (below_step HB.out hb);clear HB;have HB := n_;clear n_;have n_ := aZ_ (blk_below BF.out hb);clear BF;have BF := n_;clear n_;have n_ := aZ_ (Kd.Heap.C (Kd.heap_int .i64) hb.block HW.out);clear HW;have HW := n_;clear n_;clear hb ;clear hc_BF_0 hc_BF_1;have hc_BF_0 : w5.cell? ⟨gf,0,none⟩ = some (.int .i64 f1) := (blk_cell BF.out 0).trans rfl;have hc_BF_1 : w5.cell? ⟨gf,1,none⟩ = some (.int .i64 f2) := (blk_cell BF.out 1).trans rfl)
      clear hc_BF_0 hc_BF_1
      have BT := aZ_ (blk_new w5 (.cells #[.int .i64 f1,.int .i64 f2] 25 (0,0)))
      have hb := below_alloc (Below.refl w5.heap.size w5) (.cells #[.int .i64 f1,.int .i64 f2] 25 (0,0))
      have n_ := aZ_ (Kd.Heap.C (Kd.heap_int .u8) hb.block HR.out)
      clear HR
      have HR := n_
      clear n_
      have n_ := aZ_ (below_step HB.out hb)
      clear HB
      have HB := n_
      clear n_
      have n_ := aZ_ (blk_below BF.out hb)
      clear BF
      have BF := n_
      clear n_
      have n_ := aZ_ (Kd.Heap.C (Kd.heap_int .i64) hb.block HW.out)
      clear HW
      have HW := n_
      clear n_
      clear hb
      obtain ⟨gt,hgt_⟩ : ∃ gt,gt = w5.heap.size := ⟨_,rfl⟩
      rw [← hgt_] at BT ⊢
      clear hgt_
      generalize w5.alloc (.cells #[.int .i64 f1,.int .i64 f2] 25 (0,0)) = w6 at HR HB BF HW BT ⊢
      have hc_BF_0 : w6.cell? ⟨gf,0,none⟩ = some (.int .i64 f1) := (blk_cell BF.out 0).trans rfl
      have hc_BF_1 : w6.cell? ⟨gf,1,none⟩ = some (.int .i64 f2) := (blk_cell BF.out 1).trans rfl
      have hc_BT_0 : w6.cell? ⟨gt,0,none⟩ = some (.int .i64 f1) := (blk_cell BT.out 0).trans rfl
      have hc_BT_1 : w6.cell? ⟨gt,1,none⟩ = some (.int .i64 f2) := (blk_cell BT.out 1).trans rfl
      clear h0z h0g hc_BF_0 hc_BF_1 hc_BT_0 hc_BT_1
      go_wp2_with (fail)
      go_loopg [7,8,9] q.length (fun gg v7 v8 v9 wr => ∃ e : Nat,e ≤ q.length ∧ q.length - e ≤ gg ∧ v7 = .int .i64 (laws_FnSpectra.sq q e) ∧ v8 = .int .i64 (laws_FnSpectra.cu q e) ∧ v9 = .int .i64 (e : Int) ∧ Aside0 (Kd.C (Kd.int .u8) wr A0 l0.length l0) ∧ Aside0 (Below w.heap.size w wr) ∧ Aside0 (wr.heap[gf]? = some (.cells #[.int .i64 f1,.int .i64 f2] 25 (0,0))) ∧ Aside0 (wr.heap[gt]? = some (.cells #[.int .i64 f1,.int .i64 f2] 25 (0,0))) ∧ Aside0 (Kd.C (Kd.int .i64) wr (some aw) q.length q))
      case atStart => exact ⟨0,Nat.zero_le _,by omega,rfl,rfl,rfl,HR,HB,BF,BT,HW⟩
      case round =>
       clear HR HB BF BT HW
       obtain ⟨e,he,hg,rfl,rfl,rfl,HR,HB,BF,BT,HW⟩ := hrel
       by_cases hlt : e < q.length
       case pos =>
        have hltz : (e : Int) < (q.length : Int) := by omega
        have h0e : (0 : Int) ≤ (e : Int) := by omega
        have HE := aZ_ (And.intro hlt hg)
        clear hlt hg he
        obtain ⟨a2_,e2_,hc0⟩ := Kd.at_int HW.out (e : Int) h0e hltz
        obtain rfl : aw = a2_ := by injection e2_
        clear e2_
        rw [Int.toNat_natCast] at hc0
        have C0 := aZ_ hc0
        clear hc0
        go_upto_region 14 with (fail)
        have hb := below_drew (Below.refl wr.heap.size wr)
        have n_ : Aside0 (wr.drew.cell? (aw.add e) = some (.int .i64 (rd q (e : Int)))) := ⟨pw_cell_below hb C0.out⟩
        clear C0
        have C0 := n_
        clear n_
        have n_ := aZ_ (Kd.Heap.C (Kd.heap_int .u8) hb.block HR.out)
        clear HR
        have HR := n_
        clear n_
        have n_ := aZ_ (below_step HB.out hb)
        clear HB
        have HB := n_
        clear n_
        have n_ := aZ_ (blk_below BF.out hb)
        clear BF
        have BF := n_
        clear n_
        have n_ := aZ_ (blk_below BT.out hb)
        clear BT
        have BT := n_
        clear n_
        have n_ := aZ_ (Kd.Heap.C (Kd.heap_int .i64) hb.block HW.out)
        clear HW
        have HW := n_
        clear n_
        clear hb
        refine start_ (n := 12) (S := (fun w_ => w_.cell? (aw.add e) = some (.int .i64 (rd q (e : Int))))) (ds := []) #[false,false,false,false,false,false,false,false,false,false,false,false] T16_ rfl rfl C0.out (fun hHeld => ?_)
        refine with_tabW laws_FnSpectra.tab14 laws_FnSpectra.bits14 (fun HT_ HW_ => ?_)
        generalize wr.drew = W0_ at C0 HR HB BF BT HW hHeld ⊢
        refine pZ_ 0 (some 70) #[true,false,false,false,false,false,false,false,false,false,false,false] ?_
        refine pZ_ 1 (some 71) #[true,true,false,false,false,false,false,false,false,false,false,false] ?_
        refine pZ_ 2 (some 72) #[true,true,true,false,false,false,false,false,false,false,false,false] ?_
        refine pZ_ 3 (some 73) #[true,true,true,true,false,false,false,false,false,false,false,false] ?_
        refine tZ1_ 4 (some 74) #[true,true,true,true,true,false,false,false,false,false,false,false] hHeld ?_
        refine pZ_ 5 (some 75) #[true,true,true,true,true,true,false,false,false,false,false,false] ?_
        refine pZ_ 6 (some 76) #[true,true,true,true,true,true,true,false,false,false,false,false] ?_
        refine pZ_ 7 (some 77) #[true,true,true,true,true,true,true,true,false,false,false,false] ?_
        refine tZ1_ 8 (some 78) #[true,true,true,true,true,true,true,true,true,false,false,false] hHeld ?_
        refine pZ_ 9 (some 79) #[true,true,true,true,true,true,true,true,true,true,false,false] ?_
        refine pZ_ 10 (some 80) #[true,true,true,true,true,true,true,true,true,true,true,false] ?_
        refine pZ_ 11 (some 7) #[true,true,true,true,true,true,true,true,true,true,true,true] ?_
        refine done_ (done_of HT_.out T16_) ?_
        clear hHeld HT_ HW_
        go_upto_region 15 with (fail)
        have hb := below_drew (Below.refl W0_.heap.size W0_)
        have n_ : Aside0 (W0_.drew.cell? (aw.add e) = some (.int .i64 (rd q (e : Int)))) := ⟨pw_cell_below hb C0.out⟩
        clear C0
        have C0 := n_
        clear n_
        have n_ := aZ_ (Kd.Heap.C (Kd.heap_int .u8) hb.block HR.out)
        clear HR
        have HR := n_
        clear n_
        have n_ := aZ_ (below_step HB.out hb)
        clear HB
        have HB := n_
        clear n_
        have n_ := aZ_ (blk_below BF.out hb)
        clear BF
        have BF := n_
        clear n_
        have n_ := aZ_ (blk_below BT.out hb)
        clear BT
        have BT := n_
        clear n_
        have n_ := aZ_ (Kd.Heap.C (Kd.heap_int .i64) hb.block HW.out)
        clear HW
        have HW := n_
        clear n_
        clear hb
        refine start_ (n := 17) (S := (fun w_ => w_.cell? (aw.add e) = some (.int .i64 (rd q (e : Int))))) (ds := []) #[false,false,false,false,false,false,false,false,false,false,false,false,false,false,false,false,false] T16_ rfl rfl C0.out (fun hHeld => ?_)
        refine with_tabW laws_FnSpectra.tab15 laws_FnSpectra.bits15 (fun HT_ HW_ => ?_)
        generalize W0_.drew = V0_ at C0 HR HB BF BT HW hHeld ⊢
        refine pZ_ 0 (some 81) #[true,false,false,false,false,false,false,false,false,false,false,false,false,false,false,false,false] ?_
        refine pZ_ 1 (some 82) #[true,true,false,false,false,false,false,false,false,false,false,false,false,false,false,false,false] ?_
        refine pZ_ 2 (some 83) #[true,true,true,false,false,false,false,false,false,false,false,false,false,false,false,false,false] ?_
        refine pZ_ 3 (some 84) #[true,true,true,true,false,false,false,false,false,false,false,false,false,false,false,false,false] ?_
        refine tZ1_ 4 (some 85) #[true,true,true,true,true,false,false,false,false,false,false,false,false,false,false,false,false] hHeld ?_
        refine pZ_ 5 (some 86) #[true,true,true,true,true,true,false,false,false,false,false,false,false,false,false,false,false] ?_
        refine pZ_ 6 (some 87) #[true,true,true,true,true,true,true,false,false,false,false,false,false,false,false,false,false] ?_
        refine pZ_ 7 (some 88) #[true,true,true,true,true,true,true,true,false,false,false,false,false,false,false,false,false] ?_
        refine tZ1_ 8 (some 89) #[true,true,true,true,true,true,true,true,true,false,false,false,false,false,false,false,false] hHeld ?_
        refine pZ_ 9 (some 90) #[true,true,true,true,true,true,true,true,true,true,false,false,false,false,false,false,false] ?_
        refine pZ_ 10 (some 91) #[true,true,true,true,true,true,true,true,true,true,true,false,false,false,false,false,false] ?_
        refine pZ_ 11 (some 92) #[true,true,true,true,true,true,true,true,true,true,true,true,false,false,false,false,false] ?_
        refine pZ_ 12 (some 93) #[true,true,true,true,true,true,true,true,true,true,true,true,true,false,false,false,false] ?_
        refine tZ1_ 13 (some 94) #[true,true,true,true,true,true,true,true,true,true,true,true,true,true,false,false,false] hHeld ?_
        refine pZ_ 14 (some 95) #[true,true,true,true,true,true,true,true,true,true,true,true,true,true,true,false,false] ?_
        refine pZ_ 15 (some 96) #[true,true,true,true,true,true,true,true,true,true,true,true,true,true,true,true,false] ?_
        refine pZ_ 16 (some 8) #[true,true,true,true,true,true,true,true,true,true,true,true,true,true,true,true,true] ?_
        refine done_ (done_of HT_.out T16_) ?_
        clear C0 hHeld HT_ HW_
        go_wp2_with (fail)
        go_roundg (q.length - (e + 1))
        case measure => have := HE.out;omega
        case rel => exact ⟨e + 1,by have := HE.out;omega,by omega,rfl,rfl,congrArg (Value.int .i64) T50_,HR,HB,BF,BT,HW⟩
       case neg =>
        have hltz : ¬ (e : Int) < (q.length : Int) := by omega
        obtain rfl : e = q.length := by omega
        clear hlt he hg
        have hs1_ := HX.out.s1
        have hs2_ := HX.out.s2
        rw [hs1_,hs2_]
        clear hs1_ hs2_
        have hc_BF_0 : wr.cell? ⟨gf,0,none⟩ = some (.int .i64 f1) := (blk_cell BF.out 0).trans rfl
        have hc_BF_1 : wr.cell? ⟨gf,1,none⟩ = some (.int .i64 f2) := (blk_cell BF.out 1).trans rfl
        have hc_BT_0 : wr.cell? ⟨gt,0,none⟩ = some (.int .i64 f1) := (blk_cell BT.out 0).trans rfl
        have hc_BT_1 : wr.cell? ⟨gt,1,none⟩ = some (.int .i64 f2) := (blk_cell BT.out 1).trans rfl
        go_upto_region 17 with (go_at_call 14;refine (impl_NearestAffine.calls k f1 f2 nu nb v1 true _ HX.out.near).mono ?_;rintro e w7 ⟨rfl,hb⟩;have n_ := aZ_ (Kd.Heap.C (Kd.heap_int .u8) hb.block HR.out);clear HR;have HR := n_;clear n_;have n_ := aZ_ (below_step HB.out hb);clear HB;have HB := n_;clear n_;have n_ := aZ_ (blk_below BF.out hb);clear BF;have BF := n_;clear n_;have n_ := aZ_ (Kd.Heap.C (Kd.heap_int .i64) hb.block HW.out);clear HW;have HW := n_;clear n_;have n_ := aZ_ (blk_below BT.out hb);clear BT;have BT := n_;clear n_;clear hb ;clear hc_BF_0 hc_BF_1 hc_BT_0 hc_BT_1;have hc_BF_0 : w7.cell? ⟨gf,0,none⟩ = some (.int .i64 f1) := (blk_cell BF.out 0).trans rfl;have hc_BF_1 : w7.cell? ⟨gf,1,none⟩ = some (.int .i64 f2) := (blk_cell BF.out 1).trans rfl;have hc_BT_0 : w7.cell? ⟨gt,0,none⟩ = some (.int .i64 f1) := (blk_cell BT.out 0).trans rfl;have hc_BT_1 : w7.cell? ⟨gt,1,none⟩ = some (.int .i64 f2) := (blk_cell BT.out 1).trans rfl)
        go_upto_region 18 with (go_at_call 15;refine (impl_AutocorrelationOf.calls k f1 f2 au _ HX.out.aut).mono ?_;rintro e w8 ⟨vq,rfl,hq,hb⟩;have n_ := aZ_ (Kd.Heap.C (Kd.heap_int .u8) hb.block HR.out);clear HR;have HR := n_;clear n_;have n_ := aZ_ (below_step HB.out hb);clear HB;have HB := n_;clear n_;have n_ := aZ_ (blk_below BF.out hb);clear BF;have BF := n_;clear n_;have n_ := aZ_ (Kd.Heap.C (Kd.heap_int .i64) hb.block HW.out);clear HW;have HW := n_;clear n_;have n_ := aZ_ (blk_below BT.out hb);clear BT;have BT := n_;clear n_;obtain ⟨Aa,ca,rfl,hlc_,hr_⟩ := Kd.R_reads hq;have HA := aZ_ hr_;have HAc := aZ_ hlc_;clear hr_ hlc_;clear hq;clear hb ;clear hc_BF_0 hc_BF_1 hc_BT_0 hc_BT_1;have hc_BF_0 : w8.cell? ⟨gf,0,none⟩ = some (.int .i64 f1) := (blk_cell BF.out 0).trans rfl;have hc_BF_1 : w8.cell? ⟨gf,1,none⟩ = some (.int .i64 f2) := (blk_cell BF.out 1).trans rfl;have hc_BT_0 : w8.cell? ⟨gt,0,none⟩ = some (.int .i64 f1) := (blk_cell BT.out 0).trans rfl;have hc_BT_1 : w8.cell? ⟨gt,1,none⟩ = some (.int .i64 f2) := (blk_cell BT.out 1).trans rfl)
        have hxl : (xn : Int) < (au.length : Int) := by have := HX.out.xlt;omega
        have h0x : (0 : Int) ≤ (xn : Int) := by omega
        obtain ⟨aa,rfl,hz_⟩ := Kd.at_int HA.out (xn : Int) h0x hxl
        clear hz_
        have htm := HX.out.tm
        have hnz : (q.length : Int) ≠ 0 := by have := HN.out;omega
        have hnb : decide ((q.length : Int) = 0) = false := decide_eq_false hnz
        have hnc : ((q.length : Int) == 0) = false := beq_eq_false_iff_ne.mpr hnz
        go_upto_region 19 with (go_at_call 16;refine (laws_at.calls A0 c0 l0 3 xa _ HR.out HC0.out HX.out.at3).mono ?_;rintro e w9 ⟨rfl,hd⟩;have hb := hd.below;clear hd;have n_ := aZ_ (Kd.Heap.C (Kd.heap_int .u8) hb.block HR.out);clear HR;have HR := n_;clear n_;have n_ := aZ_ (below_step HB.out hb);clear HB;have HB := n_;clear n_;have n_ := aZ_ (blk_below BF.out hb);clear BF;have BF := n_;clear n_;have n_ := aZ_ (Kd.Heap.C (Kd.heap_int .i64) hb.block HW.out);clear HW;have HW := n_;clear n_;have n_ := aZ_ (blk_below BT.out hb);clear BT;have BT := n_;clear n_;have n_ := aZ_ (Kd.Heap.C (Kd.heap_int .i64) hb.block HA.out);clear HA;have HA := n_;clear n_;clear hb ;clear hc_BF_0 hc_BF_1 hc_BT_0 hc_BT_1;have hc_BF_0 : w9.cell? ⟨gf,0,none⟩ = some (.int .i64 f1) := (blk_cell BF.out 0).trans rfl;have hc_BF_1 : w9.cell? ⟨gf,1,none⟩ = some (.int .i64 f2) := (blk_cell BF.out 1).trans rfl;have hc_BT_0 : w9.cell? ⟨gt,0,none⟩ = some (.int .i64 f1) := (blk_cell BT.out 0).trans rfl;have hc_BT_1 : w9.cell? ⟨gt,1,none⟩ = some (.int .i64 f2) := (blk_cell BT.out 1).trans rfl)
        clear htm hnz hnb hnc hxl h0x hc_BF_0 hc_BF_1 hc_BT_0 hc_BT_1
        go_wp2_with (fail)
        go_loopg [16,17] q.length (fun g2 v16 v17 wq => ∃ e : Nat,e ≤ q.length ∧ q.length - e ≤ g2 ∧ v16 = .int .i64 (laws_FnSpectra.sh q pa e) ∧ v17 = .int .i64 (e : Int) ∧ Aside0 (Kd.C (Kd.int .u8) wq A0 l0.length l0) ∧ Aside0 (Below w.heap.size w wq) ∧ Aside0 (wq.heap[gf]? = some (.cells #[.int .i64 f1,.int .i64 f2] 25 (0,0))) ∧ Aside0 (wq.heap[gt]? = some (.cells #[.int .i64 f1,.int .i64 f2] 25 (0,0))) ∧ Aside0 (Kd.C (Kd.int .i64) wq (some aw) q.length q) ∧ Aside0 (Kd.C (Kd.int .i64) wq (some aa) au.length au))
        case atStart => exact ⟨0,Nat.zero_le _,by omega,rfl,rfl,HR,HB,BF,BT,HW,HA⟩
        case round =>
         clear HR HB BF BT HW HA
         obtain ⟨e,he,hg2,rfl,rfl,HR,HB,BF,BT,HW,HA⟩ := hrel
         by_cases hlt2 : e < q.length
         case pos =>
          have hltz : (e : Int) < (q.length : Int) := by omega
          have h0e : (0 : Int) ≤ (e : Int) := by omega
          have HP := aZ_ (HX.out.par e hlt2)
          have HE := aZ_ (And.intro hlt2 hg2)
          clear hlt2 hg2 he
          by_cases hp : pa e = 1
          case pos =>
           have hp1 : decide (pa e = 1) = true := decide_eq_true hp
           have hp2 : (pa e == 1) = true := beq_iff_eq.mpr hp
           go_upto_region 24 with (go_at_call 17;refine (laws_parity.calls k (Go.bits .and .i64 (xn : Int) (e : Int)) (pa e) _ HP.out).mono ?_;rintro e w10 ⟨rfl,hd⟩;have hb := hd.below;clear hd;have n_ := aZ_ (Kd.Heap.C (Kd.heap_int .u8) hb.block HR.out);clear HR;have HR := n_;clear n_;have n_ := aZ_ (below_step HB.out hb);clear HB;have HB := n_;clear n_;have n_ := aZ_ (blk_below BF.out hb);clear BF;have BF := n_;clear n_;have n_ := aZ_ (Kd.Heap.C (Kd.heap_int .i64) hb.block HW.out);clear HW;have HW := n_;clear n_;have n_ := aZ_ (blk_below BT.out hb);clear BT;have BT := n_;clear n_;have n_ := aZ_ (Kd.Heap.C (Kd.heap_int .i64) hb.block HA.out);clear HA;have HA := n_;clear n_;clear hb )
           obtain ⟨a2_,e2_,hc0⟩ := Kd.at_int HW.out (e : Int) h0e hltz
           obtain rfl : aw = a2_ := by injection e2_
           clear e2_
           rw [Int.toNat_natCast] at hc0
           have C0 := aZ_ hc0
           clear hc0
           have hb := below_drew (Below.refl w10.heap.size w10)
           have n_ : Aside0 (w10.drew.cell? (aw.add e) = some (.int .i64 (rd q (e : Int)))) := ⟨pw_cell_below hb C0.out⟩
           clear C0
           have C0 := n_
           clear n_
           have n_ := aZ_ (Kd.Heap.C (Kd.heap_int .u8) hb.block HR.out)
           clear HR
           have HR := n_
           clear n_
           have n_ := aZ_ (below_step HB.out hb)
           clear HB
           have HB := n_
           clear n_
           have n_ := aZ_ (blk_below BF.out hb)
           clear BF
           have BF := n_
           clear n_
           have n_ := aZ_ (blk_below BT.out hb)
           clear BT
           have BT := n_
           clear n_
           have n_ := aZ_ (Kd.Heap.C (Kd.heap_int .i64) hb.block HW.out)
           clear HW
           have HW := n_
           clear n_
           have n_ := aZ_ (Kd.Heap.C (Kd.heap_int .i64) hb.block HA.out)
           clear HA
           have HA := n_
           clear n_
           clear hb
           refine start_ (n := 12) (S := (fun w_ => w_.cell? (aw.add e) = some (.int .i64 (rd q (e : Int))))) (ds := []) #[false,false,false,false,false,false,false,false,false,false,false,false] T16_ rfl rfl C0.out (fun hHeld => ?_)
           refine with_tabW laws_FnSpectra.tab24 laws_FnSpectra.bits24 (fun HT_ HW_ => ?_)
           generalize w10.drew = W0_ at C0 HR HB BF BT HW HA hHeld ⊢
           refine pZ_ 0 (some 122) #[true,false,false,false,false,false,false,false,false,false,false,false] ?_
           refine pZ_ 1 (some 123) #[true,true,false,false,false,false,false,false,false,false,false,false] ?_
           refine pZ_ 2 (some 124) #[true,true,true,false,false,false,false,false,false,false,false,false] ?_
           refine pZ_ 3 (some 125) #[true,true,true,true,false,false,false,false,false,false,false,false] ?_
           refine tZ1_ 4 (some 126) #[true,true,true,true,true,false,false,false,false,false,false,false] hHeld ?_
           refine pZ_ 5 (some 127) #[true,true,true,true,true,true,false,false,false,false,false,false] ?_
           refine pZ_ 6 (some 128) #[true,true,true,true,true,true,true,false,false,false,false,false] ?_
           refine pZ_ 7 (some 129) #[true,true,true,true,true,true,true,true,false,false,false,false] ?_
           refine tZ1_ 8 (some 130) #[true,true,true,true,true,true,true,true,true,false,false,false] hHeld ?_
           refine pZ_ 9 (some 131) #[true,true,true,true,true,true,true,true,true,true,false,false] ?_
           refine pZ_ 10 (some 132) #[true,true,true,true,true,true,true,true,true,true,true,false] ?_
           refine pZ_ 11 (some 16) #[true,true,true,true,true,true,true,true,true,true,true,true] ?_
           refine done_ (done_of HT_.out T16_) ?_
           clear C0 hHeld HT_ HW_
           go_wp2_with (fail)
           go_roundg (q.length - (e + 1))
           case measure => have := HE.out;omega
           case rel => exact ⟨e + 1,by have := HE.out;omega,by omega,congrArg (Value.int .i64) (by rw [laws_FnSpectra.sh,if_pos hp]),congrArg (Value.int .i64) T50_,HR,HB,BF,BT,HW,HA⟩
          case neg =>
           have hp1 : decide (pa e = 1) = false := decide_eq_false hp
           have hp2 : (pa e == 1) = false := beq_eq_false_iff_ne.mpr hp
           go_upto_region 25 with (go_at_call 17;refine (laws_parity.calls k (Go.bits .and .i64 (xn : Int) (e : Int)) (pa e) _ HP.out).mono ?_;rintro e w10 ⟨rfl,hd⟩;have hb := hd.below;clear hd;have n_ := aZ_ (Kd.Heap.C (Kd.heap_int .u8) hb.block HR.out);clear HR;have HR := n_;clear n_;have n_ := aZ_ (below_step HB.out hb);clear HB;have HB := n_;clear n_;have n_ := aZ_ (blk_below BF.out hb);clear BF;have BF := n_;clear n_;have n_ := aZ_ (Kd.Heap.C (Kd.heap_int .i64) hb.block HW.out);clear HW;have HW := n_;clear n_;have n_ := aZ_ (blk_below BT.out hb);clear BT;have BT := n_;clear n_;have n_ := aZ_ (Kd.Heap.C (Kd.heap_int .i64) hb.block HA.out);clear HA;have HA := n_;clear n_;clear hb )
           obtain ⟨a2_,e2_,hc0⟩ := Kd.at_int HW.out (e : Int) h0e hltz
           obtain rfl : aw = a2_ := by injection e2_
           clear e2_
           rw [Int.toNat_natCast] at hc0
           have C0 := aZ_ hc0
           clear hc0
           have hb := below_drew (Below.refl w10.heap.size w10)
           have n_ : Aside0 (w10.drew.cell? (aw.add e) = some (.int .i64 (rd q (e : Int)))) := ⟨pw_cell_below hb C0.out⟩
           clear C0
           have C0 := n_
           clear n_
           have n_ := aZ_ (Kd.Heap.C (Kd.heap_int .u8) hb.block HR.out)
           clear HR
           have HR := n_
           clear n_
           have n_ := aZ_ (below_step HB.out hb)
           clear HB
           have HB := n_
           clear n_
           have n_ := aZ_ (blk_below BF.out hb)
           clear BF
           have BF := n_
           clear n_
           have n_ := aZ_ (blk_below BT.out hb)
           clear BT
           have BT := n_
           clear n_
           have n_ := aZ_ (Kd.Heap.C (Kd.heap_int .i64) hb.block HW.out)
           clear HW
           have HW := n_
           clear n_
           have n_ := aZ_ (Kd.Heap.C (Kd.heap_int .i64) hb.block HA.out)
           clear HA
           have HA := n_
           clear n_
           clear hb
           refine start_ (n := 12) (S := (fun w_ => w_.cell? (aw.add e) = some (.int .i64 (rd q (e : Int))))) (ds := []) #[false,false,false,false,false,false,false,false,false,false,false,false] T16_ rfl rfl C0.out (fun hHeld => ?_)
           refine with_tabW laws_FnSpectra.tab25 laws_FnSpectra.bits25 (fun HT_ HW_ => ?_)
           generalize w10.drew = W0_ at C0 HR HB BF BT HW HA hHeld ⊢
           refine pZ_ 0 (some 133) #[true,false,false,false,false,false,false,false,false,false,false,false] ?_
           refine pZ_ 1 (some 134) #[true,true,false,false,false,false,false,false,false,false,false,false] ?_
           refine pZ_ 2 (some 135) #[true,true,true,false,false,false,false,false,false,false,false,false] ?_
           refine pZ_ 3 (some 136) #[true,true,true,true,false,false,false,false,false,false,false,false] ?_
           refine tZ1_ 4 (some 137) #[true,true,true,true,true,false,false,false,false,false,false,false] hHeld ?_
           refine pZ_ 5 (some 138) #[true,true,true,true,true,true,false,false,false,false,false,false] ?_
           refine pZ_ 6 (some 139) #[true,true,true,true,true,true,true,false,false,false,false,false] ?_
           refine pZ_ 7 (some 140) #[true,true,true,true,true,true,true,true,false,false,false,false] ?_
           refine tZ1_ 8 (some 141) #[true,true,true,true,true,true,true,true,true,false,false,false] hHeld ?_
           refine pZ_ 9 (some 142) #[true,true,true,true,true,true,true,true,true,true,false,false] ?_
           refine pZ_ 10 (some 143) #[true,true,true,true,true,true,true,true,true,true,true,false] ?_
           refine pZ_ 11 (some 16) #[true,true,true,true,true,true,true,true,true,true,true,true] ?_
           refine done_ (done_of HT_.out T16_) ?_
           clear C0 hHeld HT_ HW_
           go_wp2_with (fail)
           go_roundg (q.length - (e + 1))
           case measure => have := HE.out;omega
           case rel => exact ⟨e + 1,by have := HE.out;omega,by omega,congrArg (Value.int .i64) (by rw [laws_FnSpectra.sh,if_neg hp]),congrArg (Value.int .i64) T50_,HR,HB,BF,BT,HW,HA⟩
         case neg =>
          have hltz : ¬ (e : Int) < (q.length : Int) := by omega
          obtain rfl : e = q.length := by omega
          clear hlt2 he hg2
          have hs3_ := HX.out.s3
          rw [hs3_]
          clear hs3_
          have C0 : Aside0 (wr.cell? ⟨gf,0,none⟩ = some (.int .i64 f1)) := ⟨(blk_cell BF.out 0).trans rfl⟩
          have C1 : Aside0 (wr.cell? ⟨gf,1,none⟩ = some (.int .i64 f2)) := ⟨(blk_cell BF.out 1).trans rfl⟩
          have C2 : Aside0 (wr.cell? ⟨gt,0,none⟩ = some (.int .i64 f1)) := ⟨(blk_cell BT.out 0).trans rfl⟩
          have C3 : Aside0 (wr.cell? ⟨gt,1,none⟩ = some (.int .i64 f2)) := ⟨(blk_cell BT.out 1).trans rfl⟩
          have h0z : (0 : Int) < (q.length : Int) := by have := HN.out;omega
          have hxl : (xn : Int) < (au.length : Int) := by have := HX.out.xlt;omega
          have h0x : (0 : Int) ≤ (xn : Int) := by omega
          obtain ⟨a2_,e2_,hc0⟩ := Kd.at_int HW.out 0 (Int.le_refl 0) h0z
          obtain rfl : aw = a2_ := by injection e2_
          clear e2_
          have C4 : Aside0 (wr.cell? aw = some (.int .i64 (rd q 0))) := ⟨hc0⟩
          obtain ⟨a2_,e2_,hc1⟩ := Kd.at_int HA.out (xn : Int) h0x hxl
          obtain rfl : aa = a2_ := by injection e2_
          clear e2_
          rw [Int.toNat_natCast] at hc1
          have C5 := aZ_ hc1
          clear hc0 hc1 BF BT HW HA
          have h_f1 : (f1 != f1) = false := bne_self_eq_false f1
          have h_f2 : (f2 != f2) = false := bne_self_eq_false f2
          have h_m2 : (m2 != m2) = false := bne_self_eq_false m2
          have h_v1 : (v1 != v1) = false := bne_self_eq_false v1
          have h_sv : (sv != sv) = false := bne_self_eq_false sv
          have h_z : (z != z) = false := bne_self_eq_false z
          have h_w0 : (rd q 0 != rd q 0) = false := bne_self_eq_false _
          have e1_ := HX.out.e1
          have e2_ := HX.out.e2
          have e3_ := HX.out.e3
          have e4_ := HX.out.e4
          have e5_ := HX.out.e5
          have e6_ := HX.out.e6
          have e7_ := HX.out.e7
          have e8_ := HX.out.e8
          go_upto_region 26 with (fail)
          have hb := below_drew (Below.refl wr.heap.size wr)
          have n_ : Aside0 (wr.drew.cell? ⟨gf,0,none⟩ = some (.int .i64 f1)) := ⟨pw_cell_below hb C0.out⟩
          clear C0
          have C0 := n_
          clear n_
          have n_ : Aside0 (wr.drew.cell? ⟨gf,1,none⟩ = some (.int .i64 f2)) := ⟨pw_cell_below hb C1.out⟩
          clear C1
          have C1 := n_
          clear n_
          have n_ : Aside0 (wr.drew.cell? ⟨gt,0,none⟩ = some (.int .i64 f1)) := ⟨pw_cell_below hb C2.out⟩
          clear C2
          have C2 := n_
          clear n_
          have n_ : Aside0 (wr.drew.cell? ⟨gt,1,none⟩ = some (.int .i64 f2)) := ⟨pw_cell_below hb C3.out⟩
          clear C3
          have C3 := n_
          clear n_
          have n_ : Aside0 (wr.drew.cell? aw = some (.int .i64 (rd q 0))) := ⟨pw_cell_below hb C4.out⟩
          clear C4
          have C4 := n_
          clear n_
          have n_ : Aside0 (wr.drew.cell? (aa.add xn) = some (.int .i64 (rd au (xn : Int)))) := ⟨pw_cell_below hb C5.out⟩
          clear C5
          have C5 := n_
          clear n_
          have n_ := aZ_ (Kd.Heap.C (Kd.heap_int .u8) hb.block HR.out)
          clear HR
          have HR := n_
          clear n_
          have n_ := aZ_ (below_step HB.out hb)
          clear HB
          have HB := n_
          clear n_
          clear hb
          refine start_ (n := 75) (S := (fun w_ => w_.cell? ⟨gf,0,none⟩ = some (.int .i64 f1) ∧ w_.cell? ⟨gf,1,none⟩ = some (.int .i64 f2) ∧ w_.cell? ⟨gt,0,none⟩ = some (.int .i64 f1) ∧ w_.cell? ⟨gt,1,none⟩ = some (.int .i64 f2) ∧ w_.cell? aw = some (.int .i64 (rd q 0)) ∧ w_.cell? (aa.add xn) = some (.int .i64 (rd au (xn : Int))))) (ds := []) #[false,false,false,false,false,false,false,false,false,false,false,false,false,false,false,false,false,false,false,false,false,false,false,false,false,false,false,false,false,false,false,false,false,false,false,false,false,false,false,false,false,false,false,false,false,false,false,false,false,false,false,false,false,false,false,false,false,false,false,false,false,false,false,false,false,false,false,false,false,false,false,false,false,false,false] T16_ rfl rfl ⟨C0.out,C1.out,C2.out,C3.out,C4.out,C5.out⟩ (fun hHeld => ?_)
          refine with_tabW laws_FnSpectra.tab26 laws_FnSpectra.bits26 (fun HT_ HW_ => ?_)
          generalize wr.drew = W0_ at C0 C1 C2 C3 C4 C5 HR HB hHeld ⊢
          refine pZ_ 0 (some 144) #[true,false,false,false,false,false,false,false,false,false,false,false,false,false,false,false,false,false,false,false,false,false,false,false,false,false,false,false,false,false,false,false,false,false,false,false,false,false,false,false,false,false,false,false,false,false,false,false,false,false,false,false,false,false,false,false,false,false,false,false,false,false,false,false,false,false,false,false,false,false,false,false,false,false,false] ?_
          refine pZ_ 1 (some 145) #[true,true,false,false,false,false,false,false,false,false,false,false,false,false,false,false,false,false,false,false,false,false,false,false,false,false,false,false,false,false,false,false,false,false,false,false,false,false,false,false,false,false,false,false,false,false,false,false,false,false,false,false,false,false,false,false,false,false,false,false,false,false,false,false,false,false,false,false,false,false,false,false,false,false,false] ?_
          refine pZ_ 2 (some 146) #[true,true,true,false,false,false,false,false,false,false,false,false,false,false,false,false,false,false,false,false,false,false,false,false,false,false,false,false,false,false,false,false,false,false,false,false,false,false,false,false,false,false,false,false,false,false,false,false,false,false,false,false,false,false,false,false,false,false,false,false,false,false,false,false,false,false,false,false,false,false,false,false,false,false,false] ?_
          refine tZ6_ 3 (some 147) #[true,true,true,true,false,false,false,false,false,false,false,false,false,false,false,false,false,false,false,false,false,false,false,false,false,false,false,false,false,false,false,false,false,false,false,false,false,false,false,false,false,false,false,false,false,false,false,false,false,false,false,false,false,false,false,false,false,false,false,false,false,false,false,false,false,false,false,false,false,false,false,false,false,false,false] hHeld ?_
          refine tZ6_ 4 (some 148) #[true,true,true,true,true,false,false,false,false,false,false,false,false,false,false,false,false,false,false,false,false,false,false,false,false,false,false,false,false,false,false,false,false,false,false,false,false,false,false,false,false,false,false,false,false,false,false,false,false,false,false,false,false,false,false,false,false,false,false,false,false,false,false,false,false,false,false,false,false,false,false,false,false,false,false] hHeld ?_
          refine pZ_ 5 (some 149) #[true,true,true,true,true,true,false,false,false,false,false,false,false,false,false,false,false,false,false,false,false,false,false,false,false,false,false,false,false,false,false,false,false,false,false,false,false,false,false,false,false,false,false,false,false,false,false,false,false,false,false,false,false,false,false,false,false,false,false,false,false,false,false,false,false,false,false,false,false,false,false,false,false,false,false] ?_
          refine pZ_ 6 (some 150) #[true,true,true,true,true,true,true,false,false,false,false,false,false,false,false,false,false,false,false,false,false,false,false,false,false,false,false,false,false,false,false,false,false,false,false,false,false,false,false,false,false,false,false,false,false,false,false,false,false,false,false,false,false,false,false,false,false,false,false,false,false,false,false,false,false,false,false,false,false,false,false,false,false,false,false] ?_
          refine pZ_ 7 (some 151) #[true,true,true,true,true,true,true,true,false,false,false,false,false,false,false,false,false,false,false,false,false,false,false,false,false,false,false,false,false,false,false,false,false,false,false,false,false,false,false,false,false,false,false,false,false,false,false,false,false,false,false,false,false,false,false,false,false,false,false,false,false,false,false,false,false,false,false,false,false,false,false,false,false,false,false] ?_
          refine pZ_ 8 (some 152) #[true,true,true,true,true,true,true,true,true,false,false,false,false,false,false,false,false,false,false,false,false,false,false,false,false,false,false,false,false,false,false,false,false,false,false,false,false,false,false,false,false,false,false,false,false,false,false,false,false,false,false,false,false,false,false,false,false,false,false,false,false,false,false,false,false,false,false,false,false,false,false,false,false,false,false] ?_
          refine pZ_ 9 (some 153) #[true,true,true,true,true,true,true,true,true,true,false,false,false,false,false,false,false,false,false,false,false,false,false,false,false,false,false,false,false,false,false,false,false,false,false,false,false,false,false,false,false,false,false,false,false,false,false,false,false,false,false,false,false,false,false,false,false,false,false,false,false,false,false,false,false,false,false,false,false,false,false,false,false,false,false] ?_
          refine pZ_ 10 (some 154) #[true,true,true,true,true,true,true,true,true,true,true,false,false,false,false,false,false,false,false,false,false,false,false,false,false,false,false,false,false,false,false,false,false,false,false,false,false,false,false,false,false,false,false,false,false,false,false,false,false,false,false,false,false,false,false,false,false,false,false,false,false,false,false,false,false,false,false,false,false,false,false,false,false,false,false] ?_
          refine pZ_ 11 (some 155) #[true,true,true,true,true,true,true,true,true,true,true,true,false,false,false,false,false,false,false,false,false,false,false,false,false,false,false,false,false,false,false,false,false,false,false,false,false,false,false,false,false,false,false,false,false,false,false,false,false,false,false,false,false,false,false,false,false,false,false,false,false,false,false,false,false,false,false,false,false,false,false,false,false,false,false] ?_
          refine pZ_ 12 (some 156) #[true,true,true,true,true,true,true,true,true,true,true,true,true,false,false,false,false,false,false,false,false,false,false,false,false,false,false,false,false,false,false,false,false,false,false,false,false,false,false,false,false,false,false,false,false,false,false,false,false,false,false,false,false,false,false,false,false,false,false,false,false,false,false,false,false,false,false,false,false,false,false,false,false,false,false] ?_
          refine pZ_ 13 (some 157) #[true,true,true,true,true,true,true,true,true,true,true,true,true,true,false,false,false,false,false,false,false,false,false,false,false,false,false,false,false,false,false,false,false,false,false,false,false,false,false,false,false,false,false,false,false,false,false,false,false,false,false,false,false,false,false,false,false,false,false,false,false,false,false,false,false,false,false,false,false,false,false,false,false,false,false] ?_
          refine pZ_ 14 (some 158) #[true,true,true,true,true,true,true,true,true,true,true,true,true,true,true,false,false,false,false,false,false,false,false,false,false,false,false,false,false,false,false,false,false,false,false,false,false,false,false,false,false,false,false,false,false,false,false,false,false,false,false,false,false,false,false,false,false,false,false,false,false,false,false,false,false,false,false,false,false,false,false,false,false,false,false] ?_
          refine pZ_ 15 (some 159) #[true,true,true,true,true,true,true,true,true,true,true,true,true,true,true,true,false,false,false,false,false,false,false,false,false,false,false,false,false,false,false,false,false,false,false,false,false,false,false,false,false,false,false,false,false,false,false,false,false,false,false,false,false,false,false,false,false,false,false,false,false,false,false,false,false,false,false,false,false,false,false,false,false,false,false] ?_
          refine pZ_ 16 (some 160) #[true,true,true,true,true,true,true,true,true,true,true,true,true,true,true,true,true,false,false,false,false,false,false,false,false,false,false,false,false,false,false,false,false,false,false,false,false,false,false,false,false,false,false,false,false,false,false,false,false,false,false,false,false,false,false,false,false,false,false,false,false,false,false,false,false,false,false,false,false,false,false,false,false,false,false] ?_
          refine pZ_ 17 (some 161) #[true,true,true,true,true,true,true,true,true,true,true,true,true,true,true,true,true,true,false,false,false,false,false,false,false,false,false,false,false,false,false,false,false,false,false,false,false,false,false,false,false,false,false,false,false,false,false,false,false,false,false,false,false,false,false,false,false,false,false,false,false,false,false,false,false,false,false,false,false,false,false,false,false,false,false] ?_
          refine pZ_ 18 (some 162) #[true,true,true,true,true,true,true,true,true,true,true,true,true,true,true,true,true,true,true,false,false,false,false,false,false,false,false,false,false,false,false,false,false,false,false,false,false,false,false,false,false,false,false,false,false,false,false,false,false,false,false,false,false,false,false,false,false,false,false,false,false,false,false,false,false,false,false,false,false,false,false,false,false,false,false] ?_
          refine tZ6_ 19 (some 163) #[true,true,true,true,true,true,true,true,true,true,true,true,true,true,true,true,true,true,true,true,false,false,false,false,false,false,false,false,false,false,false,false,false,false,false,false,false,false,false,false,false,false,false,false,false,false,false,false,false,false,false,false,false,false,false,false,false,false,false,false,false,false,false,false,false,false,false,false,false,false,false,false,false,false,false] hHeld ?_
          refine pZ_ 20 (some 164) #[true,true,true,true,true,true,true,true,true,true,true,true,true,true,true,true,true,true,true,true,true,false,false,false,false,false,false,false,false,false,false,false,false,false,false,false,false,false,false,false,false,false,false,false,false,false,false,false,false,false,false,false,false,false,false,false,false,false,false,false,false,false,false,false,false,false,false,false,false,false,false,false,false,false,false] ?_
          refine pZ_ 21 (some 165) #[true,true,true,true,true,true,true,true,true,true,true,true,true,true,true,true,true,true,true,true,true,true,false,false,false,false,false,false,false,false,false,false,false,false,false,false,false,false,false,false,false,false,false,false,false,false,false,false,false,false,false,false,false,false,false,false,false,false,false,false,false,false,false,false,false,false,false,false,false,false,false,false,false,false,false] ?_
          refine tZ6_ 22 (some 166) #[true,true,true,true,true,true,true,true,true,true,true,true,true,true,true,true,true,true,true,true,true,true,true,false,false,false,false,false,false,false,false,false,false,false,false,false,false,false,false,false,false,false,false,false,false,false,false,false,false,false,false,false,false,false,false,false,false,false,false,false,false,false,false,false,false,false,false,false,false,false,false,false,false,false,false] hHeld ?_
          refine one_ (i := 23) (N := some 167) #[true,true,true,true,true,true,true,true,true,true,true,true,true,true,true,true,true,true,true,true,true,true,true,true,false,false,false,false,false,false,false,false,false,false,false,false,false,false,false,false,false,false,false,false,false,false,false,false,false,false,false,false,false,false,false,false,false,false,false,false,false,false,false,false,false,false,false,false,false,false,false,false,false,false,false] rfl rfl (one_of HT_.out T16_) T43_ (fun K hK => ?_)
          refine gZ_ Try.func18 #[.agg #[.int .i64 f1,.int .i64 f2]] ?_
          with_reducible refine (impl_CountOnes.calls f1 f2 q1 _ HX.out.ones).mono ?_
          rintro e W1_ ⟨rfl,hb⟩
          refine ⟨_,rfl,?_⟩
          have n_ : Aside0 (W1_.cell? ⟨gf,0,none⟩ = some (.int .i64 f1)) := ⟨pw_cell_below hb C0.out⟩
          clear C0
          have C0 := n_
          clear n_
          have n_ : Aside0 (W1_.cell? ⟨gf,1,none⟩ = some (.int .i64 f2)) := ⟨pw_cell_below hb C1.out⟩
          clear C1
          have C1 := n_
          clear n_
          have n_ : Aside0 (W1_.cell? ⟨gt,0,none⟩ = some (.int .i64 f1)) := ⟨pw_cell_below hb C2.out⟩
          clear C2
          have C2 := n_
          clear n_
          have n_ : Aside0 (W1_.cell? ⟨gt,1,none⟩ = some (.int .i64 f2)) := ⟨pw_cell_below hb C3.out⟩
          clear C3
          have C3 := n_
          clear n_
          have n_ : Aside0 (W1_.cell? aw = some (.int .i64 (rd q 0))) := ⟨pw_cell_below hb C4.out⟩
          clear C4
          have C4 := n_
          clear n_
          have n_ : Aside0 (W1_.cell? (aa.add xn) = some (.int .i64 (rd au (xn : Int)))) := ⟨pw_cell_below hb C5.out⟩
          clear C5
          have C5 := n_
          clear n_
          have n_ := aZ_ (Kd.Heap.C (Kd.heap_int .u8) hb.block HR.out)
          clear HR
          have HR := n_
          clear n_
          have n_ := aZ_ (below_step HB.out hb)
          clear HB
          have HB := n_
          clear n_
          clear hb
          refine hK.out _ _ ⟨C0.out,C1.out,C2.out,C3.out,C4.out,C5.out⟩ (fun hHeld => ?_)
          clear hK K
          refine norm_ (a' := ?_) ?_ ?_
          rotate_left
          ·show Act.put _ (some 167) _ = _
           simp only [Act.put,List.setIfInBounds_toArray,List.set_cons_zero,List.set_cons_succ,i64_w,i32_w]
           rfl
          refine pZ_ 24 (some 168) #[true,true,true,true,true,true,true,true,true,true,true,true,true,true,true,true,true,true,true,true,true,true,true,true,true,false,false,false,false,false,false,false,false,false,false,false,false,false,false,false,false,false,false,false,false,false,false,false,false,false,false,false,false,false,false,false,false,false,false,false,false,false,false,false,false,false,false,false,false,false,false,false,false,false,false] ?_
          refine pZ_ 25 (some 169) #[true,true,true,true,true,true,true,true,true,true,true,true,true,true,true,true,true,true,true,true,true,true,true,true,true,true,false,false,false,false,false,false,false,false,false,false,false,false,false,false,false,false,false,false,false,false,false,false,false,false,false,false,false,false,false,false,false,false,false,false,false,false,false,false,false,false,false,false,false,false,false,false,false,false,false] ?_
          refine pZ_ 26 (some 170) #[true,true,true,true,true,true,true,true,true,true,true,true,true,true,true,true,true,true,true,true,true,true,true,true,true,true,true,false,false,false,false,false,false,false,false,false,false,false,false,false,false,false,false,false,false,false,false,false,false,false,false,false,false,false,false,false,false,false,false,false,false,false,false,false,false,false,false,false,false,false,false,false,false,false,false] ?_
          refine pZ_ 27 (some 171) #[true,true,true,true,true,true,true,true,true,true,true,true,true,true,true,true,true,true,true,true,true,true,true,true,true,true,true,true,false,false,false,false,false,false,false,false,false,false,false,false,false,false,false,false,false,false,false,false,false,false,false,false,false,false,false,false,false,false,false,false,false,false,false,false,false,false,false,false,false,false,false,false,false,false,false] ?_
          refine pZ_ 28 (some 172) #[true,true,true,true,true,true,true,true,true,true,true,true,true,true,true,true,true,true,true,true,true,true,true,true,true,true,true,true,true,false,false,false,false,false,false,false,false,false,false,false,false,false,false,false,false,false,false,false,false,false,false,false,false,false,false,false,false,false,false,false,false,false,false,false,false,false,false,false,false,false,false,false,false,false,false] ?_
          refine pZ_ 29 (some 173) #[true,true,true,true,true,true,true,true,true,true,true,true,true,true,true,true,true,true,true,true,true,true,true,true,true,true,true,true,true,true,false,false,false,false,false,false,false,false,false,false,false,false,false,false,false,false,false,false,false,false,false,false,false,false,false,false,false,false,false,false,false,false,false,false,false,false,false,false,false,false,false,false,false,false,false] ?_
          refine pZ_ 30 (some 174) #[true,true,true,true,true,true,true,true,true,true,true,true,true,true,true,true,true,true,true,true,true,true,true,true,true,true,true,true,true,true,true,false,false,false,false,false,false,false,false,false,false,false,false,false,false,false,false,false,false,false,false,false,false,false,false,false,false,false,false,false,false,false,false,false,false,false,false,false,false,false,false,false,false,false,false] ?_
          refine pZ_ 31 (some 175) #[true,true,true,true,true,true,true,true,true,true,true,true,true,true,true,true,true,true,true,true,true,true,true,true,true,true,true,true,true,true,true,true,false,false,false,false,false,false,false,false,false,false,false,false,false,false,false,false,false,false,false,false,false,false,false,false,false,false,false,false,false,false,false,false,false,false,false,false,false,false,false,false,false,false,false] ?_
          refine pZ_ 32 (some 176) #[true,true,true,true,true,true,true,true,true,true,true,true,true,true,true,true,true,true,true,true,true,true,true,true,true,true,true,true,true,true,true,true,true,false,false,false,false,false,false,false,false,false,false,false,false,false,false,false,false,false,false,false,false,false,false,false,false,false,false,false,false,false,false,false,false,false,false,false,false,false,false,false,false,false,false] ?_
          refine tZ6_ 33 (some 177) #[true,true,true,true,true,true,true,true,true,true,true,true,true,true,true,true,true,true,true,true,true,true,true,true,true,true,true,true,true,true,true,true,true,true,false,false,false,false,false,false,false,false,false,false,false,false,false,false,false,false,false,false,false,false,false,false,false,false,false,false,false,false,false,false,false,false,false,false,false,false,false,false,false,false,false] hHeld ?_
          refine pZ_ 35 (some 179) #[true,true,true,true,true,true,true,true,true,true,true,true,true,true,true,true,true,true,true,true,true,true,true,true,true,true,true,true,true,true,true,true,true,true,false,true,false,false,false,false,false,false,false,false,false,false,false,false,false,false,false,false,false,false,false,false,false,false,false,false,false,false,false,false,false,false,false,false,false,false,false,false,false,false,false] ?_
          refine one_ (i := 34) (N := some 178) #[true,true,true,true,true,true,true,true,true,true,true,true,true,true,true,true,true,true,true,true,true,true,true,true,true,true,true,true,true,true,true,true,true,true,true,true,false,false,false,false,false,false,false,false,false,false,false,false,false,false,false,false,false,false,false,false,false,false,false,false,false,false,false,false,false,false,false,false,false,false,false,false,false,false,false] rfl rfl (one_of HT_.out T16_) T43_ (fun K hK => ?_)
          refine gZ_ Try.func9 #[.agg #[.int .i64 f1,.int .i64 f2]] ?_
          with_reducible refine (impl_Nonlinearity.calls k f1 f2 v1 _ HG.out.nl1).mono ?_
          rintro e W2_ ⟨rfl,hb⟩
          refine ⟨_,rfl,?_⟩
          have n_ : Aside0 (W2_.cell? ⟨gf,0,none⟩ = some (.int .i64 f1)) := ⟨pw_cell_below hb C0.out⟩
          clear C0
          have C0 := n_
          clear n_
          have n_ : Aside0 (W2_.cell? ⟨gf,1,none⟩ = some (.int .i64 f2)) := ⟨pw_cell_below hb C1.out⟩
          clear C1
          have C1 := n_
          clear n_
          have n_ : Aside0 (W2_.cell? ⟨gt,0,none⟩ = some (.int .i64 f1)) := ⟨pw_cell_below hb C2.out⟩
          clear C2
          have C2 := n_
          clear n_
          have n_ : Aside0 (W2_.cell? ⟨gt,1,none⟩ = some (.int .i64 f2)) := ⟨pw_cell_below hb C3.out⟩
          clear C3
          have C3 := n_
          clear n_
          have n_ : Aside0 (W2_.cell? aw = some (.int .i64 (rd q 0))) := ⟨pw_cell_below hb C4.out⟩
          clear C4
          have C4 := n_
          clear n_
          have n_ : Aside0 (W2_.cell? (aa.add xn) = some (.int .i64 (rd au (xn : Int)))) := ⟨pw_cell_below hb C5.out⟩
          clear C5
          have C5 := n_
          clear n_
          have n_ := aZ_ (Kd.Heap.C (Kd.heap_int .u8) hb.block HR.out)
          clear HR
          have HR := n_
          clear n_
          have n_ := aZ_ (below_step HB.out hb)
          clear HB
          have HB := n_
          clear n_
          clear hb
          refine hK.out _ _ ⟨C0.out,C1.out,C2.out,C3.out,C4.out,C5.out⟩ (fun hHeld => ?_)
          clear hK K
          refine norm_ (a' := ?_) ?_ ?_
          rotate_left
          ·show Act.put _ (some 178) _ = _
           simp only [Act.put,List.setIfInBounds_toArray,List.set_cons_zero,List.set_cons_succ,i64_w,i32_w]
           rfl
          refine pZ_ 36 (some 180) #[true,true,true,true,true,true,true,true,true,true,true,true,true,true,true,true,true,true,true,true,true,true,true,true,true,true,true,true,true,true,true,true,true,true,true,true,true,false,false,false,false,false,false,false,false,false,false,false,false,false,false,false,false,false,false,false,false,false,false,false,false,false,false,false,false,false,false,false,false,false,false,false,false,false,false] ?_
          refine pZ_ 37 (some 181) #[true,true,true,true,true,true,true,true,true,true,true,true,true,true,true,true,true,true,true,true,true,true,true,true,true,true,true,true,true,true,true,true,true,true,true,true,true,true,false,false,false,false,false,false,false,false,false,false,false,false,false,false,false,false,false,false,false,false,false,false,false,false,false,false,false,false,false,false,false,false,false,false,false,false,false] ?_
          refine pZ_ 38 (some 182) #[true,true,true,true,true,true,true,true,true,true,true,true,true,true,true,true,true,true,true,true,true,true,true,true,true,true,true,true,true,true,true,true,true,true,true,true,true,true,true,false,false,false,false,false,false,false,false,false,false,false,false,false,false,false,false,false,false,false,false,false,false,false,false,false,false,false,false,false,false,false,false,false,false,false,false] ?_
          refine pZ_ 39 (some 183) #[true,true,true,true,true,true,true,true,true,true,true,true,true,true,true,true,true,true,true,true,true,true,true,true,true,true,true,true,true,true,true,true,true,true,true,true,true,true,true,true,false,false,false,false,false,false,false,false,false,false,false,false,false,false,false,false,false,false,false,false,false,false,false,false,false,false,false,false,false,false,false,false,false,false,false] ?_
          refine pZ_ 40 (some 184) #[true,true,true,true,true,true,true,true,true,true,true,true,true,true,true,true,true,true,true,true,true,true,true,true,true,true,true,true,true,true,true,true,true,true,true,true,true,true,true,true,true,false,false,false,false,false,false,false,false,false,false,false,false,false,false,false,false,false,false,false,false,false,false,false,false,false,false,false,false,false,false,false,false,false,false] ?_
          refine pZ_ 41 (some 185) #[true,true,true,true,true,true,true,true,true,true,true,true,true,true,true,true,true,true,true,true,true,true,true,true,true,true,true,true,true,true,true,true,true,true,true,true,true,true,true,true,true,true,false,false,false,false,false,false,false,false,false,false,false,false,false,false,false,false,false,false,false,false,false,false,false,false,false,false,false,false,false,false,false,false,false] ?_
          refine pZ_ 42 (some 186) #[true,true,true,true,true,true,true,true,true,true,true,true,true,true,true,true,true,true,true,true,true,true,true,true,true,true,true,true,true,true,true,true,true,true,true,true,true,true,true,true,true,true,true,false,false,false,false,false,false,false,false,false,false,false,false,false,false,false,false,false,false,false,false,false,false,false,false,false,false,false,false,false,false,false,false] ?_
          refine pZ_ 43 (some 187) #[true,true,true,true,true,true,true,true,true,true,true,true,true,true,true,true,true,true,true,true,true,true,true,true,true,true,true,true,true,true,true,true,true,true,true,true,true,true,true,true,true,true,true,true,false,false,false,false,false,false,false,false,false,false,false,false,false,false,false,false,false,false,false,false,false,false,false,false,false,false,false,false,false,false,false] ?_
          refine pZ_ 44 (some 188) #[true,true,true,true,true,true,true,true,true,true,true,true,true,true,true,true,true,true,true,true,true,true,true,true,true,true,true,true,true,true,true,true,true,true,true,true,true,true,true,true,true,true,true,true,true,false,false,false,false,false,false,false,false,false,false,false,false,false,false,false,false,false,false,false,false,false,false,false,false,false,false,false,false,false,false] ?_
          refine tZ6_ 45 (some 189) #[true,true,true,true,true,true,true,true,true,true,true,true,true,true,true,true,true,true,true,true,true,true,true,true,true,true,true,true,true,true,true,true,true,true,true,true,true,true,true,true,true,true,true,true,true,true,false,false,false,false,false,false,false,false,false,false,false,false,false,false,false,false,false,false,false,false,false,false,false,false,false,false,false,false,false] hHeld ?_
          refine pZ_ 46 (some 190) #[true,true,true,true,true,true,true,true,true,true,true,true,true,true,true,true,true,true,true,true,true,true,true,true,true,true,true,true,true,true,true,true,true,true,true,true,true,true,true,true,true,true,true,true,true,true,true,false,false,false,false,false,false,false,false,false,false,false,false,false,false,false,false,false,false,false,false,false,false,false,false,false,false,false,false] ?_
          refine pZ_ 47 (some 191) #[true,true,true,true,true,true,true,true,true,true,true,true,true,true,true,true,true,true,true,true,true,true,true,true,true,true,true,true,true,true,true,true,true,true,true,true,true,true,true,true,true,true,true,true,true,true,true,true,false,false,false,false,false,false,false,false,false,false,false,false,false,false,false,false,false,false,false,false,false,false,false,false,false,false,false] ?_
          refine pZ_ 48 (some 192) #[true,true,true,true,true,true,true,true,true,true,true,true,true,true,true,true,true,true,true,true,true,true,true,true,true,true,true,true,true,true,true,true,true,true,true,true,true,true,true,true,true,true,true,true,true,true,true,true,true,false,false,false,false,false,false,false,false,false,false,false,false,false,false,false,false,false,false,false,false,false,false,false,false,false,false] ?_
          refine pZ_ 49 (some 193) #[true,true,true,true,true,true,true,true,true,true,true,true,true,true,true,true,true,true,true,true,true,true,true,true,true,true,true,true,true,true,true,true,true,true,true,true,true,true,true,true,true,true,true,true,true,true,true,true,true,true,false,false,false,false,false,false,false,false,false,false,false,false,false,false,false,false,false,false,false,false,false,false,false,false,false] ?_
          refine tZ6_ 50 (some 194) #[true,true,true,true,true,true,true,true,true,true,true,true,true,true,true,true,true,true,true,true,true,true,true,true,true,true,true,true,true,true,true,true,true,true,true,true,true,true,true,true,true,true,true,true,true,true,true,true,true,true,true,false,false,false,false,false,false,false,false,false,false,false,false,false,false,false,false,false,false,false,false,false,false,false,false] hHeld ?_
          refine pZ_ 53 (some 197) #[true,true,true,true,true,true,true,true,true,true,true,true,true,true,true,true,true,true,true,true,true,true,true,true,true,true,true,true,true,true,true,true,true,true,true,true,true,true,true,true,true,true,true,true,true,true,true,true,true,true,true,false,false,true,false,false,false,false,false,false,false,false,false,false,false,false,false,false,false,false,false,false,false,false,false] ?_
          refine pZ_ 54 (some 198) #[true,true,true,true,true,true,true,true,true,true,true,true,true,true,true,true,true,true,true,true,true,true,true,true,true,true,true,true,true,true,true,true,true,true,true,true,true,true,true,true,true,true,true,true,true,true,true,true,true,true,true,false,false,true,true,false,false,false,false,false,false,false,false,false,false,false,false,false,false,false,false,false,false,false,false] ?_
          refine pZ_ 56 (some 200) #[true,true,true,true,true,true,true,true,true,true,true,true,true,true,true,true,true,true,true,true,true,true,true,true,true,true,true,true,true,true,true,true,true,true,true,true,true,true,true,true,true,true,true,true,true,true,true,true,true,true,true,false,false,true,true,false,true,false,false,false,false,false,false,false,false,false,false,false,false,false,false,false,false,false,false] ?_
          refine pZ_ 57 (some 201) #[true,true,true,true,true,true,true,true,true,true,true,true,true,true,true,true,true,true,true,true,true,true,true,true,true,true,true,true,true,true,true,true,true,true,true,true,true,true,true,true,true,true,true,true,true,true,true,true,true,true,true,false,false,true,true,false,true,true,false,false,false,false,false,false,false,false,false,false,false,false,false,false,false,false,false] ?_
          refine pZ_ 58 (some 202) #[true,true,true,true,true,true,true,true,true,true,true,true,true,true,true,true,true,true,true,true,true,true,true,true,true,true,true,true,true,true,true,true,true,true,true,true,true,true,true,true,true,true,true,true,true,true,true,true,true,true,true,false,false,true,true,false,true,true,true,false,false,false,false,false,false,false,false,false,false,false,false,false,false,false,false] ?_
          refine pZ_ 59 (some 203) #[true,true,true,true,true,true,true,true,true,true,true,true,true,true,true,true,true,true,true,true,true,true,true,true,true,true,true,true,true,true,true,true,true,true,true,true,true,true,true,true,true,true,true,true,true,true,true,true,true,true,true,false,false,true,true,false,true,true,true,true,false,false,false,false,false,false,false,false,false,false,false,false,false,false,false] ?_
          refine pZ_ 60 (some 204) #[true,true,true,true,true,true,true,true,true,true,true,true,true,true,true,true,true,true,true,true,true,true,true,true,true,true,true,true,true,true,true,true,true,true,true,true,true,true,true,true,true,true,true,true,true,true,true,true,true,true,true,false,false,true,true,false,true,true,true,true,true,false,false,false,false,false,false,false,false,false,false,false,false,false,false] ?_
          refine pZ_ 61 (some 205) #[true,true,true,true,true,true,true,true,true,true,true,true,true,true,true,true,true,true,true,true,true,true,true,true,true,true,true,true,true,true,true,true,true,true,true,true,true,true,true,true,true,true,true,true,true,true,true,true,true,true,true,false,false,true,true,false,true,true,true,true,true,true,false,false,false,false,false,false,false,false,false,false,false,false,false] ?_
          refine pZ_ 62 (some 206) #[true,true,true,true,true,true,true,true,true,true,true,true,true,true,true,true,true,true,true,true,true,true,true,true,true,true,true,true,true,true,true,true,true,true,true,true,true,true,true,true,true,true,true,true,true,true,true,true,true,true,true,false,false,true,true,false,true,true,true,true,true,true,true,false,false,false,false,false,false,false,false,false,false,false,false] ?_
          refine pZ_ 63 (some 207) #[true,true,true,true,true,true,true,true,true,true,true,true,true,true,true,true,true,true,true,true,true,true,true,true,true,true,true,true,true,true,true,true,true,true,true,true,true,true,true,true,true,true,true,true,true,true,true,true,true,true,true,false,false,true,true,false,true,true,true,true,true,true,true,true,false,false,false,false,false,false,false,false,false,false,false] ?_
          refine pZ_ 64 (some 208) #[true,true,true,true,true,true,true,true,true,true,true,true,true,true,true,true,true,true,true,true,true,true,true,true,true,true,true,true,true,true,true,true,true,true,true,true,true,true,true,true,true,true,true,true,true,true,true,true,true,true,true,false,false,true,true,false,true,true,true,true,true,true,true,true,true,false,false,false,false,false,false,false,false,false,false] ?_
          refine pZ_ 65 (some 209) #[true,true,true,true,true,true,true,true,true,true,true,true,true,true,true,true,true,true,true,true,true,true,true,true,true,true,true,true,true,true,true,true,true,true,true,true,true,true,true,true,true,true,true,true,true,true,true,true,true,true,true,false,false,true,true,false,true,true,true,true,true,true,true,true,true,true,false,false,false,false,false,false,false,false,false] ?_
          refine one_ (i := 51) (N := some 195) #[true,true,true,true,true,true,true,true,true,true,true,true,true,true,true,true,true,true,true,true,true,true,true,true,true,true,true,true,true,true,true,true,true,true,true,true,true,true,true,true,true,true,true,true,true,true,true,true,true,true,true,true,false,true,true,false,true,true,true,true,true,true,true,true,true,true,false,false,false,false,false,false,false,false,false] rfl rfl (one_of HT_.out T16_) T43_ (fun K hK => ?_)
          refine gZ_ Try.func19 #[.agg #[.int .i64 f1,.int .i64 f2]] ?_
          with_reducible refine (impl_TestRejects.calls k f1 f2 rj _ HX.out.rej).mono ?_
          rintro e W3_ ⟨rfl,hb⟩
          refine ⟨_,rfl,?_⟩
          have n_ : Aside0 (W3_.cell? ⟨gf,0,none⟩ = some (.int .i64 f1)) := ⟨pw_cell_below hb C0.out⟩
          clear C0
          have C0 := n_
          clear n_
          have n_ : Aside0 (W3_.cell? ⟨gf,1,none⟩ = some (.int .i64 f2)) := ⟨pw_cell_below hb C1.out⟩
          clear C1
          have C1 := n_
          clear n_
          have n_ : Aside0 (W3_.cell? ⟨gt,0,none⟩ = some (.int .i64 f1)) := ⟨pw_cell_below hb C2.out⟩
          clear C2
          have C2 := n_
          clear n_
          have n_ : Aside0 (W3_.cell? ⟨gt,1,none⟩ = some (.int .i64 f2)) := ⟨pw_cell_below hb C3.out⟩
          clear C3
          have C3 := n_
          clear n_
          have n_ : Aside0 (W3_.cell? aw = some (.int .i64 (rd q 0))) := ⟨pw_cell_below hb C4.out⟩
          clear C4
          have C4 := n_
          clear n_
          have n_ : Aside0 (W3_.cell? (aa.add xn) = some (.int .i64 (rd au (xn : Int)))) := ⟨pw_cell_below hb C5.out⟩
          clear C5
          have C5 := n_
          clear n_
          have n_ := aZ_ (Kd.Heap.C (Kd.heap_int .u8) hb.block HR.out)
          clear HR
          have HR := n_
          clear n_
          have n_ := aZ_ (below_step HB.out hb)
          clear HB
          have HB := n_
          clear n_
          clear hb
          refine hK.out _ _ ⟨C0.out,C1.out,C2.out,C3.out,C4.out,C5.out⟩ (fun hHeld => ?_)
          clear hK K
          refine norm_ (a' := ?_) ?_ ?_
          rotate_left
          ·show Act.put _ (some 195) _ = _
           simp only [Act.put,List.setIfInBounds_toArray,List.set_cons_zero,List.set_cons_succ,i64_w,i32_w]
           rfl
          refine pZ_ 52 (some 196) #[true,true,true,true,true,true,true,true,true,true,true,true,true,true,true,true,true,true,true,true,true,true,true,true,true,true,true,true,true,true,true,true,true,true,true,true,true,true,true,true,true,true,true,true,true,true,true,true,true,true,true,true,true,true,true,false,true,true,true,true,true,true,true,true,true,true,false,false,false,false,false,false,false,false,false] ?_
          refine pZ_ 55 (some 199) #[true,true,true,true,true,true,true,true,true,true,true,true,true,true,true,true,true,true,true,true,true,true,true,true,true,true,true,true,true,true,true,true,true,true,true,true,true,true,true,true,true,true,true,true,true,true,true,true,true,true,true,true,true,true,true,true,true,true,true,true,true,true,true,true,true,true,false,false,false,false,false,false,false,false,false] ?_
          refine pZ_ 66 (some 210) #[true,true,true,true,true,true,true,true,true,true,true,true,true,true,true,true,true,true,true,true,true,true,true,true,true,true,true,true,true,true,true,true,true,true,true,true,true,true,true,true,true,true,true,true,true,true,true,true,true,true,true,true,true,true,true,true,true,true,true,true,true,true,true,true,true,true,true,false,false,false,false,false,false,false,false] ?_
          refine pZ_ 67 (some 211) #[true,true,true,true,true,true,true,true,true,true,true,true,true,true,true,true,true,true,true,true,true,true,true,true,true,true,true,true,true,true,true,true,true,true,true,true,true,true,true,true,true,true,true,true,true,true,true,true,true,true,true,true,true,true,true,true,true,true,true,true,true,true,true,true,true,true,true,true,false,false,false,false,false,false,false] ?_
          refine pZ_ 68 (some 212) #[true,true,true,true,true,true,true,true,true,true,true,true,true,true,true,true,true,true,true,true,true,true,true,true,true,true,true,true,true,true,true,true,true,true,true,true,true,true,true,true,true,true,true,true,true,true,true,true,true,true,true,true,true,true,true,true,true,true,true,true,true,true,true,true,true,true,true,true,true,false,false,false,false,false,false] ?_
          refine tZ6_ 69 (some 213) #[true,true,true,true,true,true,true,true,true,true,true,true,true,true,true,true,true,true,true,true,true,true,true,true,true,true,true,true,true,true,true,true,true,true,true,true,true,true,true,true,true,true,true,true,true,true,true,true,true,true,true,true,true,true,true,true,true,true,true,true,true,true,true,true,true,true,true,true,true,true,false,false,false,false,false] hHeld ?_
          refine pZ_ 72 (some 216) #[true,true,true,true,true,true,true,true,true,true,true,true,true,true,true,true,true,true,true,true,true,true,true,true,true,true,true,true,true,true,true,true,true,true,true,true,true,true,true,true,true,true,true,true,true,true,true,true,true,true,true,true,true,true,true,true,true,true,true,true,true,true,true,true,true,true,true,true,true,true,false,false,true,false,false] ?_
          refine one_ (i := 70) (N := some 214) #[true,true,true,true,true,true,true,true,true,true,true,true,true,true,true,true,true,true,true,true,true,true,true,true,true,true,true,true,true,true,true,true,true,true,true,true,true,true,true,true,true,true,true,true,true,true,true,true,true,true,true,true,true,true,true,true,true,true,true,true,true,true,true,true,true,true,true,true,true,true,true,false,true,false,false] rfl rfl (one_of HT_.out T16_) T43_ (fun K hK => ?_)
          refine gZ_ Try.func21 #[.agg #[.int .i64 f1,.int .i64 f2]] ?_
          with_reducible refine (impl_EnergyByLevel.calls k f1 f2 el _ HX.out.en).mono ?_
          rintro e W4_ ⟨vq,rfl,hq,hb⟩
          obtain ⟨Ae,ce,rfl,hlc_,hr_⟩ := Kd.R_reads hq
          clear hq
          refine ⟨_,rfl,?_⟩
          have n_ : Aside0 (W4_.cell? ⟨gf,0,none⟩ = some (.int .i64 f1)) := ⟨pw_cell_below hb C0.out⟩
          clear C0
          have C0 := n_
          clear n_
          have n_ : Aside0 (W4_.cell? ⟨gf,1,none⟩ = some (.int .i64 f2)) := ⟨pw_cell_below hb C1.out⟩
          clear C1
          have C1 := n_
          clear n_
          have n_ : Aside0 (W4_.cell? ⟨gt,0,none⟩ = some (.int .i64 f1)) := ⟨pw_cell_below hb C2.out⟩
          clear C2
          have C2 := n_
          clear n_
          have n_ : Aside0 (W4_.cell? ⟨gt,1,none⟩ = some (.int .i64 f2)) := ⟨pw_cell_below hb C3.out⟩
          clear C3
          have C3 := n_
          clear n_
          have n_ : Aside0 (W4_.cell? aw = some (.int .i64 (rd q 0))) := ⟨pw_cell_below hb C4.out⟩
          clear C4
          have C4 := n_
          clear n_
          have n_ : Aside0 (W4_.cell? (aa.add xn) = some (.int .i64 (rd au (xn : Int)))) := ⟨pw_cell_below hb C5.out⟩
          clear C5
          have C5 := n_
          clear n_
          have n_ := aZ_ (Kd.Heap.C (Kd.heap_int .u8) hb.block HR.out)
          clear HR
          have HR := n_
          clear n_
          have n_ := aZ_ (below_step HB.out hb)
          clear HB
          have HB := n_
          clear n_
          clear hb
          have HE := aZ_ hr_
          have HEc := aZ_ hlc_
          clear hr_ hlc_
          refine hK.out _ _ ⟨C0.out,C1.out,C2.out,C3.out,C4.out,C5.out⟩ (fun hHeld => ?_)
          clear hK K
          refine norm_ (a' := ?_) ?_ ?_
          rotate_left
          ·show Act.put _ (some 214) _ = _
           simp only [Act.put,List.setIfInBounds_toArray,List.set_cons_zero,List.set_cons_succ,i64_w,i32_w]
           rfl
          refine one_ (i := 71) (N := some 215) #[true,true,true,true,true,true,true,true,true,true,true,true,true,true,true,true,true,true,true,true,true,true,true,true,true,true,true,true,true,true,true,true,true,true,true,true,true,true,true,true,true,true,true,true,true,true,true,true,true,true,true,true,true,true,true,true,true,true,true,true,true,true,true,true,true,true,true,true,true,true,true,true,true,false,false] rfl rfl (one_of HT_.out T16_) T43_ (fun K hK => ?_)
          refine gZ_ Try.func20 #[.slice Ae el.length ce] ?_
          with_reducible refine (laws_total.calls k Ae ce el m2 _ HE.out HEc.out HX.out.tot).mono ?_
          rintro e W5_ ⟨rfl,hd⟩
          have hb := hd.below
          clear hd
          refine ⟨_,rfl,?_⟩
          have n_ : Aside0 (W5_.cell? ⟨gf,0,none⟩ = some (.int .i64 f1)) := ⟨pw_cell_below hb C0.out⟩
          clear C0
          have C0 := n_
          clear n_
          have n_ : Aside0 (W5_.cell? ⟨gf,1,none⟩ = some (.int .i64 f2)) := ⟨pw_cell_below hb C1.out⟩
          clear C1
          have C1 := n_
          clear n_
          have n_ : Aside0 (W5_.cell? ⟨gt,0,none⟩ = some (.int .i64 f1)) := ⟨pw_cell_below hb C2.out⟩
          clear C2
          have C2 := n_
          clear n_
          have n_ : Aside0 (W5_.cell? ⟨gt,1,none⟩ = some (.int .i64 f2)) := ⟨pw_cell_below hb C3.out⟩
          clear C3
          have C3 := n_
          clear n_
          have n_ : Aside0 (W5_.cell? aw = some (.int .i64 (rd q 0))) := ⟨pw_cell_below hb C4.out⟩
          clear C4
          have C4 := n_
          clear n_
          have n_ : Aside0 (W5_.cell? (aa.add xn) = some (.int .i64 (rd au (xn : Int)))) := ⟨pw_cell_below hb C5.out⟩
          clear C5
          have C5 := n_
          clear n_
          have n_ := aZ_ (Kd.Heap.C (Kd.heap_int .u8) hb.block HR.out)
          clear HR
          have HR := n_
          clear n_
          have n_ := aZ_ (below_step HB.out hb)
          clear HB
          have HB := n_
          clear n_
          have n_ := aZ_ (Kd.Heap.C (Kd.heap_int .i64) hb.block HE.out)
          clear HE
          have HE := n_
          clear n_
          clear hb
          refine hK.out _ _ ⟨C0.out,C1.out,C2.out,C3.out,C4.out,C5.out⟩ (fun hHeld => ?_)
          clear hK K
          refine norm_ (a' := ?_) ?_ ?_
          rotate_left
          ·show Act.put _ (some 215) _ = _
           simp only [Act.put,List.setIfInBounds_toArray,List.set_cons_zero,List.set_cons_succ,i64_w,i32_w]
           rfl
          refine pZ_ 73 (some 217) #[true,true,true,true,true,true,true,true,true,true,true,true,true,true,true,true,true,true,true,true,true,true,true,true,true,true,true,true,true,true,true,true,true,true,true,true,true,true,true,true,true,true,true,true,true,true,true,true,true,true,true,true,true,true,true,true,true,true,true,true,true,true,true,true,true,true,true,true,true,true,true,true,true,true,false] ?_
          refine pZ_ 74 (some 218) #[true,true,true,true,true,true,true,true,true,true,true,true,true,true,true,true,true,true,true,true,true,true,true,true,true,true,true,true,true,true,true,true,true,true,true,true,true,true,true,true,true,true,true,true,true,true,true,true,true,true,true,true,true,true,true,true,true,true,true,true,true,true,true,true,true,true,true,true,true,true,true,true,true,true,true] ?_
          refine done_ (done_of HT_.out T16_) ?_
          clear C0 C1 C2 C3 C4 C5 hHeld HT_ HW_ HE HEc
          go_wp2_with (fail)
          go_meet
          exact ⟨HR,HB⟩
   case rest =>
    clear HR HB BF HW HWc hc_BF_0 hc_BF_1
    obtain ⟨HR,HB⟩ := hcut
    go_upto_region 29 with (go_at_call 22;refine (spec_DrawTableOfSpectrum.calls k A0 c0 l0 l _ HR.out HC0.out HG.out.dt).mono ?_;rintro e w5 ⟨vq,rfl,hq,hb⟩;have n_ := aZ_ (Kd.Heap.C (Kd.heap_int .u8) hb.block HR.out);clear HR;have HR := n_;clear n_;have n_ := aZ_ (below_step HB.out hb);clear HB;have HB := n_;clear n_;obtain ⟨Al,cl,rfl,hlc_,hr_⟩ := Kd.R_reads hq;have HL := aZ_ hr_;have HLc := aZ_ hlc_;clear hr_ hlc_;clear hq;clear hb )
    go_upto_region 30 with (go_at_call 13;refine (impl_TableOfSpectrum.calls k Al cl l a1 a2 o1 _ HL.out HLc.out HG.out.ts1).mono ?_;rintro e w6 ⟨rfl,hb⟩;have n_ := aZ_ (Kd.Heap.C (Kd.heap_int .u8) hb.block HR.out);clear HR;have HR := n_;clear n_;have n_ := aZ_ (below_step HB.out hb);clear HB;have HB := n_;clear n_;have n_ := aZ_ (Kd.Heap.C (Kd.heap_int .i64) hb.block HL.out);clear HL;have HL := n_;clear n_;clear hb )
    have B1 := aZ_ (blk_new w6 (.cells #[.int .i64 a1,.int .i64 a2] 25 (0,0)))
    have hb := below_alloc (Below.refl w6.heap.size w6) (.cells #[.int .i64 a1,.int .i64 a2] 25 (0,0))
    have n_ := aZ_ (Kd.Heap.C (Kd.heap_int .u8) hb.block HR.out)
    clear HR
    have HR := n_
    clear n_
    have n_ := aZ_ (below_step HB.out hb)
    clear HB
    have HB := n_
    clear n_
    have n_ := aZ_ (Kd.Heap.C (Kd.heap_int .i64) hb.block HL.out)
    clear HL
    have HL := n_
    clear n_
    clear hb
    obtain ⟨g1_,hg1__⟩ : ∃ g1_,g1_ = w6.heap.size := ⟨_,rfl⟩
    rw [← hg1__] at B1 ⊢
    clear hg1__
    generalize w6.alloc (.cells #[.int .i64 a1,.int .i64 a2] 25 (0,0)) = w7 at HR HB HL B1 ⊢
    have hc_B1_0 : w7.cell? ⟨g1_,0,none⟩ = some (.int .i64 a1) := (blk_cell B1.out 0).trans rfl
    have hc_B1_1 : w7.cell? ⟨g1_,1,none⟩ = some (.int .i64 a2) := (blk_cell B1.out 1).trans rfl
    go_upto_region 31 with (go_at_call 23;refine (spec_TableOfSpectrum.calls k Al cl l a1 a2 o1 _ HL.out HLc.out HG.out.ts2).mono ?_;rintro e w8 ⟨rfl,hb⟩;have n_ := aZ_ (Kd.Heap.C (Kd.heap_int .u8) hb.block HR.out);clear HR;have HR := n_;clear n_;have n_ := aZ_ (below_step HB.out hb);clear HB;have HB := n_;clear n_;have n_ := aZ_ (Kd.Heap.C (Kd.heap_int .i64) hb.block HL.out);clear HL;have HL := n_;clear n_;have n_ := aZ_ (blk_below B1.out hb);clear B1;have B1 := n_;clear n_;clear hb ;clear hc_B1_0 hc_B1_1;have hc_B1_0 : w8.cell? ⟨g1_,0,none⟩ = some (.int .i64 a1) := (blk_cell B1.out 0).trans rfl;have hc_B1_1 : w8.cell? ⟨g1_,1,none⟩ = some (.int .i64 a2) := (blk_cell B1.out 1).trans rfl)
    clear hc_B1_0 hc_B1_1
    have B2 := aZ_ (blk_new w8 (.cells #[.int .i64 a1,.int .i64 a2] 25 (0,0)))
    have hb := below_alloc (Below.refl w8.heap.size w8) (.cells #[.int .i64 a1,.int .i64 a2] 25 (0,0))
    have n_ := aZ_ (Kd.Heap.C (Kd.heap_int .u8) hb.block HR.out)
    clear HR
    have HR := n_
    clear n_
    have n_ := aZ_ (below_step HB.out hb)
    clear HB
    have HB := n_
    clear n_
    have n_ := aZ_ (Kd.Heap.C (Kd.heap_int .i64) hb.block HL.out)
    clear HL
    have HL := n_
    clear n_
    have n_ := aZ_ (blk_below B1.out hb)
    clear B1
    have B1 := n_
    clear n_
    clear hb
    obtain ⟨g2_,hg2__⟩ : ∃ g2_,g2_ = w8.heap.size := ⟨_,rfl⟩
    rw [← hg2__] at B2 ⊢
    clear hg2__
    generalize w8.alloc (.cells #[.int .i64 a1,.int .i64 a2] 25 (0,0)) = w9 at HR HB HL B1 B2 ⊢
    have hc_B1_0 : w9.cell? ⟨g1_,0,none⟩ = some (.int .i64 a1) := (blk_cell B1.out 0).trans rfl
    have hc_B1_1 : w9.cell? ⟨g1_,1,none⟩ = some (.int .i64 a2) := (blk_cell B1.out 1).trans rfl
    have hc_B2_0 : w9.cell? ⟨g2_,0,none⟩ = some (.int .i64 a1) := (blk_cell B2.out 0).trans rfl
    have hc_B2_1 : w9.cell? ⟨g2_,1,none⟩ = some (.int .i64 a2) := (blk_cell B2.out 1).trans rfl
    clear HL HLc
    go_upto_region 32 with (go_at_call 24;refine (spec_DrawDualOfBent.calls k A0 c0 l0 g1 g2 _ HR.out HC0.out HG.out.db).mono ?_;rintro e w10 ⟨rfl,hb⟩;have n_ := aZ_ (Kd.Heap.C (Kd.heap_int .u8) hb.block HR.out);clear HR;have HR := n_;clear n_;have n_ := aZ_ (below_step HB.out hb);clear HB;have HB := n_;clear n_;have n_ := aZ_ (blk_below B1.out hb);clear B1;have B1 := n_;clear n_;have n_ := aZ_ (blk_below B2.out hb);clear B2;have B2 := n_;clear n_;clear hb ;clear hc_B1_0 hc_B1_1 hc_B2_0 hc_B2_1;have hc_B1_0 : w10.cell? ⟨g1_,0,none⟩ = some (.int .i64 a1) := (blk_cell B1.out 0).trans rfl;have hc_B1_1 : w10.cell? ⟨g1_,1,none⟩ = some (.int .i64 a2) := (blk_cell B1.out 1).trans rfl;have hc_B2_0 : w10.cell? ⟨g2_,0,none⟩ = some (.int .i64 a1) := (blk_cell B2.out 0).trans rfl;have hc_B2_1 : w10.cell? ⟨g2_,1,none⟩ = some (.int .i64 a2) := (blk_cell B2.out 1).trans rfl)
    clear hc_B1_0 hc_B1_1 hc_B2_0 hc_B2_1
    have B3 := aZ_ (blk_new w10 (.cells #[.int .i64 g1,.int .i64 g2] 25 (0,0)))
    have hb := below_alloc (Below.refl w10.heap.size w10) (.cells #[.int .i64 g1,.int .i64 g2] 25 (0,0))
    have n_ := aZ_ (Kd.Heap.C (Kd.heap_int .u8) hb.block HR.out)
    clear HR
    have HR := n_
    clear n_
    have n_ := aZ_ (below_step HB.out hb)
    clear HB
    have HB := n_
    clear n_
    have n_ := aZ_ (blk_below B1.out hb)
    clear B1
    have B1 := n_
    clear n_
    have n_ := aZ_ (blk_below B2.out hb)
    clear B2
    have B2 := n_
    clear n_
    clear hb
    obtain ⟨g3_,hg3__⟩ : ∃ g3_,g3_ = w10.heap.size := ⟨_,rfl⟩
    rw [← hg3__] at B3 ⊢
    clear hg3__
    generalize w10.alloc (.cells #[.int .i64 g1,.int .i64 g2] 25 (0,0)) = w11 at HR HB B1 B2 B3 ⊢
    have hc_B1_0 : w11.cell? ⟨g1_,0,none⟩ = some (.int .i64 a1) := (blk_cell B1.out 0).trans rfl
    have hc_B1_1 : w11.cell? ⟨g1_,1,none⟩ = some (.int .i64 a2) := (blk_cell B1.out 1).trans rfl
    have hc_B2_0 : w11.cell? ⟨g2_,0,none⟩ = some (.int .i64 a1) := (blk_cell B2.out 0).trans rfl
    have hc_B2_1 : w11.cell? ⟨g2_,1,none⟩ = some (.int .i64 a2) := (blk_cell B2.out 1).trans rfl
    have hc_B3_0 : w11.cell? ⟨g3_,0,none⟩ = some (.int .i64 g1) := (blk_cell B3.out 0).trans rfl
    have hc_B3_1 : w11.cell? ⟨g3_,1,none⟩ = some (.int .i64 g2) := (blk_cell B3.out 1).trans rfl
    go_upto_region 33 with (go_at_call 25;refine (impl_DualOfBent.calls k g1 g2 c1 c2 o3 _ HG.out.du1).mono ?_;rintro e w12 ⟨rfl,hb⟩;have n_ := aZ_ (Kd.Heap.C (Kd.heap_int .u8) hb.block HR.out);clear HR;have HR := n_;clear n_;have n_ := aZ_ (below_step HB.out hb);clear HB;have HB := n_;clear n_;have n_ := aZ_ (blk_below B1.out hb);clear B1;have B1 := n_;clear n_;have n_ := aZ_ (blk_below B2.out hb);clear B2;have B2 := n_;clear n_;have n_ := aZ_ (blk_below B3.out hb);clear B3;have B3 := n_;clear n_;clear hb ;clear hc_B1_0 hc_B1_1 hc_B2_0 hc_B2_1 hc_B3_0 hc_B3_1;have hc_B1_0 : w12.cell? ⟨g1_,0,none⟩ = some (.int .i64 a1) := (blk_cell B1.out 0).trans rfl;have hc_B1_1 : w12.cell? ⟨g1_,1,none⟩ = some (.int .i64 a2) := (blk_cell B1.out 1).trans rfl;have hc_B2_0 : w12.cell? ⟨g2_,0,none⟩ = some (.int .i64 a1) := (blk_cell B2.out 0).trans rfl;have hc_B2_1 : w12.cell? ⟨g2_,1,none⟩ = some (.int .i64 a2) := (blk_cell B2.out 1).trans rfl;have hc_B3_0 : w12.cell? ⟨g3_,0,none⟩ = some (.int .i64 g1) := (blk_cell B3.out 0).trans rfl;have hc_B3_1 : w12.cell? ⟨g3_,1,none⟩ = some (.int .i64 g2) := (blk_cell B3.out 1).trans rfl)
    clear hc_B1_0 hc_B1_1 hc_B2_0 hc_B2_1 hc_B3_0 hc_B3_1
    have B4 := aZ_ (blk_new w12 (.cells #[.int .i64 c1,.int .i64 c2] 25 (0,0)))
    have hb := below_alloc (Below.refl w12.heap.size w12) (.cells #[.int .i64 c1,.int .i64 c2] 25 (0,0))
    have n_ := aZ_ (Kd.Heap.C (Kd.heap_int .u8) hb.block HR.out)
    clear HR
    have HR := n_
    clear n_
    have n_ := aZ_ (below_step HB.out hb)
    clear HB
    have HB := n_
    clear n_
    have n_ := aZ_ (blk_below B1.out hb)
    clear B1
    have B1 := n_
    clear n_
    have n_ := aZ_ (blk_below B2.out hb)
    clear B2
    have B2 := n_
    clear n_
    have n_ := aZ_ (blk_below B3.out hb)
    clear B3
    have B3 := n_
    clear n_
    clear hb
    obtain ⟨g4_,hg4__⟩ : ∃ g4_,g4_ = w12.heap.size := ⟨_,rfl⟩
    rw [← hg4__] at B4 ⊢
    clear hg4__
    generalize w12.alloc (.cells #[.int .i64 c1,.int .i64 c2] 25 (0,0)) = w13 at HR HB B1 B2 B3 B4 ⊢
    have hc_B1_0 : w13.cell? ⟨g1_,0,none⟩ = some (.int .i64 a1) := (blk_cell B1.out 0).trans rfl
    have hc_B1_1 : w13.cell? ⟨g1_,1,none⟩ = some (.int .i64 a2) := (blk_cell B1.out 1).trans rfl
    have hc_B2_0 : w13.cell? ⟨g2_,0,none⟩ = some (.int .i64 a1) := (blk_cell B2.out 0).trans rfl
    have hc_B2_1 : w13.cell? ⟨g2_,1,none⟩ = some (.int .i64 a2) := (blk_cell B2.out 1).trans rfl
    have hc_B3_0 : w13.cell? ⟨g3_,0,none⟩ = some (.int .i64 g1) := (blk_cell B3.out 0).trans rfl
    have hc_B3_1 : w13.cell? ⟨g3_,1,none⟩ = some (.int .i64 g2) := (blk_cell B3.out 1).trans rfl
    have hc_B4_0 : w13.cell? ⟨g4_,0,none⟩ = some (.int .i64 c1) := (blk_cell B4.out 0).trans rfl
    have hc_B4_1 : w13.cell? ⟨g4_,1,none⟩ = some (.int .i64 c2) := (blk_cell B4.out 1).trans rfl
    go_upto_region 34 with (go_at_call 26;refine (spec_DualOfBent.calls k g1 g2 c1 c2 o3 _ HG.out.du2).mono ?_;rintro e w14 ⟨rfl,hb⟩;have n_ := aZ_ (Kd.Heap.C (Kd.heap_int .u8) hb.block HR.out);clear HR;have HR := n_;clear n_;have n_ := aZ_ (below_step HB.out hb);clear HB;have HB := n_;clear n_;have n_ := aZ_ (blk_below B1.out hb);clear B1;have B1 := n_;clear n_;have n_ := aZ_ (blk_below B2.out hb);clear B2;have B2 := n_;clear n_;have n_ := aZ_ (blk_below B3.out hb);clear B3;have B3 := n_;clear n_;have n_ := aZ_ (blk_below B4.out hb);clear B4;have B4 := n_;clear n_;clear hb ;clear hc_B1_0 hc_B1_1 hc_B2_0 hc_B2_1 hc_B3_0 hc_B3_1 hc_B4_0 hc_B4_1;have hc_B1_0 : w14.cell? ⟨g1_,0,none⟩ = some (.int .i64 a1) := (blk_cell B1.out 0).trans rfl;have hc_B1_1 : w14.cell? ⟨g1_,1,none⟩ = some (.int .i64 a2) := (blk_cell B1.out 1).trans rfl;have hc_B2_0 : w14.cell? ⟨g2_,0,none⟩ = some (.int .i64 a1) := (blk_cell B2.out 0).trans rfl;have hc_B2_1 : w14.cell? ⟨g2_,1,none⟩ = some (.int .i64 a2) := (blk_cell B2.out 1).trans rfl;have hc_B3_0 : w14.cell? ⟨g3_,0,none⟩ = some (.int .i64 g1) := (blk_cell B3.out 0).trans rfl;have hc_B3_1 : w14.cell? ⟨g3_,1,none⟩ = some (.int .i64 g2) := (blk_cell B3.out 1).trans rfl;have hc_B4_0 : w14.cell? ⟨g4_,0,none⟩ = some (.int .i64 c1) := (blk_cell B4.out 0).trans rfl;have hc_B4_1 : w14.cell? ⟨g4_,1,none⟩ = some (.int .i64 c2) := (blk_cell B4.out 1).trans rfl)
    clear hc_B1_0 hc_B1_1 hc_B2_0 hc_B2_1 hc_B3_0 hc_B3_1 hc_B4_0 hc_B4_1
    have B5 := aZ_ (blk_new w14 (.cells #[.int .i64 c1,.int .i64 c2] 25 (0,0)))
    have hb := below_alloc (Below.refl w14.heap.size w14) (.cells #[.int .i64 c1,.int .i64 c2] 25 (0,0))
    have n_ := aZ_ (Kd.Heap.C (Kd.heap_int .u8) hb.block HR.out)
    clear HR
    have HR := n_
    clear n_
    have n_ := aZ_ (below_step HB.out hb)
    clear HB
    have HB := n_
    clear n_
    have n_ := aZ_ (blk_below B1.out hb)
    clear B1
    have B1 := n_
    clear n_
    have n_ := aZ_ (blk_below B2.out hb)
    clear B2
    have B2 := n_
    clear n_
    have n_ := aZ_ (blk_below B3.out hb)
    clear B3
    have B3 := n_
    clear n_
    have n_ := aZ_ (blk_below B4.out hb)
    clear B4
    have B4 := n_
    clear n_
    clear hb
    obtain ⟨g5_,hg5__⟩ : ∃ g5_,g5_ = w14.heap.size := ⟨_,rfl⟩
    rw [← hg5__] at B5 ⊢
    clear hg5__
    generalize w14.alloc (.cells #[.int .i64 c1,.int .i64 c2] 25 (0,0)) = w15 at HR HB B1 B2 B3 B4 B5 ⊢
    have hc_B1_0 : w15.cell? ⟨g1_,0,none⟩ = some (.int .i64 a1) := (blk_cell B1.out 0).trans rfl
    have hc_B1_1 : w15.cell? ⟨g1_,1,none⟩ = some (.int .i64 a2) := (blk_cell B1.out 1).trans rfl
    have hc_B2_0 : w15.cell? ⟨g2_,0,none⟩ = some (.int .i64 a1) := (blk_cell B2.out 0).trans rfl
    have hc_B2_1 : w15.cell? ⟨g2_,1,none⟩ = some (.int .i64 a2) := (blk_cell B2.out 1).trans rfl
    have hc_B3_0 : w15.cell? ⟨g3_,0,none⟩ = some (.int .i64 g1) := (blk_cell B3.out 0).trans rfl
    have hc_B3_1 : w15.cell? ⟨g3_,1,none⟩ = some (.int .i64 g2) := (blk_cell B3.out 1).trans rfl
    have hc_B4_0 : w15.cell? ⟨g4_,0,none⟩ = some (.int .i64 c1) := (blk_cell B4.out 0).trans rfl
    have hc_B4_1 : w15.cell? ⟨g4_,1,none⟩ = some (.int .i64 c2) := (blk_cell B4.out 1).trans rfl
    have hc_B5_0 : w15.cell? ⟨g5_,0,none⟩ = some (.int .i64 c1) := (blk_cell B5.out 0).trans rfl
    have hc_B5_1 : w15.cell? ⟨g5_,1,none⟩ = some (.int .i64 c2) := (blk_cell B5.out 1).trans rfl
    have h_a1 : (a1 != a1) = false := bne_self_eq_false a1
    have h_a2 : (a2 != a2) = false := bne_self_eq_false a2
    have h_o1 : (o1 != o1) = false := bne_self_eq_false o1
    have h_c1 : (c1 != c1) = false := bne_self_eq_false c1
    have h_c2 : (c2 != c2) = false := bne_self_eq_false c2
    have h_o3 : (o3 != o3) = false := bne_self_eq_false o3
    go_upto_if 267 with (go_at_call 27;refine (impl_IsBent.calls k g1 g2 o3 _ HG.out.ib).mono ?_;rintro e w16 ⟨rfl,hb⟩;have n_ := aZ_ (Kd.Heap.C (Kd.heap_int .u8) hb.block HR.out);clear HR;have HR := n_;clear n_;have n_ := aZ_ (below_step HB.out hb);clear HB;have HB := n_;clear n_;have n_ := aZ_ (blk_below B1.out hb);clear B1;have B1 := n_;clear n_;have n_ := aZ_ (blk_below B2.out hb);clear B2;have B2 := n_;clear n_;have n_ := aZ_ (blk_below B3.out hb);clear B3;have B3 := n_;clear n_;have n_ := aZ_ (blk_below B4.out hb);clear B4;have B4 := n_;clear n_;have n_ := aZ_ (blk_below B5.out hb);clear B5;have B5 := n_;clear n_;clear hb ;clear hc_B1_0 hc_B1_1 hc_B2_0 hc_B2_1 hc_B3_0 hc_B3_1 hc_B4_0 hc_B4_1 hc_B5_0 hc_B5_1;have hc_B1_0 : w16.cell? ⟨g1_,0,none⟩ = some (.int .i64 a1) := (blk_cell B1.out 0).trans rfl;have hc_B1_1 : w16.cell? ⟨g1_,1,none⟩ = some (.int .i64 a2) := (blk_cell B1.out 1).trans rfl;have hc_B2_0 : w16.cell? ⟨g2_,0,none⟩ = some (.int .i64 a1) := (blk_cell B2.out 0).trans rfl;have hc_B2_1 : w16.cell? ⟨g2_,1,none⟩ = some (.int .i64 a2) := (blk_cell B2.out 1).trans rfl;have hc_B3_0 : w16.cell? ⟨g3_,0,none⟩ = some (.int .i64 g1) := (blk_cell B3.out 0).trans rfl;have hc_B3_1 : w16.cell? ⟨g3_,1,none⟩ = some (.int .i64 g2) := (blk_cell B3.out 1).trans rfl;have hc_B4_0 : w16.cell? ⟨g4_,0,none⟩ = some (.int .i64 c1) := (blk_cell B4.out 0).trans rfl;have hc_B4_1 : w16.cell? ⟨g4_,1,none⟩ = some (.int .i64 c2) := (blk_cell B4.out 1).trans rfl;have hc_B5_0 : w16.cell? ⟨g5_,0,none⟩ = some (.int .i64 c1) := (blk_cell B5.out 0).trans rfl;have hc_B5_1 : w16.cell? ⟨g5_,1,none⟩ = some (.int .i64 c2) := (blk_cell B5.out 1).trans rfl)
    clear h_a1 h_a2 h_o1 h_c1 h_c2 h_o3
    clear B1 B2 B4 hc_B1_0 hc_B1_1 hc_B2_0 hc_B2_1 hc_B4_0 hc_B4_1
    go_cut [] (fun wx => Aside0 (Kd.C (Kd.int .u8) wx A0 l0.length l0) ∧ Aside0 (Below w.heap.size w wx))
    case first =>
     as_aux_lemma =>
      cases o3
      case false =>
       go_wp2_with (fail)
       go_meet
       exact ⟨HR,HB⟩
      case true =>
       obtain ⟨nv,hq1,hq2,hq3,hq4⟩ := HG.out.back rfl
       have HQ1 := aZ_ hq1
       have HQ2 := aZ_ hq2
       have HQ3 := aZ_ hq3
       clear hq1 hq2 hq3
       go_upto_region 38 with (go_at_call 25;refine (impl_DualOfBent.calls k c1 c2 g1 g2 true _ HQ1.out).mono ?_;rintro e w17 ⟨rfl,hb⟩;have n_ := aZ_ (Kd.Heap.C (Kd.heap_int .u8) hb.block HR.out);clear HR;have HR := n_;clear n_;have n_ := aZ_ (below_step HB.out hb);clear HB;have HB := n_;clear n_;have n_ := aZ_ (blk_below B3.out hb);clear B3;have B3 := n_;clear n_;have n_ := aZ_ (blk_below B5.out hb);clear B5;have B5 := n_;clear n_;clear hb ;clear hc_B3_0 hc_B3_1 hc_B5_0 hc_B5_1;have hc_B3_0 : w17.cell? ⟨g3_,0,none⟩ = some (.int .i64 g1) := (blk_cell B3.out 0).trans rfl;have hc_B3_1 : w17.cell? ⟨g3_,1,none⟩ = some (.int .i64 g2) := (blk_cell B3.out 1).trans rfl;have hc_B5_0 : w17.cell? ⟨g5_,0,none⟩ = some (.int .i64 c1) := (blk_cell B5.out 0).trans rfl;have hc_B5_1 : w17.cell? ⟨g5_,1,none⟩ = some (.int .i64 c2) := (blk_cell B5.out 1).trans rfl)
       clear hc_B3_0 hc_B3_1 hc_B5_0 hc_B5_1
       have B6 := aZ_ (blk_new w17 (.cells #[.int .i64 g1,.int .i64 g2] 25 (0,0)))
       have hb := below_alloc (Below.refl w17.heap.size w17) (.cells #[.int .i64 g1,.int .i64 g2] 25 (0,0))
       have n_ := aZ_ (Kd.Heap.C (Kd.heap_int .u8) hb.block HR.out)
       clear HR
       have HR := n_
       clear n_
       have n_ := aZ_ (below_step HB.out hb)
       clear HB
       have HB := n_
       clear n_
       have n_ := aZ_ (blk_below B3.out hb)
       clear B3
       have B3 := n_
       clear n_
       have n_ := aZ_ (blk_below B5.out hb)
       clear B5
       have B5 := n_
       clear n_
       clear hb
       obtain ⟨g6_,hg6__⟩ : ∃ g6_,g6_ = w17.heap.size := ⟨_,rfl⟩
       rw [← hg6__] at B6 ⊢
       clear hg6__
       generalize w17.alloc (.cells #[.int .i64 g1,.int .i64 g2] 25 (0,0)) = w18 at HR HB B3 B5 B6 ⊢
       have hc_B3_0 : w18.cell? ⟨g3_,0,none⟩ = some (.int .i64 g1) := (blk_cell B3.out 0).trans rfl
       have hc_B3_1 : w18.cell? ⟨g3_,1,none⟩ = some (.int .i64 g2) := (blk_cell B3.out 1).trans rfl
       have hc_B5_0 : w18.cell? ⟨g5_,0,none⟩ = some (.int .i64 c1) := (blk_cell B5.out 0).trans rfl
       have hc_B5_1 : w18.cell? ⟨g5_,1,none⟩ = some (.int .i64 c2) := (blk_cell B5.out 1).trans rfl
       have hc_B6_0 : w18.cell? ⟨g6_,0,none⟩ = some (.int .i64 g1) := (blk_cell B6.out 0).trans rfl
       have hc_B6_1 : w18.cell? ⟨g6_,1,none⟩ = some (.int .i64 g2) := (blk_cell B6.out 1).trans rfl
       clear HQ1
       rcases hq4 with ⟨rfl,rfl⟩ | ⟨rfl,rfl⟩
       ·skip
        have C0 := aZ_ hc_B3_0
        have C1 := aZ_ hc_B3_1
        have C2 := aZ_ hc_B5_0
        have C3 := aZ_ hc_B5_1
        have C4 := aZ_ hc_B6_0
        have C5 := aZ_ hc_B6_1
        clear B3 B5 B6 hc_B3_0 hc_B3_1 hc_B5_0 hc_B5_1 hc_B6_0 hc_B6_1
        have h_g2 : (g2 != g2) = false := bne_self_eq_false g2
        have hw_1 : wrap64 1 = 1 := B.wrap64_of T48_ T48_
        have hw_2 : wrap64 2 = 2 := B.wrap64_of T48_ T48_
        have hw_4 : wrap64 4 = 4 := B.wrap64_of T48_ T48_
        have hw_6 : wrap64 6 = 6 := B.wrap64_of T48_ T48_
        have hw_12 : wrap64 12 = 12 := B.wrap64_of T48_ T48_
        have hw_16 : wrap64 16 = 16 := B.wrap64_of T48_ T48_
        have hb := below_drew (Below.refl w18.heap.size w18)
        have n_ : Aside0 (w18.drew.cell? ⟨g3_,0,none⟩ = some (.int .i64 2)) := ⟨pw_cell_below hb C0.out⟩
        clear C0
        have C0 := n_
        clear n_
        have n_ : Aside0 (w18.drew.cell? ⟨g3_,1,none⟩ = some (.int .i64 g2)) := ⟨pw_cell_below hb C1.out⟩
        clear C1
        have C1 := n_
        clear n_
        have n_ : Aside0 (w18.drew.cell? ⟨g5_,0,none⟩ = some (.int .i64 c1)) := ⟨pw_cell_below hb C2.out⟩
        clear C2
        have C2 := n_
        clear n_
        have n_ : Aside0 (w18.drew.cell? ⟨g5_,1,none⟩ = some (.int .i64 c2)) := ⟨pw_cell_below hb C3.out⟩
        clear C3
        have C3 := n_
        clear n_
        have n_ : Aside0 (w18.drew.cell? ⟨g6_,0,none⟩ = some (.int .i64 2)) := ⟨pw_cell_below hb C4.out⟩
        clear C4
        have C4 := n_
        clear n_
        have n_ : Aside0 (w18.drew.cell? ⟨g6_,1,none⟩ = some (.int .i64 g2)) := ⟨pw_cell_below hb C5.out⟩
        clear C5
        have C5 := n_
        clear n_
        have n_ := aZ_ (Kd.Heap.C (Kd.heap_int .u8) hb.block HR.out)
        clear HR
        have HR := n_
        clear n_
        have n_ := aZ_ (below_step HB.out hb)
        clear HB
        have HB := n_
        clear n_
        clear hb
        refine start_ (n := 26) (S := (fun w_ => w_.cell? ⟨g3_,0,none⟩ = some (.int .i64 2) ∧ w_.cell? ⟨g3_,1,none⟩ = some (.int .i64 g2) ∧ w_.cell? ⟨g5_,0,none⟩ = some (.int .i64 c1) ∧ w_.cell? ⟨g5_,1,none⟩ = some (.int .i64 c2) ∧ w_.cell? ⟨g6_,0,none⟩ = some (.int .i64 2) ∧ w_.cell? ⟨g6_,1,none⟩ = some (.int .i64 g2))) (ds := []) #[false,false,false,false,false,false,false,false,false,false,false,false,false,false,false,false,false,false,false,false,false,false,false,false,false,false] T16_ rfl rfl ⟨C0.out,C1.out,C2.out,C3.out,C4.out,C5.out⟩ (fun hHeld => ?_)
        refine with_tabW laws_FnSpectra.tab38 laws_FnSpectra.bits38 (fun HT_ HW_ => ?_)
        generalize w18.drew = W0_ at C0 C1 C2 C3 C4 C5 HR HB hHeld ⊢
        refine pZ_ 0 (some 273) #[true,false,false,false,false,false,false,false,false,false,false,false,false,false,false,false,false,false,false,false,false,false,false,false,false,false] ?_
        refine pZ_ 1 (some 274) #[true,true,false,false,false,false,false,false,false,false,false,false,false,false,false,false,false,false,false,false,false,false,false,false,false,false] ?_
        refine pZ_ 2 (some 275) #[true,true,true,false,false,false,false,false,false,false,false,false,false,false,false,false,false,false,false,false,false,false,false,false,false,false] ?_
        refine tZ6_ 3 (some 276) #[true,true,true,true,false,false,false,false,false,false,false,false,false,false,false,false,false,false,false,false,false,false,false,false,false,false] hHeld ?_
        refine tZ6_ 4 (some 277) #[true,true,true,true,true,false,false,false,false,false,false,false,false,false,false,false,false,false,false,false,false,false,false,false,false,false] hHeld ?_
        refine pZ_ 5 (some 278) #[true,true,true,true,true,true,false,false,false,false,false,false,false,false,false,false,false,false,false,false,false,false,false,false,false,false] ?_
        refine pZ_ 6 (some 279) #[true,true,true,true,true,true,true,false,false,false,false,false,false,false,false,false,false,false,false,false,false,false,false,false,false,false] ?_
        refine pZ_ 7 (some 280) #[true,true,true,true,true,true,true,true,false,false,false,false,false,false,false,false,false,false,false,false,false,false,false,false,false,false] ?_
        refine tZ6_ 8 (some 281) #[true,true,true,true,true,true,true,true,true,false,false,false,false,false,false,false,false,false,false,false,false,false,false,false,false,false] hHeld ?_
        refine one_ (i := 9) (N := some 282) #[true,true,true,true,true,true,true,true,true,true,false,false,false,false,false,false,false,false,false,false,false,false,false,false,false,false] rfl rfl (one_of HT_.out T16_) T43_ (fun K hK => ?_)
        refine gZ_ Try.func27 #[.agg #[.int .i64 c1,.int .i64 c2]] ?_
        with_reducible refine (impl_IsBent.calls k c1 c2 true _ HQ2.out).mono ?_
        rintro e W1_ ⟨rfl,hb⟩
        refine ⟨_,rfl,?_⟩
        have n_ : Aside0 (W1_.cell? ⟨g3_,0,none⟩ = some (.int .i64 2)) := ⟨pw_cell_below hb C0.out⟩
        clear C0
        have C0 := n_
        clear n_
        have n_ : Aside0 (W1_.cell? ⟨g3_,1,none⟩ = some (.int .i64 g2)) := ⟨pw_cell_below hb C1.out⟩
        clear C1
        have C1 := n_
        clear n_
        have n_ : Aside0 (W1_.cell? ⟨g5_,0,none⟩ = some (.int .i64 c1)) := ⟨pw_cell_below hb C2.out⟩
        clear C2
        have C2 := n_
        clear n_
        have n_ : Aside0 (W1_.cell? ⟨g5_,1,none⟩ = some (.int .i64 c2)) := ⟨pw_cell_below hb C3.out⟩
        clear C3
        have C3 := n_
        clear n_
        have n_ : Aside0 (W1_.cell? ⟨g6_,0,none⟩ = some (.int .i64 2)) := ⟨pw_cell_below hb C4.out⟩
        clear C4
        have C4 := n_
        clear n_
        have n_ : Aside0 (W1_.cell? ⟨g6_,1,none⟩ = some (.int .i64 g2)) := ⟨pw_cell_below hb C5.out⟩
        clear C5
        have C5 := n_
        clear n_
        have n_ := aZ_ (Kd.Heap.C (Kd.heap_int .u8) hb.block HR.out)
        clear HR
        have HR := n_
        clear n_
        have n_ := aZ_ (below_step HB.out hb)
        clear HB
        have HB := n_
        clear n_
        clear hb
        refine hK.out _ _ ⟨C0.out,C1.out,C2.out,C3.out,C4.out,C5.out⟩ (fun hHeld => ?_)
        clear hK K
        refine norm_ (a' := ?_) ?_ ?_
        rotate_left
        ·show Act.put _ (some 282) _ = _
         simp only [Act.put,List.setIfInBounds_toArray,List.set_cons_zero,List.set_cons_succ,i64_w,i32_w]
         rfl
        refine pZ_ 10 (some 283) #[true,true,true,true,true,true,true,true,true,true,true,false,false,false,false,false,false,false,false,false,false,false,false,false,false,false] ?_
        refine pZ_ 11 (some 284) #[true,true,true,true,true,true,true,true,true,true,true,true,false,false,false,false,false,false,false,false,false,false,false,false,false,false] ?_
        refine pZ_ 12 (some 285) #[true,true,true,true,true,true,true,true,true,true,true,true,true,false,false,false,false,false,false,false,false,false,false,false,false,false] ?_
        refine tZ6_ 13 (some 286) #[true,true,true,true,true,true,true,true,true,true,true,true,true,true,false,false,false,false,false,false,false,false,false,false,false,false] hHeld ?_
        refine pZ_ 16 (some 289) #[true,true,true,true,true,true,true,true,true,true,true,true,true,true,false,false,true,false,false,false,false,false,false,false,false,false] ?_
        refine tZ6_ 17 (some 290) #[true,true,true,true,true,true,true,true,true,true,true,true,true,true,false,false,true,true,false,false,false,false,false,false,false,false] hHeld ?_
        refine pZ_ 18 (some 291) #[true,true,true,true,true,true,true,true,true,true,true,true,true,true,false,false,true,true,true,false,false,false,false,false,false,false] ?_
        refine pZ_ 19 (some 292) #[true,true,true,true,true,true,true,true,true,true,true,true,true,true,false,false,true,true,true,true,false,false,false,false,false,false] ?_
        refine tZ6_ 20 (some 293) #[true,true,true,true,true,true,true,true,true,true,true,true,true,true,false,false,true,true,true,true,true,false,false,false,false,false] hHeld ?_
        refine pZ_ 21 (some 294) #[true,true,true,true,true,true,true,true,true,true,true,true,true,true,false,false,true,true,true,true,true,true,false,false,false,false] ?_
        refine pZ_ 22 (some 295) #[true,true,true,true,true,true,true,true,true,true,true,true,true,true,false,false,true,true,true,true,true,true,true,false,false,false] ?_
        refine pZ_ 23 (some 296) #[true,true,true,true,true,true,true,true,true,true,true,true,true,true,false,false,true,true,true,true,true,true,true,true,false,false] ?_
        refine one_ (i := 14) (N := some 287) #[true,true,true,true,true,true,true,true,true,true,true,true,true,true,true,false,true,true,true,true,true,true,true,true,false,false] rfl rfl (one_of HT_.out T16_) T43_ (fun K hK => ?_)
        refine gZ_ Try.func9 #[.agg #[.int .i64 2,.int .i64 g2]] ?_
        with_reducible refine (impl_Nonlinearity.calls k 2 g2 1 _ HQ3.out).mono ?_
        rintro e W2_ ⟨rfl,hb⟩
        refine ⟨_,rfl,?_⟩
        have n_ : Aside0 (W2_.cell? ⟨g3_,0,none⟩ = some (.int .i64 2)) := ⟨pw_cell_below hb C0.out⟩
        clear C0
        have C0 := n_
        clear n_
        have n_ : Aside0 (W2_.cell? ⟨g3_,1,none⟩ = some (.int .i64 g2)) := ⟨pw_cell_below hb C1.out⟩
        clear C1
        have C1 := n_
        clear n_
        have n_ : Aside0 (W2_.cell? ⟨g5_,0,none⟩ = some (.int .i64 c1)) := ⟨pw_cell_below hb C2.out⟩
        clear C2
        have C2 := n_
        clear n_
        have n_ : Aside0 (W2_.cell? ⟨g5_,1,none⟩ = some (.int .i64 c2)) := ⟨pw_cell_below hb C3.out⟩
        clear C3
        have C3 := n_
        clear n_
        have n_ : Aside0 (W2_.cell? ⟨g6_,0,none⟩ = some (.int .i64 2)) := ⟨pw_cell_below hb C4.out⟩
        clear C4
        have C4 := n_
        clear n_
        have n_ : Aside0 (W2_.cell? ⟨g6_,1,none⟩ = some (.int .i64 g2)) := ⟨pw_cell_below hb C5.out⟩
        clear C5
        have C5 := n_
        clear n_
        have n_ := aZ_ (Kd.Heap.C (Kd.heap_int .u8) hb.block HR.out)
        clear HR
        have HR := n_
        clear n_
        have n_ := aZ_ (below_step HB.out hb)
        clear HB
        have HB := n_
        clear n_
        clear hb
        refine hK.out _ _ ⟨C0.out,C1.out,C2.out,C3.out,C4.out,C5.out⟩ (fun hHeld => ?_)
        clear hK K
        refine norm_ (a' := ?_) ?_ ?_
        rotate_left
        ·show Act.put _ (some 287) _ = _
         simp only [Act.put,List.setIfInBounds_toArray,List.set_cons_zero,List.set_cons_succ,i64_w,i32_w]
         rfl
        refine pZ_ 15 (some 288) #[true,true,true,true,true,true,true,true,true,true,true,true,true,true,true,true,true,true,true,true,true,true,true,true,false,false] ?_
        refine pZ_ 24 (some 297) #[true,true,true,true,true,true,true,true,true,true,true,true,true,true,true,true,true,true,true,true,true,true,true,true,true,false] ?_
        refine pZ_ 25 (some 298) #[true,true,true,true,true,true,true,true,true,true,true,true,true,true,true,true,true,true,true,true,true,true,true,true,true,true] ?_
        refine done_ (done_of HT_.out T16_) ?_
        clear C0 C1 C2 C3 C4 C5 hHeld HT_ HW_
        go_wp2_with (fail)
        go_meet
        exact ⟨HR,HB⟩
       ·skip
        have C0 := aZ_ hc_B3_0
        have C1 := aZ_ hc_B3_1
        have C2 := aZ_ hc_B5_0
        have C3 := aZ_ hc_B5_1
        have C4 := aZ_ hc_B6_0
        have C5 := aZ_ hc_B6_1
        clear B3 B5 B6 hc_B3_0 hc_B3_1 hc_B5_0 hc_B5_1 hc_B6_0 hc_B6_1
        have h_g2 : (g2 != g2) = false := bne_self_eq_false g2
        have hw_1 : wrap64 1 = 1 := B.wrap64_of T48_ T48_
        have hw_2 : wrap64 2 = 2 := B.wrap64_of T48_ T48_
        have hw_4 : wrap64 4 = 4 := B.wrap64_of T48_ T48_
        have hw_6 : wrap64 6 = 6 := B.wrap64_of T48_ T48_
        have hw_12 : wrap64 12 = 12 := B.wrap64_of T48_ T48_
        have hw_16 : wrap64 16 = 16 := B.wrap64_of T48_ T48_
        have hb := below_drew (Below.refl w18.heap.size w18)
        have n_ : Aside0 (w18.drew.cell? ⟨g3_,0,none⟩ = some (.int .i64 4)) := ⟨pw_cell_below hb C0.out⟩
        clear C0
        have C0 := n_
        clear n_
        have n_ : Aside0 (w18.drew.cell? ⟨g3_,1,none⟩ = some (.int .i64 g2)) := ⟨pw_cell_below hb C1.out⟩
        clear C1
        have C1 := n_
        clear n_
        have n_ : Aside0 (w18.drew.cell? ⟨g5_,0,none⟩ = some (.int .i64 c1)) := ⟨pw_cell_below hb C2.out⟩
        clear C2
        have C2 := n_
        clear n_
        have n_ : Aside0 (w18.drew.cell? ⟨g5_,1,none⟩ = some (.int .i64 c2)) := ⟨pw_cell_below hb C3.out⟩
        clear C3
        have C3 := n_
        clear n_
        have n_ : Aside0 (w18.drew.cell? ⟨g6_,0,none⟩ = some (.int .i64 4)) := ⟨pw_cell_below hb C4.out⟩
        clear C4
        have C4 := n_
        clear n_
        have n_ : Aside0 (w18.drew.cell? ⟨g6_,1,none⟩ = some (.int .i64 g2)) := ⟨pw_cell_below hb C5.out⟩
        clear C5
        have C5 := n_
        clear n_
        have n_ := aZ_ (Kd.Heap.C (Kd.heap_int .u8) hb.block HR.out)
        clear HR
        have HR := n_
        clear n_
        have n_ := aZ_ (below_step HB.out hb)
        clear HB
        have HB := n_
        clear n_
        clear hb
        refine start_ (n := 26) (S := (fun w_ => w_.cell? ⟨g3_,0,none⟩ = some (.int .i64 4) ∧ w_.cell? ⟨g3_,1,none⟩ = some (.int .i64 g2) ∧ w_.cell? ⟨g5_,0,none⟩ = some (.int .i64 c1) ∧ w_.cell? ⟨g5_,1,none⟩ = some (.int .i64 c2) ∧ w_.cell? ⟨g6_,0,none⟩ = some (.int .i64 4) ∧ w_.cell? ⟨g6_,1,none⟩ = some (.int .i64 g2))) (ds := []) #[false,false,false,false,false,false,false,false,false,false,false,false,false,false,false,false,false,false,false,false,false,false,false,false,false,false] T16_ rfl rfl ⟨C0.out,C1.out,C2.out,C3.out,C4.out,C5.out⟩ (fun hHeld => ?_)
        refine with_tabW laws_FnSpectra.tab38 laws_FnSpectra.bits38 (fun HT_ HW_ => ?_)
        generalize w18.drew = W0_ at C0 C1 C2 C3 C4 C5 HR HB hHeld ⊢
        refine pZ_ 0 (some 273) #[true,false,false,false,false,false,false,false,false,false,false,false,false,false,false,false,false,false,false,false,false,false,false,false,false,false] ?_
        refine pZ_ 1 (some 274) #[true,true,false,false,false,false,false,false,false,false,false,false,false,false,false,false,false,false,false,false,false,false,false,false,false,false] ?_
        refine pZ_ 2 (some 275) #[true,true,true,false,false,false,false,false,false,false,false,false,false,false,false,false,false,false,false,false,false,false,false,false,false,false] ?_
        refine tZ6_ 3 (some 276) #[true,true,true,true,false,false,false,false,false,false,false,false,false,false,false,false,false,false,false,false,false,false,false,false,false,false] hHeld ?_
        refine tZ6_ 4 (some 277) #[true,true,true,true,true,false,false,false,false,false,false,false,false,false,false,false,false,false,false,false,false,false,false,false,false,false] hHeld ?_
        refine pZ_ 5 (some 278) #[true,true,true,true,true,true,false,false,false,false,false,false,false,false,false,false,false,false,false,false,false,false,false,false,false,false] ?_
        refine pZ_ 6 (some 279) #[true,true,true,true,true,true,true,false,false,false,false,false,false,false,false,false,false,false,false,false,false,false,false,false,false,false] ?_
        refine pZ_ 7 (some 280) #[true,true,true,true,true,true,true,true,false,false,false,false,false,false,false,false,false,false,false,false,false,false,false,false,false,false] ?_
        refine tZ6_ 8 (some 281) #[true,true,true,true,true,true,true,true,true,false,false,false,false,false,false,false,false,false,false,false,false,false,false,false,false,false] hHeld ?_
        refine one_ (i := 9) (N := some 282) #[true,true,true,true,true,true,true,true,true,true,false,false,false,false,false,false,false,false,false,false,false,false,false,false,false,false] rfl rfl (one_of HT_.out T16_) T43_ (fun K hK => ?_)
        refine gZ_ Try.func27 #[.agg #[.int .i64 c1,.int .i64 c2]] ?_
        with_reducible refine (impl_IsBent.calls k c1 c2 true _ HQ2.out).mono ?_
        rintro e W1_ ⟨rfl,hb⟩
        refine ⟨_,rfl,?_⟩
        have n_ : Aside0 (W1_.cell? ⟨g3_,0,none⟩ = some (.int .i64 4)) := ⟨pw_cell_below hb C0.out⟩
        clear C0
        have C0 := n_
        clear n_
        have n_ : Aside0 (W1_.cell? ⟨g3_,1,none⟩ = some (.int .i64 g2)) := ⟨pw_cell_below hb C1.out⟩
        clear C1
        have C1 := n_
        clear n_
        have n_ : Aside0 (W1_.cell? ⟨g5_,0,none⟩ = some (.int .i64 c1)) := ⟨pw_cell_below hb C2.out⟩
        clear C2
        have C2 := n_
        clear n_
        have n_ : Aside0 (W1_.cell? ⟨g5_,1,none⟩ = some (.int .i64 c2)) := ⟨pw_cell_below hb C3.out⟩
        clear C3
        have C3 := n_
        clear n_
        have n_ : Aside0 (W1_.cell? ⟨g6_,0,none⟩ = some (.int .i64 4)) := ⟨pw_cell_below hb C4.out⟩
        clear C4
        have C4 := n_
        clear n_
        have n_ : Aside0 (W1_.cell? ⟨g6_,1,none⟩ = some (.int .i64 g2)) := ⟨pw_cell_below hb C5.out⟩
        clear C5
        have C5 := n_
        clear n_
        have n_ := aZ_ (Kd.Heap.C (Kd.heap_int .u8) hb.block HR.out)
        clear HR
        have HR := n_
        clear n_
        have n_ := aZ_ (below_step HB.out hb)
        clear HB
        have HB := n_
        clear n_
        clear hb
        refine hK.out _ _ ⟨C0.out,C1.out,C2.out,C3.out,C4.out,C5.out⟩ (fun hHeld => ?_)
        clear hK K
        refine norm_ (a' := ?_) ?_ ?_
        rotate_left
        ·show Act.put _ (some 282) _ = _
         simp only [Act.put,List.setIfInBounds_toArray,List.set_cons_zero,List.set_cons_succ,i64_w,i32_w]
         rfl
        refine pZ_ 10 (some 283) #[true,true,true,true,true,true,true,true,true,true,true,false,false,false,false,false,false,false,false,false,false,false,false,false,false,false] ?_
        refine pZ_ 11 (some 284) #[true,true,true,true,true,true,true,true,true,true,true,true,false,false,false,false,false,false,false,false,false,false,false,false,false,false] ?_
        refine pZ_ 12 (some 285) #[true,true,true,true,true,true,true,true,true,true,true,true,true,false,false,false,false,false,false,false,false,false,false,false,false,false] ?_
        refine tZ6_ 13 (some 286) #[true,true,true,true,true,true,true,true,true,true,true,true,true,true,false,false,false,false,false,false,false,false,false,false,false,false] hHeld ?_
        refine pZ_ 16 (some 289) #[true,true,true,true,true,true,true,true,true,true,true,true,true,true,false,false,true,false,false,false,false,false,false,false,false,false] ?_
        refine tZ6_ 17 (some 290) #[true,true,true,true,true,true,true,true,true,true,true,true,true,true,false,false,true,true,false,false,false,false,false,false,false,false] hHeld ?_
        refine pZ_ 18 (some 291) #[true,true,true,true,true,true,true,true,true,true,true,true,true,true,false,false,true,true,true,false,false,false,false,false,false,false] ?_
        refine pZ_ 19 (some 292) #[true,true,true,true,true,true,true,true,true,true,true,true,true,true,false,false,true,true,true,true,false,false,false,false,false,false] ?_
        refine tZ6_ 20 (some 293) #[true,true,true,true,true,true,true,true,true,true,true,true,true,true,false,false,true,true,true,true,true,false,false,false,false,false] hHeld ?_
        refine pZ_ 21 (some 294) #[true,true,true,true,true,true,true,true,true,true,true,true,true,true,false,false,true,true,true,true,true,true,false,false,false,false] ?_
        refine pZ_ 22 (some 295) #[true,true,true,true,true,true,true,true,true,true,true,true,true,true,false,false,true,true,true,true,true,true,true,false,false,false] ?_
        refine pZ_ 23 (some 296) #[true,true,true,true,true,true,true,true,true,true,true,true,true,true,false,false,true,true,true,true,true,true,true,true,false,false] ?_
        refine one_ (i := 14) (N := some 287) #[true,true,true,true,true,true,true,true,true,true,true,true,true,true,true,false,true,true,true,true,true,true,true,true,false,false] rfl rfl (one_of HT_.out T16_) T43_ (fun K hK => ?_)
        refine gZ_ Try.func9 #[.agg #[.int .i64 4,.int .i64 g2]] ?_
        with_reducible refine (impl_Nonlinearity.calls k 4 g2 6 _ HQ3.out).mono ?_
        rintro e W2_ ⟨rfl,hb⟩
        refine ⟨_,rfl,?_⟩
        have n_ : Aside0 (W2_.cell? ⟨g3_,0,none⟩ = some (.int .i64 4)) := ⟨pw_cell_below hb C0.out⟩
        clear C0
        have C0 := n_
        clear n_
        have n_ : Aside0 (W2_.cell? ⟨g3_,1,none⟩ = some (.int .i64 g2)) := ⟨pw_cell_below hb C1.out⟩
        clear C1
        have C1 := n_
        clear n_
        have n_ : Aside0 (W2_.cell? ⟨g5_,0,none⟩ = some (.int .i64 c1)) := ⟨pw_cell_below hb C2.out⟩
        clear C2
        have C2 := n_
        clear n_
        have n_ : Aside0 (W2_.cell? ⟨g5_,1,none⟩ = some (.int .i64 c2)) := ⟨pw_cell_below hb C3.out⟩
        clear C3
        have C3 := n_
        clear n_
        have n_ : Aside0 (W2_.cell? ⟨g6_,0,none⟩ = some (.int .i64 4)) := ⟨pw_cell_below hb C4.out⟩
        clear C4
        have C4 := n_
        clear n_
        have n_ : Aside0 (W2_.cell? ⟨g6_,1,none⟩ = some (.int .i64 g2)) := ⟨pw_cell_below hb C5.out⟩
        clear C5
        have C5 := n_
        clear n_
        have n_ := aZ_ (Kd.Heap.C (Kd.heap_int .u8) hb.block HR.out)
        clear HR
        have HR := n_
        clear n_
        have n_ := aZ_ (below_step HB.out hb)
        clear HB
        have HB := n_
        clear n_
        clear hb
        refine hK.out _ _ ⟨C0.out,C1.out,C2.out,C3.out,C4.out,C5.out⟩ (fun hHeld => ?_)
        clear hK K
        refine norm_ (a' := ?_) ?_ ?_
        rotate_left
        ·show Act.put _ (some 287) _ = _
         simp only [Act.put,List.setIfInBounds_toArray,List.set_cons_zero,List.set_cons_succ,i64_w,i32_w]
         rfl
        refine pZ_ 15 (some 288) #[true,true,true,true,true,true,true,true,true,true,true,true,true,true,true,true,true,true,true,true,true,true,true,true,false,false] ?_
        refine pZ_ 24 (some 297) #[true,true,true,true,true,true,true,true,true,true,true,true,true,true,true,true,true,true,true,true,true,true,true,true,true,false] ?_
        refine pZ_ 25 (some 298) #[true,true,true,true,true,true,true,true,true,true,true,true,true,true,true,true,true,true,true,true,true,true,true,true,true,true] ?_
        refine done_ (done_of HT_.out T16_) ?_
        clear C0 C1 C2 C3 C4 C5 hHeld HT_ HW_
        go_wp2_with (fail)
        go_meet
        exact ⟨HR,HB⟩
    case rest =>
     as_aux_lemma =>
      clear HR HB B3 B5 hc_B3_0 hc_B3_1 hc_B5_0 hc_B5_1
      obtain ⟨HR,HB⟩ := hcut
      go_upto_region 41 with (go_at_call 28;refine (spec_DrawAutocorrelationOf.calls k A0 c0 l0 h1 h2 _ HR.out HC0.out HG.out.dh).mono ?_;rintro e w17 ⟨rfl,hb⟩;have n_ := aZ_ (Kd.Heap.C (Kd.heap_int .u8) hb.block HR.out);clear HR;have HR := n_;clear n_;have n_ := aZ_ (below_step HB.out hb);clear HB;have HB := n_;clear n_;clear hb )
      have BH := aZ_ (blk_new w17 (.cells #[.int .i64 h1,.int .i64 h2] 25 (0,0)))
      have hb := below_alloc (Below.refl w17.heap.size w17) (.cells #[.int .i64 h1,.int .i64 h2] 25 (0,0))
      have n_ := aZ_ (Kd.Heap.C (Kd.heap_int .u8) hb.block HR.out)
      clear HR
      have HR := n_
      clear n_
      have n_ := aZ_ (below_step HB.out hb)
      clear HB
      have HB := n_
      clear n_
      clear hb
      obtain ⟨gh,hgh_⟩ : ∃ gh,gh = w17.heap.size := ⟨_,rfl⟩
      rw [← hgh_] at BH ⊢
      clear hgh_
      generalize w17.alloc (.cells #[.int .i64 h1,.int .i64 h2] 25 (0,0)) = w18 at HR HB BH ⊢
      have hc_BH_0 : w18.cell? ⟨gh,0,none⟩ = some (.int .i64 h1) := (blk_cell BH.out 0).trans rfl
      have hc_BH_1 : w18.cell? ⟨gh,1,none⟩ = some (.int .i64 h2) := (blk_cell BH.out 1).trans rfl
      have C0 := aZ_ hc_BH_0
      have C1 := aZ_ hc_BH_1
      clear BH HR hc_BH_0 hc_BH_1
      have hb := below_drew (Below.refl w18.heap.size w18)
      have n_ : Aside0 (w18.drew.cell? ⟨gh,0,none⟩ = some (.int .i64 h1)) := ⟨pw_cell_below hb C0.out⟩
      clear C0
      have C0 := n_
      clear n_
      have n_ : Aside0 (w18.drew.cell? ⟨gh,1,none⟩ = some (.int .i64 h2)) := ⟨pw_cell_below hb C1.out⟩
      clear C1
      have C1 := n_
      clear n_
      have n_ := aZ_ (below_step HB.out hb)
      clear HB
      have HB := n_
      clear n_
      clear hb
      refine start_ (n := 6) (S := (fun w_ => w_.cell? ⟨gh,0,none⟩ = some (.int .i64 h1) ∧ w_.cell? ⟨gh,1,none⟩ = some (.int .i64 h2))) (ds := []) #[false,false,false,false,false,false] T16_ rfl rfl ⟨C0.out,C1.out⟩ (fun hHeld => ?_)
      refine with_tabW laws_FnSpectra.tab41 laws_FnSpectra.bits41 (fun HT_ HW_ => ?_)
      generalize w18.drew = W0_ at C0 C1 HB hHeld ⊢
      refine tZ2_ 0 (some 301) #[true,false,false,false,false,false] hHeld ?_
      refine tZ2_ 2 (some 303) #[true,false,true,false,false,false] hHeld ?_
      refine one_ (i := 1) (N := some 302) #[true,true,true,false,false,false] rfl rfl (one_of HT_.out T16_) T43_ (fun K hK => ?_)
      refine gZ_ Try.func15 #[.agg #[.int .i64 h1,.int .i64 h2]] ?_
      with_reducible refine (impl_AutocorrelationOf.calls k h1 h2 m _ HG.out.au1).mono ?_
      rintro e W1_ ⟨vq,rfl,hq,hb⟩
      obtain ⟨Am,cm,rfl,hlc_,hr_⟩ := Kd.R_reads hq
      clear hq
      refine ⟨_,rfl,?_⟩
      have n_ : Aside0 (W1_.cell? ⟨gh,0,none⟩ = some (.int .i64 h1)) := ⟨pw_cell_below hb C0.out⟩
      clear C0
      have C0 := n_
      clear n_
      have n_ : Aside0 (W1_.cell? ⟨gh,1,none⟩ = some (.int .i64 h2)) := ⟨pw_cell_below hb C1.out⟩
      clear C1
      have C1 := n_
      clear n_
      have n_ := aZ_ (below_step HB.out hb)
      clear HB
      have HB := n_
      clear n_
      clear hb
      have HM := aZ_ hr_
      have HMc := aZ_ hlc_
      clear hr_ hlc_
      refine hK.out _ _ ⟨C0.out,C1.out⟩ (fun hHeld => ?_)
      clear hK K
      refine norm_ (a' := ?_) ?_ ?_
      rotate_left
      ·show Act.put _ (some 302) _ = _
       simp only [Act.put,List.setIfInBounds_toArray,List.set_cons_zero,List.set_cons_succ,i64_w,i32_w]
       rfl
      refine one_ (i := 3) (N := some 304) #[true,true,true,true,false,false] rfl rfl (one_of HT_.out T16_) T43_ (fun K hK => ?_)
      refine gZ_ Try.func29 #[.agg #[.int .i64 h1,.int .i64 h2]] ?_
      with_reducible refine (spec_AutocorrelationOf.calls k h1 h2 m _ HG.out.au2).mono ?_
      rintro e W2_ ⟨vq,rfl,hq,hb⟩
      obtain ⟨Aq,cq,rfl,hlc_,hr_⟩ := Kd.R_reads hq
      clear hq
      refine ⟨_,rfl,?_⟩
      have n_ : Aside0 (W2_.cell? ⟨gh,0,none⟩ = some (.int .i64 h1)) := ⟨pw_cell_below hb C0.out⟩
      clear C0
      have C0 := n_
      clear n_
      have n_ : Aside0 (W2_.cell? ⟨gh,1,none⟩ = some (.int .i64 h2)) := ⟨pw_cell_below hb C1.out⟩
      clear C1
      have C1 := n_
      clear n_
      have n_ := aZ_ (below_step HB.out hb)
      clear HB
      have HB := n_
      clear n_
      have n_ := aZ_ (Kd.Heap.C (Kd.heap_int .i64) hb.block HM.out)
      clear HM
      have HM := n_
      clear n_
      clear hb
      have HQ := aZ_ hr_
      have HQc := aZ_ hlc_
      clear hr_ hlc_
      refine hK.out _ _ ⟨C0.out,C1.out⟩ (fun hHeld => ?_)
      clear hK K
      refine norm_ (a' := ?_) ?_ ?_
      rotate_left
      ·show Act.put _ (some 304) _ = _
       simp only [Act.put,List.setIfInBounds_toArray,List.set_cons_zero,List.set_cons_succ,i64_w,i32_w]
       rfl
      refine one_ (i := 4) (N := some 305) #[true,true,true,true,true,false] rfl rfl (one_of HT_.out T16_) T43_ (fun K hK => ?_)
      refine gZ_ Try.func7 #[.slice Am m.length cm,.slice Aq m.length cq] ?_
      with_reducible refine (laws_sameInts.calls k Am cm m Aq cq m true _ HM.out HMc.out HQ.out HQc.out HG.out.ms).mono ?_
      rintro e W3_ ⟨rfl,hd⟩
      have hb := hd.below
      clear hd
      refine ⟨_,rfl,?_⟩
      have n_ : Aside0 (W3_.cell? ⟨gh,0,none⟩ = some (.int .i64 h1)) := ⟨pw_cell_below hb C0.out⟩
      clear C0
      have C0 := n_
      clear n_
      have n_ : Aside0 (W3_.cell? ⟨gh,1,none⟩ = some (.int .i64 h2)) := ⟨pw_cell_below hb C1.out⟩
      clear C1
      have C1 := n_
      clear n_
      have n_ := aZ_ (below_step HB.out hb)
      clear HB
      have HB := n_
      clear n_
      have n_ := aZ_ (Kd.Heap.C (Kd.heap_int .i64) hb.block HM.out)
      clear HM
      have HM := n_
      clear n_
      have n_ := aZ_ (Kd.Heap.C (Kd.heap_int .i64) hb.block HQ.out)
      clear HQ
      have HQ := n_
      clear n_
      clear hb
      refine hK.out _ _ ⟨C0.out,C1.out⟩ (fun hHeld => ?_)
      clear hK K
      refine norm_ (a' := ?_) ?_ ?_
      rotate_left
      ·show Act.put _ (some 305) _ = _
       simp only [Act.put,List.setIfInBounds_toArray,List.set_cons_zero,List.set_cons_succ,i64_w,i32_w]
       rfl
      refine pZ_ 5 (some 2) #[true,true,true,true,true,true] ?_
      refine done_ (done_of HT_.out T16_) ?_
      clear C0 C1 hHeld HT_ HW_
      go_wp2_with (fail)
      go_ret
      exact ⟨rfl,HB.out⟩
 next => cases h
end Go.Proofs.Ytflacbjpeecjcaa.F
