/- The walk of one Go function: a call of it ends as the Lean function of its name tells; the conditions are those of each theorem. -/
import Derived.Test.YtflacbjpeecjcacDoorF0
import Derived.Test.YtflacbjpeecjcacDoorFlawsszNodeS
import Derived.Test.YtflacbjpeecjcacDoorFspecFormatDiagram
import Derived.Test.YtflacbjpeecjcacDoorFlawstoNodeS
import Derived.Test.YtflacbjpeecjcacDoorFimplFormatInt
import Derived.Test.YtflacbjpeecjcacDoorFimplFormatDiagram
import Derived.Test.YtflacbjpeecjcacDoorFlawseqNodeS
namespace Go.Proofs.YtflacbjpeecjcacDoor.F
open Go.RowKit Go.Proofs.YtflacbjpeecjcacDoorW.PrintWords Go.Proofs.YtflacbjpeecjcacDoorW.PrintLast Go.Proofs.YtflacbjpeecjcacDoorW.PrintMore
attribute [local go_sem] max2_int min2_int max_two min_two max_three min_three max_four min_four   -- for this text's walks alone
set_option linter.unusedVariables false
set_option linter.unusedSimpArgs false

/-! ### laws_FnExactFormatDiagram: function 3 -/
theorem heapN (w w' : World) (A : Option Addr) (l : List S30) (hb : Below w.heap.size w w') (h : Kd.C k30 w A l.length l) : Kd.C k30 w' A l.length l :=
  Kd.Heap.C (Kd.heap_iso _ (Kd.heap_pair (Kd.heap_int .i64) (Kd.heap_pair (Kd.heap_int .i64) (Kd.heap_int .i64)))) hb.block h
theorem heapL (w w' : World) (A : Option Addr) (l : List S34) (hb : Below w.heap.size w w') (h : Kd.C k34 w A l.length l) : Kd.C k34 w' A l.length l :=
  Kd.Heap.C (Kd.heap_iso _ (Kd.heap_pair (Kd.heap_int .i64) (Kd.heap_pair (Kd.heap_int .i64) (Kd.heap_int .i64)))) hb.block h
/-- All that the law finds, and that each test goes well. -/
structure FormatGo (k : Nat) (l0 : List S34) (m : List S30) (s : ByteArray) (z : Int) : Prop where
  sz : laws_szNodeS.f l0 1048576 = some z
  z0 : 0 ≤ z
  tn : laws_toNodeS.f k l0 = some m
  sp : spec_FormatDiagram.f k m = some s
  im : impl_FormatDiagram.f m = some s
  eq : laws_eqNodeS.f k m m = some true
open Classical in
noncomputable def laws_FnExactFormatDiagram.f (k : Nat) (l0 : List S34) : Option Bool :=
  if laws_szNodeS.f l0 1048576 = some (-1) ∨ ∃ m s z, FormatGo k l0 m s z then some true else none
set_option maxHeartbeats 4000000 in
set_option maxRecDepth 100000 in
theorem laws_FnExactFormatDiagram.calls (k : Nat) (A0 : Option Addr) (c0 : Nat) (l0 : List S34) (r : Bool) (w : World) (hr0 : Kd.C k34 w A0 l0.length l0) (hc0 : l0.length ≤ c0) (ht : Tens w) (h : laws_FnExactFormatDiagram.f k l0 = some r) :
    Calls Tryd.prog 3 #[.slice A0 l0.length c0] w fun e w' => e = .returned (.bool r) ∧ Below w.heap.size w w' := by
  unfold laws_FnExactFormatDiagram.f at h
  have HR := Aside0.mk hr0
  have HT := Aside0.mk ht
  have HC0 := Aside0.mk hc0
  have HB := Aside0.mk (Below.refl w.heap.size w)
  clear hr0 ht hc0
  split at h
  next hgo =>
    cases h
    rcases hgo with hs | ⟨m, s, z, G⟩
    · have HS := Aside0.mk hs
      clear hs
      go_enter Tryd.func3, Tryd.ntmps3
      go_wp2_with (go_at_call 4; refine (laws_szNodeS.calls A0 c0 l0 1048576 (-1) _ HR.out HC0.out HS.out).mono ?_; rintro e w1 ⟨rfl, hd⟩; have HB1 := Aside0.mk hd.below; clear hd)
      go_ret
      exact ⟨rfl, HB1.out⟩
    · have HG := Aside0.mk G
      have z1 : decide (z < 0) = false := decide_eq_false (by have := HG.out.z0; omega)
      clear G
      go_enter Tryd.func3, Tryd.ntmps3
      go_upto_region 3 with (go_at_call 4; refine (laws_szNodeS.calls A0 c0 l0 1048576 z _ HR.out HC0.out HG.out.sz).mono ?_; rintro e w1 ⟨rfl, hd⟩; have hb := hd.below; clear hd; have n1_ := Aside0.mk (heapL _ _ _ _ hb HR.out); have n2_ := Aside0.mk (HT.out.below hb); have n3_ := Aside0.mk (below_step HB.out hb); clear HR HT HB hb; have HR := n1_; have HT := n2_; have HB := n3_; clear n1_ n2_ n3_)
      go_upto_region 5 with (fail)
      go_upto_region 6 with (first | (go_at_call 6; refine (laws_toNodeS.calls k A0 c0 l0 m _ HR.out HC0.out HG.out.tn).mono ?_; rintro e w2 ⟨vq, rfl, hq, hb⟩; have n1_ := Aside0.mk (heapL _ _ _ _ hb HR.out); have n2_ := Aside0.mk (HT.out.below hb); have n3_ := Aside0.mk (below_step HB.out hb); clear HR HT HB hb; have HR := n1_; have HT := n2_; have HB := n3_; clear n1_ n2_ n3_; obtain ⟨A1, c1, rfl, hlc_, hr_⟩ := Kd.R_reads hq; have HQ := Aside0.mk hr_; have HQc := Aside0.mk hlc_; clear hr_ hlc_ hq) | (go_at_call 5; refine (spec_FormatDiagram.calls k A1 c1 m s _ HQ.out HQc.out HG.out.sp).mono ?_; rintro e w3 ⟨rfl, hb⟩; have n1_ := Aside0.mk (heapL _ _ _ _ hb HR.out); have n2_ := Aside0.mk (HT.out.below hb); have n3_ := Aside0.mk (below_step HB.out hb); clear HR HT HB hb; have HR := n1_; have HT := n2_; have HB := n3_; clear n1_ n2_ n3_ HQ HQc))
      go_upto_region 7 with (go_at_call 6; refine (laws_toNodeS.calls k A0 c0 l0 m _ HR.out HC0.out HG.out.tn).mono ?_; rintro e w4 ⟨vq, rfl, hq, hb⟩; have n1_ := Aside0.mk (heapL _ _ _ _ hb HR.out); have n2_ := Aside0.mk (HT.out.below hb); have n3_ := Aside0.mk (below_step HB.out hb); clear HR HT HB hb; have HR := n1_; have HT := n2_; have HB := n3_; clear n1_ n2_ n3_; obtain ⟨A2, c2, rfl, hlc_, hr_⟩ := Kd.R_reads hq; have HX := Aside0.mk hr_; have HXc := Aside0.mk hlc_; clear hr_ hlc_ hq)
      go_upto_region 8 with (go_at_call 7; refine (impl_FormatDiagram.any A2 c2 m s _ HX.out HXc.out HT.out HG.out.im).mono ?_; rintro e w5 ⟨rfl, hb⟩; have n1_ := Aside0.mk (heapL _ _ _ _ hb HR.out); have n2_ := Aside0.mk (heapN _ _ _ _ hb HX.out); have n3_ := Aside0.mk (below_step HB.out hb); clear HR HT HB HX hb; have HR := n1_; have HX := n2_; have HB := n3_; clear n1_ n2_ n3_)
      go_upto_region 10 with (fail)
      skip
      go_wp2_with (first | (go_at_call 6; refine (laws_toNodeS.calls k A0 c0 l0 m _ HR.out HC0.out HG.out.tn).mono ?_; rintro e w6 ⟨vq, rfl, hq, hb⟩; have n1_ := Aside0.mk (heapN _ _ _ _ hb HX.out); have n3_ := Aside0.mk (below_step HB.out hb); clear HR HB HX hb; have HX := n1_; have HB := n3_; clear n1_ n3_; obtain ⟨A3, c3, rfl, hlc_, hr_⟩ := Kd.R_reads hq; have HQ := Aside0.mk hr_; have HQc := Aside0.mk hlc_; clear hr_ hlc_ hq) | (go_at_call 8; refine (laws_eqNodeS.calls k A2 c2 m A3 c3 m true _ HX.out HXc.out HQ.out HQc.out HG.out.eq).mono ?_; rintro e w7 ⟨rfl, hb⟩; have n3_ := Aside0.mk (below_step HB.out hb); clear HB hb; have HB := n3_; clear n3_))
      go_ret
      exact ⟨rfl, HB.out⟩
  next => cases h


end Go.Proofs.YtflacbjpeecjcacDoor.F
