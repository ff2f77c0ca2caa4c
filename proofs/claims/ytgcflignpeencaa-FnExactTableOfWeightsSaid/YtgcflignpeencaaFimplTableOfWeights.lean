/- The walk of one Go function: a call of it ends as the Lean function of its name tells; the conditions are those of each theorem. -/
import Derived.Test.YtgcflignpeencaaF0
import Derived.Test.YtgcflignpeencaaFslicesContainsFuncintint
import Derived.Test.YtgcflignpeencaaFGa
import Derived.Test.YtgcflignpeencaaFimplweightAt
import Derived.Test.YtgcflignpeencaaBase
namespace Go.Proofs.Ytgcflignpeencaa.F
open Go.RowKit Go.Proofs.YtgcflignpeencaaW.PrintWords Go.Proofs.YtgcflignpeencaaW.PrintLast Go.Proofs.YtgcflignpeencaaW.PrintMore
attribute [local go_sem] max2_int min2_int max_two min_two max_three min_three max_four min_four   -- for this text's walks alone
set_option linter.unusedVariables false
set_option linter.unusedSimpArgs false

/-! ### impl_TableOfWeights: function 14 -/
/-- A weight that is too great. -/
def impl_TableOfWeights.bad (r : Int) : Bool := decide (r < -100) || decide (100 < r)
/-- The value at an input. -/
def impl_TableOfWeights.p (l : List Int) (t : Int) (x : Nat) : Bool := decide (t ≤ (impl_weightAt.f 10 l x).getD 0)
def impl_TableOfWeights.f (l0 : List Int) (a1 : Int) : Option (Int × Int × Bool) :=
  if l0.length < 9223372036854775807 then
    (if l0.length ≤ 5 then (if a1 < -1000 then some (0, 0, false) else if 1000 < a1 then some (0, 0, false) else if B.exN (fun i => impl_TableOfWeights.bad (rd l0 i)) l0.length = true then some (0, 0, false)
      else if B.allN (fun x => (impl_weightAt.f 10 l0 x).isSome) (2 ^ l0.length) = true then some ((l0.length : Int), ((B.tabN (impl_TableOfWeights.p l0 a1) (2 ^ l0.length) : Nat) : Int), true) else none) else some (0, 0, false)) else none
set_option maxHeartbeats 400000 in
theorem impl_TableOfWeights_1.any (x : Int) (W : World) : Gives Try.prog 42 #[] #[.int .i64 x] (.bool (impl_TableOfWeights.bad x)) W := by
  show Calls Try.prog 42 #[.int .i64 x] W _
  by_cases h : x < -100
  · have d1 : decide (x < -100) = true := decide_eq_true h
    have HE : Aside0 (impl_TableOfWeights.bad x = true) := ⟨by unfold impl_TableOfWeights.bad; rw [d1]; rfl⟩
    go_enter Try.func42, Try.ntmps42
    go_wp2
    go_ret
    exact ⟨by rw [HE.out]; rfl, Below.refl _ _⟩
  · have d1 : decide (x < -100) = false := decide_eq_false h
    have HE : Aside0 (impl_TableOfWeights.bad x = decide (100 < x)) := ⟨by unfold impl_TableOfWeights.bad; rw [d1]; rfl⟩
    go_enter Try.func42, Try.ntmps42
    go_wp2
    go_ret
    exact ⟨by rw [HE.out]; rfl, Below.refl _ _⟩
set_option maxHeartbeats 400000 in
theorem impl_TableOfWeights_2.any (l : List Int) (A : Option Addr) (c : Nat) (hc : l.length ≤ c) (t v : Int) (x : Nat) (hv : impl_weightAt.f 10 l x = some v) (g1 g2 : Nat) (W : World) (hr : Kd.C (Kd.int .i64) W A l.length l)
    (h1 : W.heap[g1]? = some (.cells #[.slice A l.length c] 22 (0, 0))) (h2 : W.heap[g2]? = some (.cells #[.int .i64 t] 3 (0, 0))) :
    Gives Try.prog 44 #[.pointer (some ⟨g1, 0, none⟩), .pointer (some ⟨g2, 0, none⟩)] #[.int .i64 x] (.bool (impl_TableOfWeights.p l t x)) W := by
  show Calls Try.prog 44 #[.int .i64 x, .pointer (some ⟨g1, 0, none⟩), .pointer (some ⟨g2, 0, none⟩)] W _
  have HE : Aside0 (impl_TableOfWeights.p l t x = decide (t ≤ v)) := ⟨by unfold impl_TableOfWeights.p; rw [hv]; rfl⟩
  have hc0 : W.cell? ⟨g1, 0, none⟩ = some (.slice A l.length c) := (blk_cell h1 0).trans rfl
  have hd0 : W.cell? ⟨g2, 0, none⟩ = some (.int .i64 t) := (blk_cell h2 0).trans rfl
  have HV := Aside0.mk hv
  have HR := Aside0.mk hr
  have HC := Aside0.mk hc
  clear h1 h2 hr hv hc
  go_enter Try.func44, Try.ntmps44
  go_wp2
  go_quiet ((go_at_call 45; (with_reducible refine (impl_weightAt.calls 10 A c l x v _ (by first | exact HR.out | exact Kd.C_drewN HR.out _ | exact Kd.C_drewN (Kd.C_drewN HR.out _) _) HC.out HV.out).mono ?_); rintro e w' ⟨rfl, ⟨nd, rfl⟩⟩; (try first | exact ⟨rfl, _, World.drewN_drewN _ _ _⟩ | exact ⟨rfl, _, Eq.trans (World.drewN_drewN _ _ _) (congrArg (World.drewN _) (Nat.add_assoc _ _ _))⟩)))
  go_wp2
  go_ret
  exact ⟨by rw [HE.out]; rfl, by repeat (first | (with_reducible first | exact Below.refl _ _ | apply below_alloc | apply pw_below_drewN | apply below_drew1) | exact Below.refl _ _)⟩
set_option maxHeartbeats 400000 in
set_option maxRecDepth 100000 in
theorem impl_TableOfWeights.calls (A0 : Option Addr) (c0 : Nat) (l0 : List Int) (a1 : Int) (r1 : Int) (r2 : Int) (r3 : Bool) (w : World) (hr0 : Kd.C (Kd.int .i64) w A0 l0.length l0) (hc0 : l0.length ≤ c0) (h : impl_TableOfWeights.f l0 a1 = some (r1, r2, r3)) :
    Calls Try.prog 14 #[.slice A0 l0.length c0, .int .i64 a1] w fun e w' => e = .returned (.tuple #[.agg #[.int .i64 r1, .int .i64 r2], .bool r3]) ∧ Below w.heap.size w w' := by
  have hu := Try.underlying24
  have HR := Aside0.mk hr0
  have HC := Aside0.mk hc0
  clear hr0 hc0
  have k1 : (((w.alloc (.cells #[.slice A0 l0.length c0] 22 (0, 0))).alloc (.cells #[.int .i64 a1] 3 (0, 0))).alloc (.cells #[.int .i64 0, .int .i64 0] 24 (0, 0))).heap[w.heap.size]? = some (.cells #[.slice A0 l0.length c0] 22 (0, 0)) := (blk_alloc (blk_alloc (blk_new w (.cells #[.slice A0 l0.length c0] 22 (0, 0))) _) _)
  have k2 : (((w.alloc (.cells #[.slice A0 l0.length c0] 22 (0, 0))).alloc (.cells #[.int .i64 a1] 3 (0, 0))).alloc (.cells #[.int .i64 0, .int .i64 0] 24 (0, 0))).heap[w.heap.size + 1]? = some (.cells #[.int .i64 a1] 3 (0, 0)) := (blk_alloc (by simpa using blk_new (w.alloc (.cells #[.slice A0 l0.length c0] 22 (0, 0))) (.cells #[.int .i64 a1] 3 (0, 0))) _)
  have k3 : (((w.alloc (.cells #[.slice A0 l0.length c0] 22 (0, 0))).alloc (.cells #[.int .i64 a1] 3 (0, 0))).alloc (.cells #[.int .i64 0, .int .i64 0] 24 (0, 0))).heap[w.heap.size + 2]? = some (.cells #[.int .i64 0, .int .i64 0] 24 (0, 0)) := (by simpa using blk_new ((w.alloc (.cells #[.slice A0 l0.length c0] 22 (0, 0))).alloc (.cells #[.int .i64 a1] 3 (0, 0))) (.cells #[.int .i64 0, .int .i64 0] 24 (0, 0)))
  have kb := (below_alloc (below_alloc (below_alloc (Below.refl w.heap.size w) (.cells #[.slice A0 l0.length c0] 22 (0, 0))) (.cells #[.int .i64 a1] 3 (0, 0))) (.cells #[.int .i64 0, .int .i64 0] 24 (0, 0)))
  have K1 := Aside0.mk k1
  have K2 := Aside0.mk k2
  have K3 := Aside0.mk k3
  have KB := Aside0.mk kb
  have z1 : (((w.alloc (.cells #[.slice A0 l0.length c0] 22 (0, 0))).alloc (.cells #[.int .i64 a1] 3 (0, 0))).alloc (.cells #[.int .i64 0, .int .i64 0] 24 (0, 0))).cell? ⟨w.heap.size + 2, 0, none⟩ = some (.int .i64 0) := (blk_cell k3 0).trans rfl
  have z2 : (((w.alloc (.cells #[.slice A0 l0.length c0] 22 (0, 0))).alloc (.cells #[.int .i64 a1] 3 (0, 0))).alloc (.cells #[.int .i64 0, .int .i64 0] 24 (0, 0))).cell? ⟨w.heap.size + 2, 1, none⟩ = some (.int .i64 0) := (blk_cell k3 1).trans rfl
  have Z1 := Aside0.mk z1
  have Z2 := Aside0.mk z2
  clear k1 k2 k3 kb z1 z2
  unfold impl_TableOfWeights.f at h
  split at h
  next hL =>
    have HL := Aside0.mk hL
    clear hL
    by_cases h5 : l0.length ≤ 5
    · rw [if_pos h5] at h
      have d1 : decide (5 < l0.length) = false := decide_eq_false (by omega)
      have d2 : decide ((5 : Int) < (l0.length : Int)) = false := decide_eq_false (by omega)
      by_cases h6 : a1 < -1000
      · rw [if_pos h6] at h
        cases h
        have d3 : decide (a1 < -1000) = true := decide_eq_true h6
        go_enter Try.func14, Try.ntmps14
        go_wp2
        refine bodyPost_ret (results_ct rfl _ _ (w.heap.size + 2) 24 #[.int .i64 0, .int .i64 0] (0, 0) _ rfl (by first | exact K3.out | (refine blk_put (cs := #[.int .i64 0, .int .i64 0]) ?_ 1 _ rfl; refine blk_put (cs := #[.int .i64 0, .int .i64 0]) ?_ 0 _ rfl; exact K3.out)) Try.underlying24 rfl (by kernel_rfl)) rfl ?_
        exact ⟨rfl, by first | exact KB.out | exact below_set (below_set KB.out (by omega)) (by omega)⟩
      · rw [if_neg h6] at h
        have d3 : decide (a1 < -1000) = false := decide_eq_false h6
        by_cases h7 : 1000 < a1
        · rw [if_pos h7] at h
          cases h
          have d4 : decide (1000 < a1) = true := decide_eq_true h7
          go_enter Try.func14, Try.ntmps14
          go_wp2
          refine bodyPost_ret (results_ct rfl _ _ (w.heap.size + 2) 24 #[.int .i64 0, .int .i64 0] (0, 0) _ rfl (by first | exact K3.out | (refine blk_put (cs := #[.int .i64 0, .int .i64 0]) ?_ 1 _ rfl; refine blk_put (cs := #[.int .i64 0, .int .i64 0]) ?_ 0 _ rfl; exact K3.out)) Try.underlying24 rfl (by kernel_rfl)) rfl ?_
          exact ⟨rfl, by first | exact KB.out | exact below_set (below_set KB.out (by omega)) (by omega)⟩
        · rw [if_neg h7] at h
          have d4 : decide (1000 < a1) = false := decide_eq_false h7
          have EG := Aside0.mk (enters_of Try.func42 (by kernel_rfl) rfl)
          obtain ⟨q, hq⟩ : ∃ q, q = B.exN (fun i => impl_TableOfWeights.bad (rd l0 i)) l0.length := ⟨_, rfl⟩
          have HCC : Aside0 (∀ w' : World, Below w.heap.size w w' → Calls Try.prog 41 #[.slice A0 l0.length c0, .func (.func 42) #[] #[]] w' fun e w'' => e = .returned (.bool q) ∧ Below w'.heap.size w' w'') := ⟨by
            intro w' hb
            rw [hq]
            exact slices_ContainsFunc_int.any A0 c0 l0 impl_TableOfWeights.bad 42 #[] EG.out w' (Kd.Heap.C (Kd.heap_int .i64) hb.block HR.out) (fun W x _ _ => impl_TableOfWeights_1.any (rd l0 x) W) HL.out⟩
          rw [← hq] at h
          clear hq EG
          cases q with
          | true =>
            rw [if_pos rfl] at h
            cases h
            go_enter Try.func14, Try.ntmps14
            go_wp2_with (go_at_call 41; refine (HCC.out _ KB.out).mono ?_; rintro e w2 ⟨rfl, hd2⟩; have K3' := blk_below K3.out hd2; have HB' := below_step KB.out hd2; have hx0 : w2.cell? ⟨w.heap.size + 2, 0, none⟩ = some (.int .i64 0) := (blk_cell K3' 0).trans rfl; have hx1 : w2.cell? ⟨w.heap.size + 2, 1, none⟩ = some (.int .i64 0) := (blk_cell K3' 1).trans rfl; have hf0 := blk_frozen K3' 0; have hf1 := blk_frozen K3' 1)
            refine bodyPost_ret (results_ct rfl _ _ (w.heap.size + 2) 24 #[.int .i64 0, .int .i64 0] (0, 0) _ rfl (by refine blk_put (cs := #[.int .i64 0, .int .i64 0]) ?_ 1 _ rfl; refine blk_put (cs := #[.int .i64 0, .int .i64 0]) ?_ 0 _ rfl; exact K3') Try.underlying24 rfl (by kernel_rfl)) rfl ?_
            exact ⟨rfl, below_set (below_set HB' (by omega)) (by omega)⟩
          | false =>
            rw [if_neg (by decide)] at h
            split at h
            next ha =>
              cases h
              have HA := Aside0.mk (B.allN_iff.mp ha)
              clear ha
              have EG := Aside0.mk (enters_of Try.func44 (by kernel_rfl) rfl)
              have H5 := Aside0.mk h5
              have HGV : Aside0 (∀ (wr W : World), wr.heap[w.heap.size]? = some (.cells #[.slice A0 l0.length c0] 22 (0, 0)) → wr.heap[w.heap.size + 1]? = some (.cells #[.int .i64 a1] 3 (0, 0)) → Below w.heap.size w wr → ∀ x : Nat, x < 2 ^ l0.length → Below wr.heap.size wr W → Gives Try.prog 44 #[.pointer (some ⟨w.heap.size, 0, none⟩), .pointer (some ⟨w.heap.size + 1, 0, none⟩)] #[.int .i64 x] (.bool (impl_TableOfWeights.p l0 a1 x)) W) := ⟨by
                intro wr W j1 j2 jb x hx hb
                obtain ⟨v, hv⟩ := Option.isSome_iff_exists.mp (HA.out x hx)
                exact impl_TableOfWeights_2.any l0 A0 c0 HC.out a1 v x hv _ _ W (Kd.Heap.C (Kd.heap_int .i64) (below_step jb hb).block HR.out) (blk_below j1 hb) (blk_below j2 hb)⟩
              clear HA
              go_enter Try.func14, Try.ntmps14
              go_wp2_with (first | (go_at_call 41; refine (HCC.out _ KB.out).mono ?_; rintro e w2 ⟨rfl, hd2⟩; have M1 := Aside0.mk (blk_below K1.out hd2); have M2 := Aside0.mk (blk_below K2.out hd2); have M3 := Aside0.mk (blk_below K3.out hd2); have MB := Aside0.mk (below_step KB.out hd2); clear hd2; have hy0 : w2.cell? ⟨w.heap.size, 0, none⟩ = some (.slice A0 l0.length c0) := (blk_cell M1.out 0).trans rfl) | (go_at_call 43; refine (impl_makeTable.any l0.length H5.out (impl_TableOfWeights.p l0 a1) 44 #[.pointer (some ⟨w.heap.size, 0, none⟩), .pointer (some ⟨w.heap.size + 1, 0, none⟩)] EG.out _ (fun W x hx hb => HGV.out _ W M1.out M2.out MB.out x hx hb)).mono ?_; rintro e w3 ⟨rfl, hb⟩; have BK := Aside0.mk (blk_below M3.out hb); have HB' := Aside0.mk (below_step MB.out hb); clear hb; have hx0 : w3.cell? ⟨w.heap.size + 2, 0, none⟩ = some (.int .i64 0) := (blk_cell BK.out 0).trans rfl; have hx1 : w3.cell? ⟨w.heap.size + 2, 1, none⟩ = some (.int .i64 0) := (blk_cell BK.out 1).trans rfl; have hf0 := blk_frozen BK.out 0; have hf1 := blk_frozen BK.out 1))
              refine bodyPost_ret (results_ct rfl _ _ (w.heap.size + 2) 24 #[.int .i64 l0.length, .int .i64 (B.tabN (impl_TableOfWeights.p l0 a1) (2 ^ l0.length) : Nat)] (0, 0) _ rfl (by refine blk_put (cs := #[.int .i64 l0.length, .int .i64 0]) ?_ 1 _ rfl; refine blk_put (cs := #[.int .i64 0, .int .i64 0]) ?_ 0 _ rfl; exact BK.out) Try.underlying24 rfl (by kernel_rfl)) rfl ?_
              exact ⟨rfl, below_set (below_set HB'.out (by omega)) (by omega)⟩
            next => cases h
    · rw [if_neg h5] at h
      cases h
      have d1 : decide (5 < l0.length) = true := decide_eq_true (by omega)
      have d2 : decide ((5 : Int) < (l0.length : Int)) = true := decide_eq_true (by omega)
      go_enter Try.func14, Try.ntmps14
      go_wp2
      refine bodyPost_ret (results_ct rfl _ _ (w.heap.size + 2) 24 #[.int .i64 0, .int .i64 0] (0, 0) _ rfl (by first | exact K3.out | (refine blk_put (cs := #[.int .i64 0, .int .i64 0]) ?_ 1 _ rfl; refine blk_put (cs := #[.int .i64 0, .int .i64 0]) ?_ 0 _ rfl; exact K3.out)) Try.underlying24 rfl (by kernel_rfl)) rfl ?_
      exact ⟨rfl, by first | exact KB.out | exact below_set (below_set KB.out (by omega)) (by omega)⟩
  next => cases h


end Go.Proofs.Ytgcflignpeencaa.F
