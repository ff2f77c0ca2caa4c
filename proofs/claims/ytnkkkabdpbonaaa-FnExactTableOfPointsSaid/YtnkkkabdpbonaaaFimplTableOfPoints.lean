/- The walk of one Go function: a call of it ends as the Lean function of its name tells; the conditions are those of each theorem. -/
import Derived.Test.YtnkkkabdpbonaaaF0
import Derived.Test.YtnkkkabdpbonaaaFGa
import Derived.Test.YtnkkkabdpbonaaaFGa
import Derived.Test.YtnkkkabdpbonaaaFimplTablehull
import Derived.Test.YtnkkkabdpbonaaaFslicesContainsFuncintint
import Derived.Test.YtnkkkabdpbonaaaFGa
import Derived.Test.YtnkkkabdpbonaaaBase
namespace Go.Proofs.Ytnkkkabdpbonaaa.F
open Go.RowKit Go.Proofs.YtnkkkabdpbonaaaW.PrintWords Go.Proofs.YtnkkkabdpbonaaaW.PrintLast Go.Proofs.YtnkkkabdpbonaaaW.PrintMore
attribute [local go_sem] max2_int min2_int max_two min_two max_three min_three max_four min_four   -- for this text's walks alone
set_option linter.unusedVariables false
set_option linter.unusedSimpArgs false

/-! ### impl_TableOfPoints: function 52 -/
set_option maxHeartbeats 400000 in
theorem impl_TableOfPoints_1.any (n x : Int) (b : Bool) (hb : impl_isInput.f n x = some b) (g1 : Nat) (W : World) (h1 : W.heap[g1]? = some (.cells #[.int .i64 n] 3 (0, 0))) :
    Gives Try.prog 91 #[.pointer (some ⟨g1, 0, none⟩)] #[.int .i64 x] (.bool (!b)) W := by
  show Calls Try.prog 91 #[.int .i64 x, .pointer (some ⟨g1, 0, none⟩)] W _
  have hc0 : W.cell? ⟨g1, 0, none⟩ = some (.int .i64 n) := (blk_cell h1 0).trans rfl
  have HB := Aside0.mk hb
  clear hb h1
  go_enter Try.func91, Try.ntmps91
  go_wp2_with (go_at_call 92; refine (impl_isInput.calls n x b _ HB.out).mono ?_; rintro e w' ⟨rfl, hd⟩)
  go_ret
  exact ⟨rfl, hd.below⟩
/-- The word of the points. -/
def impl_TableOfPoints.w (l : List Int) : Nat → Int
  | 0 => 0
  | i + 1 => Go.bits .or .i64 (impl_TableOfPoints.w l i) (shl .i64 1 (rd l i))
/-- No input. -/
def impl_TableOfPoints.no (n x : Int) : Bool := impl_isInput.f n x == some false
def impl_TableOfPoints.f (a0 : Int) (l1 : List Int) : Option (Int × Int × Bool) :=
  (impl_isBits.f a0).bind fun t => if t = true then
    (if B.allN (fun i => (impl_isInput.f a0 (rd l1 i)).isSome) l1.length = true ∧ l1.length < 9223372036854775807 then
      (if B.exN (fun i => impl_TableOfPoints.no a0 (rd l1 i)) l1.length = true then some (0, 0, false)
       else if B.allN (fun i => decide (0 ≤ rd l1 i)) l1.length = true then (impl_Table_hull.f a0 (impl_TableOfPoints.w l1 l1.length)).bind fun r => some (r.1, r.2, true) else none) else none) else some (0, 0, false)
set_option maxHeartbeats 400000 in
set_option maxRecDepth 100000 in
theorem impl_TableOfPoints.calls (a0 : Int) (A1 : Option Addr) (c1 : Nat) (l1 : List Int) (r1 r2 : Int) (r3 : Bool) (w : World) (hr1 : Kd.C (Kd.int .i64) w A1 l1.length l1) (hc1 : l1.length ≤ c1) (h : impl_TableOfPoints.f a0 l1 = some (r1, r2, r3)) :
    Calls Try.prog 52 #[.int .i64 a0, .slice A1 l1.length c1] w fun e w' => e = .returned (.tuple #[.agg #[.int .i64 r1, .int .i64 r2], .bool r3]) ∧ Below w.heap.size w w' := by
  have hu := Try.underlying25
  have HR := Aside0.mk hr1
  clear hr1
  unfold impl_TableOfPoints.f at h
  obtain ⟨t, ht, h⟩ := Option.bind_eq_some_iff.mp h
  have HT := Aside0.mk ht
  clear ht
  have k1 := blk_alloc (blk_new w (.cells #[.int .i64 a0] 3 (0, 0))) (.cells #[.int .i64 0, .int .i64 0] 25 (0, 0))
  have k2 : ((w.alloc (.cells #[.int .i64 a0] 3 (0, 0))).alloc (.cells #[.int .i64 0, .int .i64 0] 25 (0, 0))).heap[w.heap.size + 1]? = some (.cells #[.int .i64 0, .int .i64 0] 25 (0, 0)) := by simpa using blk_new (w.alloc (.cells #[.int .i64 a0] 3 (0, 0))) (.cells #[.int .i64 0, .int .i64 0] 25 (0, 0))
  have kb := below_alloc (below_alloc (Below.refl w.heap.size w) (.cells #[.int .i64 a0] 3 (0, 0))) (.cells #[.int .i64 0, .int .i64 0] 25 (0, 0))
  cases t with
  | false =>
    rw [if_neg (by decide)] at h
    cases h
    go_enter Try.func52, Try.ntmps52
    go_wp2_with (go_at_call 89; refine (impl_isBits.calls a0 false _ HT.out).mono ?_; rintro e w' ⟨rfl, hd⟩; have K2 := blk_below k2 hd.below; have HB := below_step kb hd.below; have hc0 : w'.cell? ⟨w.heap.size + 1, 0, none⟩ = some (.int .i64 0) := (blk_cell K2 0).trans rfl; have hc1 : w'.cell? ⟨w.heap.size + 1, 1, none⟩ = some (.int .i64 0) := (blk_cell K2 1).trans rfl; have hf0 := blk_frozen K2 0; have hf1 := blk_frozen K2 1)
    refine bodyPost_ret (results_ct rfl _ _ (w.heap.size + 1) 25 #[.int .i64 0, .int .i64 0] (0, 0) _ rfl (by refine blk_put (cs := #[.int .i64 0, .int .i64 0]) ?_ 1 _ rfl; refine blk_put (cs := #[.int .i64 0, .int .i64 0]) ?_ 0 _ rfl; exact K2) Try.underlying25 rfl (by kernel_rfl)) rfl ?_
    exact ⟨rfl, below_set (below_set HB (Nat.le_succ _)) (Nat.le_succ _)⟩
  | true =>
    rw [if_pos rfl] at h
    split at h
    next ha =>
      have HL := Aside0.mk ha.2
      have HA := Aside0.mk (B.allN_iff.mp ha.1)
      clear ha
      have eg := enters_of Try.func91 (by kernel_rfl) rfl
      have EG := Aside0.mk eg
      clear eg
      have HC : ∀ w' : World, w'.heap[w.heap.size]? = some (.cells #[.int .i64 a0] 3 (0, 0)) → Below w.heap.size w w' → Calls Try.prog 90 #[.slice A1 l1.length c1, .func (.func 91) #[] #[.pointer (some ⟨w.heap.size, 0, none⟩)]] w' fun e w'' => e = .returned (.bool (B.exN (fun i => impl_TableOfPoints.no a0 (rd l1 i)) l1.length)) ∧ Below w'.heap.size w' w'' := by
        intro w' hk hb
        refine slices_ContainsFunc_int.any A1 c1 l1 (impl_TableOfPoints.no a0) 91 _ EG.out w' (Kd.Heap.C (Kd.heap_int .i64) hb.block HR.out) (fun W x hx hw => ?_) HL.out
        obtain ⟨b, hb'⟩ := Option.isSome_iff_exists.mp (HA.out x hx)
        have e : impl_TableOfPoints.no a0 (rd l1 x) = !b := by unfold impl_TableOfPoints.no; rw [hb']; cases b <;> rfl
        rw [e]
        exact impl_TableOfPoints_1.any a0 (rd l1 x) b hb' _ W (blk_below hk hw)
      have HCC := Aside0.mk HC
      clear HC
      obtain ⟨q, hq⟩ : ∃ q, q = B.exN (fun i => impl_TableOfPoints.no a0 (rd l1 i)) l1.length := ⟨_, rfl⟩
      rw [← hq] at h HCC
      have HQ := Aside0.mk hq
      clear hq
      cases q with
      | true =>
        rw [if_pos rfl] at h
        cases h
        go_enter Try.func52, Try.ntmps52
        go_wp2_with (first | (go_at_call 89; refine (impl_isBits.calls a0 true _ HT.out).mono ?_; rintro e w' ⟨rfl, hd⟩; have K1 := blk_below k1 hd.below; have K2 := blk_below k2 hd.below; have HB := below_step kb hd.below; have hc0 : w'.cell? ⟨w.heap.size, 0, none⟩ = some (.int .i64 a0) := (blk_cell K1 0).trans rfl) | (go_at_call 90; refine (HCC.out _ K1 HB).mono ?_; rintro e w2 ⟨rfl, hd2⟩; have K2' := blk_below K2 hd2; have HB' := below_step HB hd2; have hx0 : w2.cell? ⟨w.heap.size + 1, 0, none⟩ = some (.int .i64 0) := (blk_cell K2' 0).trans rfl; have hx1 : w2.cell? ⟨w.heap.size + 1, 1, none⟩ = some (.int .i64 0) := (blk_cell K2' 1).trans rfl; have hf0 := blk_frozen K2' 0; have hf1 := blk_frozen K2' 1))
        refine bodyPost_ret (results_ct rfl _ _ (w.heap.size + 1) 25 #[.int .i64 0, .int .i64 0] (0, 0) _ rfl (by refine blk_put (cs := #[.int .i64 0, .int .i64 0]) ?_ 1 _ rfl; refine blk_put (cs := #[.int .i64 0, .int .i64 0]) ?_ 0 _ rfl; exact K2') Try.underlying25 rfl (by kernel_rfl)) rfl ?_
        exact ⟨rfl, below_set (below_set HB' (Nat.le_succ _)) (Nat.le_succ _)⟩
      | false =>
        rw [if_neg (by decide)] at h
        split at h
        next hz =>
          have HZ := Aside0.mk (B.allN_iff.mp hz)
          clear hz
          obtain ⟨⟨s1, s2⟩, hs, h⟩ := Option.bind_eq_some_iff.mp h
          have HS := Aside0.mk hs
          clear hs
          cases h
          go_enter Try.func52, Try.ntmps52
          go_wp2_with (first | (go_at_call 89; refine (impl_isBits.calls a0 true _ HT.out).mono ?_; rintro e w' ⟨rfl, hd⟩; have K1 := blk_below k1 hd.below; have K2 := blk_below k2 hd.below; have HB := below_step kb hd.below; have hc0 : w'.cell? ⟨w.heap.size, 0, none⟩ = some (.int .i64 a0) := (blk_cell K1 0).trans rfl) | (go_at_call 90; refine (HCC.out _ K1 HB).mono ?_; rintro e w2 ⟨rfl, hd2⟩; have K1' := blk_below K1 hd2; have K2' := blk_below K2 hd2; have HB' := below_step HB hd2; have hx0 : w2.cell? ⟨w.heap.size, 0, none⟩ = some (.int .i64 a0) := (blk_cell K1' 0).trans rfl))
          have hG := blk_lt K2'
          have KF := Aside0.mk (blk_new w2 (.cells #[.int .i64 a0, .int .i64 0] 25 (0, 0)))
          have KB := Aside0.mk (below_alloc HB' (.cells #[.int .i64 a0, .int .i64 0] 25 (0, 0)))
          have K3 := Aside0.mk (blk_alloc K2' (.cells #[.int .i64 a0, .int .i64 0] 25 (0, 0)))
          clear hd hd2 K1 K2 K1' K2' HB HB' hc0 hx0 kb k1 k2
          generalize w2.alloc (.cells #[.int .i64 a0, .int .i64 0] 25 (0, 0)) = w4 at KF KB K3 ⊢
          generalize w2.heap.size = G at hG KF ⊢
          go_loopg [22] l1.length (fun gg v22 wr => ∃ x : Nat, x ≤ l1.length ∧ l1.length - x ≤ gg ∧ v22 = .int .i64 x ∧ Aside0 (wr.heap[G]? = some (.cells #[.int .i64 a0, .int .i64 (impl_TableOfPoints.w l1 x)] 25 (0, 0))) ∧ Aside0 (wr.heap[w.heap.size + 1]? = some (.cells #[.int .i64 0, .int .i64 0] 25 (0, 0))) ∧ Aside0 (Below w.heap.size w wr))
          case atStart => exact ⟨0, Nat.zero_le _, by omega, rfl, KF, K3, KB⟩
          case round =>
            obtain ⟨x, hx, hg, rfl, BF, BK, HB⟩ := hrel
            by_cases hlt : x < l1.length
            · have hltz : (x : Int) < (l1.length : Int) := by omega
              have h0z : (0 : Int) ≤ (x : Int) := by omega
              obtain ⟨ad, rfl, hc⟩ := Kd.at_int HR.out (x : Int) h0z hltz
              have hc' := (HB.out.cell (World.block_lt_of_cell? w _ hc)).trans hc
              rw [Int.toNat_natCast] at hc'
              clear hc
              have h0r : 0 ≤ rd l1 (x : Int) := of_decide_eq_true (HZ.out x hlt)
              have hw : impl_TableOfPoints.w l1 (x + 1) = Go.bits .or .i64 (impl_TableOfPoints.w l1 x) (shl .i64 1 (rd l1 x)) := rfl
              have HW := Aside0.mk hw
              clear hw
              obtain ⟨j, hj⟩ : ∃ j : Int, shl .i64 1 (rd l1 (x : Int)) = j := ⟨_, rfl⟩
              rw [hj] at HW
              have hj1 : (IntKind.i64.wrap (1 * 2 ^ min (rd l1 (x : Int)).toNat 64)) = j := hj
              have hj2 : (IntKind.i64.wrap (2 ^ min (rd l1 (x : Int)).toNat 64)) = j := by have h_ := hj1; rw [Int.one_mul] at h_; exact h_
              have hj3 : (wrap64 (1 * 2 ^ min (rd l1 (x : Int)).toNat 64)) = j := (i64_w _).symm.trans hj1
              have hj4 : (wrap64 (2 ^ min (rd l1 (x : Int)).toNat 64)) = j := (i64_w _).symm.trans hj2
              have he1 : wr.cell? ⟨G, 1, none⟩ = some (.int .i64 (impl_TableOfPoints.w l1 x)) := (blk_cell BF.out 1).trans rfl
              have hf1 := blk_frozen BF.out 1
              go_wp2
              go_region
              go_wp2
              go_roundg (l1.length - (x + 1))
              case measure => omega
              case rel =>
                refine ⟨x + 1, by omega, by omega, by rw [B.wrap64_succ (by have := HL.out; omega)], ⟨?_⟩, ⟨?_⟩, ⟨?_⟩⟩
                · rw [HW.out]
                  exact blk_drew (blk_put BF.out 1 _ rfl)
                · exact blk_drew (blk_far BK.out (by show _ ≠ G; omega) _)
                · exact below_drew1 (below_set HB.out (by omega))
            · have hltz : ¬ (x : Int) < (l1.length : Int) := by omega
              obtain rfl : x = l1.length := by omega
              have he0 : wr.cell? ⟨G, 0, none⟩ = some (.int .i64 a0) := (blk_cell BF.out 0).trans rfl
              have he1 : wr.cell? ⟨G, 1, none⟩ = some (.int .i64 (impl_TableOfPoints.w l1 l1.length)) := (blk_cell BF.out 1).trans rfl
              go_wp2_with (go_at_call 82; refine (impl_Table_hull.calls a0 (impl_TableOfPoints.w l1 l1.length) s1 s2 _ HS.out).mono ?_; rintro e w5 ⟨rfl, hd5⟩; have K5 := blk_below BK.out hd5; have HB5 := below_step HB.out hd5; have hx0 : w5.cell? ⟨w.heap.size + 1, 0, none⟩ = some (.int .i64 0) := (blk_cell K5 0).trans rfl; have hx1 : w5.cell? ⟨w.heap.size + 1, 1, none⟩ = some (.int .i64 0) := (blk_cell K5 1).trans rfl; have hf0 := blk_frozen K5 0; have hf1 := blk_frozen K5 1)
              refine bodyPost_ret (results_ct rfl _ _ (w.heap.size + 1) 25 #[.int .i64 s1, .int .i64 s2] (0, 0) _ rfl (by refine blk_put (cs := #[.int .i64 s1, .int .i64 0]) ?_ 1 _ rfl; refine blk_put (cs := #[.int .i64 0, .int .i64 0]) ?_ 0 _ rfl; exact K5) Try.underlying25 rfl (by kernel_rfl)) rfl ?_
              exact ⟨rfl, below_set (below_set HB5 (Nat.le_succ _)) (Nat.le_succ _)⟩
        next => cases h
    next => cases h


end Go.Proofs.Ytnkkkabdpbonaaa.F
