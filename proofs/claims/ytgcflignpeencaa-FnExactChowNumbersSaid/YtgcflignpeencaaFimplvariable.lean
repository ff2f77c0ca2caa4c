/- The walk of one Go function: a call of it ends as the Lean function of its name tells; the conditions are those of each theorem. -/
import Derived.Test.YtgcflignpeencaaF0
import Derived.Test.YtgcflignpeencaaFGa
import Derived.Test.YtgcflignpeencaaBase
namespace Go.Proofs.Ytgcflignpeencaa.F
open Go.RowKit Go.Proofs.YtgcflignpeencaaW.PrintWords Go.Proofs.YtgcflignpeencaaW.PrintLast Go.Proofs.YtgcflignpeencaaW.PrintMore
attribute [local go_sem] max2_int min2_int max_two min_two max_three min_three max_four min_four   -- for this text's walks alone
set_option linter.unusedVariables false
set_option linter.unusedSimpArgs false

/-! ### impl_variable: function 58 -/
set_option maxHeartbeats 400000 in
theorem impl_variable_1.any (i x : Nat) (hi : i ≤ 62) (hx : x < 32) (g1 : Nat) (W : World) (h1 : W.heap[g1]? = some (.cells #[.int .i64 i] 3 (0, 0))) :
    Gives Try.prog 74 #[.pointer (some ⟨g1, 0, none⟩)] #[.int .i64 x] (.bool (x.testBit i)) W := by
  show Calls Try.prog 74 #[.int .i64 x, .pointer (some ⟨g1, 0, none⟩)] W _
  have hc0 : W.cell? ⟨g1, 0, none⟩ = some (.int .i64 i) := (blk_cell h1 0).trans rfl
  have e1 : (x : Int) / 2 ^ i = ((x >>> i : Nat) : Int) := by rw [Nat.shiftRight_eq_div_pow]; simp
  have hle : x >>> i < 32 := B.shr_lt hx
  have e2 : Go.bits .and .i64 ((x >>> i : Nat) : Int) 1 = ((B.bitN x i : Nat) : Int) := by rw [← B.shr_and_one]; exact B.and_cast (b := 1) (by omega) (by decide)
  have e3 : (((B.bitN x i : Nat) : Int) == 1) = x.testBit i := by unfold B.bitN; cases x.testBit i <;> rfl
  have b2 : (i : Int) ≤ 64 := by omega
  have E3 := Aside0.mk e3
  clear e3 h1 hi hx
  generalize x >>> i = y at e1 e2 hle
  generalize B.bitN x i = z at e2 E3
  go_enter Try.func74, Try.ntmps74
  go_wp2
  go_ret
  exact ⟨by rw [← E3.out]; rfl, Below.refl _ _⟩
set_option maxHeartbeats 400000 in
set_option maxRecDepth 100000 in
theorem impl_variable.any (n i : Nat) (hn : n ≤ 5) (hi : i ≤ 62) (w : World) :
    Calls Try.prog 58 #[.int .i64 n, .int .i64 i] w fun e w' => e = .returned (.agg #[.int .i64 n, .int .i64 (B.tabN (fun x => x.testBit i) (2 ^ n) : Nat)]) ∧ Below w.heap.size w w' := by
  have hu := Try.underlying24
  have HN := Aside0.mk hn
  have HI := Aside0.mk hi
  clear hn hi
  have EG := Aside0.mk (enters_of Try.func74 (by kernel_rfl) rfl)
  go_enter Try.func58, Try.ntmps58
  go_wp2_with (go_at_call 43; refine (impl_makeTable.any n HN.out (fun x => x.testBit i) 74 #[.pointer (some ⟨w.heap.size, 0, none⟩)] EG.out _ (fun W x hx hb => impl_variable_1.any i x HI.out (Nat.lt_of_lt_of_le hx (B.pow_le HN.out)) _ W (blk_below (blk_alloc (blk_new w _) _) hb))).mono ?_; rintro e w' ⟨rfl, hb⟩; have BK : Aside0 (w'.heap[w.heap.size + 1]? = some (.cells #[.int .i64 0, .int .i64 0] 24 (0, 0))) := ⟨by have h_ := blk_below (blk_new _ _) hb; simpa using h_⟩; have HB := Aside0.mk (below_step (below_alloc (below_alloc (Below.refl w.heap.size w) _) _) hb); clear hb; have hc0 : w'.cell? ⟨w.heap.size + 1, 0, none⟩ = some (.int .i64 0) := (blk_cell BK.out 0).trans rfl; have hc1 : w'.cell? ⟨w.heap.size + 1, 1, none⟩ = some (.int .i64 0) := (blk_cell BK.out 1).trans rfl; have hf0 : w'.frozen? ⟨w.heap.size + 1, 0, none⟩ = false := blk_frozen BK.out 0; have hf1 : w'.frozen? ⟨w.heap.size + 1, 1, none⟩ = false := blk_frozen BK.out 1)
  refine bodyPost_ret (results_cell_row rfl _ _ (w.heap.size + 1) 24 #[.int .i64 n, .int .i64 (B.tabN (fun x => x.testBit i) (2 ^ n) : Nat)] (0, 0) _ rfl (by refine blk_put (cs := #[.int .i64 n, .int .i64 0]) ?_ 1 _ rfl; refine blk_put (cs := #[.int .i64 0, .int .i64 0]) ?_ 0 _ rfl; exact BK.out) Try.underlying24 rfl (by kernel_rfl)) rfl ?_
  exact ⟨rfl, below_set (below_set HB.out (by omega)) (by omega)⟩
def impl_variable.f (a0 a1 : Int) : Option (Int × Int) := if 0 ≤ a0 ∧ a0 ≤ 5 ∧ 0 ≤ a1 ∧ a1 ≤ 62 then some (a0, ((B.tabN (fun x => x.testBit a1.toNat) (2 ^ a0.toNat) : Nat) : Int)) else none
theorem impl_variable.calls (a0 a1 r1 r2 : Int) (w : World) (h : impl_variable.f a0 a1 = some (r1, r2)) :
    Calls Try.prog 58 #[.int .i64 a0, .int .i64 a1] w fun e w' => e = .returned (.agg #[.int .i64 r1, .int .i64 r2]) ∧ Below w.heap.size w w' := by
  unfold impl_variable.f at h
  split at h
  next hc =>
    obtain ⟨n, rfl⟩ := Int.eq_ofNat_of_zero_le hc.1
    obtain ⟨i, rfl⟩ := Int.eq_ofNat_of_zero_le hc.2.2.1
    simp only [Option.some.injEq, Prod.mk.injEq, Int.toNat_natCast] at h
    obtain ⟨rfl, rfl⟩ := h
    exact impl_variable.any n i (by omega) (by omega) w
  next => cases h

end Go.Proofs.Ytgcflignpeencaa.F
