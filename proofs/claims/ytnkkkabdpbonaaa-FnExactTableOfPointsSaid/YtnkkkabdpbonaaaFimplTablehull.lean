/- The walk of one Go function: a call of it ends as the Lean function of its name tells; the conditions are those of each theorem. -/
import Derived.Test.YtnkkkabdpbonaaaF0
import Derived.Test.YtnkkkabdpbonaaaFGa
import Derived.Test.YtnkkkabdpbonaaaFGa
import Derived.Test.YtnkkkabdpbonaaaFGa
import Derived.Test.YtnkkkabdpbonaaaBase
namespace Go.Proofs.Ytnkkkabdpbonaaa.F
open Go.RowKit Go.Proofs.YtnkkkabdpbonaaaW.PrintWords Go.Proofs.YtnkkkabdpbonaaaW.PrintLast Go.Proofs.YtnkkkabdpbonaaaW.PrintMore
attribute [local go_sem] max2_int min2_int max_two min_two max_three min_three max_four min_four   -- for this text's walks alone
set_option linter.unusedVariables false
set_option linter.unusedSimpArgs false

/-! ### impl_Table_hull: function 82 -/
theorem hull_size {n : Nat} (v : Int) (hn : n ≤ 5) : impl_Table_size.f n v = some ((2 ^ n : Nat) : Int) := by
  unfold impl_Table_size.f
  rw [if_pos (by omega), B.shl1_of (by omega)]
theorem hull_at {n : Int} {w x : Nat} (hw : w < 9223372036854775808) (hx : x ≤ 64) : impl_Table_at.f n w x = some ((B.bitN w x : Nat) : Int) := by
  unfold impl_Table_at.f
  rw [if_pos (by omega), B.bit_cast hw hx]
set_option maxHeartbeats 400000 in
set_option maxRecDepth 100000 in
theorem impl_Table_hull_1.any (n v x : Nat) (hn : n ≤ 5) (hv : v < 9223372036854775808) (hx : x < 32) (g1 : Nat) (W : World) (h1 : W.heap[g1]? = some (.cells #[.int .i64 n, .int .i64 v] 25 (0, 0))) :
    Gives Try.prog 109 #[.pointer (some ⟨g1, 0, none⟩)] #[.int .i64 x] (.bool (B.exN (fun y => B.ldiff y x == 0 && v.testBit y) (2 ^ n))) W := by
  show Calls Try.prog 109 #[.int .i64 x, .pointer (some ⟨g1, 0, none⟩)] W _
  have hu := Try.underlying25
  have A0 := Aside0.mk (hull_size (v : Int) hn)
  have hM32 := B.pow_le hn
  have HV := Aside0.mk hv
  generalize 2 ^ n = M at A0 hM32 ⊢
  have BK := Aside0.mk h1
  have hc0 : W.cell? ⟨g1, 0, none⟩ = some (.int .i64 n) := (blk_cell h1 0).trans rfl
  have hc1 : W.cell? ⟨g1, 1, none⟩ = some (.int .i64 v) := (blk_cell h1 1).trans rfl
  clear h1 hv hn
  go_enter Try.func109, Try.ntmps109
  go_wp2_with (go_at_call 84; refine (impl_Table_size.calls n v M _ A0.out).mono ?_; rintro e w' ⟨rfl, hb⟩; have BK' := Aside0.mk (blk_below BK.out hb); have HB := Aside0.mk hb; clear hb)
  clear hc0 hc1
  go_loopg [7] M (fun gg v7 wr => ∃ y : Nat, y ≤ M ∧ M - y ≤ gg ∧ v7 = .int .i64 y ∧ Aside0 (wr.heap[g1]? = some (.cells #[.int .i64 n, .int .i64 v] 25 (0, 0))) ∧ Aside0 (Below W.heap.size W wr) ∧ Aside0 (B.exN (fun y => B.ldiff y x == 0 && v.testBit y) y = false))
  case atStart => exact ⟨0, Nat.zero_le _, by omega, rfl, BK', HB, ⟨rfl⟩⟩
  case round =>
    clear BK' HB
    obtain ⟨y, hy, hg, rfl, BK, HB, HX⟩ := hrel
    by_cases hlt : y < M
    · have hltz : (y : Int) < (M : Int) := by omega
      have hc0 : wr.cell? ⟨g1, 0, none⟩ = some (.int .i64 n) := (blk_cell BK.out 0).trans rfl
      have hc1 : wr.cell? ⟨g1, 1, none⟩ = some (.int .i64 v) := (blk_cell BK.out 1).trans rfl
      have hxr : Go.bits .andNot .i64 (y : Int) (x : Int) = ((B.ldiff y x : Nat) : Int) := B.andNot_cast (by omega) (by omega)
      by_cases hz : B.ldiff y x = 0
      · rw [hz] at hxr
        have A1 := Aside0.mk (hull_at (n := (n : Int)) (x := y) HV.out (by omega))
        cases hq : v.testBit y with
        | true =>
          rw [show B.bitN v y = 1 from B.bitN_eq_one.mpr hq] at A1
          have HH : Aside0 (B.exN (fun y => B.ldiff y x == 0 && v.testBit y) M = true) := ⟨B.exN_hit hlt (by simp [hz, hq])⟩
          clear hq hz
          go_wp2_with (go_at_call 83; refine (impl_Table_at.calls n v y _ _ A1.out).mono ?_; rintro e w' ⟨rfl, hb⟩; have HB' := Aside0.mk (below_step HB.out hb); clear hb)
          go_ret
          rw [HH.out]
          exact ⟨rfl, HB'.out⟩
        | false =>
          rw [show B.bitN v y = 0 from B.bitN_eq_zero.mpr hq] at A1
          have HH : Aside0 (B.exN (fun y => B.ldiff y x == 0 && v.testBit y) (y + 1) = false) := ⟨B.exN_skip HX.out (by simp [hq])⟩
          clear hq hz
          go_wp2_with (go_at_call 83; refine (impl_Table_at.calls n v y _ _ A1.out).mono ?_; rintro e w' ⟨rfl, hb⟩; have BK' := Aside0.mk (blk_below BK.out hb); have HB' := Aside0.mk (below_step HB.out hb); clear hb)
          go_roundg (M - (y + 1))
          case measure => omega
          case rel => exact ⟨y + 1, by omega, by omega, by go_num, BK', HB', HH⟩
      · have HH : Aside0 (B.exN (fun y => B.ldiff y x == 0 && v.testBit y) (y + 1) = false) := ⟨B.exN_skip HX.out (by simp [hz])⟩
        have hz1 : (((B.ldiff y x : Nat) : Int) == 0) = false := by simpa using hz
        clear hz
        go_wp2
        go_roundg (M - (y + 1))
        case measure => omega
        case rel => exact ⟨y + 1, by omega, by omega, by go_num, BK, HB, HH⟩
    · have hltz : ¬ (y : Int) < (M : Int) := by omega
      obtain rfl : y = M := by omega
      go_wp2
      go_ret
      rw [HX.out]
      exact ⟨rfl, HB.out⟩
def impl_Table_hull.f (a0_0 a0_1 : Int) : Option (Int × Int) :=
  if 0 ≤ a0_0 ∧ a0_0 ≤ 5 ∧ 0 ≤ a0_1 ∧ a0_1 < 4294967296 then some (a0_0, ((B.tabN (fun x => B.exN (fun y => B.ldiff y x == 0 && a0_1.toNat.testBit y) (2 ^ a0_0.toNat)) (2 ^ a0_0.toNat) : Nat) : Int)) else none
set_option maxHeartbeats 400000 in
set_option maxRecDepth 100000 in
theorem impl_Table_hull.any (n v : Nat) (hn : n ≤ 5) (hv : v < 9223372036854775808) (w : World) :
    Calls Try.prog 82 #[.agg #[.int .i64 n, .int .i64 v]] w fun e w' => e = .returned (.agg #[.int .i64 n, .int .i64 (B.tabN (fun x => B.exN (fun y => B.ldiff y x == 0 && v.testBit y) (2 ^ n)) (2 ^ n) : Nat)]) ∧ Below w.heap.size w w' := by
  have hu := Try.underlying25
  have HN := Aside0.mk hn
  have HV := Aside0.mk hv
  clear hn hv
  have EG := Aside0.mk (enters_of Try.func109 (by kernel_rfl) rfl)
  go_enter Try.func82, Try.ntmps82
  go_wp2_with (go_at_call 108; refine (impl_makeTable.any n HN.out (fun x => B.exN (fun y => B.ldiff y x == 0 && v.testBit y) (2 ^ n)) 109 #[.pointer (some ⟨w.heap.size, 0, none⟩)] EG.out _ (fun W x hx hb => impl_Table_hull_1.any n v x HN.out HV.out (Nat.lt_of_lt_of_le hx (B.pow_le HN.out)) _ W (blk_below (blk_alloc (blk_new w _) _) hb))).mono ?_; rintro e w' ⟨rfl, hb⟩; have BK : Aside0 (w'.heap[w.heap.size + 1]? = some (.cells #[.int .i64 0, .int .i64 0] 25 (0, 0))) := ⟨by have h_ := blk_below (blk_new _ _) hb; simpa using h_⟩; have HB := Aside0.mk (below_step (below_alloc (below_alloc (Below.refl w.heap.size w) _) _) hb); clear hb; have hc0 : w'.cell? ⟨w.heap.size + 1, 0, none⟩ = some (.int .i64 0) := (blk_cell BK.out 0).trans rfl; have hc1 : w'.cell? ⟨w.heap.size + 1, 1, none⟩ = some (.int .i64 0) := (blk_cell BK.out 1).trans rfl; have hf0 : w'.frozen? ⟨w.heap.size + 1, 0, none⟩ = false := blk_frozen BK.out 0; have hf1 : w'.frozen? ⟨w.heap.size + 1, 1, none⟩ = false := blk_frozen BK.out 1)
  refine bodyPost_ret (results_cell_row rfl _ _ (w.heap.size + 1) 25 #[.int .i64 n, .int .i64 (B.tabN (fun x => B.exN (fun y => B.ldiff y x == 0 && v.testBit y) (2 ^ n)) (2 ^ n) : Nat)] (0, 0) _ rfl (by refine blk_put (cs := #[.int .i64 n, .int .i64 0]) ?_ 1 _ rfl; refine blk_put (cs := #[.int .i64 0, .int .i64 0]) ?_ 0 _ rfl; exact BK.out) Try.underlying25 rfl (by kernel_rfl)) rfl ?_
  exact ⟨rfl, below_set (below_set HB.out (by omega)) (by omega)⟩
theorem impl_Table_hull.calls (a0_0 a0_1 r1 r2 : Int) (w : World) (h : impl_Table_hull.f a0_0 a0_1 = some (r1, r2)) :
    Calls Try.prog 82 #[.agg #[.int .i64 a0_0, .int .i64 a0_1]] w fun e w' => e = .returned (.agg #[.int .i64 r1, .int .i64 r2]) ∧ Below w.heap.size w w' := by
  unfold impl_Table_hull.f at h
  split at h
  next hc =>
    obtain ⟨n, rfl⟩ := Int.eq_ofNat_of_zero_le hc.1
    obtain ⟨v, rfl⟩ := Int.eq_ofNat_of_zero_le hc.2.2.1
    simp only [Option.some.injEq, Prod.mk.injEq, Int.toNat_natCast] at h
    obtain ⟨rfl, rfl⟩ := h
    exact impl_Table_hull.any n v (by omega) (by omega) w
  next => cases h


end Go.Proofs.Ytnkkkabdpbonaaa.F
