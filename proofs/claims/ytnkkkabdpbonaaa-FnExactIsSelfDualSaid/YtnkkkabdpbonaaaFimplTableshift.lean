/- The walk of one Go function: a call of it ends as the Lean function of its name tells; the conditions are those of each theorem. -/
import Derived.Test.YtnkkkabdpbonaaaF0
import Derived.Test.YtnkkkabdpbonaaaBase
import Derived.Test.YtnkkkabdpbonaaaFimplTableat
import Derived.Test.YtnkkkabdpbonaaaFimplmakeTable
namespace Go.Proofs.Ytnkkkabdpbonaaa.F
open Go.RowKit Go.Proofs.YtnkkkabdpbonaaaW.PrintWords Go.Proofs.YtnkkkabdpbonaaaW.PrintLast Go.Proofs.YtnkkkabdpbonaaaW.PrintMore
attribute [local go_sem] max2_int min2_int max_two min_two max_three min_three max_four min_four   -- for this text's walks alone
set_option linter.unusedVariables false
set_option linter.unusedSimpArgs false

/-! ### impl_Table_shift: function 87 -/
/-- A table's value at an input. -/
theorem at_some {n w x : Nat} (hw : w < 9223372036854775808) (hx : x ≤ 64) : impl_Table_at.f n w x = some ((B.bitN w x : Nat) : Int) := by
  unfold impl_Table_at.f
  rw [if_pos (by omega), B.bit_cast hw hx]
set_option maxHeartbeats 400000 in
theorem impl_Table_shift_1.any (n w s x : Nat) (hw : w < 9223372036854775808) (hs : s < 32) (hx : x < 32) (g1 g2 : Nat) (W : World) (h1 : W.heap[g1]? = some (.cells #[.int .i64 n, .int .i64 w] 25 (0, 0))) (h2 : W.heap[g2]? = some (.cells #[.int .i64 s] 3 (0, 0))) :
    Gives Try.prog 113 #[.pointer (some ⟨g1, 0, none⟩), .pointer (some ⟨g2, 0, none⟩)] #[.int .i64 x] (.bool (w.testBit (x ^^^ s))) W := by
  show Calls Try.prog 113 #[.int .i64 x, .pointer (some ⟨g1, 0, none⟩), .pointer (some ⟨g2, 0, none⟩)] W _
  have hu := Try.underlying25
  have hc0 : W.cell? ⟨g1, 0, none⟩ = some (.int .i64 n) := (blk_cell h1 0).trans rfl
  have hc1 : W.cell? ⟨g1, 1, none⟩ = some (.int .i64 w) := (blk_cell h1 1).trans rfl
  have hd0 : W.cell? ⟨g2, 0, none⟩ = some (.int .i64 s) := (blk_cell h2 0).trans rfl
  have hxr : Go.bits .xor .i64 (x : Int) (s : Int) = ((x ^^^ s : Nat) : Int) := B.xor_cast (by omega) (by omega)
  have hlt : x ^^^ s < 32 := Nat.xor_lt_two_pow (n := 5) hx hs
  generalize x ^^^ s = y at hxr hlt
  have A := Aside0.mk (at_some (n := n) hw (show y ≤ 64 by omega))
  have hq : (((B.bitN w y : Nat) : Int) == 1) = w.testBit y := by unfold B.bitN; cases w.testBit y <;> rfl
  clear h1 h2 hs hx hw hlt
  go_enter Try.func113, Try.ntmps113
  go_wp2_with (go_at_call 83; refine (impl_Table_at.calls n w y _ _ A.out).mono ?_; rintro e w' ⟨rfl, hb⟩)
  go_ret
  exact ⟨rfl, hb⟩
def impl_Table_shift.f (a0_0 a0_1 a1 : Int) : Option (Int × Int) :=
  if 0 ≤ a0_0 ∧ a0_0 ≤ 5 ∧ 0 ≤ a0_1 ∧ a0_1 < 4294967296 ∧ 0 ≤ a1 ∧ a1 < 32 then some (a0_0, ((B.tabN (fun x => a0_1.toNat.testBit (x ^^^ a1.toNat)) (2 ^ a0_0.toNat) : Nat) : Int)) else none
set_option maxHeartbeats 400000 in
theorem impl_Table_shift.any (n v s : Nat) (hn : n ≤ 5) (hv : v < 9223372036854775808) (hs : s < 32) (w : World) :
    Calls Try.prog 87 #[.agg #[.int .i64 n, .int .i64 v], .int .i64 s] w fun e w' => e = .returned (.agg #[.int .i64 n, .int .i64 (B.tabN (fun x => v.testBit (x ^^^ s)) (2 ^ n) : Nat)]) ∧ Below w.heap.size w w' := by
  have hu := Try.underlying25
  have HN := Aside0.mk hn
  have HV := Aside0.mk hv
  have HS := Aside0.mk hs
  clear hn hv hs
  have eg := enters_of Try.func113 (by kernel_rfl) rfl
  have EG := Aside0.mk eg
  clear eg
  go_enter Try.func87, Try.ntmps87
  go_wp2_with (go_at_call 108; refine (impl_makeTable.any n HN.out (fun x => v.testBit (x ^^^ s)) 113 #[.pointer (some ⟨w.heap.size, 0, none⟩), .pointer (some ⟨w.heap.size + 1, 0, none⟩)] EG.out _ (fun W x hx hb => impl_Table_shift_1.any n v s x HV.out HS.out (Nat.lt_of_lt_of_le hx (B.pow_le HN.out)) _ _ W (blk_below (blk_alloc (blk_alloc (blk_new w _) _) _) hb) (blk_below (blk_alloc (by simpa using blk_new (w.alloc (.cells #[.int .i64 n, .int .i64 v] 25)) (.cells #[.int .i64 s] 3)) _) hb))).mono ?_; rintro e w' ⟨rfl, hb⟩; have BK : Aside0 (w'.heap[w.heap.size + 1 + 1]? = some (.cells #[.int .i64 0, .int .i64 0] 25 (0, 0))) := ⟨by have h_ := blk_below (blk_new _ _) hb; simpa using h_⟩; have HB := Aside0.mk (below_step (below_alloc (below_alloc (below_alloc (Below.refl w.heap.size w) _) _) _) hb); clear hb; have hc0 : w'.cell? ⟨w.heap.size + 1 + 1, 0, none⟩ = some (.int .i64 0) := (blk_cell BK.out 0).trans rfl; have hc1 : w'.cell? ⟨w.heap.size + 1 + 1, 1, none⟩ = some (.int .i64 0) := (blk_cell BK.out 1).trans rfl; have hf0 : w'.frozen? ⟨w.heap.size + 1 + 1, 0, none⟩ = false := blk_frozen BK.out 0; have hf1 : w'.frozen? ⟨w.heap.size + 1 + 1, 1, none⟩ = false := blk_frozen BK.out 1)
  refine bodyPost_ret (results_cell_row rfl _ _ (w.heap.size + 1 + 1) 25 #[.int .i64 n, .int .i64 (B.tabN (fun x => v.testBit (x ^^^ s)) (2 ^ n) : Nat)] (0, 0) _ rfl (by refine blk_put (cs := #[.int .i64 n, .int .i64 0]) ?_ 1 _ rfl; refine blk_put (cs := #[.int .i64 0, .int .i64 0]) ?_ 0 _ rfl; exact BK.out) Try.underlying25 rfl (by kernel_rfl)) rfl ?_
  exact ⟨rfl, below_set (below_set HB.out (by omega)) (by omega)⟩
theorem impl_Table_shift.calls (a0_0 a0_1 a1 r1 r2 : Int) (w : World) (h : impl_Table_shift.f a0_0 a0_1 a1 = some (r1, r2)) :
    Calls Try.prog 87 #[.agg #[.int .i64 a0_0, .int .i64 a0_1], .int .i64 a1] w fun e w' => e = .returned (.agg #[.int .i64 r1, .int .i64 r2]) ∧ Below w.heap.size w w' := by
  unfold impl_Table_shift.f at h
  split at h
  next hc =>
    obtain ⟨n, rfl⟩ := Int.eq_ofNat_of_zero_le hc.1
    obtain ⟨v, rfl⟩ := Int.eq_ofNat_of_zero_le hc.2.2.1
    obtain ⟨s, rfl⟩ := Int.eq_ofNat_of_zero_le hc.2.2.2.2.1
    simp only [Option.some.injEq, Prod.mk.injEq, Int.toNat_natCast] at h
    obtain ⟨rfl, rfl⟩ := h
    exact impl_Table_shift.any n v s (by omega) (by omega) (by omega) w
  next => cases h


end Go.Proofs.Ytnkkkabdpbonaaa.F
