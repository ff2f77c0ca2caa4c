/- The walk of one Go function: a call of it ends as the Lean function of its name tells; the conditions are those of each theorem. -/
import Derived.Test.YtnkkkabdpbonaaaF0
import Derived.Test.YtnkkkabdpbonaaaFimplBanzhafNumbers1
import Derived.Test.YtnkkkabdpbonaaaFimplTablepowers
namespace Go.Proofs.Ytnkkkabdpbonaaa.F
open Go.RowKit Go.Proofs.YtnkkkabdpbonaaaW.PrintWords Go.Proofs.YtnkkkabdpbonaaaW.PrintLast Go.Proofs.YtnkkkabdpbonaaaW.PrintMore
attribute [local go_sem] max2_int min2_int max_two min_two max_three min_three max_four min_four   -- for this text's walks alone
set_option linter.unusedVariables false
set_option linter.unusedSimpArgs false

/-! ### impl_BanzhafNumbers: function 69 -/
set_option maxHeartbeats 400000 in
theorem impl_BanzhafNumbers_1.any (x r : Int) (W : World) (h : impl_BanzhafNumbers_1.f x (-1) = some r) :
    Calls Try.prog 101 (#[.int .i64 x] ++ #[]) W fun e w' => e = .returned (.int .i64 r) ∧ Below W.heap.size W w' := by
  show Calls Try.prog 101 #[.int .i64 x] W _
  unfold impl_BanzhafNumbers_1.f at h
  rw [if_pos rfl] at h
  cases h
  go_enter Try.func101, Try.ntmps101
  go_wp2
  go_ret
  exact ⟨rfl, Below.refl _ _⟩
def impl_BanzhafNumbers.f (a0_0 a0_1 : Int) : Option (List Int) := impl_Table_powers.f 1000 a0_0 a0_1 (-1)
set_option maxHeartbeats 400000 in
set_option maxRecDepth 100000 in
theorem impl_BanzhafNumbers.calls (a0_0 : Int) (a0_1 : Int) (r : List Int) (w : World) (h : impl_BanzhafNumbers.f a0_0 a0_1 = some r) :
    Calls Try.prog 69 #[.agg #[.int .i64 a0_0, .int .i64 a0_1]] w fun e w' => ∃ v0_ : Value, e = .returned (v0_) ∧ Kd.R (Kd.int .i64) 3 w' w.heap.size (fun _ => True) v0_ r ∧ Below w.heap.size w w' := by
  have hu := Try.underlying25
  have hc0 : (w.alloc (.cells #[.int .i64 a0_0, .int .i64 a0_1] 25 (0, 0))).cell? ⟨w.heap.size, 0, none⟩ = some (.int .i64 a0_0) := (blk_cell (blk_new _ _) 0).trans rfl
  have hc1 : (w.alloc (.cells #[.int .i64 a0_0, .int .i64 a0_1] 25 (0, 0))).cell? ⟨w.heap.size, 1, none⟩ = some (.int .i64 a0_1) := (blk_cell (blk_new _ _) 1).trans rfl
  have HB := below_alloc (Below.refl w.heap.size w) (.cells #[.int .i64 a0_0, .int .i64 a0_1] 25 (0, 0))
  have eg := enters_of Try.func101 (by kernel_rfl) rfl
  have EG := Aside0.mk eg
  clear eg
  have H := Aside0.mk h
  clear h
  go_enter Try.func69, Try.ntmps69
  go_wp2_with (go_at_call 100; refine (impl_Table_powers.any 1000 a0_0 a0_1 (-1) r _ 101 #[] EG.out (fun W x r_ _ hr => impl_BanzhafNumbers_1.any x r_ W hr) H.out).mono ?_; rintro e w' ⟨v, rfl, ho, hb⟩)
  go_ret
  exact ⟨v, rfl, Kd.R_lower ho HB.size, below_step HB hb⟩

end Go.Proofs.Ytnkkkabdpbonaaa.F
