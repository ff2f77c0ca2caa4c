/- The walk of one Go function: a call of it ends as the Lean function of its name tells; the conditions are those of each theorem. -/
import Derived.Test.YtnkkkabdpbonaaaF0
import Derived.Test.YtnkkkabdpbonaaaFspecl1In
namespace Go.Proofs.Ytnkkkabdpbonaaa.F
open Go.RowKit Go.Proofs.YtnkkkabdpbonaaaW.PrintWords Go.Proofs.YtnkkkabdpbonaaaW.PrintLast Go.Proofs.YtnkkkabdpbonaaaW.PrintMore
attribute [local go_sem] max2_int min2_int max_two min_two max_three min_three max_four min_four   -- for this text's walks alone
set_option linter.unusedVariables false
set_option linter.unusedSimpArgs false

/-! ### spec_IsTable: function 74 -/
def spec_IsTable.f (a0_0 : Int) (a0_1 : Int) : Option (Bool) := some (decide (0 ≤ a0_0 ∧ a0_0 ≤ 5 ∧ 0 ≤ a0_1 ∧ a0_1 < 2 ^ 2 ^ a0_0.toNat))
theorem l1In_some (a b c : Int) (r : Bool) (h : decide (b ≤ a ∧ a ≤ c) = r) : spec_l1In.f a b c = some r := by
  subst h
  unfold spec_l1In.f
  by_cases h1 : a ≥ b
  · rw [if_pos h1]; congr 1; apply Bool.eq_iff_iff.mpr; simp [h1]
  · rw [if_neg h1]; congr 1; symm; apply decide_eq_false; omega
set_option maxHeartbeats 400000 in
set_option maxRecDepth 100000 in
theorem spec_IsTable.calls0 (a0_1 : Int) (r : Bool) (w : World) (h0 : spec_l1In.f 0 0 5 = some true) (h1 : spec_l1In.f a0_1 0 1 = some r) :
    Calls Try.prog 74 #[.agg #[.int .i64 0, .int .i64 a0_1]] w fun e w' => e = .returned (.bool r) ∧ Below w.heap.size w w' := by
  have hu := Try.underlying25
  have A0 := Aside0.mk h0
  have A1 := Aside0.mk h1
  clear h0 h1
  go_enter Try.func74, Try.ntmps74
  go_wp2
  go_quiet ((first | (go_at_call 75; (with_reducible refine (spec_l1In.calls 0 0 5 true _ A0.out).mono ?_); rintro e w' ⟨rfl, ⟨nd, rfl⟩⟩; (try first | exact ⟨rfl, _, World.drewN_drewN _ _ _⟩ | exact ⟨rfl, _, Eq.trans (World.drewN_drewN _ _ _) (congrArg (World.drewN _) (Nat.add_assoc _ _ _))⟩)) | (go_at_call 75; (with_reducible refine (spec_l1In.calls a0_1 0 1 r _ A1.out).mono ?_); rintro e w' ⟨rfl, ⟨nd, rfl⟩⟩; (try first | exact ⟨rfl, _, World.drewN_drewN _ _ _⟩ | exact ⟨rfl, _, Eq.trans (World.drewN_drewN _ _ _) (congrArg (World.drewN _) (Nat.add_assoc _ _ _))⟩))))
  go_wp2
  go_ret
  exact ⟨rfl, by repeat (first | (with_reducible first | exact Below.refl _ _ | apply below_alloc | apply pw_below_drewN | apply below_drew1) | exact Below.refl _ _)⟩
set_option maxHeartbeats 400000 in
set_option maxRecDepth 100000 in
theorem spec_IsTable.calls1 (a0_1 : Int) (r : Bool) (w : World) (h0 : spec_l1In.f 1 0 5 = some true) (h1 : spec_l1In.f a0_1 0 3 = some r) :
    Calls Try.prog 74 #[.agg #[.int .i64 1, .int .i64 a0_1]] w fun e w' => e = .returned (.bool r) ∧ Below w.heap.size w w' := by
  have hu := Try.underlying25
  have A0 := Aside0.mk h0
  have A1 := Aside0.mk h1
  clear h0 h1
  go_enter Try.func74, Try.ntmps74
  go_wp2
  go_quiet ((first | (go_at_call 75; (with_reducible refine (spec_l1In.calls 1 0 5 true _ A0.out).mono ?_); rintro e w' ⟨rfl, ⟨nd, rfl⟩⟩; (try first | exact ⟨rfl, _, World.drewN_drewN _ _ _⟩ | exact ⟨rfl, _, Eq.trans (World.drewN_drewN _ _ _) (congrArg (World.drewN _) (Nat.add_assoc _ _ _))⟩)) | (go_at_call 75; (with_reducible refine (spec_l1In.calls a0_1 0 3 r _ A1.out).mono ?_); rintro e w' ⟨rfl, ⟨nd, rfl⟩⟩; (try first | exact ⟨rfl, _, World.drewN_drewN _ _ _⟩ | exact ⟨rfl, _, Eq.trans (World.drewN_drewN _ _ _) (congrArg (World.drewN _) (Nat.add_assoc _ _ _))⟩))))
  go_wp2
  go_ret
  exact ⟨rfl, by repeat (first | (with_reducible first | exact Below.refl _ _ | apply below_alloc | apply pw_below_drewN | apply below_drew1) | exact Below.refl _ _)⟩
set_option maxHeartbeats 400000 in
set_option maxRecDepth 100000 in
theorem spec_IsTable.calls2 (a0_1 : Int) (r : Bool) (w : World) (h0 : spec_l1In.f 2 0 5 = some true) (h1 : spec_l1In.f a0_1 0 15 = some r) :
    Calls Try.prog 74 #[.agg #[.int .i64 2, .int .i64 a0_1]] w fun e w' => e = .returned (.bool r) ∧ Below w.heap.size w w' := by
  have hu := Try.underlying25
  have A0 := Aside0.mk h0
  have A1 := Aside0.mk h1
  clear h0 h1
  go_enter Try.func74, Try.ntmps74
  go_wp2
  go_quiet ((first | (go_at_call 75; (with_reducible refine (spec_l1In.calls 2 0 5 true _ A0.out).mono ?_); rintro e w' ⟨rfl, ⟨nd, rfl⟩⟩; (try first | exact ⟨rfl, _, World.drewN_drewN _ _ _⟩ | exact ⟨rfl, _, Eq.trans (World.drewN_drewN _ _ _) (congrArg (World.drewN _) (Nat.add_assoc _ _ _))⟩)) | (go_at_call 75; (with_reducible refine (spec_l1In.calls a0_1 0 15 r _ A1.out).mono ?_); rintro e w' ⟨rfl, ⟨nd, rfl⟩⟩; (try first | exact ⟨rfl, _, World.drewN_drewN _ _ _⟩ | exact ⟨rfl, _, Eq.trans (World.drewN_drewN _ _ _) (congrArg (World.drewN _) (Nat.add_assoc _ _ _))⟩))))
  go_wp2
  go_ret
  exact ⟨rfl, by repeat (first | (with_reducible first | exact Below.refl _ _ | apply below_alloc | apply pw_below_drewN | apply below_drew1) | exact Below.refl _ _)⟩
set_option maxHeartbeats 400000 in
set_option maxRecDepth 100000 in
theorem spec_IsTable.calls3 (a0_1 : Int) (r : Bool) (w : World) (h0 : spec_l1In.f 3 0 5 = some true) (h1 : spec_l1In.f a0_1 0 255 = some r) :
    Calls Try.prog 74 #[.agg #[.int .i64 3, .int .i64 a0_1]] w fun e w' => e = .returned (.bool r) ∧ Below w.heap.size w w' := by
  have hu := Try.underlying25
  have A0 := Aside0.mk h0
  have A1 := Aside0.mk h1
  clear h0 h1
  go_enter Try.func74, Try.ntmps74
  go_wp2
  go_quiet ((first | (go_at_call 75; (with_reducible refine (spec_l1In.calls 3 0 5 true _ A0.out).mono ?_); rintro e w' ⟨rfl, ⟨nd, rfl⟩⟩; (try first | exact ⟨rfl, _, World.drewN_drewN _ _ _⟩ | exact ⟨rfl, _, Eq.trans (World.drewN_drewN _ _ _) (congrArg (World.drewN _) (Nat.add_assoc _ _ _))⟩)) | (go_at_call 75; (with_reducible refine (spec_l1In.calls a0_1 0 255 r _ A1.out).mono ?_); rintro e w' ⟨rfl, ⟨nd, rfl⟩⟩; (try first | exact ⟨rfl, _, World.drewN_drewN _ _ _⟩ | exact ⟨rfl, _, Eq.trans (World.drewN_drewN _ _ _) (congrArg (World.drewN _) (Nat.add_assoc _ _ _))⟩))))
  go_wp2
  go_ret
  exact ⟨rfl, by repeat (first | (with_reducible first | exact Below.refl _ _ | apply below_alloc | apply pw_below_drewN | apply below_drew1) | exact Below.refl _ _)⟩
set_option maxHeartbeats 400000 in
set_option maxRecDepth 100000 in
theorem spec_IsTable.calls4 (a0_1 : Int) (r : Bool) (w : World) (h0 : spec_l1In.f 4 0 5 = some true) (h1 : spec_l1In.f a0_1 0 65535 = some r) :
    Calls Try.prog 74 #[.agg #[.int .i64 4, .int .i64 a0_1]] w fun e w' => e = .returned (.bool r) ∧ Below w.heap.size w w' := by
  have hu := Try.underlying25
  have A0 := Aside0.mk h0
  have A1 := Aside0.mk h1
  clear h0 h1
  go_enter Try.func74, Try.ntmps74
  go_wp2
  go_quiet ((first | (go_at_call 75; (with_reducible refine (spec_l1In.calls 4 0 5 true _ A0.out).mono ?_); rintro e w' ⟨rfl, ⟨nd, rfl⟩⟩; (try first | exact ⟨rfl, _, World.drewN_drewN _ _ _⟩ | exact ⟨rfl, _, Eq.trans (World.drewN_drewN _ _ _) (congrArg (World.drewN _) (Nat.add_assoc _ _ _))⟩)) | (go_at_call 75; (with_reducible refine (spec_l1In.calls a0_1 0 65535 r _ A1.out).mono ?_); rintro e w' ⟨rfl, ⟨nd, rfl⟩⟩; (try first | exact ⟨rfl, _, World.drewN_drewN _ _ _⟩ | exact ⟨rfl, _, Eq.trans (World.drewN_drewN _ _ _) (congrArg (World.drewN _) (Nat.add_assoc _ _ _))⟩))))
  go_wp2
  go_ret
  exact ⟨rfl, by repeat (first | (with_reducible first | exact Below.refl _ _ | apply below_alloc | apply pw_below_drewN | apply below_drew1) | exact Below.refl _ _)⟩
set_option maxHeartbeats 400000 in
set_option maxRecDepth 100000 in
theorem spec_IsTable.calls5 (a0_1 : Int) (r : Bool) (w : World) (h0 : spec_l1In.f 5 0 5 = some true) (h1 : spec_l1In.f a0_1 0 4294967295 = some r) :
    Calls Try.prog 74 #[.agg #[.int .i64 5, .int .i64 a0_1]] w fun e w' => e = .returned (.bool r) ∧ Below w.heap.size w w' := by
  have hu := Try.underlying25
  have A0 := Aside0.mk h0
  have A1 := Aside0.mk h1
  clear h0 h1
  go_enter Try.func74, Try.ntmps74
  go_wp2
  go_quiet ((first | (go_at_call 75; (with_reducible refine (spec_l1In.calls 5 0 5 true _ A0.out).mono ?_); rintro e w' ⟨rfl, ⟨nd, rfl⟩⟩; (try first | exact ⟨rfl, _, World.drewN_drewN _ _ _⟩ | exact ⟨rfl, _, Eq.trans (World.drewN_drewN _ _ _) (congrArg (World.drewN _) (Nat.add_assoc _ _ _))⟩)) | (go_at_call 75; (with_reducible refine (spec_l1In.calls a0_1 0 4294967295 r _ A1.out).mono ?_); rintro e w' ⟨rfl, ⟨nd, rfl⟩⟩; (try first | exact ⟨rfl, _, World.drewN_drewN _ _ _⟩ | exact ⟨rfl, _, Eq.trans (World.drewN_drewN _ _ _) (congrArg (World.drewN _) (Nat.add_assoc _ _ _))⟩))))
  go_wp2
  go_ret
  exact ⟨rfl, by repeat (first | (with_reducible first | exact Below.refl _ _ | apply below_alloc | apply pw_below_drewN | apply below_drew1) | exact Below.refl _ _)⟩
set_option maxHeartbeats 400000 in
set_option maxRecDepth 100000 in
theorem spec_IsTable.callsno (a0_0 a0_1 : Int) (w : World) (h0 : spec_l1In.f a0_0 0 5 = some false) :
    Calls Try.prog 74 #[.agg #[.int .i64 a0_0, .int .i64 a0_1]] w fun e w' => e = .returned (.bool false) ∧ Below w.heap.size w w' := by
  have hu := Try.underlying25
  have A0 := Aside0.mk h0
  clear h0
  go_enter Try.func74, Try.ntmps74
  go_wp2
  go_quiet ((go_at_call 75; (with_reducible refine (spec_l1In.calls a0_0 0 5 false _ A0.out).mono ?_); rintro e w' ⟨rfl, ⟨nd, rfl⟩⟩; (try first | exact ⟨rfl, _, World.drewN_drewN _ _ _⟩ | exact ⟨rfl, _, Eq.trans (World.drewN_drewN _ _ _) (congrArg (World.drewN _) (Nat.add_assoc _ _ _))⟩)))
  go_wp2
  go_ret
  exact ⟨rfl, by repeat (first | (with_reducible first | exact Below.refl _ _ | apply below_alloc | apply pw_below_drewN | apply below_drew1) | exact Below.refl _ _)⟩
theorem spec_IsTable.calls (a0_0 : Int) (a0_1 : Int) (r : Bool) (w : World) (h : spec_IsTable.f a0_0 a0_1 = some r) :
    Calls Try.prog 74 #[.agg #[.int .i64 a0_0, .int .i64 a0_1]] w fun e w' => e = .returned (.bool r) ∧ Below w.heap.size w w' := by
  obtain rfl := Option.some.inj h
  clear h
  by_cases h1 : 0 ≤ a0_0 ∧ a0_0 ≤ 5
  · rcases (show a0_0 = 0 ∨ a0_0 = 1 ∨ a0_0 = 2 ∨ a0_0 = 3 ∨ a0_0 = 4 ∨ a0_0 = 5 by omega) with rfl | rfl | rfl | rfl | rfl | rfl
    · exact spec_IsTable.calls0 a0_1 _ w (l1In_some _ _ _ _ rfl) (l1In_some _ _ _ _ (decide_eq_decide.mpr (by rw [show (2 : Int) ^ 2 ^ Int.toNat 0 = 2 from by decide]; omega)))
    · exact spec_IsTable.calls1 a0_1 _ w (l1In_some _ _ _ _ rfl) (l1In_some _ _ _ _ (decide_eq_decide.mpr (by rw [show (2 : Int) ^ 2 ^ Int.toNat 1 = 4 from by decide]; omega)))
    · exact spec_IsTable.calls2 a0_1 _ w (l1In_some _ _ _ _ rfl) (l1In_some _ _ _ _ (decide_eq_decide.mpr (by rw [show (2 : Int) ^ 2 ^ Int.toNat 2 = 16 from by decide]; omega)))
    · exact spec_IsTable.calls3 a0_1 _ w (l1In_some _ _ _ _ rfl) (l1In_some _ _ _ _ (decide_eq_decide.mpr (by rw [show (2 : Int) ^ 2 ^ Int.toNat 3 = 256 from by decide]; omega)))
    · exact spec_IsTable.calls4 a0_1 _ w (l1In_some _ _ _ _ rfl) (l1In_some _ _ _ _ (decide_eq_decide.mpr (by rw [show (2 : Int) ^ 2 ^ Int.toNat 4 = 65536 from by decide]; omega)))
    · exact spec_IsTable.calls5 a0_1 _ w (l1In_some _ _ _ _ rfl) (l1In_some _ _ _ _ (decide_eq_decide.mpr (by rw [show (2 : Int) ^ 2 ^ Int.toNat 5 = 4294967296 from by decide]; omega)))
  · rw [show decide (0 ≤ a0_0 ∧ a0_0 ≤ 5 ∧ 0 ≤ a0_1 ∧ a0_1 < 2 ^ 2 ^ a0_0.toNat) = false from decide_eq_false (fun h => h1 ⟨h.1, h.2.1⟩)]
    exact spec_IsTable.callsno a0_0 a0_1 w (l1In_some _ _ _ _ (decide_eq_false h1))

end Go.Proofs.Ytnkkkabdpbonaaa.F
