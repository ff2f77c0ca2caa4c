/- The walk of one Go function: a call of it ends as the Lean function of its name tells; the conditions are those of each theorem. -/
import Derived.Test.YtnkkkabdpbonaaaF0
import Derived.Test.YtnkkkabdpbonaaaFGc
import Derived.Test.YtnkkkabdpbonaaaFimplfactorial
import Derived.Test.YtnkkkabdpbonaaaFimplBanzhafNumbers1
import Derived.Test.YtnkkkabdpbonaaaFimplTablepowers
namespace Go.Proofs.Ytnkkkabdpbonaaa.F
open Go.RowKit Go.Proofs.YtnkkkabdpbonaaaW.PrintWords Go.Proofs.YtnkkkabdpbonaaaW.PrintLast Go.Proofs.YtnkkkabdpbonaaaW.PrintMore
attribute [local go_sem] max2_int min2_int max_two min_two max_three min_three max_four min_four   -- for this text's walks alone
set_option linter.unusedVariables false
set_option linter.unusedSimpArgs false

/-! ### impl_ShapleyNumbers: function 71 -/
set_option maxHeartbeats 400000 in
set_option maxRecDepth 100000 in
theorem impl_ShapleyNumbers_1.any (n v x r : Int) (hn : 0 ≤ n) (g1 : Nat) (w : World) (h1 : w.heap[g1]? = some (.cells #[.int .i64 n, .int .i64 v] 25 (0, 0))) (h : impl_BanzhafNumbers_1.f x n = some r) :
    Calls Try.prog 103 (#[.int .i64 x] ++ #[.pointer (some ⟨g1, 0, none⟩)]) w fun e w' => e = .returned (.int .i64 r) ∧ Below w.heap.size w w' := by
  show Calls Try.prog 103 #[.int .i64 x, .pointer (some ⟨g1, 0, none⟩)] w _
  have hu := Try.underlying25
  unfold impl_BanzhafNumbers_1.f at h
  rw [if_neg (by omega), if_neg (by omega)] at h
  obtain ⟨t, ht, h⟩ := Option.bind_eq_some_iff.mp h
  obtain ⟨u, hu', h⟩ := Option.bind_eq_some_iff.mp h
  cases h
  have HT := Aside0.mk ht
  have HU := Aside0.mk hu'
  clear ht hu' hn
  have C0 : Aside0 (w.cell? ⟨g1, 0, none⟩ = some (.int .i64 n)) := ⟨(blk_cell h1 0).trans rfl⟩
  have HB := Aside0.mk (Below.refl w.heap.size w)
  clear h1
  go_enter Try.func103, Try.ntmps103
  go_wp2
  have n0_ : Aside0 (w.drew.cell? ⟨g1, 0, none⟩ = some (.int .i64 n)) := C0
  clear C0
  have C0 := n0_
  clear n0_
  have n_ := Aside0.mk (below_drew1 HB.out)
  clear HB
  have HB := n_
  clear n_
  refine start_ (n := 10) (S := (fun w_ => w_.cell? ⟨g1, 0, none⟩ = some (.int .i64 n))) (ds := []) #[false, false, false, false, false, false, false, false, false, false] (by kernel_rfl) rfl rfl C0.out (fun hHeld => ?_)
  generalize w.drew = W0_ at C0 HB hHeld ⊢
  refine pure_ (i := 0) (N := some 4) (v := ?_) (a' := ?_) #[true, false, false, false, false, false, false, false, false, false] rfl rfl (by kernel_rfl) (fun _ _ _ h => h) (Or.inl ⟨by rfl, ?_⟩) ?_ ?_
  rotate_left
  · intro w'
    go_simp
    with_reducible rfl
  rotate_left
  · simp only [Act.put, List.setIfInBounds_toArray, List.set_cons_zero, List.set_cons_succ, i64_w, i32_w]
    rfl
  refine pure_ (i := 2) (N := some 6) (v := ?_) (a' := ?_) #[true, false, true, false, false, false, false, false, false, false] rfl rfl (by kernel_rfl) (fun _ _ _ h => h) (Or.inl ⟨by rfl, ?_⟩) ?_ ?_
  rotate_left
  · intro w'
    go_simp
    with_reducible rfl
  rotate_left
  · simp only [Act.put, List.setIfInBounds_toArray, List.set_cons_zero, List.set_cons_succ, i64_w, i32_w]
    rfl
  refine take_ (i := 3) (N := some 7) (v := ?_) (a' := ?_) #[true, false, true, true, false, false, false, false, false, false] rfl rfl (by kernel_rfl) (fun _ _ _ h => h) (Or.inl ⟨by rfl, ?_⟩) hHeld ?_ ?_
  rotate_left
  · rintro w' s0
    go_simp
    with_reducible rfl
  rotate_left
  · simp only [Act.put, List.setIfInBounds_toArray, List.set_cons_zero, List.set_cons_succ, i64_w, i32_w]
    rfl
  refine pure_ (i := 4) (N := some 8) (v := ?_) (a' := ?_) #[true, false, true, true, true, false, false, false, false, false] rfl rfl (by kernel_rfl) (fun _ _ _ h => h) (Or.inl ⟨by rfl, ?_⟩) ?_ ?_
  rotate_left
  · intro w'
    go_simp
    with_reducible rfl
  rotate_left
  · simp only [Act.put, List.setIfInBounds_toArray, List.set_cons_zero, List.set_cons_succ, i64_w, i32_w]
    rfl
  refine pure_ (i := 5) (N := some 9) (v := ?_) (a' := ?_) #[true, false, true, true, true, true, false, false, false, false] rfl rfl (by kernel_rfl) (fun _ _ _ h => h) (Or.inl ⟨by rfl, ?_⟩) ?_ ?_
  rotate_left
  · intro w'
    go_simp
    with_reducible rfl
  rotate_left
  · simp only [Act.put, List.setIfInBounds_toArray, List.set_cons_zero, List.set_cons_succ, i64_w, i32_w]
    rfl
  refine pure_ (i := 6) (N := some 10) (v := ?_) (a' := ?_) #[true, false, true, true, true, true, true, false, false, false] rfl rfl (by kernel_rfl) (fun _ _ _ h => h) (Or.inl ⟨by rfl, ?_⟩) ?_ ?_
  rotate_left
  · intro w'
    go_simp
    with_reducible rfl
  rotate_left
  · simp only [Act.put, List.setIfInBounds_toArray, List.set_cons_zero, List.set_cons_succ, i64_w, i32_w]
    rfl
  refine one_ (i := 1) (N := some 5) #[true, true, true, true, true, true, true, false, false, false] rfl rfl (by kernel_rfl) (by decide) (fun K hK => ?_)
  refine goes_ Try.func104 (by kernel_rfl) rfl #[.int .i64 x] (by rfl) rfl rfl (by (try simp only [List.map_toArray, List.map_cons, List.map_nil]); first | done | rfl | (simp only [List.length_drop, List.length_take]; rfl)) ?_
  with_reducible refine (impl_factorial.calls 100 x t _ HT.out).mono ?_
  rintro e W1_ ⟨rfl, hd_⟩
  have hb := hd_.below
  clear hd_
  refine ⟨_, rfl, ?_⟩
  have n0_ : Aside0 (W1_.cell? ⟨g1, 0, none⟩ = some (.int .i64 n)) := ⟨pw_cell_below hb C0.out⟩
  clear C0
  have C0 := n0_
  clear n0_
  have n_ := Aside0.mk (below_step HB.out hb)
  clear HB hb
  have HB := n_
  clear n_
  refine hK.out _ _ C0.out (fun hHeld => ?_)
  clear hK K
  refine norm_ (a' := ?_) ?_ ?_
  rotate_left
  · show Act.put _ (some 5) _ = _
    simp only [Act.put, List.setIfInBounds_toArray, List.set_cons_zero, List.set_cons_succ, i64_w, i32_w]
    rfl
  refine one_ (i := 7) (N := some 11) #[true, true, true, true, true, true, true, true, false, false] rfl rfl (by kernel_rfl) (by decide) (fun K hK => ?_)
  refine goes_ Try.func104 (by kernel_rfl) rfl #[.int .i64 (wrap64 (wrap64 (n - 1) - x))] (by rfl) rfl rfl (by (try simp only [List.map_toArray, List.map_cons, List.map_nil]); first | done | rfl | (simp only [List.length_drop, List.length_take]; rfl)) ?_
  with_reducible refine (impl_factorial.calls 100 (wrap64 (wrap64 (n - 1) - x)) u _ HU.out).mono ?_
  rintro e W2_ ⟨rfl, hd_⟩
  have hb := hd_.below
  clear hd_
  refine ⟨_, rfl, ?_⟩
  have n0_ : Aside0 (W2_.cell? ⟨g1, 0, none⟩ = some (.int .i64 n)) := ⟨pw_cell_below hb C0.out⟩
  clear C0
  have C0 := n0_
  clear n0_
  have n_ := Aside0.mk (below_step HB.out hb)
  clear HB hb
  have HB := n_
  clear n_
  refine hK.out _ _ C0.out (fun hHeld => ?_)
  clear hK K
  refine norm_ (a' := ?_) ?_ ?_
  rotate_left
  · show Act.put _ (some 11) _ = _
    simp only [Act.put, List.setIfInBounds_toArray, List.set_cons_zero, List.set_cons_succ, i64_w, i32_w]
    rfl
  refine pure_ (i := 8) (N := some 12) (v := ?_) (a' := ?_) #[true, true, true, true, true, true, true, true, true, false] rfl rfl (by kernel_rfl) (fun _ _ _ h => h) (Or.inl ⟨by rfl, ?_⟩) ?_ ?_
  rotate_left
  · intro w'
    go_simp
    with_reducible rfl
  rotate_left
  · simp only [Act.put, List.setIfInBounds_toArray, List.set_cons_zero, List.set_cons_succ, i64_w, i32_w]
    rfl
  refine pure_ (i := 9) (N := some 3) (v := ?_) (a' := ?_) #[true, true, true, true, true, true, true, true, true, true] rfl rfl (by kernel_rfl) (fun _ _ _ h => h) (Or.inl ⟨by rfl, ?_⟩) ?_ ?_
  rotate_left
  · intro w'
    go_simp
    with_reducible rfl
  rotate_left
  · simp only [Act.put, List.setIfInBounds_toArray, List.set_cons_zero, List.set_cons_succ, i64_w, i32_w]
    rfl
  refine done_ (by kernel_rfl) ?_
  go_wp2
  go_ret
  exact ⟨rfl, HB.out⟩
def impl_ShapleyNumbers.f (a0_0 a0_1 : Int) : Option (List Int) := if a0_0 < 0 then (if impl_IsSimpleGame.f 1000 a0_0 a0_1 = some false then some [] else none) else impl_Table_powers.f 1000 a0_0 a0_1 a0_0
set_option maxHeartbeats 400000 in
set_option maxRecDepth 100000 in
theorem impl_ShapleyNumbers.calls (a0_0 : Int) (a0_1 : Int) (r : List Int) (w : World) (h : impl_ShapleyNumbers.f a0_0 a0_1 = some r) :
    Calls Try.prog 71 #[.agg #[.int .i64 a0_0, .int .i64 a0_1]] w fun e w' => ∃ v0_ : Value, e = .returned (v0_) ∧ Kd.R (Kd.int .i64) 3 w' w.heap.size (fun _ => True) v0_ r ∧ Below w.heap.size w w' := by
  have hu := Try.underlying25
  have hc0 : (w.alloc (.cells #[.int .i64 a0_0, .int .i64 a0_1] 25 (0, 0))).cell? ⟨w.heap.size, 0, none⟩ = some (.int .i64 a0_0) := (blk_cell (blk_new _ _) 0).trans rfl
  have hc1 : (w.alloc (.cells #[.int .i64 a0_0, .int .i64 a0_1] 25 (0, 0))).cell? ⟨w.heap.size, 1, none⟩ = some (.int .i64 a0_1) := (blk_cell (blk_new _ _) 1).trans rfl
  have HB := below_alloc (Below.refl w.heap.size w) (.cells #[.int .i64 a0_0, .int .i64 a0_1] 25 (0, 0))
  have eg := enters_of Try.func103 (by kernel_rfl) rfl
  have EG := Aside0.mk eg
  clear eg
  unfold impl_ShapleyNumbers.f at h
  -- whether the number of players is -1 (no game then) or not: the contract of powers serves with a number b
  obtain ⟨b, H, hp⟩ : ∃ b : Int, impl_Table_powers.f 1000 a0_0 a0_1 b = some r ∧ ∀ (W : World) (x r_ : Int), Below (w.alloc (.cells #[.int .i64 a0_0, .int .i64 a0_1] 25 (0, 0))).heap.size (w.alloc (.cells #[.int .i64 a0_0, .int .i64 a0_1] 25 (0, 0))) W → impl_BanzhafNumbers_1.f x b = some r_ → Calls Try.prog 103 (#[.int .i64 x] ++ #[.pointer (some ⟨w.heap.size, 0, none⟩)]) W fun e w' => e = .returned (.int .i64 r_) ∧ Below W.heap.size W w' := by
    split at h
    next hlt =>
      split at h
      next hg =>
        cases h
        refine ⟨-2, ?_, fun W x r_ hW hr => ?_⟩
        · unfold impl_Table_powers.f
          rw [hg]
          rfl
        · unfold impl_BanzhafNumbers_1.f at hr
          rw [if_neg (by decide), if_pos (by decide)] at hr
          cases hr
      next => cases h
    next hne => exact ⟨a0_0, h, fun W x r_ hW hr => impl_ShapleyNumbers_1.any a0_0 a0_1 x r_ (by omega) _ W (blk_below (blk_new _ _) hW) hr⟩
  have HH := Aside0.mk H
  have HP := Aside0.mk hp
  clear H hp h
  go_enter Try.func71, Try.ntmps71
  go_wp2_with (go_at_call 100; refine (impl_Table_powers.any 1000 a0_0 a0_1 b r _ 103 _ EG.out HP.out HH.out).mono ?_; rintro e w' ⟨v, rfl, ho, hb⟩)
  go_ret
  exact ⟨v, rfl, Kd.R_lower ho HB.size, below_step HB hb⟩


end Go.Proofs.Ytnkkkabdpbonaaa.F
