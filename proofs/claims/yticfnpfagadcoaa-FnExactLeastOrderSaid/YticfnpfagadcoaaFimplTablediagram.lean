/- The walk of one Go function: a call of it ends as the Lean function of its name tells; the conditions are those of each theorem. -/
import Derived.Test.YticfnpfagadcoaaF0
import Derived.Test.YticfnpfagadcoaaFimpldiagramwalk
namespace Go.Proofs.Yticfnpfagadcoaa.F
open Go.RowKit Go.Proofs.YticfnpfagadcoaaW.PrintWords Go.Proofs.YticfnpfagadcoaaW.PrintLast Go.Proofs.YticfnpfagadcoaaW.PrintMore
attribute [local go_sem] max2_int min2_int max_two min_two max_three min_three max_four min_four   -- for this text's walks alone
set_option linter.unusedVariables false
set_option linter.unusedSimpArgs false

/-! ### impl_Table_diagram: function 229 -/
def impl_Table_diagram.f (a0_0 a0_1 : Int) (l1 : List Int) : Option (List S139) :=
  if (Lit.int .i64 a0_0).wf = true ∧ l1.length < 1000 then (walkS a0_0 l1 10 a0_1 [] []).bind fun p => some p.2.2 else none
set_option maxHeartbeats 400000 in
set_option maxRecDepth 100000 in
theorem impl_Table_diagram.calls (a0_0 a0_1 : Int) (A1 : Option Addr) (c1 : Nat) (l1 : List Int) (r : List S139) (w : World) (hr1 : Kd.C (Kd.int .i64) w A1 l1.length l1) (hc1 : l1.length ≤ c1) (h : impl_Table_diagram.f a0_0 a0_1 l1 = some r) :
    Calls Try.prog 229 #[.agg #[.int .i64 a0_0, .int .i64 a0_1], .slice A1 l1.length c1] w fun e w' => ∃ v0_ : Value, e = .returned (v0_) ∧ Kd.R k139 139 w' w.heap.size (fun _ => True) v0_ r ∧ Below w.heap.size w w' := by
  have hud := Try.underlying170
  have hut := Try.underlying25
  unfold impl_Table_diagram.f at h
  split at h
  next hh =>
    obtain ⟨⟨r0, names, nodes⟩, hp, h2⟩ := Option.bind_eq_some_iff.mp h
    obtain rfl : nodes = r := Option.some.inj h2
    have HWK : Aside0 (∀ (gd gm : Nat) (W : World) (nv : Value), WalkAt a0_0 gd gm w A1 c1 l1 nv [] [] W → Calls Try.prog 287 #[.pointer (some ⟨gd, 0, none⟩), .agg #[.int .i64 a0_0, .int .i64 a0_1]] W (WalkPost a0_0 gd gm w A1 c1 l1 nv W r0 names nodes)) := ⟨fun gd gm W nv hw => impl_diagram_walk.any hh.2 hh.1 10 a0_1 [] [] r0 names nodes hp W nv hw⟩
    clear h h2 hh hp
    have HWA : Aside0 (WalkAt a0_0 (w.heap.size + 1 + 1) (w.heap.size + 1) w A1 c1 l1 (.slice none 0 0) [] [] (((w.alloc (.cells #[.int .i64 a0_0, .int .i64 a0_1] 25 (0, 0))).alloc (.map #[] 0)).alloc (.cells #[.slice A1 l1.length c1, .slice none 0 0, .map (some (w.heap.size + 1))] 170 (0, 0)))) := ⟨⟨by simpa using blk_new ((w.alloc (.cells #[.int .i64 a0_0, .int .i64 a0_1] 25 (0, 0))).alloc (.map #[] 0)) (.cells #[.slice A1 l1.length c1, .slice none 0 0, .map (some (w.heap.size + 1))] 170 (0, 0)), Kd.R_nil _ _ _ _ _, ⟨.map [], World.ownsMap.alloc (by simpa using World.ownsMap_made (w.alloc (.cells #[.int .i64 a0_0, .int .i64 a0_1] 25 (0, 0))) Try.prog 25 (plainElem (H := Unit) Try.prog 3)) _, FoundAt.nil _⟩, rfl, below_alloc (below_alloc (below_alloc (Below.refl _ _) _) _) _, hr1, by omega, by omega⟩⟩
    clear hr1
    have hmm := @run_makeMap Try.prog
    go_enter Try.func229, Try.ntmps229
    go_wp2_with (fail)
    with_reducible refine (HWK.out _ _ _ _ HWA.out).mono ?_
    rintro e w3 ⟨rfl, nv, hw, _, _⟩
    have HW := Aside0.mk hw
    have hcd1 : w3.cell? ⟨w.heap.size + 1 + 1, 1, none⟩ = some nv := (blk_cell hw.blk 1).trans rfl
    clear hw HWA HWK
    obtain ⟨A2, c2, rfl⟩ := Kd.R_slice HW.out.own
    go_wp2
    go_ret
    exact ⟨_, rfl, HW.out.own, HW.out.below⟩
  next => cases h


end Go.Proofs.Yticfnpfagadcoaa.F
