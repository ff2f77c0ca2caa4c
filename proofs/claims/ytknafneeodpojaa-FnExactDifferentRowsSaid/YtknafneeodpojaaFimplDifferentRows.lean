/- The walk of one Go function: a call of it ends as the Lean function of its name tells; the conditions are those of each theorem. -/
import Derived.Test.YtknafneeodpojaaF0
import Derived.Test.YtknafneeodpojaaBase
namespace Go.Proofs.Ytknafneeodpojaa.F
open Go.RowKit Go.Proofs.YtknafneeodpojaaW.PrintWords Go.Proofs.YtknafneeodpojaaW.PrintLast Go.Proofs.YtknafneeodpojaaW.PrintMore
attribute [local go_sem] max2_int min2_int max_two min_two max_three min_three max_four min_four   -- for this text's walks alone
set_option linter.unusedVariables false
set_option linter.unusedSimpArgs false

/-! ### impl_DifferentRows: function 15 -/
/-- The set behind the first k rows. -/
def impl_DifferentRows.S (l : List Int) (k : Nat) : DataW Unit := Go.Maps.setOf (.lit (.bool true)) ((l.take k).map (Lit.int .i64))
theorem impl_DifferentRows.S_zero (l : List Int) : impl_DifferentRows.S l 0 = .map [] := by simp [impl_DifferentRows.S, Go.Maps.setOf]
theorem impl_DifferentRows.S_succ (l : List Int) (k : Nat) (hk : k < l.length) : impl_DifferentRows.S l (k + 1) = (impl_DifferentRows.S l k).put (.int .i64 (rd l k)) (.lit (.bool true)) := by
  unfold impl_DifferentRows.S rd
  rw [List.take_add_one, List.map_append, Int.toNat_natCast]
  simp [List.getD, List.getElem?_eq_getElem hk, Go.Maps.setOf_snoc]
def impl_DifferentRows.f (l0 : List Int) : Option Int := if l0.all (fun x => (Lit.int .i64 x).wf) = true ∧ l0.length < 1099511627776 then some ((Go.Maps.size (impl_DifferentRows.S l0 l0.length) : Nat) : Int) else none
set_option maxHeartbeats 400000 in
set_option maxRecDepth 100000 in
theorem impl_DifferentRows.calls (A0 : Option Addr) (c0 : Nat) (l0 : List Int) (r : Int) (w : World) (hr0 : Kd.C (Kd.int .i64) w A0 l0.length l0) (hc0 : l0.length ≤ c0) (h : impl_DifferentRows.f l0 = some r) :
    Calls Try.prog 15 #[.slice A0 l0.length c0] w fun e w' => e = .returned (.int .i64 r) ∧ Below w.heap.size w w' := by
  unfold impl_DifferentRows.f at h
  split at h
  next hh =>
    cases h
    have law3 : Go.Maps.Keyed Try.prog 3 := Go.Maps.int_keyed Try.underlying3
    have HL := Aside0.mk hh.2
    have HW := Aside0.mk (List.all_eq_true.mp hh.1)
    have HR := Aside0.mk hr0
    clear hh hr0
    have hmm := @run_makeMap Try.prog
    go_enter Try.func15, Try.ntmps15
    go_wp2
    go_loopg [9] l0.length (fun gg v9 wr => ∃ x : Nat, x ≤ l0.length ∧ l0.length - x ≤ gg ∧ v9 = .int .i64 x ∧ Aside0 (wr.ownsMap Try.prog 3 (plainElem Try.prog 4) w.heap.size x (impl_DifferentRows.S l0 x)) ∧ Aside0 (Below w.heap.size w wr))
    case atStart => exact ⟨0, Nat.zero_le _, by omega, rfl, ⟨by rw [impl_DifferentRows.S_zero]; exact World.ownsMap_made _ _ _ _⟩, ⟨(Below.refl _ _).alloc (Nat.le_refl _) _⟩⟩
    case round =>
      obtain ⟨x, hx, hg, rfl, HO, HB⟩ := hrel
      by_cases hlt : x < l0.length
      · have hltz : (x : Int) < (l0.length : Int) := by omega
        have h0z : (0 : Int) ≤ (x : Int) := by omega
        obtain ⟨ad, rfl, hc⟩ := Kd.at_int HR.out (x : Int) h0z hltz
        have hc' := (HB.out.cell (World.block_lt_of_cell? w _ hc)).trans hc
        rw [Int.toNat_natCast] at hc'
        have hwf : (Lit.int .i64 (rd l0 (x : Int))).wf = true := by
          refine HW.out _ ?_
          unfold rd
          rw [Int.toNat_natCast, List.getD_eq_getElem?_getD, List.getElem?_eq_getElem hlt]
          exact List.getElem_mem hlt
        have hkey := Go.Maps.keyOf_int_mk (P := Try.prog) Try.underlying3 hwf
        go_wp2_with (first | (at_mapUpdate; refine wpList_mapUpdate_own _ rfl _ _ _ 50 rfl 3 4 law3 Try.underlying50 (plainElem (H := Unit) Try.prog 4) w.heap.size x _ rfl HO.out (by have := HL.out; unfold maxLen; omega) _ _ _ rfl rfl hkey _ [] (plainElem_bool Try.underlying4 true) ?_; intro w1 hown1 hgrow1))
        go_roundg (l0.length - (x + 1))
        case measure => omega
        case rel => exact ⟨x + 1, by omega, by omega, by rw [B.wrap64_succ (by have := HL.out; omega)], ⟨(impl_DifferentRows.S_succ l0 x hlt).symm ▸ hown1⟩, ⟨HB.out.grown hgrow1 HB.out.size (fun j hj => by cases hj; exact Nat.le_refl _)⟩⟩
      · have hltz : ¬ (x : Int) < (l0.length : Int) := by omega
        obtain rfl : x = l0.length := by omega
        go_wp2_with (first | (at_len; refine wpList_len_own _ rfl _ 50 rfl 3 4 Try.underlying50 _ w.heap.size l0.length _ rfl HO.out ?_))
        go_ret
        exact ⟨rfl, HB.out⟩
  next => cases h


end Go.Proofs.Ytknafneeodpojaa.F
