/- The walk of one Go function: a call of it ends as the Lean function of its name tells; the conditions are those of each theorem. -/
import Derived.Test.YticfnpfagadcoaaF0
import Derived.Test.YticfnpfagadcoaaFGa
import Derived.Test.YticfnpfagadcoaaBase
namespace Go.Proofs.Yticfnpfagadcoaa.F
open Go.RowKit Go.Proofs.YticfnpfagadcoaaW.PrintWords Go.Proofs.YticfnpfagadcoaaW.PrintLast Go.Proofs.YticfnpfagadcoaaW.PrintMore
attribute [local go_sem] max2_int min2_int max_two min_two max_three min_three max_four min_four   -- for this text's walks alone
set_option linter.unusedVariables false
set_option linter.unusedSimpArgs false

/-! ### slices_ContainsFunc_int_int: function 217 -/
set_option maxHeartbeats 400000 in
set_option maxRecDepth 100000 in
theorem slices_IndexFunc_int.any (A : Option Addr) (c : Nat) (l : List Int) (p : Int → Bool) (g : Nat) (lb : Array Value) (eg : ∀ args w, (callFunc g args).run Try.prog w = .ok (.enter g args) w) (w : World) (hr : Kd.C (Kd.int .i64) w A l.length l)
    (hp : ∀ (W : World) (x : Nat), x < l.length → Below w.heap.size w W → Gives Try.prog g lb #[.int .i64 (rd l x)] (.bool (p (rd l x))) W) (hl : l.length < 9223372036854775807) :
    Calls Try.prog 283 #[.slice A l.length c, .func (.func g) #[] lb] w fun e w' => ∃ r : Int, e = .returned (.int .i64 r) ∧ decide (0 ≤ r) = B.exN (fun x => p (rd l x)) l.length ∧ Below w.heap.size w w' := by
  have HP := Aside0.mk hp
  have HR := Aside0.mk hr
  have HL := Aside0.mk hl
  clear hp hr
  obtain ⟨M, hM⟩ : ∃ M : Nat, M = l.length := ⟨_, rfl⟩
  have HM := Aside0.mk hM
  go_enter Try.func283, Try.ntmps283
  go_wp2
  go_loopg [8] l.length (fun gg v8 wr => ∃ x : Nat, x ≤ l.length ∧ l.length - x ≤ gg ∧ v8 = .int .i64 x ∧ Aside0 (B.exN (fun x => p (rd l x)) x = false) ∧ Aside0 (Below w.heap.size w wr))
  case atStart => exact ⟨0, Nat.zero_le _, by omega, rfl, ⟨rfl⟩, ⟨Below.refl _ _⟩⟩
  case round =>
    obtain ⟨x, hx, hg, rfl, HZ, HB⟩ := hrel
    by_cases hlt : x < l.length
    · have hltz : (x : Int) < (l.length : Int) := by omega
      have h0z : (0 : Int) ≤ (x : Int) := by omega
      have hcall := HP.out wr x hlt HB.out
      unfold Gives at hcall
      obtain ⟨ad, rfl, hc⟩ := Kd.at_int HR.out (x : Int) h0z hltz
      have hc' := (HB.out.cell (World.block_lt_of_cell? w _ hc)).trans hc
      rw [Int.toNat_natCast] at hc'
      cases hq : p (rd l x) with
      | true =>
        rw [hq] at hcall
        have HQ := Aside0.mk hq
        clear hq
        go_wp2_with (go_at_fn g; refine hcall.mono ?_; rintro e w' ⟨rfl, hb'⟩; have HB' := Aside0.mk (below_step HB.out hb'); clear hb')
        go_ret
        refine ⟨_, rfl, ?_, HB'.out⟩
        rw [B.exN_hit hlt HQ.out]
        exact decide_eq_true h0z
      | false =>
        rw [hq] at hcall
        have HQ := Aside0.mk hq
        clear hq
        go_wp2_with (go_at_fn g; refine hcall.mono ?_; rintro e w' ⟨rfl, hb'⟩; have HB' := Aside0.mk (below_step HB.out hb'); clear hb')
        go_roundg (l.length - (x + 1))
        case measure => omega
        case rel => exact ⟨x + 1, by omega, by omega, by have := HL.out; go_num, ⟨B.exN_skip HZ.out HQ.out⟩, HB'⟩
    · have hltz : ¬ (x : Int) < (l.length : Int) := by omega
      obtain rfl : x = l.length := by omega
      go_wp2
      go_ret
      exact ⟨-1, rfl, by rw [HZ.out]; decide, HB.out⟩
set_option maxHeartbeats 400000 in
set_option maxRecDepth 100000 in
theorem slices_ContainsFunc_int.any (A : Option Addr) (c : Nat) (l : List Int) (p : Int → Bool) (g : Nat) (lb : Array Value) (eg : ∀ args w, (callFunc g args).run Try.prog w = .ok (.enter g args) w) (w : World) (hr : Kd.C (Kd.int .i64) w A l.length l)
    (hp : ∀ (W : World) (x : Nat), x < l.length → Below w.heap.size w W → Gives Try.prog g lb #[.int .i64 (rd l x)] (.bool (p (rd l x))) W) (hl : l.length < 9223372036854775807) :
    Calls Try.prog 217 #[.slice A l.length c, .func (.func g) #[] lb] w fun e w' => e = .returned (.bool (B.exN (fun x => p (rd l x)) l.length)) ∧ Below w.heap.size w w' := by
  have HC := slices_IndexFunc_int.any A c l p g lb eg w hr hp hl
  clear hp hr
  go_enter Try.func217, Try.ntmps217
  go_wp2_with (go_at_call 283; refine HC.mono ?_; rintro e w' ⟨r, rfl, hd, hb⟩)
  go_ret
  exact ⟨by rw [← hd]; rfl, hb⟩

end Go.Proofs.Yticfnpfagadcoaa.F
