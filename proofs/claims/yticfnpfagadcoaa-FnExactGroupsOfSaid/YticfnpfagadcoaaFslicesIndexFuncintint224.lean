/- The walk of one Go function: a call of it ends as the Lean function of its name tells; the conditions are those of each theorem. -/
import Derived.Test.YticfnpfagadcoaaF0
import Derived.Test.YticfnpfagadcoaaFGa
namespace Go.Proofs.Yticfnpfagadcoaa.F
open Go.RowKit Go.Proofs.YticfnpfagadcoaaW.PrintWords Go.Proofs.YticfnpfagadcoaaW.PrintLast Go.Proofs.YticfnpfagadcoaaW.PrintMore
attribute [local go_sem] max2_int min2_int max_two min_two max_three min_three max_four min_four   -- for this text's walks alone
set_option linter.unusedVariables false
set_option linter.unusedSimpArgs false

/-! ### slices_IndexFunc_int_int_224: function 224 -/
def rdL (xs : List (List Int)) (i : Int) : List Int := xs.getD i.toNat ([] : List Int)
theorem at_rows {w : World} {A : Option Addr} {n : Nat} {xs : List (List Int)} (h : Kd.C (Kd.slice 3 (Kd.int .i64)) w A n xs) (i : Int) (h0 : 0 ≤ i) (h1 : i < n) : ∃ ad A0 c0, A = some ad ∧ w.cell? (ad.add i.toNat) = some (.slice A0 (rdL xs i).length c0) ∧ (rdL xs i).length ≤ c0 ∧ (Kd.int .i64).C w A0 (rdL xs i).length (rdL xs i) := by
  obtain ⟨ad, c, e, _, hK, hc0⟩ := Kd.C_get h ([] : List Int) i h0 h1
  have hc : ∀ j u, c[j]? = some u → w.cell? (ad.add (i.toNat * 1 + j)) = some u := hc0
  obtain ⟨A0, c0, rfl, l0, g0⟩ := hK
  exact ⟨ad, A0, c0, e, by have hq := hc 0 _ rfl; rwa [Nat.mul_one, Nat.add_zero] at hq, l0, g0⟩
/-- Which row a search gives. -/
def firstRow (q : List Int → Bool) (l : List (List Int)) (r : Int) : Prop :=
  (∃ j : Nat, r = j ∧ j < l.length ∧ q (rdL l j) = true ∧ ∀ i : Nat, i < j → q (rdL l i) = false) ∨ (r = -1 ∧ ∀ i : Nat, i < l.length → q (rdL l i) = false)
set_option maxHeartbeats 400000 in
set_option maxRecDepth 100000 in
theorem slices_IndexFunc_rows.any (A : Option Addr) (c : Nat) (l : List (List Int)) (p : List Int → Bool) (g : Nat) (lb : Array Value) (eg : ∀ args w, (callFunc g args).run Try.prog w = .ok (.enter g args) w) (w : World) (hr : Kd.C (Kd.slice 3 (Kd.int .i64)) w A l.length l)
    (hp : ∀ (W : World) (x : Nat) (A' : Option Addr) (c' : Nat), x < l.length → Below w.heap.size w W → Kd.C (Kd.int .i64) W A' (rdL l x).length (rdL l x) → Gives Try.prog g lb #[.slice A' (rdL l x).length c'] (.bool (p (rdL l x))) W) (hl : l.length < 9223372036854775807) :
    Calls Try.prog 224 #[.slice A l.length c, .func (.func g) #[] lb] w fun e w' => ∃ r : Int, e = .returned (.int .i64 r) ∧ firstRow p l r ∧ Below w.heap.size w w' := by
  have HP := Aside0.mk hp
  have HR := Aside0.mk hr
  have HL := Aside0.mk hl
  clear hp hr
  obtain ⟨M, hM⟩ : ∃ M : Nat, M = l.length := ⟨_, rfl⟩
  have HM := Aside0.mk hM
  go_enter Try.func224, Try.ntmps224
  go_wp2
  go_loopg [8] l.length (fun gg v8 wr => ∃ x : Nat, x ≤ l.length ∧ l.length - x ≤ gg ∧ v8 = .int .i64 x ∧ Aside0 (∀ i : Nat, i < x → p (rdL l i) = false) ∧ Aside0 (Below w.heap.size w wr))
  case atStart => exact ⟨0, Nat.zero_le _, by omega, rfl, ⟨fun i hi => absurd hi (Nat.not_lt_zero _)⟩, ⟨Below.refl _ _⟩⟩
  case round =>
    obtain ⟨x, hx, hg, rfl, HZ, HB⟩ := hrel
    by_cases hlt : x < l.length
    · have hltz : (x : Int) < (l.length : Int) := by omega
      have h0z : (0 : Int) ≤ (x : Int) := by omega
      obtain ⟨ad, A', c', rfl, hc, hlc, hCC⟩ := at_rows HR.out (x : Int) h0z hltz
      have hcall := HP.out wr x A' c' hlt HB.out (Kd.Heap.C (Kd.heap_int .i64) HB.out.block hCC)
      unfold Gives at hcall
      have hc' := (HB.out.cell (World.block_lt_of_cell? w _ hc)).trans hc
      rw [Int.toNat_natCast] at hc'
      clear hCC hlc
      cases hq : p (rdL l x) with
      | true =>
        rw [hq] at hcall
        have HQ := Aside0.mk hq
        clear hq
        go_wp2_with (go_at_fn g; refine hcall.mono ?_; rintro e w' ⟨rfl, hb'⟩; have HB' := Aside0.mk (below_step HB.out hb'); clear hb')
        go_ret
        exact ⟨_, rfl, .inl ⟨x, rfl, hlt, HQ.out, HZ.out⟩, HB'.out⟩
      | false =>
        rw [hq] at hcall
        have HQ := Aside0.mk hq
        clear hq
        go_wp2_with (go_at_fn g; refine hcall.mono ?_; rintro e w' ⟨rfl, hb'⟩; have HB' := Aside0.mk (below_step HB.out hb'); clear hb')
        go_roundg (l.length - (x + 1))
        case measure => omega
        case rel => exact ⟨x + 1, by omega, by omega, by have := HL.out; go_num, ⟨fun i hi => by
          by_cases e : i = x
          · rw [e]; exact HQ.out
          · exact HZ.out i (by omega)⟩, HB'⟩
    · have hltz : ¬ (x : Int) < (l.length : Int) := by omega
      obtain rfl : x = l.length := by omega
      go_wp2
      go_ret
      exact ⟨-1, rfl, .inr ⟨rfl, HZ.out⟩, HB.out⟩

end Go.Proofs.Yticfnpfagadcoaa.F
