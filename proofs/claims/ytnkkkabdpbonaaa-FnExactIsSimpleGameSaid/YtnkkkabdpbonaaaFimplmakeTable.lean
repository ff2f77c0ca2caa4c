/- The walk of one Go function: a call of it ends as the Lean function of its name tells; the conditions are those of each theorem. -/
import Derived.Test.YtnkkkabdpbonaaaF0
import Derived.Test.YtnkkkabdpbonaaaBase
namespace Go.Proofs.Ytnkkkabdpbonaaa.F
open Go.RowKit Go.Proofs.YtnkkkabdpbonaaaW.PrintWords Go.Proofs.YtnkkkabdpbonaaaW.PrintLast Go.Proofs.YtnkkkabdpbonaaaW.PrintMore
attribute [local go_sem] max2_int min2_int max_two min_two max_three min_three max_four min_four   -- for this text's walks alone
set_option linter.unusedVariables false
set_option linter.unusedSimpArgs false

/-! ### impl_makeTable: function 108 -/
/-- What a function value gives: the result, in a world in which all that lay there lies. -/
def Gives (P : Program) (g : Nat) (lb args : Array Value) (res : Value) (W : World) : Prop :=
  Calls P g (args ++ lb) W fun e w' => e = .returned res ∧ Below W.heap.size W w'
set_option maxHeartbeats 400000 in
set_option maxRecDepth 100000 in
theorem impl_makeTable.any (n : Nat) (hn : n ≤ 5) (p : Nat → Bool) (g : Nat) (lb : Array Value) (eg : ∀ args w, (callFunc g args).run Try.prog w = .ok (.enter g args) w) (w : World)
    (hp : ∀ (W : World) (x : Nat), x < 2 ^ n → Below w.heap.size w W → Gives Try.prog g lb #[.int .i64 x] (.bool (p x)) W) :
    Calls Try.prog 108 #[.int .i64 n, .func (.func g) #[] lb] w fun e w' => e = .returned (.agg #[.int .i64 n, .int .i64 (B.tabN p (2 ^ n) : Nat)]) ∧ Below w.heap.size w w' := by
  have hu25 := Try.underlying25
  have HN := Aside0.mk hn
  have HP := Aside0.mk hp
  clear hp
  have h63 : (n : Int) ≤ 64 := by omega
  have h0 : (0 : Int) ≤ n := by omega
  obtain ⟨M, hM⟩ : ∃ M : Nat, M = 2 ^ n := ⟨_, rfl⟩
  have hM32 : M ≤ 32 := by rw [hM]; exact B.pow_le hn
  have hpw : (2 : Int) ^ n = (M : Int) := by rw [hM]; simp
  have hwr : wrap64 (2 ^ n) = (M : Int) := by rw [hpw]; exact B.wrap64_of (by omega) (by omega)
  clear hpw
  have HM := Aside0.mk hM
  clear hn hM
  go_enter Try.func108, Try.ntmps108
  go_wp2
  rw [hwr]
  clear hwr
  go_loopg [11] M (fun gg v11 wr => ∃ x : Nat, x ≤ M ∧ M - x ≤ gg ∧ v11 = .int .i64 x ∧ Aside0 (wr.heap[w.heap.size]? = some (.cells #[.int .i64 0, .int .i64 0] 25 (0, 0))) ∧ Aside0 (wr.heap[w.heap.size + 1]? = some (.cells #[.int .i64 n, .int .i64 (B.tabN p x : Nat)] 25 (0, 0))) ∧ Aside0 (Below w.heap.size w wr))
  case atStart => exact ⟨0, Nat.zero_le _, by omega, rfl, ⟨blk_alloc (blk_new w _) _⟩, ⟨by simpa [B.tabN] using blk_new (w.alloc (.cells #[.int .i64 0, .int .i64 0] 25)) (.cells #[.int .i64 n, .int .i64 0] 25)⟩, ⟨below_alloc (below_alloc (Below.refl _ _) _) _⟩⟩
  case round =>
    obtain ⟨x, hx, hg, rfl, BK0, BK1, HB⟩ := hrel
    by_cases hlt : x < M
    · have hltz : (x : Int) < (M : Int) := by omega
      have hcall := HP.out wr x (by rw [← HM.out]; exact hlt) HB.out
      unfold Gives at hcall
      cases hq : p x with
      | true =>
        rw [hq] at hcall
        have HQ := Aside0.mk hq
        clear hq
        go_wp2_with (go_at_fn g; refine hcall.mono ?_; rintro e w' ⟨rfl, hb'⟩; have BK0' := Aside0.mk (blk_below BK0.out hb'); have BK1' := Aside0.mk (blk_below BK1.out hb'); have HB' := Aside0.mk (below_step HB.out hb'); clear hb')
        have hc0 : w'.cell? ⟨w.heap.size + 1, 0, none⟩ = some (.int .i64 n) := (blk_cell BK1'.out 0).trans rfl
        have hc1 : w'.cell? ⟨w.heap.size + 1, 1, none⟩ = some (.int .i64 (B.tabN p x : Nat)) := (blk_cell BK1'.out 1).trans rfl
        have hf1 : w'.frozen? ⟨w.heap.size + 1, 1, none⟩ = false := blk_frozen BK1'.out 1
        have hlt64 : (x : Int) ≤ 64 := by omega
        go_region
        go_wp2
        go_roundg (M - (x + 1))
        case measure => omega
        case rel =>
          refine ⟨x + 1, by omega, by omega, by go_num, ⟨blk_drew (blk_far BK0'.out (by simp) _)⟩, ⟨?_⟩, ⟨?_⟩⟩
          · rw [B.or_bit (B.tabN_lt63 p (by omega)) (by omega), ← B.tabN_true HQ.out]
            exact blk_drew (blk_put BK1'.out 1 _ rfl)
          · exact below_drew1 (below_set HB'.out (Nat.le_succ _))
      | false =>
        rw [hq] at hcall
        have HQ := Aside0.mk hq
        clear hq
        go_wp2_with (go_at_fn g; refine hcall.mono ?_; rintro e w' ⟨rfl, hb'⟩; have BK0' := Aside0.mk (blk_below BK0.out hb'); have BK1' := Aside0.mk (blk_below BK1.out hb'); have HB' := Aside0.mk (below_step HB.out hb'); clear hb')
        go_roundg (M - (x + 1))
        case measure => omega
        case rel => exact ⟨x + 1, by omega, by omega, by go_num, BK0', ⟨by rw [B.tabN, HQ.out]; simpa using BK1'.out⟩, HB'⟩
    · have hltz : ¬ (x : Int) < (M : Int) := by omega
      have hc0 : wr.cell? ⟨w.heap.size + 1, 0, none⟩ = some (.int .i64 n) := (blk_cell BK1.out 0).trans rfl
      have hc1 : wr.cell? ⟨w.heap.size + 1, 1, none⟩ = some (.int .i64 (B.tabN p x : Nat)) := (blk_cell BK1.out 1).trans rfl
      have hd0 : wr.cell? ⟨w.heap.size, 0, none⟩ = some (.int .i64 0) := (blk_cell BK0.out 0).trans rfl
      have hd1 : wr.cell? ⟨w.heap.size, 1, none⟩ = some (.int .i64 0) := (blk_cell BK0.out 1).trans rfl
      have hf0 : wr.frozen? ⟨w.heap.size, 0, none⟩ = false := blk_frozen BK0.out 0
      have hf1 : wr.frozen? ⟨w.heap.size, 1, none⟩ = false := blk_frozen BK0.out 1
      obtain rfl : x = M := by omega
      go_wp2
      refine bodyPost_ret (results_cell_row rfl _ _ w.heap.size 25 #[.int .i64 n, .int .i64 (B.tabN p x : Nat)] (0, 0) _ rfl (by refine blk_put (cs := #[.int .i64 n, .int .i64 0]) ?_ 1 _ rfl; refine blk_put (cs := #[.int .i64 0, .int .i64 0]) ?_ 0 _ rfl; exact BK0.out) Try.underlying25 rfl (by kernel_rfl)) rfl ?_
      rw [← HM.out]
      exact ⟨rfl, below_set (below_set HB.out (Nat.le_refl _)) (Nat.le_refl _)⟩

end Go.Proofs.Ytnkkkabdpbonaaa.F
