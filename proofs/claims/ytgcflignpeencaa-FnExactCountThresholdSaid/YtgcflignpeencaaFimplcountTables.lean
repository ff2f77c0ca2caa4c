/- The walk of one Go function: a call of it ends as the Lean function of its name tells; the conditions are those of each theorem. -/
import Derived.Test.YtgcflignpeencaaF0
import Derived.Test.YtgcflignpeencaaFGa
import Derived.Test.YtgcflignpeencaaBase
namespace Go.Proofs.Ytgcflignpeencaa.F
open Go.RowKit Go.Proofs.YtgcflignpeencaaW.PrintWords Go.Proofs.YtgcflignpeencaaW.PrintLast Go.Proofs.YtgcflignpeencaaW.PrintMore
attribute [local go_sem] max2_int min2_int max_two min_two max_three min_three max_four min_four   -- for this text's walks alone
set_option linter.unusedVariables false
set_option linter.unusedSimpArgs false

/-! ### impl_countTables: function 70 -/
set_option maxHeartbeats 400000 in
set_option maxRecDepth 100000 in
theorem impl_countTables_1.any (n x : Int) (c : Nat) (hc : c < 4611686018427387904) (b : Bool) (g g1 g2 : Nat) (lb : Array Value) (eg : ∀ args w, (callFunc g args).run Try.prog w = .ok (.enter g args) w) (W : World) (hne : g1 ≠ g2)
    (h1 : W.heap[g1]? = some (.cells #[.func (.func g) #[] lb] 38 (0, 0))) (h2 : W.heap[g2]? = some (.cells #[.int .i64 c] 3 (0, 0)))
    (hp : ∀ W' : World, Below W.heap.size W W' → Gives Try.prog g lb #[.agg #[.int .i64 n, .int .i64 x]] (.bool b) W') :
    Calls Try.prog 81 #[.agg #[.int .i64 n, .int .i64 x], .pointer (some ⟨g1, 0, none⟩), .pointer (some ⟨g2, 0, none⟩)] W fun e w' => e = .returned (.tuple #[]) ∧ w'.heap[g1]? = some (.cells #[.func (.func g) #[] lb] 38 (0, 0)) ∧ w'.heap[g2]? = some (.cells #[.int .i64 (c + b.toNat : Nat)] 3 (0, 0)) ∧ Below g2 W w' := by
  have hu := Try.underlying24
  have hl1 := blk_lt h1
  have hl2 := blk_lt h2
  have hcall := hp (W.alloc (.cells #[.int .i64 n, .int .i64 x] 24 (0, 0))) (below_alloc (Below.refl _ _) _)
  unfold Gives at hcall
  have hc0 : (W.alloc (.cells #[.int .i64 n, .int .i64 x] 24 (0, 0))).cell? ⟨g1, 0, none⟩ = some (.func (.func g) #[] lb) := (blk_cell (blk_alloc h1 _) 0).trans rfl
  have hd0 : (W.alloc (.cells #[.int .i64 n, .int .i64 x] 24 (0, 0))).cell? ⟨W.heap.size, 0, none⟩ = some (.int .i64 n) := (blk_cell (blk_new _ _) 0).trans rfl
  have hd1 : (W.alloc (.cells #[.int .i64 n, .int .i64 x] 24 (0, 0))).cell? ⟨W.heap.size, 1, none⟩ = some (.int .i64 x) := (blk_cell (blk_new _ _) 1).trans rfl
  go_enter Try.func81, Try.ntmps81
  cases b with
  | true =>
    go_wp2_with (go_at_fn g; refine hcall.mono ?_; rintro e w' ⟨rfl, hb'⟩; have K1 := blk_below (blk_alloc h1 _) hb'; have K2 := blk_below (blk_alloc h2 _) hb'; have HB := below_step (below_alloc (Below.refl _ _) _) hb'; have hx0 : w'.cell? ⟨g2, 0, none⟩ = some (.int .i64 c) := (blk_cell K2 0).trans rfl; have hf0 : w'.frozen? ⟨g2, 0, none⟩ = false := blk_frozen K2 0)
    go_end0
    refine ⟨rfl, ?_, ?_, ?_⟩
    · exact blk_far K1 (fun h => hne h) _
    · exact blk_put K2 0 _ (by simp)
    · exact (HB.mono (Nat.le_of_lt hl2)).setCell (Nat.le_refl _) _
  | false =>
    go_wp2_with (go_at_fn g; refine hcall.mono ?_; rintro e w' ⟨rfl, hb'⟩; have K1 := blk_below (blk_alloc h1 _) hb'; have K2 := blk_below (blk_alloc h2 _) hb'; have HB := below_step (below_alloc (Below.refl _ _) _) hb'; have hx0 : w'.cell? ⟨g2, 0, none⟩ = some (.int .i64 c) := (blk_cell K2 0).trans rfl; have hf0 : w'.frozen? ⟨g2, 0, none⟩ = false := blk_frozen K2 0)
    go_end0
    exact ⟨rfl, K1, K2, HB.mono (Nat.le_of_lt hl2)⟩
set_option maxHeartbeats 400000 in
set_option maxRecDepth 100000 in
theorem impl_allTables.any (n : Nat) (hn : n ≤ 4) (p : Nat → Bool) (g g1 g2 : Nat) (lb : Array Value) (eg : ∀ args w, (callFunc g args).run Try.prog w = .ok (.enter g args) w) (hne : g1 ≠ g2)
    (hp : ∀ x : Nat, x < 2 ^ 2 ^ n → ∀ W' : World, Gives Try.prog g lb #[.agg #[.int .i64 n, .int .i64 x]] (.bool (p x)) W') (w : World)
    (h1 : w.heap[g1]? = some (.cells #[.func (.func g) #[] lb] 38 (0, 0))) (h2 : w.heap[g2]? = some (.cells #[.int .i64 0] 3 (0, 0))) :
    Calls Try.prog 80 #[.int .i64 n, .func (.func 81) #[] #[.pointer (some ⟨g1, 0, none⟩), .pointer (some ⟨g2, 0, none⟩)]] w fun e w' => e = .returned (.tuple #[]) ∧ w'.heap[g2]? = some (.cells #[.int .i64 (B.cntN p (2 ^ 2 ^ n) : Nat)] 3 (0, 0)) ∧ Below g2 w w' := by
  have hu := Try.underlying24
  have HP := Aside0.mk hp
  have HG := Aside0.mk eg
  have H1 := Aside0.mk h1
  have H2 := Aside0.mk h2
  have HNE := Aside0.mk hne
  have eg1 := enters_of Try.func81 (by kernel_rfl) rfl
  clear hp eg h1 h2 hne
  have h63 : (n : Int) ≤ 64 := by omega
  have h0 : (0 : Int) ≤ n := by omega
  obtain ⟨M, hM⟩ : ∃ M : Nat, M = 2 ^ 2 ^ n := ⟨_, rfl⟩
  have hsh : ∀ n : Fin 5, wrap64 (2 ^ min (IntKind.u64.wrap (2 ^ n.val)).toNat 64) = ((2 ^ 2 ^ n.val : Nat) : Int) ∧ 2 ^ 2 ^ n.val ≤ 65536 := by decide +kernel
  obtain ⟨hwr, hM1⟩ := hsh ⟨n, by omega⟩
  rw [← hM] at hwr hM1
  clear hsh
  have HM := Aside0.mk hM
  clear hM
  go_enter Try.func80, Try.ntmps80
  go_wp2
  clear hwr
  go_loopg [8] M (fun gg v8 wr => ∃ x : Nat, x ≤ M ∧ M - x ≤ gg ∧ v8 = .int .i64 x ∧ Aside0 (wr.heap[g1]? = some (.cells #[.func (.func g) #[] lb] 38 (0, 0))) ∧ Aside0 (wr.heap[g2]? = some (.cells #[.int .i64 (B.cntN p x : Nat)] 3 (0, 0))) ∧ Aside0 (Below g2 w wr))
  case atStart => exact ⟨0, Nat.zero_le _, by omega, rfl, H1, ⟨by simpa [B.cntN] using H2.out⟩, ⟨Below.refl _ _⟩⟩
  case round =>
    obtain ⟨x, hx, hg, rfl, BK1, BK2, HB⟩ := hrel
    by_cases hlt : x < M
    · have hltz : (x : Int) < (M : Int) := by omega
      have hcall := impl_countTables_1.any n x (B.cntN p x) (by have := B.cntN_le p x; omega) (p x) g g1 g2 lb HG.out wr HNE.out BK1.out BK2.out (fun W' _ => HP.out x (by rw [← HM.out]; exact hlt) W')
      go_wp2_with (go_at_call 81; refine hcall.mono ?_; rintro e w' ⟨rfl, k1, k2, hb'⟩; have BK1' := Aside0.mk k1; have BK2' := Aside0.mk k2; have HB' := Aside0.mk (HB.out.trans hb'); clear hb' k1 k2)
      go_roundg (M - (x + 1))
      case measure => omega
      case rel => exact ⟨x + 1, by omega, by omega, by go_num, BK1', BK2', HB'⟩
    · have hltz : ¬ (x : Int) < (M : Int) := by omega
      obtain rfl : x = M := by omega
      go_wp2
      go_end0
      rw [← HM.out]
      exact ⟨rfl, BK2.out, HB.out⟩
set_option maxHeartbeats 400000 in
set_option maxRecDepth 100000 in
theorem impl_countTables.upto (m : Int) (n : Nat) (hnm : (n : Int) ≤ m) (hn : n ≤ 4) (p : Nat → Bool) (g : Nat) (eg : ∀ args w, (callFunc g args).run Try.prog w = .ok (.enter g args) w)
    (hp : ∀ x : Nat, x < 2 ^ 2 ^ n → ∀ W' : World, Gives Try.prog g #[] #[.agg #[.int .i64 n, .int .i64 x]] (.bool (p x)) W') (w : World) :
    Calls Try.prog 70 #[.int .i64 n, .int .i64 m, .func (.func g) #[] #[]] w fun e w' => e = .returned (.int .i64 (B.cntN p (2 ^ 2 ^ n) : Nat)) ∧ Below w.heap.size w w' := by
  have hu := Try.underlying24
  have HP := Aside0.mk hp
  have HG := Aside0.mk eg
  have HN := Aside0.mk hn
  clear hp eg
  have h0 : (0 : Int) ≤ n := by omega
  have h1 : ¬ (n : Int) < 0 := by omega
  have h4 : ¬ m < n := by omega
  have k1 := blk_alloc (blk_new w (.cells #[.func (.func g) #[] #[]] 38 (0, 0))) (.cells #[.int .i64 0] 3 (0, 0))
  have k2 : ((w.alloc (.cells #[.func (.func g) #[] #[]] 38 (0, 0))).alloc (.cells #[.int .i64 0] 3 (0, 0))).heap[w.heap.size + 1]? = some (.cells #[.int .i64 0] 3 (0, 0)) := by simpa using blk_new (w.alloc (.cells #[.func (.func g) #[] #[]] 38 (0, 0))) (.cells #[.int .i64 0] 3 (0, 0))
  have kb := below_alloc (below_alloc (Below.refl w.heap.size w) (.cells #[.func (.func g) #[] #[]] 38 (0, 0))) (.cells #[.int .i64 0] 3 (0, 0))
  go_enter Try.func70, Try.ntmps70
  go_wp2_with (go_at_call 80; refine (impl_allTables.any n HN.out p g w.heap.size (w.heap.size + 1) #[] HG.out (by omega) HP.out _ k1 k2).mono ?_; rintro e w' ⟨rfl, BK, hb⟩; have hc0 : w'.cell? ⟨w.heap.size + 1, 0, none⟩ = some (.int .i64 (B.cntN p (2 ^ 2 ^ n) : Nat)) := (blk_cell BK 0).trans rfl)
  go_ret
  exact ⟨rfl, kb.trans (hb.mono (Nat.le_succ _))⟩
theorem impl_countTables.any (n : Nat) (hn : n ≤ 4) (p : Nat → Bool) (g : Nat) (eg : ∀ args w, (callFunc g args).run Try.prog w = .ok (.enter g args) w)
    (hp : ∀ x : Nat, x < 2 ^ 2 ^ n → ∀ W' : World, Gives Try.prog g #[] #[.agg #[.int .i64 n, .int .i64 x]] (.bool (p x)) W') (w : World) :
    Calls Try.prog 70 #[.int .i64 n, .int .i64 4, .func (.func g) #[] #[]] w fun e w' => e = .returned (.int .i64 (B.cntN p (2 ^ 2 ^ n) : Nat)) ∧ Below w.heap.size w w' := impl_countTables.upto 4 n (by omega) hn p g eg hp w

end Go.Proofs.Ytgcflignpeencaa.F
