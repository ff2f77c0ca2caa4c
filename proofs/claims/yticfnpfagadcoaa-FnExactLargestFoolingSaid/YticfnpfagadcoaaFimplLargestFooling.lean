/- The walk of one Go function: a call of it ends as the Lean function of its name tells; the conditions are those of each theorem. -/
import Derived.Test.YticfnpfagadcoaaF0
import Derived.Test.YticfnpfagadcoaaFGa
import Derived.Test.YticfnpfagadcoaaFGa
import Derived.Test.YticfnpfagadcoaaFimplisSplit
import Derived.Test.YticfnpfagadcoaaFimplisBit
import Derived.Test.YticfnpfagadcoaaFimplTableapartBy
import Derived.Test.YticfnpfagadcoaaFimplfoolinggrow
import Derived.Test.YticfnpfagadcoaaBase
namespace Go.Proofs.Yticfnpfagadcoaa.F
open Go.RowKit Go.Proofs.YticfnpfagadcoaaW.PrintWords Go.Proofs.YticfnpfagadcoaaW.PrintLast Go.Proofs.YticfnpfagadcoaaW.PrintMore
attribute [local go_sem] max2_int min2_int max_two min_two max_three min_three max_four min_four   -- for this text's walks alone
set_option linter.unusedVariables false
set_option linter.unusedSimpArgs false

/-! ### impl_LargestFooling: function 62 -/
def growAt_ (a b : Int) (x : Nat) : Int := (impl_Table_at.f a b x).getD 0
def growAp (a b s v : Int) (y x : Nat) : Bool := (impl_Table_apartBy.f a b s v y x).getD false
/-- All that the search asks is answered. -/
def growDom (a b s v : Int) (N : Nat) : Bool := ((impl_Table_size.f a b == some (N : Int)) && decide (N ≤ 64)) && B.allN (fun x => (impl_Table_at.f a b x).isSome && B.allN (fun y => (impl_Table_apartBy.f a b s v y x).isSome) N) N
def impl_LargestFooling.f (a0_0 a0_1 a1 a2 : Int) : Option (List Int × Bool) :=
  (impl_isSplit.f a0_0 a0_1 a1).bind fun t => if t = true then (if a0_0 > 4 then some ([], false) else (impl_isBit.f a2).bind fun t2 => if t2 = true then (if growDom a0_0 a0_1 a1 a2 (2 ^ a0_0.toNat) = true then some (U.cutF (growOk (growAt_ a0_0 a0_1) (growAp a0_0 a0_1 a1 a2) a2) (2 ^ a0_0.toNat) 0 [] [], true) else none) else some ([], false)) else some ([], false)
set_option maxHeartbeats 1000000 in
set_option maxRecDepth 100000 in
theorem impl_LargestFooling.calls (a0_0 a0_1 a1 a2 : Int) (r1 : List Int) (r2 : Bool) (w : World) (h : impl_LargestFooling.f a0_0 a0_1 a1 a2 = some (r1, r2)) :
    Calls Try.prog 62 #[.agg #[.int .i64 a0_0, .int .i64 a0_1], .int .i64 a1, .int .i64 a2] w fun e w' => ∃ v0_ : Value, e = .returned (.tuple #[v0_, .bool r2]) ∧ Kd.R (Kd.int .i64) 3 w' w.heap.size (fun _ => True) v0_ r1 ∧ Below w.heap.size w w' := by
  have hu := Try.underlying128
  have hut := Try.underlying25
  unfold impl_LargestFooling.f at h
  obtain ⟨t, ht, h⟩ := Option.bind_eq_some_iff.mp h
  have HT := Aside0.mk ht
  clear ht
  have kb := below_alloc (Below.refl w.heap.size w) (.cells #[.int .i64 a0_0, .int .i64 a0_1] 25 (0, 0))
  have KB := Aside0.mk kb
  have K1 := Aside0.mk (blk_new w (.cells #[.int .i64 a0_0, .int .i64 a0_1] 25 (0, 0)))
  clear kb
  cases t with
  | false =>
    rw [if_neg (by decide)] at h
    cases h
    go_enter Try.func62, Try.ntmps62
    go_wp2_with (go_at_call 221; refine (impl_isSplit.calls a0_0 a0_1 a1 false _ HT.out).mono ?_; rintro e w1 ⟨rfl, hd⟩; have HB := Aside0.mk (below_step KB.out hd); clear hd)
    go_ret2
    exact ⟨_, rfl, Kd.R_nil _ _ _ _ _, HB.out⟩
  | true =>
    rw [if_pos rfl] at h
    by_cases h4 : a0_0 > 4
    · rw [if_pos h4] at h
      cases h
      have d4 : decide ((4 : Int) < a0_0) = true := decide_eq_true h4
      clear h4
      go_enter Try.func62, Try.ntmps62
      go_wp2_with (go_at_call 221; refine (impl_isSplit.calls a0_0 a0_1 a1 true _ HT.out).mono ?_; rintro e w1 ⟨rfl, hd⟩; have HB := Aside0.mk (below_step KB.out hd); have K2 := blk_below K1.out hd; have hc0 : w1.cell? ⟨w.heap.size, 0, none⟩ = some (.int .i64 a0_0) := (blk_cell K2 0).trans rfl; clear hd K2)
      go_ret2
      exact ⟨_, rfl, Kd.R_nil _ _ _ _ _, HB.out⟩
    · rw [if_neg h4] at h
      have d4 : decide ((4 : Int) < a0_0) = false := decide_eq_false h4
      clear h4
      obtain ⟨t2, ht2, h⟩ := Option.bind_eq_some_iff.mp h
      have HT2 := Aside0.mk ht2
      clear ht2
      cases t2 with
      | false =>
        rw [if_neg (by decide)] at h
        cases h
        go_enter Try.func62, Try.ntmps62
        go_wp2_with (first | (go_at_call 221; refine (impl_isSplit.calls a0_0 a0_1 a1 true _ HT.out).mono ?_; rintro e w1 ⟨rfl, hd⟩; have HB := Aside0.mk (below_step KB.out hd); have K2 := blk_below K1.out hd; have hc0 : w1.cell? ⟨w.heap.size, 0, none⟩ = some (.int .i64 a0_0) := (blk_cell K2 0).trans rfl; clear hd K2) | (go_at_call 222; refine (impl_isBit.calls a2 false _ HT2.out).mono ?_; rintro e w2 ⟨rfl, hd⟩; have HB2 := Aside0.mk (below_step HB.out hd.below); clear hd))
        go_ret2
        exact ⟨_, rfl, Kd.R_nil _ _ _ _ _, HB2.out⟩
      | true =>
        rw [if_pos rfl] at h
        split at h
        next hdom =>
          cases h
          obtain ⟨N, hN⟩ : ∃ N, N = 2 ^ a0_0.toNat := ⟨_, rfl⟩
          rw [← hN] at hdom ⊢
          unfold growDom at hdom
          rw [Bool.and_eq_true, Bool.and_eq_true, beq_iff_eq, decide_eq_true_eq, B.allN_iff] at hdom
          have HD := Aside0.mk hdom
          clear hdom hN
          have HGR : Aside0 (∀ (gs : Nat) (w' : World), w.heap.size ≤ w'.heap.size → w'.heap[gs]? = some (.cells #[.int .i64 a0_0, .int .i64 a0_1, .int .i64 a1, .int .i64 a2, .slice none 0 0] 128 (0, 0)) →
              Calls Try.prog 223 #[.pointer (some ⟨gs, 0, none⟩), .slice none 0 0, .int .i64 0] w' (GrowPost a0_0 a0_1 a1 a2 w.heap.size gs w' (U.cutF (growOk (growAt_ a0_0 a0_1) (growAp a0_0 a0_1 a1 a2) a2) N 0 [] []))) := ⟨fun gs w' hw hb => by
            have h := impl_grow.any a0_0 a0_1 a1 a2 N HD.out.1.2 (growAt_ a0_0 a0_1) (growAp a0_0 a0_1 a1 a2) HD.out.1.1 (fun x hx => by
                have := HD.out.2 x hx
                rw [Bool.and_eq_true] at this
                obtain ⟨q, hq⟩ := Option.isSome_iff_exists.mp this.1
                unfold growAt_
                rw [hq]
                rfl) (fun x y hx hy => by
                have := HD.out.2 x hx
                rw [Bool.and_eq_true, B.allN_iff] at this
                obtain ⟨q, hq⟩ := Option.isSome_iff_exists.mp (this.2 y hy)
                unfold growAp
                rw [hq]
                rfl) w.heap.size gs N 0 [] [] (.slice none 0 0) (.slice none 0 0) w' hw (by omega) (Nat.le_refl _) (fun i hi => absurd hi (Nat.not_lt_zero _)) (Kd.R_nil _ _ _ _ _) (Kd.R_nil _ _ _ _ _) hb
            exact h⟩
          go_enter Try.func62, Try.ntmps62
          go_wp2_with (first | (go_at_call 221; refine (impl_isSplit.calls a0_0 a0_1 a1 true _ HT.out).mono ?_; rintro e w1 ⟨rfl, hd⟩; have HB := Aside0.mk (below_step KB.out hd); have K2 := Aside0.mk (blk_below K1.out hd); have hc0 : w1.cell? ⟨w.heap.size, 0, none⟩ = some (.int .i64 a0_0) := (blk_cell K2.out 0).trans rfl; clear hd) | (go_at_call 222; refine (impl_isBit.calls a2 true _ HT2.out).mono ?_; rintro e w2 ⟨rfl, hd⟩; clear hc0; have HB2 := Aside0.mk (below_step HB.out hd.below); have K3 := Aside0.mk (blk_below K2.out hd.below); have hc0 : w2.cell? ⟨w.heap.size, 0, none⟩ = some (.int .i64 a0_0) := (blk_cell K3.out 0).trans rfl; have hc1 : w2.cell? ⟨w.heap.size, 1, none⟩ = some (.int .i64 a0_1) := (blk_cell K3.out 1).trans rfl; clear hd) | (go_at_call 223; refine (HGR.out _ _ (by have := HB2.out.size; simp; omega) (blk_new _ _)).mono ?_; rintro e w3 ⟨rfl, bv, hblk, hown, hgr⟩; obtain ⟨A4, c4, rfl, _, _⟩ := Kd.R_reads hown; have HO := Aside0.mk hown; have HB3 : Aside0 (Below w.heap.size w w3) := ⟨pw_below_grown (below_alloc HB2.out _) _ (by have := HB2.out.size; simp; omega) hgr (fun k hk => by cases hk; exact HB2.out.size)⟩; have hc4 : w3.cell? ⟨w2.heap.size, 4, none⟩ = some _ := (blk_cell hblk 4).trans rfl; clear hblk hown hgr))
          go_ret2
          exact ⟨_, rfl, Kd.R_mono HO.out (fun _ _ => trivial), HB3.out⟩
        next => cases h


end Go.Proofs.Yticfnpfagadcoaa.F
