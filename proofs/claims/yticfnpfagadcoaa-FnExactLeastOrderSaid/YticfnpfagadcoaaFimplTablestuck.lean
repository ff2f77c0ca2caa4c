/- The walk of one Go function: a call of it ends as the Lean function of its name tells; the conditions are those of each theorem. -/
import Derived.Test.YticfnpfagadcoaaF0
import Derived.Test.YticfnpfagadcoaaFGa
import Derived.Test.YticfnpfagadcoaaFGa
import Derived.Test.YticfnpfagadcoaaBase
namespace Go.Proofs.Yticfnpfagadcoaa.F
open Go.RowKit Go.Proofs.YticfnpfagadcoaaW.PrintWords Go.Proofs.YticfnpfagadcoaaW.PrintLast Go.Proofs.YticfnpfagadcoaaW.PrintMore
attribute [local go_sem] max2_int min2_int max_two min_two max_three min_three max_four min_four   -- for this text's walks alone
set_option linter.unusedVariables false
set_option linter.unusedSimpArgs false

/-! ### impl_Table_stuck: function 299 -/
/-- The input with a bit set to a value. -/
def stk (x i b : Nat) : Nat := B.ldiff x (2 ^ i) ||| (b <<< i)
theorem stk_lt {x i b : Nat} (hx : x < 32) (hi : i < 5) (hb : b ≤ 1) : stk x i b < 32 := by
  have h : ∀ x : Fin 32, ∀ i : Fin 5, ∀ b : Fin 2, stk x i b < 32 := by decide +kernel
  exact h ⟨x, hx⟩ ⟨i, hi⟩ ⟨b, by omega⟩
theorem stuck_at {n : Int} {w x : Nat} (hw : w < 9223372036854775808) (hx : x ≤ 64) : impl_Table_at.f n w x = some ((B.bitN w x : Nat) : Int) := by
  unfold impl_Table_at.f
  rw [if_pos (by omega), B.bit_cast hw hx]
set_option maxHeartbeats 400000 in
set_option maxRecDepth 100000 in
theorem impl_Table_stuck_1.any (n : Int) (w i b x : Nat) (hw : w < 9223372036854775808) (hi : i < 5) (hb : b ≤ 1) (hx : x < 32) (g1 g2 g3 : Nat) (W : World) (h1 : W.heap[g1]? = some (.cells #[.int .i64 n, .int .i64 w] 25 (0, 0))) (h2 : W.heap[g2]? = some (.cells #[.int .i64 i] 3 (0, 0))) (h3 : W.heap[g3]? = some (.cells #[.int .i64 b] 3 (0, 0))) :
    Gives Try.prog 302 #[.pointer (some ⟨g1, 0, none⟩), .pointer (some ⟨g2, 0, none⟩), .pointer (some ⟨g3, 0, none⟩)] #[.int .i64 x] (.bool (w.testBit (stk x i b))) W := by
  show Calls Try.prog 302 #[.int .i64 x, .pointer (some ⟨g1, 0, none⟩), .pointer (some ⟨g2, 0, none⟩), .pointer (some ⟨g3, 0, none⟩)] W _
  have hu := Try.underlying25
  have C0 : Aside0 (W.cell? ⟨g1, 0, none⟩ = some (.int .i64 n)) := ⟨(blk_cell h1 0).trans rfl⟩
  have C1 : Aside0 (W.cell? ⟨g1, 1, none⟩ = some (.int .i64 w)) := ⟨(blk_cell h1 1).trans rfl⟩
  have C2 : Aside0 (W.cell? ⟨g2, 0, none⟩ = some (.int .i64 i)) := ⟨(blk_cell h2 0).trans rfl⟩
  have C3 : Aside0 (W.cell? ⟨g3, 0, none⟩ = some (.int .i64 b)) := ⟨(blk_cell h3 0).trans rfl⟩
  have hlt := stk_lt hx hi hb
  have b1 : (i : Int) ≤ 64 := by omega
  have b0 : (0 : Int) ≤ i := by omega
  have hp : 2 ^ i < 32 := by have := Nat.pow_lt_pow_right (a := 2) (by decide) hi; omega
  have hs : b <<< i < 32 := by rw [Nat.shiftLeft_eq]; have := Nat.mul_le_mul_right (2 ^ i) hb; omega
  have E1 : IntKind.i64.wrap ((2 : Int) ^ i) = ((2 ^ i : Nat) : Int) := by rw [i64_w, show (2 : Int) ^ i = ((2 ^ i : Nat) : Int) by simp]; exact B.wrap64_cast (by omega)
  have E2 : Go.bits .andNot .i64 (x : Int) ((2 ^ i : Nat) : Int) = ((B.ldiff x (2 ^ i) : Nat) : Int) := B.andNot_cast (by omega) (by omega)
  have E3 : IntKind.i64.wrap ((b : Int) * (2 : Int) ^ i) = ((b <<< i : Nat) : Int) := by rw [i64_w, show (b : Int) * (2 : Int) ^ i = ((b <<< i : Nat) : Int) by rw [Nat.shiftLeft_eq]; simp]; exact B.wrap64_cast (by omega)
  have E4 : Go.bits .or .i64 ((B.ldiff x (2 ^ i) : Nat) : Int) ((b <<< i : Nat) : Int) = ((stk x i b : Nat) : Int) := B.or_cast (by have := B.ldiff_lt (b := 2 ^ i) (n := 5) (show x < 2 ^ 5 from hx); omega) (by omega)
  have A2 : Aside0 (impl_Table_at.f n w (stk x i b : Nat) = some ((B.bitN w (stk x i b) : Nat) : Int)) := ⟨stuck_at hw (by omega)⟩
  have hq : (((B.bitN w (stk x i b) : Nat) : Int) == 1) = w.testBit (stk x i b) := by unfold B.bitN; cases w.testBit (stk x i b) <;> rfl
  generalize stk x i b = y at A2 E4 hq hlt ⊢
  generalize B.ldiff x (2 ^ i) = l1 at E2 E4
  generalize b <<< i = l2 at E3 E4 hs
  generalize 2 ^ i = p2 at E1 E2 hp
  clear h1 h2 h3 hi hb hx hw hlt hp hs
  go_enter Try.func302, Try.ntmps302
  go_wp2
  have HB := Aside0.mk (Below.refl W.heap.size W)
  have n0_ : Aside0 (W.drew.cell? ⟨g1, 0, none⟩ = some (.int .i64 n)) := C0
  clear C0
  have C0 := n0_
  clear n0_
  have n1_ : Aside0 (W.drew.cell? ⟨g1, 1, none⟩ = some (.int .i64 w)) := C1
  clear C1
  have C1 := n1_
  clear n1_
  have n2_ : Aside0 (W.drew.cell? ⟨g2, 0, none⟩ = some (.int .i64 i)) := C2
  clear C2
  have C2 := n2_
  clear n2_
  have n3_ : Aside0 (W.drew.cell? ⟨g3, 0, none⟩ = some (.int .i64 b)) := C3
  clear C3
  have C3 := n3_
  clear n3_
  have n_ := Aside0.mk (below_drew1 HB.out)
  clear HB
  have HB := n_
  clear n_
  refine start_ (n := 12) (S := (fun w_ => w_.cell? ⟨g1, 0, none⟩ = some (.int .i64 n) ∧ w_.cell? ⟨g1, 1, none⟩ = some (.int .i64 w) ∧ w_.cell? ⟨g2, 0, none⟩ = some (.int .i64 i) ∧ w_.cell? ⟨g3, 0, none⟩ = some (.int .i64 b))) (ds := []) #[false, false, false, false, false, false, false, false, false, false, false, false] (by kernel_rfl) rfl rfl ⟨C0.out, C1.out, C2.out, C3.out⟩ (fun hHeld => ?_)
  generalize W.drew = W0_ at C0 C1 C2 C3 HB hHeld ⊢
  refine pure_ (i := 1) (N := some 7) (v := ?_) (a' := ?_) #[false, true, false, false, false, false, false, false, false, false, false, false] rfl rfl (by kernel_rfl) (fun _ _ _ h => h) (Or.inl ⟨by rfl, ?_⟩) ?_ ?_
  rotate_left
  · intro w'
    go_simp
    with_reducible rfl
  rotate_left
  · simp only [Act.put, List.setIfInBounds_toArray, List.set_cons_zero, List.set_cons_succ, i64_w, i32_w]
    rfl
  refine take_ (i := 0) (N := some 6) (v := ?_) (a' := ?_) #[true, true, false, false, false, false, false, false, false, false, false, false] rfl rfl (by kernel_rfl) (fun _ _ _ h => h) (Or.inl ⟨by rfl, ?_⟩) hHeld ?_ ?_
  rotate_left
  · rintro w' ⟨s0, s1, s2, s3⟩
    go_simp
    with_reducible rfl
  rotate_left
  · simp only [Act.put, List.setIfInBounds_toArray, List.set_cons_zero, List.set_cons_succ, i64_w, i32_w]
    rfl
  refine take_ (i := 2) (N := some 8) (v := ?_) (a' := ?_) #[true, true, true, false, false, false, false, false, false, false, false, false] rfl rfl (by kernel_rfl) (fun _ _ _ h => h) (Or.inl ⟨by rfl, ?_⟩) hHeld ?_ ?_
  rotate_left
  · rintro w' ⟨s0, s1, s2, s3⟩
    go_simp
    with_reducible rfl
  rotate_left
  · simp only [Act.put, List.setIfInBounds_toArray, List.set_cons_zero, List.set_cons_succ, i64_w, i32_w]
    rfl
  refine pure_ (i := 3) (N := some 9) (v := ?_) (a' := ?_) #[true, true, true, true, false, false, false, false, false, false, false, false] rfl rfl (by kernel_rfl) (fun _ _ _ h => h) (Or.inl ⟨by rfl, ?_⟩) ?_ ?_
  rotate_left
  · intro w'
    go_simp
    skip
    with_reducible rfl
  rotate_left
  · simp only [Act.put, List.setIfInBounds_toArray, List.set_cons_zero, List.set_cons_succ, i64_w, i32_w]
    rfl
  refine pure_ (i := 4) (N := some 10) (v := ?_) (a' := ?_) #[true, true, true, true, true, false, false, false, false, false, false, false] rfl rfl (by kernel_rfl) (fun _ _ _ h => h) (Or.inl ⟨by rfl, ?_⟩) ?_ ?_
  rotate_left
  · intro w'
    go_simp
    skip
    with_reducible rfl
  rotate_left
  · simp only [Act.put, List.setIfInBounds_toArray, List.set_cons_zero, List.set_cons_succ, i64_w, i32_w]
    rfl
  refine take_ (i := 5) (N := some 11) (v := ?_) (a' := ?_) #[true, true, true, true, true, true, false, false, false, false, false, false] rfl rfl (by kernel_rfl) (fun _ _ _ h => h) (Or.inl ⟨by rfl, ?_⟩) hHeld ?_ ?_
  rotate_left
  · rintro w' ⟨s0, s1, s2, s3⟩
    go_simp
    with_reducible rfl
  rotate_left
  · simp only [Act.put, List.setIfInBounds_toArray, List.set_cons_zero, List.set_cons_succ, i64_w, i32_w]
    rfl
  refine take_ (i := 6) (N := some 12) (v := ?_) (a' := ?_) #[true, true, true, true, true, true, true, false, false, false, false, false] rfl rfl (by kernel_rfl) (fun _ _ _ h => h) (Or.inl ⟨by rfl, ?_⟩) hHeld ?_ ?_
  rotate_left
  · rintro w' ⟨s0, s1, s2, s3⟩
    go_simp
    with_reducible rfl
  rotate_left
  · simp only [Act.put, List.setIfInBounds_toArray, List.set_cons_zero, List.set_cons_succ, i64_w, i32_w]
    rfl
  refine pure_ (i := 7) (N := some 13) (v := ?_) (a' := ?_) #[true, true, true, true, true, true, true, true, false, false, false, false] rfl rfl (by kernel_rfl) (fun _ _ _ h => h) (Or.inl ⟨by rfl, ?_⟩) ?_ ?_
  rotate_left
  · intro w'
    go_simp
    skip
    with_reducible rfl
  rotate_left
  · simp only [Act.put, List.setIfInBounds_toArray, List.set_cons_zero, List.set_cons_succ, i64_w, i32_w]
    rfl
  refine pure_ (i := 8) (N := some 14) (v := ?_) (a' := ?_) #[true, true, true, true, true, true, true, true, true, false, false, false] rfl rfl (by kernel_rfl) (fun _ _ _ h => h) (Or.inl ⟨by rfl, ?_⟩) ?_ ?_
  rotate_left
  · intro w'
    go_simp
    skip
    with_reducible rfl
  rotate_left
  · simp only [Act.put, List.setIfInBounds_toArray, List.set_cons_zero, List.set_cons_succ, i64_w, i32_w]
    rfl
  refine one_ (i := 9) (N := some 15) #[true, true, true, true, true, true, true, true, true, true, false, false] rfl rfl (by kernel_rfl) (by decide) (fun K hK => ?_)
  refine goes_ Try.func190 (by kernel_rfl) rfl #[.agg #[.int .i64 n, .int .i64 w], .int .i64 y] (by rfl) rfl rfl (by (try simp only [List.map_toArray, List.map_cons, List.map_nil]); first | done | rfl | (simp only [List.length_drop, List.length_take]; rfl)) ?_
  with_reducible refine (impl_Table_at.calls n w y _ _ A2.out).mono ?_
  rintro e W1_ ⟨rfl, hb⟩
  refine ⟨_, rfl, ?_⟩
  have n0_ : Aside0 (W1_.cell? ⟨g1, 0, none⟩ = some (.int .i64 n)) := ⟨pw_cell_below hb C0.out⟩
  clear C0
  have C0 := n0_
  clear n0_
  have n1_ : Aside0 (W1_.cell? ⟨g1, 1, none⟩ = some (.int .i64 w)) := ⟨pw_cell_below hb C1.out⟩
  clear C1
  have C1 := n1_
  clear n1_
  have n2_ : Aside0 (W1_.cell? ⟨g2, 0, none⟩ = some (.int .i64 i)) := ⟨pw_cell_below hb C2.out⟩
  clear C2
  have C2 := n2_
  clear n2_
  have n3_ : Aside0 (W1_.cell? ⟨g3, 0, none⟩ = some (.int .i64 b)) := ⟨pw_cell_below hb C3.out⟩
  clear C3
  have C3 := n3_
  clear n3_
  have n_ := Aside0.mk (below_step HB.out hb)
  clear HB hb
  have HB := n_
  clear n_
  refine hK.out _ _ ⟨C0.out, C1.out, C2.out, C3.out⟩ (fun hHeld => ?_)
  clear hK K
  refine norm_ (a' := ?_) ?_ ?_
  rotate_left
  · show Act.put _ (some 15) _ = _
    simp only [Act.put, List.setIfInBounds_toArray, List.set_cons_zero, List.set_cons_succ, i64_w, i32_w]
    rfl
  refine pure_ (i := 10) (N := some 16) (v := ?_) (a' := ?_) #[true, true, true, true, true, true, true, true, true, true, true, false] rfl rfl (by kernel_rfl) (fun _ _ _ h => h) (Or.inl ⟨by rfl, ?_⟩) ?_ ?_
  rotate_left
  · intro w'
    go_simp
    with_reducible rfl
  rotate_left
  · simp only [Act.put, List.setIfInBounds_toArray, List.set_cons_zero, List.set_cons_succ, i64_w, i32_w]
    rfl
  refine pure_ (i := 11) (N := some 5) (v := ?_) (a' := ?_) #[true, true, true, true, true, true, true, true, true, true, true, true] rfl rfl (by kernel_rfl) (fun _ _ _ h => h) (Or.inl ⟨by rfl, ?_⟩) ?_ ?_
  rotate_left
  · intro w'
    go_simp
    with_reducible rfl
  rotate_left
  · simp only [Act.put, List.setIfInBounds_toArray, List.set_cons_zero, List.set_cons_succ, i64_w, i32_w]
    rfl
  refine done_ (by kernel_rfl) ?_
  try go_wp2
  go_ret
  exact ⟨rfl, HB.out⟩
set_option maxHeartbeats 400000 in
set_option maxRecDepth 100000 in
theorem impl_Table_stuck.any (n v i b : Nat) (hn : n ≤ 5) (hv : v < 9223372036854775808) (hi : i < 5) (hb : b ≤ 1) (w : World) :
    Calls Try.prog 299 #[.agg #[.int .i64 n, .int .i64 v], .int .i64 i, .int .i64 b] w fun e w' => e = .returned (.agg #[.int .i64 n, .int .i64 (B.tabN (fun x => v.testBit (stk x i b)) (2 ^ n) : Nat)]) ∧ Below w.heap.size w w' := by
  have hu := Try.underlying25
  have HN := Aside0.mk hn
  have HV := Aside0.mk hv
  have HI := Aside0.mk hi
  have HB := Aside0.mk hb
  clear hn hv hi hb
  have EG := Aside0.mk (enters_of Try.func302 (by kernel_rfl) rfl)
  go_enter Try.func299, Try.ntmps299
  go_wp2_with (go_at_call 214; refine (impl_makeTable.any n HN.out (fun x => v.testBit (stk x i b)) 302 #[.pointer (some ⟨w.heap.size, 0, none⟩), .pointer (some ⟨w.heap.size + 1, 0, none⟩), .pointer (some ⟨w.heap.size + 1 + 1, 0, none⟩)] EG.out _ (fun W x hx hb => impl_Table_stuck_1.any _ v i b x HV.out HI.out HB.out (Nat.lt_of_lt_of_le hx (B.pow_le HN.out)) _ _ _ W (blk_below (blk_alloc (blk_alloc (blk_alloc (blk_new w _) _) _) _) hb) (blk_below (blk_alloc (blk_alloc (by simpa using blk_new (w.alloc (.cells #[.int .i64 n, .int .i64 v] 25)) (.cells #[.int .i64 i] 3)) _) _) hb) (blk_below (blk_alloc (by simpa using blk_new ((w.alloc (.cells #[.int .i64 n, .int .i64 v] 25)).alloc (.cells #[.int .i64 i] 3)) (.cells #[.int .i64 b] 3)) _) hb))).mono ?_; rintro e w' ⟨rfl, hb⟩; have BK : Aside0 (w'.heap[w.heap.size + 1 + 1 + 1]? = some (.cells #[.int .i64 0, .int .i64 0] 25 (0, 0))) := ⟨by have h_ := blk_below (blk_new _ _) hb; simpa using h_⟩; have HB := Aside0.mk (below_step (below_alloc (below_alloc (below_alloc (below_alloc (Below.refl w.heap.size w) _) _) _) _) hb); clear hb; have hc0 : w'.cell? ⟨w.heap.size + 1 + 1 + 1, 0, none⟩ = some (.int .i64 0) := (blk_cell BK.out 0).trans rfl; have hc1 : w'.cell? ⟨w.heap.size + 1 + 1 + 1, 1, none⟩ = some (.int .i64 0) := (blk_cell BK.out 1).trans rfl; have hf0 : w'.frozen? ⟨w.heap.size + 1 + 1 + 1, 0, none⟩ = false := blk_frozen BK.out 0; have hf1 : w'.frozen? ⟨w.heap.size + 1 + 1 + 1, 1, none⟩ = false := blk_frozen BK.out 1)
  refine bodyPost_ret (results_cell_row rfl _ _ (w.heap.size + 1 + 1 + 1) 25 #[.int .i64 n, .int .i64 (B.tabN (fun x => v.testBit (stk x i b)) (2 ^ n) : Nat)] (0, 0) _ rfl (by refine blk_put (cs := #[.int .i64 n, .int .i64 0]) ?_ 1 _ rfl; refine blk_put (cs := #[.int .i64 0, .int .i64 0]) ?_ 0 _ rfl; exact BK.out) Try.underlying25 rfl (by kernel_rfl)) rfl ?_
  exact ⟨rfl, below_set (below_set HB.out (by omega)) (by omega)⟩
def impl_Table_stuck.f (a0_0 a0_1 a1 a2 : Int) : Option (Int × Int) :=
  if 0 ≤ a0_0 ∧ a0_0 ≤ 5 ∧ 0 ≤ a0_1 ∧ a0_1 < 4294967296 ∧ 0 ≤ a1 ∧ a1 < 5 ∧ 0 ≤ a2 ∧ a2 ≤ 1 then some (a0_0, ((B.tabN (fun x => a0_1.toNat.testBit (stk x a1.toNat a2.toNat)) (2 ^ a0_0.toNat) : Nat) : Int)) else none
theorem impl_Table_stuck.calls (a0_0 a0_1 a1 a2 r1 r2 : Int) (w : World) (h : impl_Table_stuck.f a0_0 a0_1 a1 a2 = some (r1, r2)) :
    Calls Try.prog 299 #[.agg #[.int .i64 a0_0, .int .i64 a0_1], .int .i64 a1, .int .i64 a2] w fun e w' => e = .returned (.agg #[.int .i64 r1, .int .i64 r2]) ∧ Below w.heap.size w w' := by
  unfold impl_Table_stuck.f at h
  split at h
  next hc =>
    obtain ⟨n, rfl⟩ := Int.eq_ofNat_of_zero_le hc.1
    obtain ⟨v, rfl⟩ := Int.eq_ofNat_of_zero_le hc.2.2.1
    obtain ⟨i, rfl⟩ := Int.eq_ofNat_of_zero_le hc.2.2.2.2.1
    obtain ⟨b, rfl⟩ := Int.eq_ofNat_of_zero_le hc.2.2.2.2.2.2.1
    simp only [Option.some.injEq, Prod.mk.injEq, Int.toNat_natCast] at h
    obtain ⟨rfl, rfl⟩ := h
    exact impl_Table_stuck.any n v i b (by omega) (by omega) (by omega) (by omega) w
  next => cases h


end Go.Proofs.Yticfnpfagadcoaa.F
