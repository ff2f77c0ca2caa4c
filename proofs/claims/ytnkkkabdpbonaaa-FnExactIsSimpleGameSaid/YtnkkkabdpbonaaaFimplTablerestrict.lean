/- The walk of one Go function: a call of it ends as the Lean function of its name tells; the conditions are those of each theorem. -/
import Derived.Test.YtnkkkabdpbonaaaF0
import Derived.Test.YtnkkkabdpbonaaaBase
import Derived.Test.YtnkkkabdpbonaaaFimplTableat
import Derived.Test.YtnkkkabdpbonaaaFimplmakeTable
import Derived.Test.YtnkkkabdpbonaaaFimplspread
namespace Go.Proofs.Ytnkkkabdpbonaaa.F
open Go.RowKit Go.Proofs.YtnkkkabdpbonaaaW.PrintWords Go.Proofs.YtnkkkabdpbonaaaW.PrintLast Go.Proofs.YtnkkkabdpbonaaaW.PrintMore
attribute [local go_sem] max2_int min2_int max_two min_two max_three min_three max_four min_four   -- for this text's walks alone
set_option linter.unusedVariables false
set_option linter.unusedSimpArgs false

/-! ### impl_Table_restrict: function 96 -/
theorem spread_some {x i b : Nat} (hx : x < 16) (hi : i < 5) (hb : b ≤ 1) : impl_spread.f x i b = some ((B.ins x i b : Nat) : Int) := by
  have h : ∀ x : Fin 16, ∀ i : Fin 5, ∀ b : Fin 2, impl_spread.f ((x : Nat) : Int) ((i : Nat) : Int) ((b : Nat) : Int) = some ((B.ins x i b : Nat) : Int) := by decide +kernel
  exact h ⟨x, hx⟩ ⟨i, hi⟩ ⟨b, by omega⟩
theorem restrict_at {n : Int} {w x : Nat} (hw : w < 9223372036854775808) (hx : x ≤ 64) : impl_Table_at.f n w x = some ((B.bitN w x : Nat) : Int) := by
  unfold impl_Table_at.f
  rw [if_pos (by omega), B.bit_cast hw hx]
set_option maxHeartbeats 400000 in
set_option maxRecDepth 100000 in
theorem impl_Table_restrict_1.any (n : Int) (w i b x : Nat) (hw : w < 9223372036854775808) (hi : i < 5) (hb : b ≤ 1) (hx : x < 16) (g1 g2 g3 : Nat) (W : World) (h1 : W.heap[g1]? = some (.cells #[.int .i64 n, .int .i64 w] 25 (0, 0))) (h2 : W.heap[g2]? = some (.cells #[.int .i64 i] 3 (0, 0))) (h3 : W.heap[g3]? = some (.cells #[.int .i64 b] 3 (0, 0))) :
    Gives Try.prog 116 #[.pointer (some ⟨g1, 0, none⟩), .pointer (some ⟨g2, 0, none⟩), .pointer (some ⟨g3, 0, none⟩)] #[.int .i64 x] (.bool (w.testBit (B.ins x i b))) W := by
  show Calls Try.prog 116 #[.int .i64 x, .pointer (some ⟨g1, 0, none⟩), .pointer (some ⟨g2, 0, none⟩), .pointer (some ⟨g3, 0, none⟩)] W _
  have hu := Try.underlying25
  have hc0 : W.cell? ⟨g1, 0, none⟩ = some (.int .i64 n) := (blk_cell h1 0).trans rfl
  have hc1 : W.cell? ⟨g1, 1, none⟩ = some (.int .i64 w) := (blk_cell h1 1).trans rfl
  have hd0 : W.cell? ⟨g2, 0, none⟩ = some (.int .i64 i) := (blk_cell h2 0).trans rfl
  have he0 : W.cell? ⟨g3, 0, none⟩ = some (.int .i64 b) := (blk_cell h3 0).trans rfl
  have hlt := B.ins_lt hx hi hb
  have A1 := Aside0.mk (spread_some hx hi hb)
  generalize B.ins x i b = y at A1 hlt ⊢
  have A2 : Aside0 (impl_Table_at.f n w y = some ((B.bitN w y : Nat) : Int)) := ⟨restrict_at hw (by omega)⟩
  have hq : (((B.bitN w y : Nat) : Int) == 1) = w.testBit y := by unfold B.bitN; cases w.testBit y <;> rfl
  clear h1 h2 h3 hi hb hx hw hlt
  go_enter Try.func116, Try.ntmps116
  go_wp2
  have C0 : Aside0 (W.cell? ⟨g1, 0, none⟩ = some (.int .i64 n)) := ⟨hc0⟩
  have C1 : Aside0 (W.cell? ⟨g1, 1, none⟩ = some (.int .i64 w)) := ⟨hc1⟩
  have C2 : Aside0 (W.cell? ⟨g2, 0, none⟩ = some (.int .i64 i)) := ⟨hd0⟩
  have C3 : Aside0 (W.cell? ⟨g3, 0, none⟩ = some (.int .i64 b)) := ⟨he0⟩
  clear hc0 hc1 hd0 he0
  have HB := Aside0.mk (Below.refl W.heap.size W)
  have n0_ : Aside0 (W.drew.cell? ⟨g1, 0, none⟩ = some (.int .i64 n)) := C0
  clear C0
  have C0 := n0_
  clear n0_
  have n1_ : Aside0 (W.drew.cell? ⟨g1, 1, none⟩ = some (.int .i64 w)) := C1
  clear C1
  have C1 := n1_
  clear n1_
  have n2_ : Aside0 (W.drew.cell? ⟨g2, 0, none⟩ = some (.int .i64 i)) := C2
  clear C2
  have C2 := n2_
  clear n2_
  have n3_ : Aside0 (W.drew.cell? ⟨g3, 0, none⟩ = some (.int .i64 b)) := C3
  clear C3
  have C3 := n3_
  clear n3_
  have n_ := Aside0.mk (below_drew1 HB.out)
  clear HB
  have HB := n_
  clear n_
  refine start_ (n := 8) (S := (fun w_ => w_.cell? ⟨g1, 0, none⟩ = some (.int .i64 n) ∧ w_.cell? ⟨g1, 1, none⟩ = some (.int .i64 w) ∧ w_.cell? ⟨g2, 0, none⟩ = some (.int .i64 i) ∧ w_.cell? ⟨g3, 0, none⟩ = some (.int .i64 b))) (ds := []) #[false, false, false, false, false, false, false, false] (by kernel_rfl) rfl rfl ⟨C0.out, C1.out, C2.out, C3.out⟩ (fun hHeld => ?_)
  generalize W.drew = W0_ at C0 C1 C2 C3 HB hHeld ⊢
  refine pure_ (i := 1) (N := some 7) (v := ?_) (a' := ?_) #[false, true, false, false, false, false, false, false] rfl rfl (by kernel_rfl) (fun _ _ _ h => h) (Or.inl ⟨by rfl, ?_⟩) ?_ ?_
  rotate_left
  · intro w'
    go_simp
    with_reducible rfl
  rotate_left
  · simp only [Act.put, List.setIfInBounds_toArray, List.set_cons_zero, List.set_cons_succ, i64_w, i32_w]
    rfl
  refine take_ (i := 0) (N := some 6) (v := ?_) (a' := ?_) #[true, true, false, false, false, false, false, false] rfl rfl (by kernel_rfl) (fun _ _ _ h => h) (Or.inl ⟨by rfl, ?_⟩) hHeld ?_ ?_
  rotate_left
  · rintro w' ⟨s0, s1, s2, s3⟩
    go_simp
    with_reducible rfl
  rotate_left
  · simp only [Act.put, List.setIfInBounds_toArray, List.set_cons_zero, List.set_cons_succ, i64_w, i32_w]
    rfl
  refine take_ (i := 2) (N := some 8) (v := ?_) (a' := ?_) #[true, true, true, false, false, false, false, false] rfl rfl (by kernel_rfl) (fun _ _ _ h => h) (Or.inl ⟨by rfl, ?_⟩) hHeld ?_ ?_
  rotate_left
  · rintro w' ⟨s0, s1, s2, s3⟩
    go_simp
    with_reducible rfl
  rotate_left
  · simp only [Act.put, List.setIfInBounds_toArray, List.set_cons_zero, List.set_cons_succ, i64_w, i32_w]
    rfl
  refine take_ (i := 3) (N := some 9) (v := ?_) (a' := ?_) #[true, true, true, true, false, false, false, false] rfl rfl (by kernel_rfl) (fun _ _ _ h => h) (Or.inl ⟨by rfl, ?_⟩) hHeld ?_ ?_
  rotate_left
  · rintro w' ⟨s0, s1, s2, s3⟩
    go_simp
    with_reducible rfl
  rotate_left
  · simp only [Act.put, List.setIfInBounds_toArray, List.set_cons_zero, List.set_cons_succ, i64_w, i32_w]
    rfl
  refine one_ (i := 4) (N := some 10) #[true, true, true, true, true, false, false, false] rfl rfl (by kernel_rfl) (by decide) (fun K hK => ?_)
  refine goes_ Try.func117 (by kernel_rfl) rfl #[.int .i64 x, .int .i64 i, .int .i64 b] (by rfl) rfl rfl (by (try simp only [List.map_toArray, List.map_cons, List.map_nil]); first | done | rfl | (simp only [List.length_drop, List.length_take]; rfl)) ?_
  with_reducible refine (impl_spread.calls x i b y _ A1.out).mono ?_
  rintro e W1_ ⟨rfl, hd_⟩
  have hb := hd_.below
  clear hd_
  refine ⟨_, rfl, ?_⟩
  have n0_ : Aside0 (W1_.cell? ⟨g1, 0, none⟩ = some (.int .i64 n)) := ⟨pw_cell_below hb C0.out⟩
  clear C0
  have C0 := n0_
  clear n0_
  have n1_ : Aside0 (W1_.cell? ⟨g1, 1, none⟩ = some (.int .i64 w)) := ⟨pw_cell_below hb C1.out⟩
  clear C1
  have C1 := n1_
  clear n1_
  have n2_ : Aside0 (W1_.cell? ⟨g2, 0, none⟩ = some (.int .i64 i)) := ⟨pw_cell_below hb C2.out⟩
  clear C2
  have C2 := n2_
  clear n2_
  have n3_ : Aside0 (W1_.cell? ⟨g3, 0, none⟩ = some (.int .i64 b)) := ⟨pw_cell_below hb C3.out⟩
  clear C3
  have C3 := n3_
  clear n3_
  have n_ := Aside0.mk (below_step HB.out hb)
  clear HB hb
  have HB := n_
  clear n_
  refine hK.out _ _ ⟨C0.out, C1.out, C2.out, C3.out⟩ (fun hHeld => ?_)
  clear hK K
  refine norm_ (a' := ?_) ?_ ?_
  rotate_left
  · show Act.put _ (some 10) _ = _
    simp only [Act.put, List.setIfInBounds_toArray, List.set_cons_zero, List.set_cons_succ, i64_w, i32_w]
    rfl
  refine one_ (i := 5) (N := some 11) #[true, true, true, true, true, true, false, false] rfl rfl (by kernel_rfl) (by decide) (fun K hK => ?_)
  refine goes_ Try.func83 (by kernel_rfl) rfl #[.agg #[.int .i64 n, .int .i64 w], .int .i64 y] (by rfl) rfl rfl (by (try simp only [List.map_toArray, List.map_cons, List.map_nil]); first | done | rfl | (simp only [List.length_drop, List.length_take]; rfl)) ?_
  with_reducible refine (impl_Table_at.calls n w y _ _ A2.out).mono ?_
  rintro e W2_ ⟨rfl, hb⟩
  refine ⟨_, rfl, ?_⟩
  have n0_ : Aside0 (W2_.cell? ⟨g1, 0, none⟩ = some (.int .i64 n)) := ⟨pw_cell_below hb C0.out⟩
  clear C0
  have C0 := n0_
  clear n0_
  have n1_ : Aside0 (W2_.cell? ⟨g1, 1, none⟩ = some (.int .i64 w)) := ⟨pw_cell_below hb C1.out⟩
  clear C1
  have C1 := n1_
  clear n1_
  have n2_ : Aside0 (W2_.cell? ⟨g2, 0, none⟩ = some (.int .i64 i)) := ⟨pw_cell_below hb C2.out⟩
  clear C2
  have C2 := n2_
  clear n2_
  have n3_ : Aside0 (W2_.cell? ⟨g3, 0, none⟩ = some (.int .i64 b)) := ⟨pw_cell_below hb C3.out⟩
  clear C3
  have C3 := n3_
  clear n3_
  have n_ := Aside0.mk (below_step HB.out hb)
  clear HB hb
  have HB := n_
  clear n_
  refine hK.out _ _ ⟨C0.out, C1.out, C2.out, C3.out⟩ (fun hHeld => ?_)
  clear hK K
  refine norm_ (a' := ?_) ?_ ?_
  rotate_left
  · show Act.put _ (some 11) _ = _
    simp only [Act.put, List.setIfInBounds_toArray, List.set_cons_zero, List.set_cons_succ, i64_w, i32_w]
    rfl
  refine pure_ (i := 6) (N := some 12) (v := ?_) (a' := ?_) #[true, true, true, true, true, true, true, false] rfl rfl (by kernel_rfl) (fun _ _ _ h => h) (Or.inl ⟨by rfl, ?_⟩) ?_ ?_
  rotate_left
  · intro w'
    go_simp
    with_reducible rfl
  rotate_left
  · simp only [Act.put, List.setIfInBounds_toArray, List.set_cons_zero, List.set_cons_succ, i64_w, i32_w]
    rfl
  refine pure_ (i := 7) (N := some 5) (v := ?_) (a' := ?_) #[true, true, true, true, true, true, true, true] rfl rfl (by kernel_rfl) (fun _ _ _ h => h) (Or.inl ⟨by rfl, ?_⟩) ?_ ?_
  rotate_left
  · intro w'
    go_simp
    with_reducible rfl
  rotate_left
  · simp only [Act.put, List.setIfInBounds_toArray, List.set_cons_zero, List.set_cons_succ, i64_w, i32_w]
    rfl
  refine done_ (by kernel_rfl) ?_
  try go_wp2
  go_ret
  exact ⟨rfl, HB.out⟩
def impl_Table_restrict.f (a0_0 a0_1 a1 a2 : Int) : Option (Int × Int) :=
  if 1 ≤ a0_0 ∧ a0_0 ≤ 5 ∧ 0 ≤ a0_1 ∧ a0_1 < 4294967296 ∧ 0 ≤ a1 ∧ a1 < a0_0 ∧ 0 ≤ a2 ∧ a2 ≤ 1 then some (a0_0 - 1, ((B.tabN (fun x => a0_1.toNat.testBit (B.ins x a1.toNat a2.toNat)) (2 ^ (a0_0.toNat - 1)) : Nat) : Int)) else none
set_option maxHeartbeats 400000 in
set_option maxRecDepth 100000 in
theorem impl_Table_restrict.any (m v i b : Nat) (hm : m ≤ 4) (hv : v < 9223372036854775808) (hi : i < 5) (hb : b ≤ 1) (w : World) :
    Calls Try.prog 96 #[.agg #[.int .i64 ((m : Int) + 1), .int .i64 v], .int .i64 i, .int .i64 b] w fun e w' => e = .returned (.agg #[.int .i64 m, .int .i64 (B.tabN (fun x => v.testBit (B.ins x i b)) (2 ^ m) : Nat)]) ∧ Below w.heap.size w w' := by
  have hu := Try.underlying25
  have HM := Aside0.mk hm
  have HV := Aside0.mk hv
  have HI := Aside0.mk hi
  have HB := Aside0.mk hb
  clear hm hv hi hb
  have hm0 : (0 : Int) ≤ m := by omega
  have hm4 : (m : Int) ≤ 4 := by have := HM.out; omega
  have EG := Aside0.mk (enters_of Try.func116 (by kernel_rfl) rfl)
  go_enter Try.func96, Try.ntmps96
  go_wp2_with (go_at_call 108; refine (impl_makeTable.any m (Nat.le_succ_of_le HM.out) (fun x => v.testBit (B.ins x i b)) 116 #[.pointer (some ⟨w.heap.size, 0, none⟩), .pointer (some ⟨w.heap.size + 1, 0, none⟩), .pointer (some ⟨w.heap.size + 1 + 1, 0, none⟩)] EG.out _ (fun W x hx hb => impl_Table_restrict_1.any _ v i b x HV.out HI.out HB.out (Nat.lt_of_lt_of_le hx (B.pow_le_pow HM.out)) _ _ _ W (blk_below (blk_alloc (blk_alloc (blk_alloc (blk_new w _) _) _) _) hb) (blk_below (blk_alloc (blk_alloc (by simpa using blk_new (w.alloc (.cells #[.int .i64 ((m : Int) + 1), .int .i64 v] 25)) (.cells #[.int .i64 i] 3)) _) _) hb) (blk_below (blk_alloc (by simpa using blk_new ((w.alloc (.cells #[.int .i64 ((m : Int) + 1), .int .i64 v] 25)).alloc (.cells #[.int .i64 i] 3)) (.cells #[.int .i64 b] 3)) _) hb))).mono ?_; rintro e w' ⟨rfl, hb⟩; have BK : Aside0 (w'.heap[w.heap.size + 1 + 1 + 1]? = some (.cells #[.int .i64 0, .int .i64 0] 25 (0, 0))) := ⟨by have h_ := blk_below (blk_new _ _) hb; simpa using h_⟩; have HB := Aside0.mk (below_step (below_alloc (below_alloc (below_alloc (below_alloc (Below.refl w.heap.size w) _) _) _) _) hb); clear hb; have hc0 : w'.cell? ⟨w.heap.size + 1 + 1 + 1, 0, none⟩ = some (.int .i64 0) := (blk_cell BK.out 0).trans rfl; have hc1 : w'.cell? ⟨w.heap.size + 1 + 1 + 1, 1, none⟩ = some (.int .i64 0) := (blk_cell BK.out 1).trans rfl; have hf0 : w'.frozen? ⟨w.heap.size + 1 + 1 + 1, 0, none⟩ = false := blk_frozen BK.out 0; have hf1 : w'.frozen? ⟨w.heap.size + 1 + 1 + 1, 1, none⟩ = false := blk_frozen BK.out 1)
  refine bodyPost_ret (results_cell_row rfl _ _ (w.heap.size + 1 + 1 + 1) 25 #[.int .i64 m, .int .i64 (B.tabN (fun x => v.testBit (B.ins x i b)) (2 ^ m) : Nat)] (0, 0) _ rfl (by refine blk_put (cs := #[.int .i64 m, .int .i64 0]) ?_ 1 _ rfl; refine blk_put (cs := #[.int .i64 0, .int .i64 0]) ?_ 0 _ rfl; exact BK.out) Try.underlying25 rfl (by kernel_rfl)) rfl ?_
  exact ⟨rfl, below_set (below_set HB.out (by omega)) (by omega)⟩
theorem impl_Table_restrict.calls (a0_0 a0_1 a1 a2 r1 r2 : Int) (w : World) (h : impl_Table_restrict.f a0_0 a0_1 a1 a2 = some (r1, r2)) :
    Calls Try.prog 96 #[.agg #[.int .i64 a0_0, .int .i64 a0_1], .int .i64 a1, .int .i64 a2] w fun e w' => e = .returned (.agg #[.int .i64 r1, .int .i64 r2]) ∧ Below w.heap.size w w' := by
  unfold impl_Table_restrict.f at h
  split at h
  next hc =>
    obtain ⟨m, hm⟩ := Int.eq_ofNat_of_zero_le (show 0 ≤ a0_0 - 1 by omega)
    obtain rfl : a0_0 = (m : Int) + 1 := by omega
    obtain ⟨v, rfl⟩ := Int.eq_ofNat_of_zero_le hc.2.2.1
    obtain ⟨i, rfl⟩ := Int.eq_ofNat_of_zero_le hc.2.2.2.2.1
    obtain ⟨b, rfl⟩ := Int.eq_ofNat_of_zero_le hc.2.2.2.2.2.2.1
    rw [show ((m : Int) + 1).toNat - 1 = m by omega, hm] at h
    simp only [Option.some.injEq, Prod.mk.injEq, Int.toNat_natCast] at h
    obtain ⟨rfl, rfl⟩ := h
    exact impl_Table_restrict.any m v i b (by omega) (by omega) (by omega) (by omega) w
  next => cases h


end Go.Proofs.Ytnkkkabdpbonaaa.F
