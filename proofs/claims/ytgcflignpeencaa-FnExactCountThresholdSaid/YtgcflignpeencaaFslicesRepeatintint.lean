/- The walk of one Go function: a call of it ends as the Lean function of its name tells; the conditions are those of each theorem. -/
import Derived.Test.YtgcflignpeencaaF0
import Derived.Test.YtgcflignpeencaaFbitsMul
import Derived.Test.YtgcflignpeencaaBase
import Derived.Laws.CopyOwn
import Derived.Deep.RegionLaw
namespace Go.Proofs.Ytgcflignpeencaa.F
open Go.RowKit Go.Proofs.YtgcflignpeencaaW.PrintWords Go.Proofs.YtgcflignpeencaaW.PrintLast Go.Proofs.YtgcflignpeencaaW.PrintMore
attribute [local go_sem] max2_int min2_int max_two min_two max_three min_three max_four min_four   -- for this text's walks alone
set_option linter.unusedVariables false
set_option linter.unusedSimpArgs false

/-! ### slices_Repeat_int_int: function 65 -/
def slices_Repeat_int_int.f (l0 : List Int) (a1 : Int) : Option (List Int) := if l0.length = 1 ∧ 0 ≤ a1 ∧ a1 ≤ 100 then some (List.replicate a1.toNat (rd l0 0)) else none
/-- The array when n places are filled. -/
def slices_Repeat_int_int.blk (x : Int) (c n : Nat) : List Value := List.replicate n (.int .i64 x) ++ List.replicate (c - n) (.int .i64 0)
theorem slices_Repeat_int_int.blk_len {x : Int} {c n : Nat} (h : n ≤ c) : (slices_Repeat_int_int.blk x c n).length = c := by simp [slices_Repeat_int_int.blk]; omega
theorem slices_Repeat_int_int.blk_splice {x : Int} {c n m : Nat} (h : n + m ≤ c) : splice (slices_Repeat_int_int.blk x c n) n (List.replicate m (.int .i64 x)) = slices_Repeat_int_int.blk x c (n + m) := by
  unfold splice slices_Repeat_int_int.blk
  rw [List.length_replicate, List.take_append_of_le_length (by simp), List.take_of_length_le (by simp), List.drop_append, List.length_replicate, List.drop_of_length_le (by simp), List.nil_append, List.drop_replicate, ← List.append_assoc, List.replicate_append_replicate]
  congr 2
  omega
theorem slices_Repeat_int_int.made (c : Nat) (x : Int) : (madeCells #[.int .i64 0] c) = (slices_Repeat_int_int.blk x c 0).toArray := by
  apply Array.ext
  · simp [madeCells, slices_Repeat_int_int.blk]
  · intro i h1 h2
    simp [madeCells, slices_Repeat_int_int.blk, Nat.mod_one]
set_option maxHeartbeats 1000000 in
set_option maxRecDepth 100000 in
theorem slices_Repeat_int_int.any (ad : Addr) (c0 : Nat) (x : Int) (c : Nat) (hc : c ≤ 100) (w : World) (hx : w.cell? ad = some (.int .i64 x)) :
    Calls Try.prog 65 #[.slice (some ad) 1 c0, .int .i64 c] w fun e w' => e = .returned (.slice (some ⟨w.heap.size, 0, none⟩) c c) ∧ w'.heap[w.heap.size]? = some (.cells (slices_Repeat_int_int.blk x c c).toArray 3 (0, 0)) ∧ Below w.heap.size w w' := by
  have HMUL : Aside0 (bits_Mul.f 1 c = some (0, (c : Int))) := ⟨by
    have h : ∀ c : Fin 101, bits_Mul.f 1 ((c.val : Nat) : Int) = some (0, ((c.val : Nat) : Int)) := by decide +kernel
    exact h ⟨c, by omega⟩⟩
  have u1 : IntKind.u64.wrap (1 : Int) = 1 := by decide
  have u2 : IntKind.u64.wrap (c : Int) = (c : Int) := B.wrapu_of (by omega) (by omega)
  have u3 : IntKind.i64.wrap (c : Int) = (c : Int) := B.wrap_of (by omega) (by omega)
  have d1 : decide ((c : Int) < 0) = false := decide_eq_false (by omega)
  have d2 : decide ((9223372036854775807 : Int) < (c : Int)) = false := decide_eq_false (by omega)
  have HC := Aside0.mk hc
  have HX := Aside0.mk hx
  have hmk := run_make_row' (P := Try.prog) 22 3 (.int .i64 0) 8 Try.underlying22 info3 rfl .i64 .i64 c (by omega) (by omega)
  clear hc hx
  go_enter Try.func65, Try.ntmps65
  have HCP : Aside0 (∀ nd, ∃ W2, (Sem.run Try.prog (Builtin.copy_ #[22, 22] 3 #[.slice (some ⟨w.heap.size, 0, none⟩) c c, .slice (some ad) 1 c0]) ((w.drewN nd).alloc (.cells (madeCells #[.int .i64 0] c) 3 (0, 0)))) = Result.ok (.int .i64 ((min 1 c : Nat) : Int)) W2 ∧ Aside0 (W2.heap[w.heap.size]? = some (.cells (slices_Repeat_int_int.blk x c (min 1 c)).toArray 3 (0, 0))) ∧ Aside0 (Below w.heap.size w W2)) := ⟨by
    intro nd
    have hb := below_alloc (pw_below_drewN (Below.refl w.heap.size w) nd) (.cells (madeCells #[.int .i64 0] c) 3 (0, 0))
    have hg : ((w.drewN nd).alloc (.cells (madeCells #[.int .i64 0] c) 3 (0, 0))).heap[w.heap.size]? = some (.cells (madeCells #[.int .i64 0] c) 3 (0, 0)) := blk_new (w.drewN nd) _
    by_cases h0 : c = 0
    · subst h0
      refine ⟨_, run_copy_none _ _ _ _ _ _ _ _ _ _ _ Try.underlying22 (by kernel_rfl) (by rfl), ⟨?_⟩, ⟨hb⟩⟩
      rw [hg, slices_Repeat_int_int.made 0 x]; rfl
    · have hm : min 1 c = 1 := by omega
      have hh := HC.out
      rw [hm]
      refine ⟨_, run_copy_row _ _ _ _ _ _ _ 0 c c ad 1 c0 _ _ [Value.int .i64 x] Try.underlying22 (by kernel_rfl) hg (by show 1 = Nat.min 1 c; rw [show Nat.min 1 c = min 1 c from rfl, hm]) ?_ (by rw [size_madeCells]; show 0 + 1 ≤ c; omega) (fun v hv => by rw [List.mem_singleton.mp hv]; rfl), ⟨?_⟩, ⟨below_setRow hb (Nat.le_refl _) _⟩⟩
      · intro j v hj
        cases j with
        | zero => cases hj; exact pw_cell_below hb HX.out
        | succ j => cases hj
      · refine Eq.trans (setRow_heap _ _ _ _ _ _ hg) ?_
        rw [slices_Repeat_int_int.made c x]
        have := slices_Repeat_int_int.blk_splice (x := x) (c := c) (n := 0) (m := 1) (by omega)
        unfold splice at this
        rw [List.length_replicate, Nat.zero_add] at this
        simp only [List.replicate_one, List.append_assoc] at this ⊢
        exact congrArg (fun z : List Value => some (Obj.cells z.toArray 3 (0, 0))) this⟩
  go_wp2_with (first | (go_at_call 77; refine (bits_Mul.calls 1 c 0 c _ HMUL.out).mono ?_; rintro e w1 ⟨rfl, ⟨nd, rfl⟩⟩; obtain ⟨W2, hrun, HG2, HB2⟩ := HCP.out nd))
  clear hrun hmk u1 u2 u3 d1 d2
  go_loopg [8] c (fun gg v8 wr => ∃ n : Nat, n ≤ c ∧ c - n ≤ gg ∧ v8 = .int .i64 n ∧ Aside0 (n = 0 → c = 0) ∧ Aside0 (wr.heap[w.heap.size]? = some (.cells (slices_Repeat_int_int.blk x c n).toArray 3 (0, 0))) ∧ Aside0 (Below w.heap.size w wr))
  case atStart => exact ⟨min 1 c, Nat.min_le_right _ _, by omega, rfl, ⟨by omega⟩, HG2, HB2⟩
  case round =>
    clear HG2 HB2
    obtain ⟨n, hn, hg, rfl, HZ, HG, HB⟩ := hrel
    by_cases hlt : n < c
    · have hltz : (n : Int) < (c : Int) := by omega
      have h0z : (0 : Int) ≤ (n : Int) := by omega
      have hlez : (n : Int) ≤ (c : Int) := by omega
      have hne : ¬ c = n := by omega
      have HCQ : Aside0 (∃ W3, (Sem.run Try.prog (Builtin.copy_ #[22, 22] 3 #[.slice (some ⟨w.heap.size, n, none⟩) (c - n) (c - n), .slice (some ⟨w.heap.size, 0, none⟩) n c]) wr.drew) = Result.ok (.int .i64 ((min n (c - n) : Nat) : Int)) W3 ∧ Aside0 (W3.heap[w.heap.size]? = some (.cells (slices_Repeat_int_int.blk x c (n + min n (c - n))).toArray 3 (0, 0))) ∧ Aside0 (Below w.heap.size w W3)) := ⟨by
        have hbl := slices_Repeat_int_int.blk_len (x := x) hn
        refine ⟨_, ?_, ⟨?_⟩, ⟨below_setRow (below_drew1 HB.out) (Nat.le_refl _) (((slices_Repeat_int_int.blk x c n).take n ++ List.replicate (min n (c - n)) (Value.int .i64 x) ++ (slices_Repeat_int_int.blk x c n).drop (n + (List.replicate (min n (c - n)) (Value.int .i64 x)).length)).toArray)⟩⟩
        · have := run_copy_row Try.prog wr.drew 22 22 3 3 w.heap.size n (c - n) (c - n) ⟨w.heap.size, 0, none⟩ n c (slices_Repeat_int_int.blk x c n).toArray 3 (List.replicate (min n (c - n)) (.int .i64 x)) Try.underlying22 (by kernel_rfl) (blk_drew HG.out) (by rw [List.length_replicate]) (fun j v hj => ?_) (by have := hbl; simp only [List.length_replicate, List.size_toArray] at *; omega) (fun v hv => by rw [(List.mem_replicate.mp hv).2]; rfl)
          · rw [List.length_replicate] at this
            rw [List.length_replicate]
            exact this
          · have hj2 : j < min n (c - n) := by
              rcases Nat.lt_or_ge j (min n (c - n)) with q | q
              · exact q
              · rw [List.getElem?_eq_none (by simpa using q)] at hj; cases hj
            rw [List.getElem?_replicate, if_pos hj2] at hj
            have hc := blk_cell (blk_drew HG.out) j
            simp only [add_plain, Nat.zero_add]
            refine hc.trans ?_
            rw [List.getElem?_toArray, slices_Repeat_int_int.blk, List.getElem?_append_left (by rw [List.length_replicate]; omega), List.getElem?_replicate, if_pos (by omega)]
            exact hj
        · refine Eq.trans (setRow_heap _ _ _ _ _ _ (blk_drew HG.out)) ?_
          have := slices_Repeat_int_int.blk_splice (x := x) (c := c) (n := n) (m := min n (c - n)) (by omega)
          unfold splice at this
          rw [← List.append_assoc] at this
          exact congrArg (fun z : List Value => some (Obj.cells z.toArray 3 (0, 0))) this⟩
      obtain ⟨W3, hrun, HG3, HB3⟩ := HCQ.out
      clear HCQ
      go_wp2
      go_region
      go_wp2
      go_roundg (c - (n + min n (c - n)))
      case measure => have := HZ.out; omega
      case rel => exact ⟨n + min n (c - n), by omega, by omega, by have := HC.out; rw [B.wrap64_of (by omega) (by omega)]; congr 1, ⟨by have := HZ.out; omega⟩, HG3, HB3⟩
    · have hltz : ¬ (n : Int) < (c : Int) := by omega
      obtain rfl : n = c := by omega
      go_wp2
      go_ret
      exact ⟨rfl, HG.out, HB.out⟩
theorem slices_Repeat_int_int.calls (A0 : Option Addr) (c0 : Nat) (l0 : List Int) (a1 : Int) (r : List Int) (w : World) (hr0 : Kd.C (Kd.int .i64) w A0 l0.length l0) (hc0 : l0.length ≤ c0) (h : slices_Repeat_int_int.f l0 a1 = some r) :
    Calls Try.prog 65 #[.slice A0 l0.length c0, .int .i64 a1] w fun e w' => ∃ v0_ : Value, e = .returned (v0_) ∧ Kd.R (Kd.int .i64) 3 w' w.heap.size (fun _ => True) v0_ r ∧ Below w.heap.size w w' := by
  unfold slices_Repeat_int_int.f at h
  split at h
  next hh =>
    cases h
    obtain ⟨c, rfl⟩ := Int.eq_ofNat_of_zero_le hh.2.1
    obtain ⟨ad, rfl, hx⟩ := Kd.at_int hr0 0 (by omega) (by omega)
    rw [hh.1, Int.toNat_natCast]
    refine (slices_Repeat_int_int.any ad c0 (rd l0 0) c (by omega) w (by simpa [Addr.add] using hx)).mono ?_
    rintro e w' ⟨rfl, hg, hb⟩
    have hbk : slices_Repeat_int_int.blk (rd l0 0) c c = List.replicate c (Value.int .i64 (rd l0 0)) := by simp [slices_Repeat_int_int.blk]
    rw [hbk] at hg
    refine ⟨_, rfl, Kd.R_of_own (enc := Value.int .i64) ⟨?_, .inr ⟨w.heap.size, c, _, ?_, Nat.le_refl _, hg, ?_, ?_, ?_, ?_⟩⟩ (fun k hk => trivial), hb⟩
    · rw [encs, List.length_map, Nat.mul_one]
    · rw [List.length_replicate]
    · rw [List.length_replicate]; exact Nat.le_refl _
    · unfold maxLen; omega
    · simp
    · simp [encs]
  next => cases h


end Go.Proofs.Ytgcflignpeencaa.F
