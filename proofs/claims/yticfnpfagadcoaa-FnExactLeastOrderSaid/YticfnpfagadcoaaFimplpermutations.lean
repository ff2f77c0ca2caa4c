/- The walk of one Go function: a call of it ends as the Lean function of its name tells; the conditions are those of each theorem. -/
import Derived.Test.YticfnpfagadcoaaF0
import Derived.Test.YticfnpfagadcoaaBase
import Derived.Laws.EntriesVeiled
namespace Go.Proofs.Yticfnpfagadcoaa.F
open Go.RowKit Go.Proofs.YticfnpfagadcoaaW.PrintWords Go.Proofs.YticfnpfagadcoaaW.PrintLast Go.Proofs.YticfnpfagadcoaaW.PrintMore
attribute [local go_sem] max2_int min2_int max_two min_two max_three min_three max_four min_four   -- for this text's walks alone
set_option linter.unusedVariables false
set_option linter.unusedSimpArgs false

/-! ### impl_permutations: function 228 -/
theorem pd_left {l m : List Int} {i : Nat} (h : i < l.length) : rd (l ++ m) i = rd l i := by
  unfold rd
  rw [Int.toNat_natCast, List.getD_eq_getElem?_getD, List.getD_eq_getElem?_getD, List.getElem?_append_left h]
theorem pd_last (l : List Int) (x : Int) : rd (l ++ [x]) (l.length : Int) = x := by
  unfold rd
  rw [Int.toNat_natCast, List.getD_eq_getElem?_getD, List.getElem?_append_right (Nat.le_refl _), Nat.sub_self]
  rfl
def perUp (f : Nat → List (List Int)) : Nat → List (List Int)
  | 0 => []
  | x + 1 => perUp f x ++ f x
/-- All orders that go on from l, with d numbers to come. -/
def perF (n : Nat) : Nat → List Int → List (List Int)
  | 0, l => [l]
  | d + 1, l => perUp (fun x => if l.contains (x : Int) = true then [] else perF n d (l ++ [(x : Int)])) n
theorem perUp_len {f : Nat → List (List Int)} {m : Nat} (h : ∀ x, (f x).length ≤ m) : ∀ n, (perUp f n).length ≤ n * m := by
  intro n
  induction n with
  | zero => exact Nat.zero_le _
  | succ n ih =>
    have := h n
    rw [perUp, List.length_append, Nat.succ_mul]
    omega
theorem perF_len (n : Nat) : ∀ d l, (perF n d l).length ≤ n ^ d := by
  intro d
  induction d with
  | zero => intro l; rw [perF]; exact Nat.le_refl _
  | succ d ih =>
    intro l
    rw [perF, Nat.pow_succ, Nat.mul_comm]
    refine perUp_len (fun x => ?_) n
    split
    · exact Nat.zero_le _
    · exact ih _
/-- Which numbers are used. -/
def useA (n : Nat) (u : List Int) : Array Value := ((List.range n).map fun i : Nat => Value.bool (u.contains (i : Int))).toArray
theorem useA_size (n : Nat) (u : List Int) : (useA n u).size = n := by simp [useA]
theorem useA_get {n i : Nat} (u : List Int) (h : i < n) : (useA n u)[i]? = some (.bool (u.contains (i : Int))) := by simp [useA, h]
theorem useA_on {n x : Nat} (u : List Int) (h : x < n) : (useA n u).setIfInBounds x (.bool true) = useA n (u ++ [(x : Int)]) := by
  apply Array.ext_getElem?
  intro i
  rw [Array.getElem?_setIfInBounds, useA_size]
  by_cases e : x = i
  · subst e
    rw [if_pos rfl, if_pos h, useA_get _ h]
    simp
  · rw [if_neg e]
    by_cases hi : i < n
    · rw [useA_get _ hi, useA_get _ hi]
      have : ¬ (i : Int) = (x : Int) := by omega
      simp [this]
    · rw [Array.getElem?_eq_none (by rw [useA_size]; omega), Array.getElem?_eq_none (by rw [useA_size]; omega)]
theorem useA_off {n x : Nat} (u : List Int) (h : x < n) (hu : u.contains (x : Int) = false) : (useA n (u ++ [(x : Int)])).setIfInBounds x (.bool false) = useA n u := by
  apply Array.ext_getElem?
  intro i
  rw [Array.getElem?_setIfInBounds, useA_size]
  by_cases e : x = i
  · subst e
    rw [if_pos rfl, if_pos h, useA_get _ h, hu]
  · rw [if_neg e]
    by_cases hi : i < n
    · rw [useA_get _ hi, useA_get _ hi]
      have : ¬ (i : Int) = (x : Int) := by omega
      simp [this]
    · rw [Array.getElem?_eq_none (by rw [useA_size]; omega), Array.getElem?_eq_none (by rw [useA_size]; omega)]
/-- The state of the search in a world; the blocks lie in the order of their making, from w0's size on. -/
structure PermAt (n : Nat) (w0 : World) (ov : Value) (l u : List Int) (out : List (List Int)) (W : World) : Prop where
  ln : l.length ≤ n ∧ n ≤ 64
  bn : W.heap[w0.heap.size]? = some (.cells #[.int .i64 n] 3 (0, 0))
  bo : W.heap[w0.heap.size + 1]? = some (.cells #[ov] 52 (0, 0))
  ba : ∃ cs : Array Value, W.heap[w0.heap.size + 2]? = some (.cells cs 3 (0, 0)) ∧ cs.size = n ∧ ∀ i : Nat, i < l.length → cs[i]? = some (.int .i64 (rd l i))
  bl : W.heap[w0.heap.size + 3]? = some (.cells #[.slice (some ⟨w0.heap.size + 2, 0, none⟩) l.length n] 27 (0, 0))
  bb : W.heap[w0.heap.size + 4]? = some (.cells (useA n u) 4 (0, 0))
  bu : W.heap[w0.heap.size + 5]? = some (.cells #[.slice (some ⟨w0.heap.size + 4, 0, none⟩) n n] 166 (0, 0))
  bg : W.heap[w0.heap.size + 6]? = some (.cells #[.func (.func 286) #[] #[.pointer (some ⟨w0.heap.size + 3, 0, none⟩), .pointer (some ⟨w0.heap.size, 0, none⟩), .pointer (some ⟨w0.heap.size + 1, 0, none⟩), .pointer (some ⟨w0.heap.size + 5, 0, none⟩), .pointer (some ⟨w0.heap.size + 6, 0, none⟩)]] 1 (0, 0))
  so : Kd.S (Kd.slice 3 (Kd.int .i64)) 27 W (w0.heap.size + 7) (fun _ => True) ov out
  le : w0.heap.size + 7 ≤ W.heap.size
  bel : Below w0.heap.size w0 W
section
variable {n : Nat} {w0 : World} {ov ov' : Value} {l u : List Int} {out out' : List (List Int)} {W W' : World}
theorem PermAt.below (h : PermAt n w0 ov l u out W) (hb : Below W.heap.size W W') : PermAt n w0 ov l u out W' := by
  obtain ⟨cs, h1, h2, h3⟩ := h.ba
  exact ⟨h.ln, blk_below h.bn hb, blk_below h.bo hb, ⟨cs, blk_below h1 hb, h2, h3⟩, blk_below h.bl hb, blk_below h.bb hb, blk_below h.bu hb, blk_below h.bg hb, Kd.S_below h.so hb, Nat.le_trans h.le hb.size, below_step h.bel hb⟩
theorem per_so (h : Kd.S (Kd.slice 3 (Kd.int .i64)) 27 W (w0.heap.size + 7) (fun _ => True) ov out) {g : Nat} (hg : g < w0.heap.size + 7) (j : Nat) (v : Value) : Kd.S (Kd.slice 3 (Kd.int .i64)) 27 (W.setCell ⟨g, j, none⟩ v) (w0.heap.size + 7) (fun _ => True) ov out :=
  Kd.S_mono (Kd.S_far (Kd.S_bound h) (fun k hk e => by have h2 := hk.2.1; have e2 : k = g := e; omega) v) (fun _ _ => trivial)
theorem PermAt.mark {x : Nat} (hx : x < n) (h : PermAt n w0 ov l u out W) : PermAt n w0 ov l (u ++ [(x : Int)]) out (W.setCell ⟨w0.heap.size + 4, x, none⟩ (.bool true)) := by
  obtain ⟨cs, h1, h2, h3⟩ := h.ba
  refine ⟨h.ln, blk_far h.bn (by simp) _, blk_far h.bo (by simp) _, ⟨cs, blk_far h1 (by simp) _, h2, h3⟩, blk_far h.bl (by simp) _, ?_, blk_far h.bu (by simp) _, blk_far h.bg (by simp) _, per_so h.so (by omega) _ _, by simpa [World.setCell] using h.le, below_set h.bel (by omega)⟩
  have e := blk_set h.bb x (.bool true)
  rw [useA_on u hx] at e
  exact e
theorem PermAt.unmark {x : Nat} (hx : x < n) (hu : u.contains (x : Int) = false) (h : PermAt n w0 ov l (u ++ [(x : Int)]) out W) : PermAt n w0 ov l u out (W.setCell ⟨w0.heap.size + 4, x, none⟩ (.bool false)) := by
  obtain ⟨cs, h1, h2, h3⟩ := h.ba
  refine ⟨h.ln, blk_far h.bn (by simp) _, blk_far h.bo (by simp) _, ⟨cs, blk_far h1 (by simp) _, h2, h3⟩, blk_far h.bl (by simp) _, ?_, blk_far h.bu (by simp) _, blk_far h.bg (by simp) _, per_so h.so (by omega) _ _, by simpa [World.setCell] using h.le, below_set h.bel (by omega)⟩
  have e := blk_set h.bb x (.bool false)
  rw [useA_off u hx hu] at e
  exact e
theorem PermAt.push {x : Int} (hl : l.length < n) (h : PermAt n w0 ov l u out W) : PermAt n w0 ov (l ++ [x]) u out ((W.setCell ⟨w0.heap.size + 2, l.length, none⟩ (.int .i64 x)).setCell ⟨w0.heap.size + 3, 0, none⟩ (.slice (some ⟨w0.heap.size + 2, 0, none⟩) (l.length + 1) n)) := by
  obtain ⟨cs, h1, h2, h3⟩ := h.ba
  refine ⟨⟨by rw [List.length_append]; exact hl, h.ln.2⟩, blk_far (blk_far h.bn (by simp) _) (by simp) _, blk_far (blk_far h.bo (by simp) _) (by simp) _, ⟨_, blk_far (blk_set h1 l.length (.int .i64 x)) (by simp) _, by rw [Array.size_setIfInBounds]; exact h2, fun i hi => ?_⟩, ?_, blk_far (blk_far h.bb (by simp) _) (by simp) _, blk_far (blk_far h.bu (by simp) _) (by simp) _, blk_far (blk_far h.bg (by simp) _) (by simp) _, per_so (per_so h.so (by omega) _ _) (by omega) _ _, by simpa [World.setCell] using h.le, below_set (below_set h.bel (by omega)) (by omega)⟩
  · rw [List.length_append, List.length_singleton] at hi
    rw [Array.getElem?_setIfInBounds]
    by_cases e : l.length = i
    · subst e
      rw [if_pos rfl, if_pos (by omega), pd_last]
    · rw [if_neg e, h3 i (by omega), pd_left (by omega)]
  · have e := blk_set (blk_far h.bl (p := ⟨w0.heap.size + 2, l.length, none⟩) (by simp) (.int .i64 x)) 0 (.slice (some ⟨w0.heap.size + 2, 0, none⟩) (l.length + 1) n)
    rw [List.length_append]
    exact e
theorem PermAt.pop {x : Int} (h : PermAt n w0 ov (l ++ [x]) u out W) : PermAt n w0 ov l u out (W.setCell ⟨w0.heap.size + 3, 0, none⟩ (.slice (some ⟨w0.heap.size + 2, 0, none⟩) l.length n)) := by
  obtain ⟨cs, h1, h2, h3⟩ := h.ba
  refine ⟨⟨by have := h.ln.1; rw [List.length_append] at this; omega, h.ln.2⟩, blk_far h.bn (by simp) _, blk_far h.bo (by simp) _, ⟨cs, blk_far h1 (by simp) _, h2, fun i hi => ?_⟩, blk_set h.bl 0 _, blk_far h.bb (by simp) _, blk_far h.bu (by simp) _, blk_far h.bg (by simp) _, per_so h.so (by omega) _ _, by simpa [World.setCell] using h.le, below_set h.bel (by omega)⟩
  rw [h3 i (by rw [List.length_append]; omega), pd_left hi]
theorem PermAt.put (h : PermAt n w0 ov l u out W) (hg : W.grownBy W' ov.ownBlock) (hs : Kd.S (Kd.slice 3 (Kd.int .i64)) 27 W' (w0.heap.size + 7) (fun _ => True) ov' out') (hb : Below w0.heap.size w0 W') : PermAt n w0 ov' l u out' (W'.setCell ⟨w0.heap.size + 1, 0, none⟩ ov') := by
  obtain ⟨cs, h1, h2, h3⟩ := h.ba
  have hne : ∀ k, k < w0.heap.size + 7 → some k ≠ ov.ownBlock := fun k hk e => by have := Kd.S_base h.so k e.symm; omega
  have hle : w0.heap.size + 7 ≤ W'.heap.size := Nat.le_trans h.le hg.size
  exact ⟨h.ln, blk_far (blk_grown h.bn hg (hne _ (by omega))) (by simp) _, blk_set (blk_grown h.bo hg (hne _ (by omega))) 0 _, ⟨cs, blk_far (blk_grown h1 hg (hne _ (by omega))) (by simp) _, h2, h3⟩, blk_far (blk_grown h.bl hg (hne _ (by omega))) (by simp) _, blk_far (blk_grown h.bb hg (hne _ (by omega))) (by simp) _, blk_far (blk_grown h.bu hg (hne _ (by omega))) (by simp) _, blk_far (blk_grown h.bg hg (hne _ (by omega))) (by simp) _, per_so hs (by omega) _ _, by simpa [World.setCell] using hle, below_set hb (by omega)⟩
theorem PermAt.row (h : PermAt n w0 ov l u out W) : Kd.C (Kd.int .i64) W (some ⟨w0.heap.size + 2, 0, none⟩) l.length l := by
  obtain ⟨cs, h1, h2, h3⟩ := h.ba
  have hc : ∀ i : Nat, i < l.length → W.cell? ⟨w0.heap.size + 2, i, none⟩ = some (.int .i64 (rd l i)) := fun i hi => (blk_cell h1 i).trans (h3 i hi)
  by_cases h0 : l.length = 0
  · refine ⟨rfl, by have := h.ln; omega, fun hp => absurd hp (by omega)⟩
  · refine ⟨rfl, by have := h.ln; omega, fun _ => ⟨_, rfl, fun j q hj => ?_⟩⟩
    obtain ⟨hjl, hq⟩ := List.getElem?_eq_some_iff.1 hj
    refine ⟨[.int .i64 q], rfl, rfl, fun i v hv => ?_⟩
    cases i with
    | zero =>
      cases hv
      have e := hc j hjl
      unfold rd at e
      rw [Int.toNat_natCast, List.getD_eq_getElem?_getD, hj] at e
      show W.cell? (Addr.add ⟨w0.heap.size + 2, 0, none⟩ (j * 1 + 0)) = some (.int .i64 q)
      rw [Nat.mul_one, Nat.add_zero, Addr.add_lit, Nat.zero_add]
      exact e
    | succ i => cases hv
end
theorem append_room_ {P : Program} {ops : Array Oper} {rest : List Oper} {o : Oper} {a : Act} {Q : Exit → Act → World → Prop} {W : World} (hgd : o.guard = none) (s x : Operand) (t e : TypeId) (z : Value) (bytes : Nat) (ho : o.op = .call { callee := .builtin .append, args := #[s, x], argTypes := #[t, t] })
    (ht : P.underlying t = some (.slice e)) (hinfo : (P.info? e).map (fun i => (i.zero, i.size, i.bytes)) = some (some z, 1, bytes)) (b m c : Nat) (v : Value) (hs : a.eval s = .slice (some ⟨b, 0, none⟩) m c) (hx : a.eval x = .slice (some ⟨W.heap.size, 0, none⟩) 1 1) (h1 : v.oneCell' = true) (hroom : m + 1 ≤ c)
    {cs : Array Value} (hb : W.heap[b]? = some (.cells cs e (0, 0))) (hc : m < cs.size) (h : wpList P ops Q rest (a.put o.dst (.slice (some ⟨b, 0, none⟩) (m + 1) c)) ((W.alloc (.cells #[v] e)).setCell ⟨b, m, none⟩ v)) : wpList P ops Q (o :: rest) a (W.alloc (.cells #[v] e)) := by
  obtain ⟨i0, hi, hzz⟩ := Option.map_eq_some_iff.1 hinfo
  simp only [Prod.mk.injEq] at hzz
  obtain ⟨hz0, hz1, hz2⟩ := hzz
  have hb2 := blk_alloc hb (.cells #[v] e)
  have hrun := run_append_room_cells (P := P) (W.alloc (.cells #[v] e)) t o.type e i0 ht hi b 0 m c ⟨W.heap.size, 0, none⟩ 1 1 [v] (by rw [hz1]; rfl)
    (fun j u hj => by
      cases j with
      | zero => cases hj; exact (blk_cell (blk_new W (.cells #[v] e)) 0).trans rfl
      | succ j => cases hj)
    (fun u hu => by rw [List.mem_singleton] at hu; subst hu; exact h1) hroom
    (fun j hj => by
      obtain rfl : j = 0 := by have : j < 1 := hj; omega
      rw [blk_cell hb2, hz1, Array.getElem?_eq_getElem (by omega)]; rfl)
    (fun j hj => blk_frozen hb2 _)
  rw [hz1, Nat.zero_add, Nat.mul_one] at hrun
  refine Kd.event_run hgd (w1 := (W.alloc (.cells #[v] e)).setCell ⟨b, m, none⟩ v) (v := .slice (some ⟨b, 0, none⟩) (m + 1) c) ?_ h
  (try simp [execOp, ho, resolve, invoke, builtin, hs, hx, hrun, Result.andThen]) <;> (try rfl)

set_option maxHeartbeats 1000000 in
set_option maxRecDepth 100000 in
theorem impl_permutations_1.any (n : Nat) (hn : n ≤ 4) (w0 : World) : ∀ (d : Nat) (l : List Int) (out : List (List Int)) (ov : Value) (W : World), l.length + d = n → out.length + 4 ^ d ≤ 1000 → PermAt n w0 ov l l out W →
    Calls Try.prog 286 #[.pointer (some ⟨w0.heap.size + 3, 0, none⟩), .pointer (some ⟨w0.heap.size, 0, none⟩), .pointer (some ⟨w0.heap.size + 1, 0, none⟩), .pointer (some ⟨w0.heap.size + 5, 0, none⟩), .pointer (some ⟨w0.heap.size + 6, 0, none⟩)] W (fun e W' => e = .returned (.tuple #[]) ∧ ∃ ov' : Value, PermAt n w0 ov' l l (out ++ perF n d l) W') := by
  intro d
  induction d with
  | zero =>
    intro l out ov W hl hol h
    have HP := Aside0.mk h
    have hcn : W.cell? ⟨w0.heap.size, 0, none⟩ = some (.int .i64 n) := (blk_cell h.bn 0).trans rfl
    have hcl : W.cell? ⟨w0.heap.size + 3, 0, none⟩ = some (.slice (some ⟨w0.heap.size + 2, 0, none⟩) l.length n) := (blk_cell h.bl 0).trans rfl
    have d3 : ((l.length : Int) == (n : Int)) = true := beq_iff_eq.mpr (by omega)
    have HL := Aside0.mk hl
    have HO := Aside0.mk hol
    have HN := Aside0.mk hn
    clear h hl hol hn
    go_enter Try.func286, Try.ntmps286
    go_wp2_with (fail)
    clear hcn hcl d3
    have C0 : Aside0 (W.cell? ⟨w0.heap.size + 1, 0, none⟩ = some ov) := ⟨(blk_cell HP.out.bo 0).trans rfl⟩
    have C1 : Aside0 (W.cell? ⟨w0.heap.size + 3, 0, none⟩ = some (.slice (some ⟨w0.heap.size + 2, 0, none⟩) l.length n)) := ⟨(blk_cell HP.out.bl 0).trans rfl⟩
    have hb := below_drew (Below.refl W.heap.size W)
    have n_ : Aside0 (W.drew.cell? ⟨w0.heap.size + 1, 0, none⟩ = some (ov)) := ⟨pw_cell_below hb C0.out⟩
    clear C0
    have C0 := n_
    clear n_
    have n_ : Aside0 (W.drew.cell? ⟨w0.heap.size + 3, 0, none⟩ = some (.slice (some ⟨w0.heap.size + 2, 0, none⟩) l.length n)) := ⟨pw_cell_below hb C1.out⟩
    clear C1
    have C1 := n_
    clear n_
    have n_ := Aside0.mk (PermAt.below HP.out hb)
    clear HP
    have HP := n_
    clear n_
    clear hb
    refine start_ (n := 7) (S := (fun w_ => w_.cell? ⟨w0.heap.size + 1, 0, none⟩ = some (ov) ∧ w_.cell? ⟨w0.heap.size + 3, 0, none⟩ = some (.slice (some ⟨w0.heap.size + 2, 0, none⟩) l.length n))) (ds := [5, 6]) #[false, false, false, false, false, false, false] (by kernel_rfl) rfl rfl ⟨C0.out, C1.out⟩ (fun hHeld => ?_)
    generalize W.drew = V0_ at C0 C1 HP hHeld ⊢
    have HB0 : Aside0 (Below V0_.heap.size V0_ V0_) := ⟨Below.refl _ _⟩
    refine take_ (i := 0) (N := some 10) (v := ?_) (a' := ?_) #[true, false, false, false, false, false, false] rfl rfl (by kernel_rfl) (fun _ _ _ h => h) (Or.inl ⟨by rfl, ?_⟩) hHeld ?_ ?_
    rotate_left
    · rintro w' ⟨s0, s1⟩
      go_simp
      with_reducible rfl
    rotate_left
    · simp only [Act.put, List.setIfInBounds_toArray, List.set_cons_zero, List.set_cons_succ, i64_w, i32_w]
      rfl
    refine take_ (i := 2) (N := some 12) (v := ?_) (a' := ?_) #[true, false, true, false, false, false, false] rfl rfl (by kernel_rfl) (fun _ _ _ h => h) (Or.inl ⟨by rfl, ?_⟩) hHeld ?_ ?_
    rotate_left
    · rintro w' ⟨s0, s1⟩
      go_simp
      with_reducible rfl
    rotate_left
    · simp only [Act.put, List.setIfInBounds_toArray, List.set_cons_zero, List.set_cons_succ, i64_w, i32_w]
      rfl
    refine one_ (i := 1) (N := some 11) #[true, true, true, false, false, false, false] rfl rfl (by kernel_rfl) (by decide) (fun K hK => ?_)
    refine Kd.R_lit_step (Kd.int .i64) (w0 := V0_) V0_.heap.size 3 ?hg (N := 11) ?hd (xs := ([] : List Int)) (inner := []) (ok := fun _ => True) (okp := fun _ => True) ?hr ?hp (fun _ hk => hk) trivial HB0.out (Nat.le_refl _) (by simp) ?_
    case hd => rfl
    case hg => rfl
    case hr => first | (go_simp; done) | (go_simp; rfl)
    case hp => exact Reps.none _ _
    intro v1 V1_ hr1 hb1 _ _
    obtain ⟨A1, c1, rfl, _, _⟩ := Kd.R_reads hr1
    have HR1 := Aside0.mk hr1
    have HB1 := Aside0.mk hb1
    clear hr1 hb1
    refine hK.out _ _ ⟨pw_cell_below HB1.out C0.out, pw_cell_below HB1.out C1.out⟩ (fun hHeld => ?_)
    clear hK K
    refine norm_ (a' := ?_) ?_ ?_
    rotate_left
    · show Act.put _ (some 11) _ = _
      simp only [Act.put, List.setIfInBounds_toArray, List.set_cons_zero, List.set_cons_succ, i64_w, i32_w]
      rfl
    clear HB0
    have HB0 := HB1
    clear HB1
    refine one_ (i := 3) (N := some 13) #[true, true, true, true, false, false, false] rfl rfl (by kernel_rfl) (by decide) (fun K hK => ?_)
    refine Kd.R_append_rows_step (Kd.int .i64) (w0 := V0_) V0_.heap.size (by rfl) (.tmp 11) (.tmp 12) 27 3 (.int .i64 0) 8 (by rfl) Try.underlying27 info3 (by rfl) (by decide) (by decide) (.slice A1 ([] : List Int).length c1) [] l (some ⟨w0.heap.size + 2, 0, none⟩) l.length n (fun _ => True) (fun _ => False) (by rfl) (by rfl) HR1.out (PermAt.row (PermAt.below HP.out HB0.out)) (fun _ _ h_ => h_) (fun _ h_ => h_.elim) (fun _ _ => trivial) HB0.out HB0.out.size (by have := HP.out.ln; rw [List.length_nil]; omega) ?_
    intro v2 V2_ hr2 hb2 _ _
    rw [List.nil_append] at hr2
    obtain ⟨A2, c2, rfl, _, _⟩ := Kd.R_reads hr2
    have HR2 := Aside0.mk hr2
    have HB1 := Aside0.mk hb2
    clear hr2 hb2 HR1
    refine hK.out _ _ ⟨pw_cell_below HB1.out C0.out, pw_cell_below HB1.out C1.out⟩ (fun hHeld => ?_)
    clear hK K
    refine norm_ (a' := ?_) ?_ ?_
    rotate_left
    · show Act.put _ (some 13) _ = _
      simp only [Act.put, List.setIfInBounds_toArray, List.set_cons_zero, List.set_cons_succ, i64_w, i32_w]
      rfl
    clear HB0
    have HB0 := HB1
    clear HB1
    refine one_ (i := 4) (N := some 14) #[true, true, true, true, true, false, false] rfl rfl (by kernel_rfl) (by decide) (fun K hK => ?_)
    refine value_ (w1 := ?_) (v := ?_) (by rfl) rfl ?_ ?_
    rotate_left 2
    · go_simp
      constructor
      · rfl
      · rfl
    have HB1 := Aside0.mk (below_alloc HB0.out (.cells #[.slice A2 l.length c2] 27 (0, 0)))
    refine hK.out _ _ ⟨pw_cell_below HB1.out C0.out, pw_cell_below HB1.out C1.out⟩ (fun hHeld => ?_)
    clear hK K
    refine norm_ (a' := ?_) ?_ ?_
    rotate_left
    · show Act.put _ (some 14) _ = _
      simp only [Act.put, List.setIfInBounds_toArray, List.set_cons_zero, List.set_cons_succ, i64_w, i32_w]
      rfl
    refine last_ (i := 5) (N := some 15) #[true, true, true, true, true, true, false] rfl rfl (by kernel_rfl) (by decide) (fun K hK => ?_)
    have hle : w0.heap.size + 7 ≤ V0_.heap.size := HP.out.le
    refine Kd.S_append_step (Kd.slice 3 (Kd.int .i64)) (w0 := V0_) (w0.heap.size + 7) (by rfl) (.tmp 10) (.tmp 14) 52 27 (.slice none 0 0) 24 (by rfl) Try.underlying52 info27 (by rfl) (by decide) (by decide) ov out l [.slice A2 l.length c2] (fun _ => True) (fun k_ => some k_ = (.slice A2 l.length c2 : Value).ownBlock) (by rfl) (by rfl) ?aP ?aK (fun _ _ => trivial) ?aO (Below.mono HB0.out hle) (Nat.le_trans hle HB0.out.size) (by have := HO.out; omega) ?_
    case aP => exact Kd.M_row (Kd.R_lower (Kd.R_tight rfl HR2.out) hle)
    case aK => exact fun k hk => ⟨trivial, fun e => by have h1 := Kd.S_lt HP.out.so k e.symm; have h2 := Kd.R_base HR2.out k hk.symm; omega⟩
    case aO => exact Kd.S_mono (Kd.S_bound (Kd.S_below (Kd.S_mono (Kd.S_bound HP.out.so) (fun k (hk : _ ∧ _) => (show k < V0_.heap.size from hk.2.2.1))) HB0.out)) (fun k hk => ⟨trivial, fun e => by have h1 := hk.1; have h2 := Kd.R_base HR2.out k e.symm; omega⟩)
    intro v3 V3_ ho hb hg _
    obtain ⟨A3, c3, rfl⟩ := Kd.S_slice ho
    have HQ0 := PermAt.put (PermAt.below HP.out HB0.out) hg ho (below_weaken HP.out.bel (by omega) hb)
    have hc3 : V3_.cell? ⟨w0.heap.size + 1, 0, none⟩ = some ov := (blk_cell (blk_grown (PermAt.below HP.out HB0.out).bo hg (fun e => by have := Kd.S_base HP.out.so _ e.symm; omega)) 0).trans rfl
    have hf3 : V3_.frozen? ⟨w0.heap.size + 1, 0, none⟩ = false := blk_frozen (blk_grown (PermAt.below HP.out HB0.out).bo hg (fun e => by have := Kd.S_base HP.out.so _ e.symm; omega)) 0
    have HQ := Aside0.mk HQ0
    clear HQ0 ho hb hg HR2 C0 C1 HP HB0 HB1 hHeld
    refine hK.out _ _ ?_
    clear hK K
    refine norm_ (a' := ?_) ?_ ?_
    rotate_left
    · show Act.put _ (some 15) _ = _
      simp only [Act.put, List.setIfInBounds_toArray, List.set_cons_zero, List.set_cons_succ, i64_w, i32_w]
      rfl
    refine last_ (i := 6) (N := none) #[true, true, true, true, true, true, true] rfl rfl (by kernel_rfl) (by decide) (fun K hK => ?_)
    refine skip_ (w1 := V3_.setCell ⟨w0.heap.size + 1, 0, none⟩ (.slice A3 (out ++ [l]).length c3)) (by rfl) rfl ?_ ?_
    · go_simp
    clear hc3 hf3
    refine hK.out _ _ ?_
    clear hK K
    generalize V3_.setCell ⟨w0.heap.size + 1, 0, none⟩ (.slice A3 (out ++ [l]).length c3) = V4_ at HQ ⊢
    refine done_ (by kernel_rfl) ?_
    go_wp2
    refine bodyPost_ret (results_none rfl _ _ _) rfl ?_
    exact ⟨rfl, _, HQ.out⟩
  | succ d ih =>
    intro l out ov W hl hol h
    have IH := Aside0.mk ih
    have HP := Aside0.mk h
    have hcn : W.cell? ⟨w0.heap.size, 0, none⟩ = some (.int .i64 n) := (blk_cell h.bn 0).trans rfl
    have hcl : W.cell? ⟨w0.heap.size + 3, 0, none⟩ = some (.slice (some ⟨w0.heap.size + 2, 0, none⟩) l.length n) := (blk_cell h.bl 0).trans rfl
    have d3 : ((l.length : Int) == (n : Int)) = false := beq_eq_false_iff_ne.mpr (by omega)
    obtain ⟨f, hf⟩ : ∃ f : Nat → List (List Int), f = fun x : Nat => if l.contains (x : Int) = true then [] else perF n d (l ++ [(x : Int)]) := ⟨_, rfl⟩
    have HFN : Aside0 (perF n (d + 1) l = perUp f n) := ⟨by rw [hf, perF]⟩
    have HF := Aside0.mk hf
    have HLEN : Aside0 (∀ x, x < n → (out ++ perUp f x).length + 4 ^ d ≤ 1000) := ⟨fun x hx => by
      have h1 : (perUp f x).length ≤ x * 4 ^ d := perUp_len (fun y => by
        rw [hf]
        show (if l.contains (y : Int) = true then [] else perF n d (l ++ [(y : Int)])).length ≤ 4 ^ d
        split
        · exact Nat.zero_le _
        · exact Nat.le_trans (perF_len n d _) (Nat.pow_le_pow_left hn d)) x
      have h2 : (x + 1) * 4 ^ d ≤ 4 * 4 ^ d := Nat.mul_le_mul_right _ (by omega)
      rw [Nat.succ_mul] at h2
      rw [Nat.pow_succ, Nat.mul_comm] at hol
      rw [List.length_append]
      omega⟩
    have HL := Aside0.mk hl
    have HN := Aside0.mk hn
    clear h hl hol hn ih hf
    go_enter Try.func286, Try.ntmps286
    go_wp2
    clear hcn hcl d3
    go_loopg [17] n (fun gg v17 wr => ∃ (x : Nat) (ov1 : Value), x ≤ n ∧ n - x ≤ gg ∧ v17 = .int .i64 x ∧ Aside0 (PermAt n w0 ov1 l l (out ++ perUp f x) wr))
    case atStart => exact ⟨0, ov, Nat.zero_le _, by omega, rfl, ⟨by rw [perUp, List.append_nil]; exact HP.out⟩⟩
    case round =>
      clear HP
      obtain ⟨x, ov1, hxn, hgg, rfl, HP⟩ := hrel
      have HG := Aside0.mk hgg
      clear hgg
      by_cases hlt : x < n
      · have dx : (x : Int) < (n : Int) := by omega
        have dx0 : (0 : Int) ≤ (x : Int) := by omega
        have HX := Aside0.mk hlt
        have hcu : wr.cell? ⟨w0.heap.size + 5, 0, none⟩ = some (.slice (some ⟨w0.heap.size + 4, 0, none⟩) n n) := (blk_cell HP.out.bu 0).trans rfl
        have hcx : wr.cell? ⟨w0.heap.size + 4, x, none⟩ = some (.bool (l.contains (x : Int))) := (blk_cell HP.out.bb x).trans (useA_get l hlt)
        cases hc : l.contains (x : Int) with
        | true =>
          rw [hc] at hcx
          have HFX : Aside0 (f x = []) := ⟨by rw [HF.out]; exact if_pos hc⟩
          clear hc
          go_wp2
          go_roundg (n - (x + 1))
          case measure => have := HX.out; have := HG.out; omega
          case rel => exact ⟨x + 1, ov1, by have := HX.out; omega, by omega, by have := HX.out; have := HN.out; rw [B.wrap64_of (by omega) (by omega)]; congr 1, ⟨by rw [perUp, HFX.out, List.append_nil]; exact HP.out⟩⟩
        | false =>
          rw [hc] at hcx
          have HFX : Aside0 (f x = perF n d (l ++ [(x : Int)])) := ⟨by rw [HF.out]; exact if_neg (by rw [hc]; decide)⟩
          have HC := Aside0.mk hc
          have hfx : wr.frozen? ⟨w0.heap.size + 4, x, none⟩ = false := blk_frozen HP.out.bb x
          clear hc
          go_upto_region 7 with (fail)
          have HP1 := Aside0.mk (PermAt.mark HX.out HP.out)
          generalize wr.setCell ⟨w0.heap.size + 4, x, none⟩ (.bool true) = w1 at HP1 ⊢
          clear hcu hcx hfx HP
          have hcl : w1.cell? ⟨w0.heap.size + 3, 0, none⟩ = some (.slice (some ⟨w0.heap.size + 2, 0, none⟩) l.length n) := (blk_cell HP1.out.bl 0).trans rfl
          obtain ⟨cs, hcs, hsz, _⟩ := HP1.out.ba
          have HCS := Aside0.mk hcs
          have HSZ := Aside0.mk hsz
          clear hcs hsz
          go_upto_region 8 with (first | ((with_reducible refine gate_builtin (b := .append) (xs := #[.tmp 28, .tmp 30]) rfl ?_); at_builtin; refine append_room_ rfl (.tmp 28) (.tmp 30) 27 3 (.int .i64 0) 8 rfl Try.underlying27 info3 (w0.heap.size + 2) l.length n (.int .i64 x) rfl rfl rfl (by have := HL.out; omega) HCS.out (by have := HL.out; have := HSZ.out; omega) ?_; have hcl2 := (blk_cell (blk_far (p := ⟨w0.heap.size + 2, l.length, none⟩) (PermAt.below HP1.out (below_alloc (Below.refl _ _) (.cells #[.int .i64 x] 3 (0, 0)))).bl (by simp) (.int .i64 x)) 0).trans rfl; have hfl2 := blk_frozen (blk_far (p := ⟨w0.heap.size + 2, l.length, none⟩) (PermAt.below HP1.out (below_alloc (Below.refl _ _) (.cells #[.int .i64 x] 3 (0, 0)))).bl (by simp) (.int .i64 x)) 0))
          have HP2 := Aside0.mk (PermAt.push (x := (x : Int)) (by have := HL.out; omega) (PermAt.below HP1.out (below_alloc (Below.refl _ _) (.cells #[.int .i64 x] 3 (0, 0)))))
          clear hcl hcl2 hfl2 HP1 HCS HSZ
          generalize ((w1.alloc (.cells #[.int .i64 x] 3 (0, 0))).setCell ⟨w0.heap.size + 2, l.length, none⟩ (.int .i64 x)).setCell ⟨w0.heap.size + 3, 0, none⟩ (.slice (some ⟨w0.heap.size + 2, 0, none⟩) (l.length + 1) n) = w2 at HP2 ⊢
          have hcg : w2.cell? ⟨w0.heap.size + 6, 0, none⟩ = some (.func (.func 286) #[] #[.pointer (some ⟨w0.heap.size + 3, 0, none⟩), .pointer (some ⟨w0.heap.size, 0, none⟩), .pointer (some ⟨w0.heap.size + 1, 0, none⟩), .pointer (some ⟨w0.heap.size + 5, 0, none⟩), .pointer (some ⟨w0.heap.size + 6, 0, none⟩)]) := (blk_cell HP2.out.bg 0).trans rfl
          go_upto_region 9 with (with_reducible refine (IH.out (l ++ [(x : Int)]) (out ++ perUp f x) ov1 w2 (by have := HL.out; rw [List.length_append, List.length_singleton]; omega) (HLEN.out x HX.out) HP2.out).mono ?_; rintro e w3 ⟨rfl, ov2, hp3⟩; have HP3 := Aside0.mk hp3; clear hp3)
          clear hcg HP2
          obtain ⟨m, hm⟩ : ∃ m : Nat, m = l.length + 1 := ⟨_, rfl⟩
          have E1 : IntKind.i64.wrap ((m : Int) - 1) = (l.length : Int) := by have := HL.out; have := HN.out; rw [B.wrap_of (by omega) (by omega)]; omega
          have hcl3 : w3.cell? ⟨w0.heap.size + 3, 0, none⟩ = some (.slice (some ⟨w0.heap.size + 2, 0, none⟩) m n) := by
            have e := (blk_cell HP3.out.bl 0).trans rfl
            rw [List.length_append] at e
            rw [hm]
            exact e
          have hfl3 : w3.frozen? ⟨w0.heap.size + 3, 0, none⟩ = false := blk_frozen HP3.out.bl 0
          have hl0 : (0 : Int) ≤ (l.length : Int) := by omega
          have hln : (l.length : Int) ≤ (n : Int) := by have := HL.out; omega
          have HM := Aside0.mk hm
          clear hm
          go_upto_region 10 with (fail)
          have HP4 := Aside0.mk (PermAt.pop HP3.out)
          clear hcl3 hfl3 E1 hl0 hln HP3
          generalize w3.setCell ⟨w0.heap.size + 3, 0, none⟩ (.slice (some ⟨w0.heap.size + 2, 0, none⟩) l.length n) = w4 at HP4 ⊢
          have hcu4 : w4.cell? ⟨w0.heap.size + 5, 0, none⟩ = some (.slice (some ⟨w0.heap.size + 4, 0, none⟩) n n) := (blk_cell HP4.out.bu 0).trans rfl
          have hcx4 : w4.cell? ⟨w0.heap.size + 4, x, none⟩ = some (.bool ((l ++ [(x : Int)]).contains (x : Int))) := (blk_cell HP4.out.bb x).trans (useA_get _ HX.out)
          have hfx4 : w4.frozen? ⟨w0.heap.size + 4, x, none⟩ = false := blk_frozen HP4.out.bb x
          generalize ((l ++ [(x : Int)]).contains (x : Int)) = bx at hcx4
          go_wp2
          have HP5 := Aside0.mk (PermAt.unmark HX.out HC.out HP4.out)
          generalize w4.setCell ⟨w0.heap.size + 4, x, none⟩ (.bool false) = w5 at HP5 ⊢
          clear hcu4 hcx4 hfx4 HP4
          go_roundg (n - (x + 1))
          case measure => have := HX.out; have := HG.out; omega
          case rel => exact ⟨x + 1, ov2, by have := HX.out; omega, by omega, by have := HX.out; have := HN.out; rw [B.wrap64_of (by omega) (by omega)]; congr 1, ⟨by rw [perUp, HFX.out, ← List.append_assoc]; exact HP5.out⟩⟩
      · have dx : ¬ (x : Int) < (n : Int) := by omega
        obtain rfl : x = n := by omega
        clear hlt
        go_wp2
        go_end0
        exact ⟨rfl, ov1, by rw [HFN.out]; exact HP.out⟩
theorem useA_nil (n : Nat) : madeCells (Value.bool false).cells (n * 1) = useA n [] := by
  apply Array.ext_getElem?
  intro i
  rw [Nat.mul_one]
  by_cases hi : i < n
  · rw [useA_get _ hi]
    have e : i % 1 = 0 := Nat.mod_one i
    simp [madeCells, hi, Value.cells, e]
  · rw [Array.getElem?_eq_none (by rw [size_madeCells]; omega), Array.getElem?_eq_none (by rw [useA_size]; omega)]
theorem make_event_ {P : Program} {ops : Array Oper} {rest : List Oper} {o : Oper} {a : Act} {Q : Exit → Act → World → Prop} {W : World} (hgd : o.guard = none) (t e : TypeId) (x y : Operand) (ho : o.op = .makeSlice t x y) (l c : Nat) (hx : a.eval x = .int .i64 l) (hy : a.eval y = .int .i64 c)
    (ht : P.underlying t = some (.slice e)) (z : Value) (bytes : Nat) (hinfo : (P.info? e).map (fun i => (i.zero, i.size, i.bytes)) = some (some z, 1, bytes)) (hlc : l ≤ c) (hc : c ≤ 64) (hb : bytes ≤ 8)
    (h : wpList P ops Q rest (a.put o.dst (.slice (some ⟨W.heap.size, 0, none⟩) l c)) (W.alloc (.cells (madeCells z.cells (c * 1)) e))) : wpList P ops Q (o :: rest) a W := by
  obtain ⟨i0, hi, hzz⟩ := Option.map_eq_some_iff.1 hinfo
  simp only [Prod.mk.injEq] at hzz
  obtain ⟨hz0, hz1, hz2⟩ := hzz
  have hm : bytes * c ≤ 8 * 64 := Nat.mul_le_mul hb hc
  have hr := run_make (P := P) W t e i0 z ht hi hz0 .i64 .i64 (l : Int) (c : Int) (by omega) (by omega) (by rw [hz2, ← Int.natCast_mul]; omega) (by omega)
  simp only [Int.toNat_natCast] at hr
  rw [hz1] at hr
  refine Kd.event_run hgd ?_ h
  simp [execOp, ho, hx, hy, hr]
theorem alloc_size_ (w : World) (o : Obj) : (w.alloc o).heap.size = w.heap.size + 1 := by simp
theorem set_size_ (w : World) (p : Addr) (v : Value) : (w.setCell p v).heap.size = w.heap.size := by simp [World.setCell]
def impl_permutations.f (a0 : Int) : Option (List (List Int)) := if 0 ≤ a0 ∧ a0 ≤ 4 then some (perF a0.toNat a0.toNat []) else none
set_option maxHeartbeats 1000000 in
set_option maxRecDepth 100000 in
theorem impl_permutations.calls (a0 : Int) (r : List (List Int)) (w : World) (h : impl_permutations.f a0 = some r) :
    Calls Try.prog 228 #[.int .i64 a0] w fun e w' => ∃ v0_ : Value, e = .returned (v0_) ∧ Kd.S (Kd.slice 3 (Kd.int .i64)) 27 w' w.heap.size (fun _ => True) v0_ r ∧ Below w.heap.size w w' := by
  unfold impl_permutations.f at h
  split at h
  next hn =>
    cases h
    obtain ⟨n, rfl⟩ := Int.eq_ofNat_of_zero_le hn.1
    have hn4 : n ≤ 4 := by omega
    rw [Int.toNat_natCast]
    have HN := Aside0.mk hn4
    clear hn hn4
    go_enter Try.func228, Try.ntmps228

    go_upto_region 1 with (fail)
    have n0_ : Aside0 ((w.alloc (.cells #[.int .i64 (n : Int)] 3 (0, 0))).heap[w.heap.size]? = some (.cells #[.int .i64 (n : Int)] 3 (0, 0))) := ⟨by exact blk_new w _⟩
    have nb_ : Aside0 (Below w.heap.size w (w.alloc (.cells #[.int .i64 (n : Int)] 3 (0, 0)))) := ⟨below_alloc (Below.refl _ _) _⟩
    have Z1 : (w.alloc (.cells #[.int .i64 (n : Int)] 3 (0, 0))).heap.size = w.heap.size + 1 := (by rw [alloc_size_])
    have B0 := n0_
    have HB := nb_
    clear nb_ n0_
    generalize w.alloc (.cells #[.int .i64 (n : Int)] 3 (0, 0)) = w1 at HB Z1 B0 ⊢
    go_upto_region 2 with (fail)
    have n0_ : Aside0 ((w1.alloc (.cells #[.slice none 0 0] 52 (0, 0))).heap[w.heap.size]? = some (.cells #[.int .i64 (n : Int)] 3 (0, 0))) := ⟨blk_alloc B0.out _⟩
    have n1_ : Aside0 ((w1.alloc (.cells #[.slice none 0 0] 52 (0, 0))).heap[w.heap.size + 1]? = some (.cells #[.slice none 0 0] 52 (0, 0))) := ⟨by rw [← Z1] <;> exact blk_new w1 _⟩
    have nb_ : Aside0 (Below w.heap.size w (w1.alloc (.cells #[.slice none 0 0] 52 (0, 0)))) := ⟨below_alloc HB.out _⟩
    have Z2 : (w1.alloc (.cells #[.slice none 0 0] 52 (0, 0))).heap.size = w.heap.size + 2 := (by rw [alloc_size_, Z1])
    clear HB B0
    have B0 := n0_
    have B1 := n1_
    have HB := nb_
    clear nb_ n0_ n1_ Z1
    generalize w1.alloc (.cells #[.slice none 0 0] 52 (0, 0)) = w2 at HB Z2 B0 B1 ⊢
    have hn64 : n ≤ 64 := by have := HN.out; omega
    have hcn : w2.cell? ⟨w.heap.size, 0, none⟩ = some (.int .i64 n) := (blk_cell B0.out 0).trans rfl
    go_upto_region 3 with (first | ((with_reducible refine gate_dst (N := 8) rfl ?_); refine make_event_ rfl 27 3 (.const (.int .i64 0)) (.tmp 7) rfl 0 n rfl rfl Try.underlying27 (.int .i64 0) 8 info3 (Nat.zero_le _) hn64 (by decide) ?_; rw [Z2]; clear hcn; have n0_ : Aside0 ((w2.alloc (.cells (madeCells (Value.int .i64 0).cells (n * 1)) 3 (0, 0))).heap[w.heap.size]? = some (.cells #[.int .i64 (n : Int)] 3 (0, 0))) := ⟨blk_alloc B0.out _⟩; have n1_ : Aside0 ((w2.alloc (.cells (madeCells (Value.int .i64 0).cells (n * 1)) 3 (0, 0))).heap[w.heap.size + 1]? = some (.cells #[.slice none 0 0] 52 (0, 0))) := ⟨blk_alloc B1.out _⟩; have n2_ : Aside0 ((w2.alloc (.cells (madeCells (Value.int .i64 0).cells (n * 1)) 3 (0, 0))).heap[w.heap.size + 2]? = some (.cells (madeCells (Value.int .i64 0).cells (n * 1)) 3 (0, 0))) := ⟨by rw [← Z2] <;> exact blk_new w2 _⟩; have nb_ : Aside0 (Below w.heap.size w (w2.alloc (.cells (madeCells (Value.int .i64 0).cells (n * 1)) 3 (0, 0)))) := ⟨below_alloc HB.out _⟩; have Z3 : (w2.alloc (.cells (madeCells (Value.int .i64 0).cells (n * 1)) 3 (0, 0))).heap.size = w.heap.size + 3 := (by rw [alloc_size_, Z2]); clear HB B0 B1; have B0 := n0_; have B1 := n1_; have B2 := n2_; have HB := nb_; clear nb_ n0_ n1_ n2_ Z2; generalize w2.alloc (.cells (madeCells (Value.int .i64 0).cells (n * 1)) 3 (0, 0)) = w3 at HB Z3 B0 B1 B2 ⊢) | ((with_reducible refine gate_dst (N := 4) rfl ?_); refine Kd.event_run rfl (v := .pointer (some ⟨w3.heap.size, 0, none⟩)) (w1 := w3.alloc (.cells #[.slice none 0 0] 27 (0, 0))) (by first | (go_simp; done) | (go_simp; rfl)) ?_; rw [Z3]; have n0_ : Aside0 ((w3.alloc (.cells #[.slice none 0 0] 27 (0, 0))).heap[w.heap.size]? = some (.cells #[.int .i64 (n : Int)] 3 (0, 0))) := ⟨blk_alloc B0.out _⟩; have n1_ : Aside0 ((w3.alloc (.cells #[.slice none 0 0] 27 (0, 0))).heap[w.heap.size + 1]? = some (.cells #[.slice none 0 0] 52 (0, 0))) := ⟨blk_alloc B1.out _⟩; have n2_ : Aside0 ((w3.alloc (.cells #[.slice none 0 0] 27 (0, 0))).heap[w.heap.size + 2]? = some (.cells (madeCells (Value.int .i64 0).cells (n * 1)) 3 (0, 0))) := ⟨blk_alloc B2.out _⟩; have n3_ : Aside0 ((w3.alloc (.cells #[.slice none 0 0] 27 (0, 0))).heap[w.heap.size + 3]? = some (.cells #[.slice none 0 0] 27 (0, 0))) := ⟨by rw [← Z3] <;> exact blk_new w3 _⟩; have nb_ : Aside0 (Below w.heap.size w (w3.alloc (.cells #[.slice none 0 0] 27 (0, 0)))) := ⟨below_alloc HB.out _⟩; have Z4 : (w3.alloc (.cells #[.slice none 0 0] 27 (0, 0))).heap.size = w.heap.size + 4 := (by rw [alloc_size_, Z3]); clear HB B0 B1 B2; have B0 := n0_; have B1 := n1_; have B2 := n2_; have B3 := n3_; have HB := nb_; clear nb_ n0_ n1_ n2_ n3_ Z3; generalize w3.alloc (.cells #[.slice none 0 0] 27 (0, 0)) = w4 at HB Z4 B0 B1 B2 B3 ⊢; have hc3 : w4.cell? ⟨w.heap.size + 3, 0, none⟩ = some (.slice none 0 0) := (blk_cell B3.out 0).trans rfl; have hf3 : w4.frozen? ⟨w.heap.size + 3, 0, none⟩ = false := blk_frozen B3.out 0))
    clear hc3 hf3
    have n0_ : Aside0 ((w4.setCell ⟨w.heap.size + 3, 0, none⟩ (.slice (some ⟨w.heap.size + 2, 0, none⟩) 0 n)).heap[w.heap.size]? = some (.cells #[.int .i64 (n : Int)] 3 (0, 0))) := ⟨blk_far B0.out (by simp) _⟩
    have n1_ : Aside0 ((w4.setCell ⟨w.heap.size + 3, 0, none⟩ (.slice (some ⟨w.heap.size + 2, 0, none⟩) 0 n)).heap[w.heap.size + 1]? = some (.cells #[.slice none 0 0] 52 (0, 0))) := ⟨blk_far B1.out (by simp) _⟩
    have n2_ : Aside0 ((w4.setCell ⟨w.heap.size + 3, 0, none⟩ (.slice (some ⟨w.heap.size + 2, 0, none⟩) 0 n)).heap[w.heap.size + 2]? = some (.cells (madeCells (Value.int .i64 0).cells (n * 1)) 3 (0, 0))) := ⟨blk_far B2.out (by simp) _⟩
    have n3_ : Aside0 ((w4.setCell ⟨w.heap.size + 3, 0, none⟩ (.slice (some ⟨w.heap.size + 2, 0, none⟩) 0 n)).heap[w.heap.size + 3]? = some (.cells #[.slice (some ⟨w.heap.size + 2, 0, none⟩) 0 n] 27 (0, 0))) := ⟨blk_set B3.out 0 (.slice (some ⟨w.heap.size + 2, 0, none⟩) 0 n)⟩
    have nb_ : Aside0 (Below w.heap.size w (w4.setCell ⟨w.heap.size + 3, 0, none⟩ (.slice (some ⟨w.heap.size + 2, 0, none⟩) 0 n))) := ⟨below_set HB.out (by omega)⟩
    have Z5 : (w4.setCell ⟨w.heap.size + 3, 0, none⟩ (.slice (some ⟨w.heap.size + 2, 0, none⟩) 0 n)).heap.size = w.heap.size + 4 := (set_size_ _ _ _).trans Z4
    clear HB B0 B1 B2 B3
    have B0 := n0_
    have B1 := n1_
    have B2 := n2_
    have B3 := n3_
    have HB := nb_
    clear nb_ Z4 n0_ n1_ n2_ n3_
    generalize w4.setCell ⟨w.heap.size + 3, 0, none⟩ (.slice (some ⟨w.heap.size + 2, 0, none⟩) 0 n) = w5 at HB Z5 B0 B1 B2 B3 ⊢
    have hcn : w5.cell? ⟨w.heap.size, 0, none⟩ = some (.int .i64 n) := (blk_cell B0.out 0).trans rfl
    go_upto_region 4 with (first | ((with_reducible refine gate_dst (N := 10) rfl ?_); refine make_event_ rfl 166 4 (.tmp 9) (.tmp 9) rfl n n rfl rfl Try.underlying166 (.bool false) 1 (by kernel_rfl) (Nat.le_refl _) hn64 (by decide) ?_; rw [Z5]; clear hcn; have n0_ : Aside0 ((w5.alloc (.cells (madeCells (Value.bool false).cells (n * 1)) 4 (0, 0))).heap[w.heap.size]? = some (.cells #[.int .i64 (n : Int)] 3 (0, 0))) := ⟨blk_alloc B0.out _⟩; have n1_ : Aside0 ((w5.alloc (.cells (madeCells (Value.bool false).cells (n * 1)) 4 (0, 0))).heap[w.heap.size + 1]? = some (.cells #[.slice none 0 0] 52 (0, 0))) := ⟨blk_alloc B1.out _⟩; have n2_ : Aside0 ((w5.alloc (.cells (madeCells (Value.bool false).cells (n * 1)) 4 (0, 0))).heap[w.heap.size + 2]? = some (.cells (madeCells (Value.int .i64 0).cells (n * 1)) 3 (0, 0))) := ⟨blk_alloc B2.out _⟩; have n3_ : Aside0 ((w5.alloc (.cells (madeCells (Value.bool false).cells (n * 1)) 4 (0, 0))).heap[w.heap.size + 3]? = some (.cells #[.slice (some ⟨w.heap.size + 2, 0, none⟩) 0 n] 27 (0, 0))) := ⟨blk_alloc B3.out _⟩; have n4_ : Aside0 ((w5.alloc (.cells (madeCells (Value.bool false).cells (n * 1)) 4 (0, 0))).heap[w.heap.size + 4]? = some (.cells (madeCells (Value.bool false).cells (n * 1)) 4 (0, 0))) := ⟨by rw [← Z5] <;> exact blk_new w5 _⟩; have nb_ : Aside0 (Below w.heap.size w (w5.alloc (.cells (madeCells (Value.bool false).cells (n * 1)) 4 (0, 0)))) := ⟨below_alloc HB.out _⟩; have Z6 : (w5.alloc (.cells (madeCells (Value.bool false).cells (n * 1)) 4 (0, 0))).heap.size = w.heap.size + 5 := (by rw [alloc_size_, Z5]); clear HB B0 B1 B2 B3; have B0 := n0_; have B1 := n1_; have B2 := n2_; have B3 := n3_; have B4 := n4_; have HB := nb_; clear nb_ n0_ n1_ n2_ n3_ n4_ Z5; generalize w5.alloc (.cells (madeCells (Value.bool false).cells (n * 1)) 4 (0, 0)) = w6 at HB Z6 B0 B1 B2 B3 B4 ⊢) | ((with_reducible refine gate_dst (N := 5) rfl ?_); refine Kd.event_run rfl (v := .pointer (some ⟨w6.heap.size, 0, none⟩)) (w1 := w6.alloc (.cells #[.slice none 0 0] 166 (0, 0))) (by first | (go_simp; done) | (go_simp; rfl)) ?_; rw [Z6]; have n0_ : Aside0 ((w6.alloc (.cells #[.slice none 0 0] 166 (0, 0))).heap[w.heap.size]? = some (.cells #[.int .i64 (n : Int)] 3 (0, 0))) := ⟨blk_alloc B0.out _⟩; have n1_ : Aside0 ((w6.alloc (.cells #[.slice none 0 0] 166 (0, 0))).heap[w.heap.size + 1]? = some (.cells #[.slice none 0 0] 52 (0, 0))) := ⟨blk_alloc B1.out _⟩; have n2_ : Aside0 ((w6.alloc (.cells #[.slice none 0 0] 166 (0, 0))).heap[w.heap.size + 2]? = some (.cells (madeCells (Value.int .i64 0).cells (n * 1)) 3 (0, 0))) := ⟨blk_alloc B2.out _⟩; have n3_ : Aside0 ((w6.alloc (.cells #[.slice none 0 0] 166 (0, 0))).heap[w.heap.size + 3]? = some (.cells #[.slice (some ⟨w.heap.size + 2, 0, none⟩) 0 n] 27 (0, 0))) := ⟨blk_alloc B3.out _⟩; have n4_ : Aside0 ((w6.alloc (.cells #[.slice none 0 0] 166 (0, 0))).heap[w.heap.size + 4]? = some (.cells (madeCells (Value.bool false).cells (n * 1)) 4 (0, 0))) := ⟨blk_alloc B4.out _⟩; have n5_ : Aside0 ((w6.alloc (.cells #[.slice none 0 0] 166 (0, 0))).heap[w.heap.size + 5]? = some (.cells #[.slice none 0 0] 166 (0, 0))) := ⟨by rw [← Z6] <;> exact blk_new w6 _⟩; have nb_ : Aside0 (Below w.heap.size w (w6.alloc (.cells #[.slice none 0 0] 166 (0, 0)))) := ⟨below_alloc HB.out _⟩; have Z7 : (w6.alloc (.cells #[.slice none 0 0] 166 (0, 0))).heap.size = w.heap.size + 6 := (by rw [alloc_size_, Z6]); clear HB B0 B1 B2 B3 B4; have B0 := n0_; have B1 := n1_; have B2 := n2_; have B3 := n3_; have B4 := n4_; have B5 := n5_; have HB := nb_; clear nb_ n0_ n1_ n2_ n3_ n4_ n5_ Z6; generalize w6.alloc (.cells #[.slice none 0 0] 166 (0, 0)) = w7 at HB Z7 B0 B1 B2 B3 B4 B5 ⊢; have hc5 : w7.cell? ⟨w.heap.size + 5, 0, none⟩ = some (.slice none 0 0) := (blk_cell B5.out 0).trans rfl; have hf5 : w7.frozen? ⟨w.heap.size + 5, 0, none⟩ = false := blk_frozen B5.out 0))
    clear hc5 hf5
    have n0_ : Aside0 ((w7.setCell ⟨w.heap.size + 5, 0, none⟩ (.slice (some ⟨w.heap.size + 4, 0, none⟩) n n)).heap[w.heap.size]? = some (.cells #[.int .i64 (n : Int)] 3 (0, 0))) := ⟨blk_far B0.out (by simp) _⟩
    have n1_ : Aside0 ((w7.setCell ⟨w.heap.size + 5, 0, none⟩ (.slice (some ⟨w.heap.size + 4, 0, none⟩) n n)).heap[w.heap.size + 1]? = some (.cells #[.slice none 0 0] 52 (0, 0))) := ⟨blk_far B1.out (by simp) _⟩
    have n2_ : Aside0 ((w7.setCell ⟨w.heap.size + 5, 0, none⟩ (.slice (some ⟨w.heap.size + 4, 0, none⟩) n n)).heap[w.heap.size + 2]? = some (.cells (madeCells (Value.int .i64 0).cells (n * 1)) 3 (0, 0))) := ⟨blk_far B2.out (by simp) _⟩
    have n3_ : Aside0 ((w7.setCell ⟨w.heap.size + 5, 0, none⟩ (.slice (some ⟨w.heap.size + 4, 0, none⟩) n n)).heap[w.heap.size + 3]? = some (.cells #[.slice (some ⟨w.heap.size + 2, 0, none⟩) 0 n] 27 (0, 0))) := ⟨blk_far B3.out (by simp) _⟩
    have n4_ : Aside0 ((w7.setCell ⟨w.heap.size + 5, 0, none⟩ (.slice (some ⟨w.heap.size + 4, 0, none⟩) n n)).heap[w.heap.size + 4]? = some (.cells (madeCells (Value.bool false).cells (n * 1)) 4 (0, 0))) := ⟨blk_far B4.out (by simp) _⟩
    have n5_ : Aside0 ((w7.setCell ⟨w.heap.size + 5, 0, none⟩ (.slice (some ⟨w.heap.size + 4, 0, none⟩) n n)).heap[w.heap.size + 5]? = some (.cells #[.slice (some ⟨w.heap.size + 4, 0, none⟩) n n] 166 (0, 0))) := ⟨blk_set B5.out 0 (.slice (some ⟨w.heap.size + 4, 0, none⟩) n n)⟩
    have nb_ : Aside0 (Below w.heap.size w (w7.setCell ⟨w.heap.size + 5, 0, none⟩ (.slice (some ⟨w.heap.size + 4, 0, none⟩) n n))) := ⟨below_set HB.out (by omega)⟩
    have Z8 : (w7.setCell ⟨w.heap.size + 5, 0, none⟩ (.slice (some ⟨w.heap.size + 4, 0, none⟩) n n)).heap.size = w.heap.size + 6 := (set_size_ _ _ _).trans Z7
    clear HB B0 B1 B2 B3 B4 B5
    have B0 := n0_
    have B1 := n1_
    have B2 := n2_
    have B3 := n3_
    have B4 := n4_
    have B5 := n5_
    have HB := nb_
    clear nb_ Z7 n0_ n1_ n2_ n3_ n4_ n5_
    generalize w7.setCell ⟨w.heap.size + 5, 0, none⟩ (.slice (some ⟨w.heap.size + 4, 0, none⟩) n n) = w8 at HB Z8 B0 B1 B2 B3 B4 B5 ⊢
    go_upto_region 5 with (fail)
    have n0_ : Aside0 ((w8.alloc (.cells #[.nilFunc] 1 (0, 0))).heap[w.heap.size]? = some (.cells #[.int .i64 (n : Int)] 3 (0, 0))) := ⟨blk_alloc B0.out _⟩
    have n1_ : Aside0 ((w8.alloc (.cells #[.nilFunc] 1 (0, 0))).heap[w.heap.size + 1]? = some (.cells #[.slice none 0 0] 52 (0, 0))) := ⟨blk_alloc B1.out _⟩
    have n2_ : Aside0 ((w8.alloc (.cells #[.nilFunc] 1 (0, 0))).heap[w.heap.size + 2]? = some (.cells (madeCells (Value.int .i64 0).cells (n * 1)) 3 (0, 0))) := ⟨blk_alloc B2.out _⟩
    have n3_ : Aside0 ((w8.alloc (.cells #[.nilFunc] 1 (0, 0))).heap[w.heap.size + 3]? = some (.cells #[.slice (some ⟨w.heap.size + 2, 0, none⟩) 0 n] 27 (0, 0))) := ⟨blk_alloc B3.out _⟩
    have n4_ : Aside0 ((w8.alloc (.cells #[.nilFunc] 1 (0, 0))).heap[w.heap.size + 4]? = some (.cells (madeCells (Value.bool false).cells (n * 1)) 4 (0, 0))) := ⟨blk_alloc B4.out _⟩
    have n5_ : Aside0 ((w8.alloc (.cells #[.nilFunc] 1 (0, 0))).heap[w.heap.size + 5]? = some (.cells #[.slice (some ⟨w.heap.size + 4, 0, none⟩) n n] 166 (0, 0))) := ⟨blk_alloc B5.out _⟩
    have n6_ : Aside0 ((w8.alloc (.cells #[.nilFunc] 1 (0, 0))).heap[w.heap.size + 6]? = some (.cells #[.nilFunc] 1 (0, 0))) := ⟨by rw [← Z8] <;> exact blk_new w8 _⟩
    have nb_ : Aside0 (Below w.heap.size w (w8.alloc (.cells #[.nilFunc] 1 (0, 0)))) := ⟨below_alloc HB.out _⟩
    have Z9 : (w8.alloc (.cells #[.nilFunc] 1 (0, 0))).heap.size = w.heap.size + 7 := (by rw [alloc_size_, Z8])
    clear HB B0 B1 B2 B3 B4 B5
    have B0 := n0_
    have B1 := n1_
    have B2 := n2_
    have B3 := n3_
    have B4 := n4_
    have B5 := n5_
    have B6 := n6_
    have HB := nb_
    clear nb_ n0_ n1_ n2_ n3_ n4_ n5_ n6_ Z8
    generalize w8.alloc (.cells #[.nilFunc] 1 (0, 0)) = w9 at HB Z9 B0 B1 B2 B3 B4 B5 B6 ⊢
    have hc6 : w9.cell? ⟨w.heap.size + 6, 0, none⟩ = some .nilFunc := (blk_cell B6.out 0).trans rfl
    have hf6 : w9.frozen? ⟨w.heap.size + 6, 0, none⟩ = false := blk_frozen B6.out 0
    go_upto_region 6 with (fail)
    clear hc6 hf6
    have n0_ : Aside0 ((w9.setCell ⟨w.heap.size + 6, 0, none⟩ (.func (.func 286) #[] #[.pointer (some ⟨w.heap.size + 3, 0, none⟩), .pointer (some ⟨w.heap.size, 0, none⟩), .pointer (some ⟨w.heap.size + 1, 0, none⟩), .pointer (some ⟨w.heap.size + 5, 0, none⟩), .pointer (some ⟨w.heap.size + 6, 0, none⟩)])).heap[w.heap.size]? = some (.cells #[.int .i64 (n : Int)] 3 (0, 0))) := ⟨blk_far B0.out (by simp) _⟩
    have n1_ : Aside0 ((w9.setCell ⟨w.heap.size + 6, 0, none⟩ (.func (.func 286) #[] #[.pointer (some ⟨w.heap.size + 3, 0, none⟩), .pointer (some ⟨w.heap.size, 0, none⟩), .pointer (some ⟨w.heap.size + 1, 0, none⟩), .pointer (some ⟨w.heap.size + 5, 0, none⟩), .pointer (some ⟨w.heap.size + 6, 0, none⟩)])).heap[w.heap.size + 1]? = some (.cells #[.slice none 0 0] 52 (0, 0))) := ⟨blk_far B1.out (by simp) _⟩
    have n2_ : Aside0 ((w9.setCell ⟨w.heap.size + 6, 0, none⟩ (.func (.func 286) #[] #[.pointer (some ⟨w.heap.size + 3, 0, none⟩), .pointer (some ⟨w.heap.size, 0, none⟩), .pointer (some ⟨w.heap.size + 1, 0, none⟩), .pointer (some ⟨w.heap.size + 5, 0, none⟩), .pointer (some ⟨w.heap.size + 6, 0, none⟩)])).heap[w.heap.size + 2]? = some (.cells (madeCells (Value.int .i64 0).cells (n * 1)) 3 (0, 0))) := ⟨blk_far B2.out (by simp) _⟩
    have n3_ : Aside0 ((w9.setCell ⟨w.heap.size + 6, 0, none⟩ (.func (.func 286) #[] #[.pointer (some ⟨w.heap.size + 3, 0, none⟩), .pointer (some ⟨w.heap.size, 0, none⟩), .pointer (some ⟨w.heap.size + 1, 0, none⟩), .pointer (some ⟨w.heap.size + 5, 0, none⟩), .pointer (some ⟨w.heap.size + 6, 0, none⟩)])).heap[w.heap.size + 3]? = some (.cells #[.slice (some ⟨w.heap.size + 2, 0, none⟩) 0 n] 27 (0, 0))) := ⟨blk_far B3.out (by simp) _⟩
    have n4_ : Aside0 ((w9.setCell ⟨w.heap.size + 6, 0, none⟩ (.func (.func 286) #[] #[.pointer (some ⟨w.heap.size + 3, 0, none⟩), .pointer (some ⟨w.heap.size, 0, none⟩), .pointer (some ⟨w.heap.size + 1, 0, none⟩), .pointer (some ⟨w.heap.size + 5, 0, none⟩), .pointer (some ⟨w.heap.size + 6, 0, none⟩)])).heap[w.heap.size + 4]? = some (.cells (madeCells (Value.bool false).cells (n * 1)) 4 (0, 0))) := ⟨blk_far B4.out (by simp) _⟩
    have n5_ : Aside0 ((w9.setCell ⟨w.heap.size + 6, 0, none⟩ (.func (.func 286) #[] #[.pointer (some ⟨w.heap.size + 3, 0, none⟩), .pointer (some ⟨w.heap.size, 0, none⟩), .pointer (some ⟨w.heap.size + 1, 0, none⟩), .pointer (some ⟨w.heap.size + 5, 0, none⟩), .pointer (some ⟨w.heap.size + 6, 0, none⟩)])).heap[w.heap.size + 5]? = some (.cells #[.slice (some ⟨w.heap.size + 4, 0, none⟩) n n] 166 (0, 0))) := ⟨blk_far B5.out (by simp) _⟩
    have n6_ : Aside0 ((w9.setCell ⟨w.heap.size + 6, 0, none⟩ (.func (.func 286) #[] #[.pointer (some ⟨w.heap.size + 3, 0, none⟩), .pointer (some ⟨w.heap.size, 0, none⟩), .pointer (some ⟨w.heap.size + 1, 0, none⟩), .pointer (some ⟨w.heap.size + 5, 0, none⟩), .pointer (some ⟨w.heap.size + 6, 0, none⟩)])).heap[w.heap.size + 6]? = some (.cells #[.func (.func 286) #[] #[.pointer (some ⟨w.heap.size + 3, 0, none⟩), .pointer (some ⟨w.heap.size, 0, none⟩), .pointer (some ⟨w.heap.size + 1, 0, none⟩), .pointer (some ⟨w.heap.size + 5, 0, none⟩), .pointer (some ⟨w.heap.size + 6, 0, none⟩)]] 1 (0, 0))) := ⟨blk_set B6.out 0 (.func (.func 286) #[] #[.pointer (some ⟨w.heap.size + 3, 0, none⟩), .pointer (some ⟨w.heap.size, 0, none⟩), .pointer (some ⟨w.heap.size + 1, 0, none⟩), .pointer (some ⟨w.heap.size + 5, 0, none⟩), .pointer (some ⟨w.heap.size + 6, 0, none⟩)])⟩
    have nb_ : Aside0 (Below w.heap.size w (w9.setCell ⟨w.heap.size + 6, 0, none⟩ (.func (.func 286) #[] #[.pointer (some ⟨w.heap.size + 3, 0, none⟩), .pointer (some ⟨w.heap.size, 0, none⟩), .pointer (some ⟨w.heap.size + 1, 0, none⟩), .pointer (some ⟨w.heap.size + 5, 0, none⟩), .pointer (some ⟨w.heap.size + 6, 0, none⟩)]))) := ⟨below_set HB.out (by omega)⟩
    have Z10 : (w9.setCell ⟨w.heap.size + 6, 0, none⟩ (.func (.func 286) #[] #[.pointer (some ⟨w.heap.size + 3, 0, none⟩), .pointer (some ⟨w.heap.size, 0, none⟩), .pointer (some ⟨w.heap.size + 1, 0, none⟩), .pointer (some ⟨w.heap.size + 5, 0, none⟩), .pointer (some ⟨w.heap.size + 6, 0, none⟩)])).heap.size = w.heap.size + 7 := (set_size_ _ _ _).trans Z9
    clear HB B0 B1 B2 B3 B4 B5 B6
    have B0 := n0_
    have B1 := n1_
    have B2 := n2_
    have B3 := n3_
    have B4 := n4_
    have B5 := n5_
    have B6 := n6_
    have HB := nb_
    clear nb_ Z9 n0_ n1_ n2_ n3_ n4_ n5_ n6_
    generalize w9.setCell ⟨w.heap.size + 6, 0, none⟩ (.func (.func 286) #[] #[.pointer (some ⟨w.heap.size + 3, 0, none⟩), .pointer (some ⟨w.heap.size, 0, none⟩), .pointer (some ⟨w.heap.size + 1, 0, none⟩), .pointer (some ⟨w.heap.size + 5, 0, none⟩), .pointer (some ⟨w.heap.size + 6, 0, none⟩)]) = w10 at HB Z10 B0 B1 B2 B3 B4 B5 B6 ⊢
    have HP : Aside0 (PermAt n w (.slice none 0 0) [] [] [] w10) := ⟨⟨⟨Nat.zero_le _, hn64⟩, B0.out, B1.out, ⟨_, B2.out, by rw [size_madeCells, Nat.mul_one], fun i hi => absurd hi (Nat.not_lt_zero _)⟩, B3.out, by rw [← useA_nil]; exact B4.out, B5.out, B6.out, Kd.S_nil _ _ _ _ _, by omega, HB.out⟩⟩
    have H4 : Aside0 (([] : List (List Int)).length + 4 ^ n ≤ 1000) := ⟨by have h4 : 4 ^ n ≤ 4 ^ 4 := Nat.pow_le_pow_right (by decide) HN.out; rw [List.length_nil, Nat.zero_add]; exact Nat.le_trans h4 (by decide)⟩
    have HL0 : Aside0 (([] : List Int).length + n = n) := ⟨Nat.zero_add n⟩
    have hcg : w10.cell? ⟨w.heap.size + 6, 0, none⟩ = some (.func (.func 286) #[] #[.pointer (some ⟨w.heap.size + 3, 0, none⟩), .pointer (some ⟨w.heap.size, 0, none⟩), .pointer (some ⟨w.heap.size + 1, 0, none⟩), .pointer (some ⟨w.heap.size + 5, 0, none⟩), .pointer (some ⟨w.heap.size + 6, 0, none⟩)]) := (blk_cell B6.out 0).trans rfl
    clear HB B0 B1 B2 B3 B4 B5 B6 Z10
    go_upto_region 7 with (with_reducible refine (impl_permutations_1.any n HN.out w n [] [] (.slice none 0 0) w10 HL0.out H4.out HP.out).mono ?_; rintro e w11 ⟨rfl, ov2, hp3⟩; have HP3 := Aside0.mk hp3; clear hp3)
    clear hcg HP
    have hco : w11.cell? ⟨w.heap.size + 1, 0, none⟩ = some ov2 := (blk_cell HP3.out.bo 0).trans rfl
    go_wp2
    go_ret
    exact ⟨_, rfl, Kd.S_lower HP3.out.so (by omega), HP3.out.bel⟩
  next => cases h


end Go.Proofs.Yticfnpfagadcoaa.F
