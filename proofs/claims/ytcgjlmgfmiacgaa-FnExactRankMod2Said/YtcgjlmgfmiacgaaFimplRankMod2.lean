/- The walk of one Go function: a call of it ends as the Lean function of its name tells; the conditions are those of each theorem. -/
import Derived.Test.YtcgjlmgfmiacgaaF0
import Derived.Test.YtcgjlmgfmiacgaaFGa
import Derived.Test.YtcgjlmgfmiacgaaFslicesContainsFuncintint
import Derived.Test.YtcgjlmgfmiacgaaFbitsLen64
import Derived.Test.YtcgjlmgfmiacgaaBase
namespace Go.Proofs.Ytcgjlmgfmiacgaa.F
open Go.RowKit Go.Proofs.YtcgjlmgfmiacgaaW.PrintWords Go.Proofs.YtcgjlmgfmiacgaaW.PrintLast Go.Proofs.YtcgjlmgfmiacgaaW.PrintMore
attribute [local go_sem] max2_int min2_int max_two min_two max_three min_three max_four min_four   -- for this text's walks alone
set_option linter.unusedVariables false
set_option linter.unusedSimpArgs false

/-! ### impl_RankMod2: function 28 -/
/-- The number of bits of a number. -/
def impl_RankMod2.len (x : Nat) : Nat := if x = 0 then 0 else Nat.log2 x + 1
/-- What leads the numbers of a length. -/
def impl_RankMod2.look : List (Nat × Nat) → Nat → Option Nat
  | [], _ => none
  | p :: ps, t => if p.1 = t then some p.2 else impl_RankMod2.look ps t
/-- A number is reduced by those that lead; what is left leads, too. -/
def impl_RankMod2.red : Nat → List (Nat × Nat) → Nat → List (Nat × Nat)
  | 0, ps, _ => ps
  | k + 1, ps, r => if r = 0 then ps else match impl_RankMod2.look ps (impl_RankMod2.len r) with
    | none => (impl_RankMod2.len r, r) :: ps
    | some v => impl_RankMod2.red k ps (r ^^^ v)
/-- All rows, one behind the other. -/
def impl_RankMod2.all (l : List Int) : Nat → List (Nat × Nat)
  | 0 => []
  | i + 1 => impl_RankMod2.red 33 (impl_RankMod2.all l i) (rd l i).toNat
def impl_RankMod2.bad (r : Int) : Bool := decide (r < 0) || (r / 4294967296 != 0)
/-- The library's count of bits answers as ours, at lengths up to 32. -/
def impl_RankMod2.f (l0 : List Int) : Option Int :=
  if l0.length < 9223372036854775807 then
    (if l0.length ≤ 32 then (if B.exN (fun i => impl_RankMod2.bad (rd l0 i)) l0.length = true then some (-1) else some (((impl_RankMod2.all l0 l0.length).length : Nat) : Int)) else some (-1)) else none
/-- The map behind a list. -/
def impl_RankMod2.D : List (Nat × Nat) → DataW Unit
  | [] => .map []
  | p :: ps => (impl_RankMod2.D ps).put (.int .i64 (p.1 : Int)) (.lit (.int .i64 (p.2 : Int)))
theorem impl_RankMod2.tidy : ∀ ps, Go.Maps.Tidy (impl_RankMod2.D ps)
  | [] => Go.Maps.tidy_empty
  | p :: ps => (impl_RankMod2.tidy ps).put (show WideAt.IsKeyLit (.int .i64 (p.1 : Int)) from trivial) _
theorem impl_RankMod2.D_look (t : Nat) (z : DataW Unit) : ∀ ps, Go.Maps.has (impl_RankMod2.D ps) (.int .i64 (t : Int)) = (impl_RankMod2.look ps t).isSome ∧ ∀ v, impl_RankMod2.look ps t = some v → (impl_RankMod2.D ps).atKey (.int .i64 (t : Int)) z = .lit (.int .i64 (v : Int))
  | [] => ⟨rfl, fun v h => by cases h⟩
  | p :: ps => by
    have ih := impl_RankMod2.D_look t z ps
    by_cases h : p.1 = t
    · subst h
      refine ⟨?_, fun v hv => ?_⟩
      · rw [impl_RankMod2.look, if_pos rfl]
        exact Go.Maps.has_put_same (impl_RankMod2.tidy ps).isMap (show WideAt.IsKeyLit (.int .i64 (p.1 : Int)) from trivial) _
      · rw [impl_RankMod2.look, if_pos rfl] at hv
        cases hv
        exact Go.Maps.atKey_put_same (impl_RankMod2.tidy ps).isMap (show WideAt.IsKeyLit (.int .i64 (p.1 : Int)) from trivial) _ _
    · have hne : (Lit.int .i64 (t : Int)) ≠ Lit.int .i64 (p.1 : Int) := fun q => h (by injection q with _ q; omega)
      refine ⟨?_, fun v hv => ?_⟩
      · rw [impl_RankMod2.look, if_neg h, ← ih.1]
        exact Go.Maps.has_put_other hne _
      · rw [impl_RankMod2.look, if_neg h] at hv
        rw [← ih.2 v hv]
        exact Go.Maps.atKey_put_other hne _ _
theorem impl_RankMod2.D_size : ∀ ps, (∀ p ps', (p :: ps') <:+ ps → impl_RankMod2.look ps' p.1 = none) → Go.Maps.size (impl_RankMod2.D ps) = ps.length
  | [], _ => rfl
  | p :: ps, h => by
    have e := Go.Maps.size_put (k := .int .i64 (p.1 : Int)) (impl_RankMod2.tidy ps) (.lit (.int .i64 (p.2 : Int)))
    rw [(impl_RankMod2.D_look p.1 (.lit (.int .i64 0)) ps).1, h p ps (List.suffix_refl _)] at e
    rw [impl_RankMod2.D, List.length_cons, ← impl_RankMod2.D_size ps fun q qs hq => h q qs (hq.trans (List.suffix_cons p ps))]
    exact e
/-- What always holds of a list: lengths are right, and none stands twice. -/
def impl_RankMod2.Ok (ps : List (Nat × Nat)) : Prop := (∀ t v, impl_RankMod2.look ps t = some v → impl_RankMod2.len v = t ∧ v < 4294967296) ∧ (∀ p ps', (p :: ps') <:+ ps → impl_RankMod2.look ps' p.1 = none) ∧ ps.length ≤ 1000000000
theorem impl_RankMod2.len_lt {x : Nat} (h : x < 4294967296) : impl_RankMod2.len x ≤ 32 := by
  unfold impl_RankMod2.len
  split
  · omega
  · have : Nat.log2 x < 32 := (Nat.log2_lt (by omega)).mpr h
    omega
theorem impl_RankMod2.len_pos {x : Nat} (h : x ≠ 0) : 2 ^ (impl_RankMod2.len x - 1) ≤ x ∧ x < 2 ^ impl_RankMod2.len x ∧ 0 < impl_RankMod2.len x := by
  unfold impl_RankMod2.len
  rw [if_neg h]
  exact ⟨by rw [Nat.add_sub_cancel]; exact Nat.log2_self_le h, Nat.lt_log2_self, by omega⟩
theorem impl_RankMod2.top {x : Nat} (h : x ≠ 0) : x.testBit (impl_RankMod2.len x - 1) = true := by
  obtain ⟨h1, h2, h3⟩ := impl_RankMod2.len_pos h
  obtain ⟨n, hn⟩ : ∃ n, impl_RankMod2.len x = n + 1 := ⟨impl_RankMod2.len x - 1, by omega⟩
  rw [hn] at h1 h2 ⊢
  rw [Nat.add_sub_cancel] at h1 ⊢
  rw [Nat.testBit_eq_decide_div_mod_eq]
  rw [Nat.pow_succ] at h2
  have : x / 2 ^ n = 1 := by
    apply Nat.div_eq_of_lt_le
    · omega
    · omega
  rw [this]
  rfl
theorem impl_RankMod2.len_of {x n : Nat} (h : x < 2 ^ n) : impl_RankMod2.len x ≤ n := by
  by_cases h0 : x = 0
  · unfold impl_RankMod2.len; rw [if_pos h0]; omega
  · unfold impl_RankMod2.len
    rw [if_neg h0]
    have := (Nat.log2_lt (n := x) (k := n) h0).mpr h
    omega
/-- Numbers of one length: their sum is shorter. -/
theorem impl_RankMod2.xor_len {x y : Nat} (hx : x ≠ 0) (h : impl_RankMod2.len y = impl_RankMod2.len x) : impl_RankMod2.len (x ^^^ y) < impl_RankMod2.len x := by
  obtain ⟨h1, h2, h3⟩ := impl_RankMod2.len_pos hx
  have hy : y ≠ 0 := fun q => by rw [q] at h; unfold impl_RankMod2.len at h; rw [if_pos rfl, if_neg hx] at h; omega
  obtain ⟨g1, g2, g3⟩ := impl_RankMod2.len_pos hy
  obtain ⟨n, hn⟩ : ∃ n, impl_RankMod2.len x = n + 1 := ⟨impl_RankMod2.len x - 1, by omega⟩
  have tx := impl_RankMod2.top hx
  have ty := impl_RankMod2.top hy
  rw [h, hn, Nat.add_sub_cancel] at ty
  rw [hn, Nat.add_sub_cancel] at tx
  rw [hn] at h2 ⊢
  rw [h, hn] at g2
  have : x ^^^ y < 2 ^ n := by
    apply Nat.lt_pow_two_of_testBit
    intro i hi
    rw [Nat.testBit_xor]
    by_cases e : i = n
    · subst e; rw [tx, ty]; rfl
    · rw [B.testBit_ge h2 (by omega), B.testBit_ge g2 (by omega)]; rfl
  have := impl_RankMod2.len_of this
  omega
theorem impl_RankMod2.ok_cons {ps : List (Nat × Nat)} {r : Nat} (h : impl_RankMod2.Ok ps) (hr : r < 4294967296) (hn : impl_RankMod2.look ps (impl_RankMod2.len r) = none) (hl : ps.length < 1000000000) : impl_RankMod2.Ok ((impl_RankMod2.len r, r) :: ps) := by
  refine ⟨fun t v hv => ?_, fun p qs hq => ?_, by rw [List.length_cons]; omega⟩
  · rw [impl_RankMod2.look] at hv
    split at hv
    next e => cases hv; exact ⟨e, hr⟩
    next e => exact h.1 t v hv
  · rcases List.suffix_cons_iff.mp hq with e | e
    · cases e; exact hn
    · exact h.2.1 p qs e
theorem impl_RankMod2.red_ok : ∀ (k : Nat) (ps : List (Nat × Nat)) (r : Nat), impl_RankMod2.Ok ps → r < 4294967296 → ps.length < 1000000000 → impl_RankMod2.Ok (impl_RankMod2.red k ps r) ∧ (impl_RankMod2.red k ps r).length ≤ ps.length + 1
  | 0, ps, r, h, _, _ => ⟨h, by simp [impl_RankMod2.red]⟩
  | k + 1, ps, r, h, hr, hl => by
    rw [impl_RankMod2.red]
    split
    · exact ⟨h, by omega⟩
    · split
      next hn => exact ⟨impl_RankMod2.ok_cons h hr hn hl, by simp⟩
      next v hv => exact impl_RankMod2.red_ok k ps (r ^^^ v) h (Nat.xor_lt_two_pow (n := 32) hr (h.1 _ _ hv).2) hl
theorem impl_RankMod2.all_ok (l : List Int) (hl : ∀ i : Nat, i < l.length → 0 ≤ rd l i ∧ rd l i < 4294967296) : ∀ i, i ≤ l.length → i ≤ 32 → impl_RankMod2.Ok (impl_RankMod2.all l i) ∧ (impl_RankMod2.all l i).length ≤ i
  | 0, _, _ => ⟨⟨(fun t v h => by cases h), (fun p ps h => by simp [impl_RankMod2.all] at h), (by simp [impl_RankMod2.all])⟩, (by simp [impl_RankMod2.all])⟩
  | i + 1, h, h2 => by
    have ih := impl_RankMod2.all_ok l hl i (by omega) (by omega)
    have := hl i (by omega)
    have h1 := impl_RankMod2.red_ok 33 (impl_RankMod2.all l i) (rd l i).toNat ih.1 (by omega) (by omega)
    exact ⟨h1.1, by rw [impl_RankMod2.all]; omega⟩
def impl_RankMod2.tab : ByteArray := ⟨#[0, 1, 2, 2, 3, 3, 3, 3, 4, 4, 4, 4, 4, 4, 4, 4, 5, 5, 5, 5, 5, 5, 5, 5, 5, 5, 5, 5, 5, 5, 5, 5, 6, 6, 6, 6, 6, 6, 6, 6, 6, 6, 6, 6, 6, 6, 6, 6, 6, 6, 6, 6, 6, 6, 6, 6, 6, 6, 6, 6, 6, 6, 6, 6, 7, 7, 7, 7, 7, 7, 7, 7, 7, 7, 7, 7, 7, 7, 7, 7, 7, 7, 7, 7, 7, 7, 7, 7, 7, 7, 7, 7, 7, 7, 7, 7, 7, 7, 7, 7, 7, 7, 7, 7, 7, 7, 7, 7, 7, 7, 7, 7, 7, 7, 7, 7, 7, 7, 7, 7, 7, 7, 7, 7, 7, 7, 7, 7, 8, 8, 8, 8, 8, 8, 8, 8, 8, 8, 8, 8, 8, 8, 8, 8, 8, 8, 8, 8, 8, 8, 8, 8, 8, 8, 8, 8, 8, 8, 8, 8, 8, 8, 8, 8, 8, 8, 8, 8, 8, 8, 8, 8, 8, 8, 8, 8, 8, 8, 8, 8, 8, 8, 8, 8, 8, 8, 8, 8, 8, 8, 8, 8, 8, 8, 8, 8, 8, 8, 8, 8, 8, 8, 8, 8, 8, 8, 8, 8, 8, 8, 8, 8, 8, 8, 8, 8, 8, 8, 8, 8, 8, 8, 8, 8, 8, 8, 8, 8, 8, 8, 8, 8, 8, 8, 8, 8, 8, 8, 8, 8, 8, 8, 8, 8, 8, 8, 8, 8, 8, 8, 8, 8, 8, 8, 8, 8]⟩
theorem impl_RankMod2.tab_at {y : Nat} (h : y < 256) : bt impl_RankMod2.tab ((y : Nat) : Int) = ((impl_RankMod2.len y : Nat) : Int) := by
  have hh : ∀ y : Fin 256, bt impl_RankMod2.tab ((y.val : Nat) : Int) = ((impl_RankMod2.len y.val : Nat) : Int) := by decide +kernel
  exact hh ⟨y, h⟩
theorem impl_RankMod2.len_eq {x n : Nat} (h1 : 2 ^ n ≤ x) (h2 : x < 2 ^ (n + 1)) : impl_RankMod2.len x = n + 1 := by
  have h := impl_RankMod2.len_of h2
  have hx : x ≠ 0 := by have := Nat.two_pow_pos n; omega
  obtain ⟨_, g2, g3⟩ := impl_RankMod2.len_pos hx
  by_cases e : impl_RankMod2.len x ≤ n
  · have := Nat.pow_le_pow_right (n := 2) (by decide) e
    omega
  · omega
theorem impl_RankMod2.len_up (m : Nat) {x y : Nat} (h1 : y * 2 ^ m ≤ x) (h2 : x < (y + 1) * 2 ^ m) (hy : y ≠ 0) : impl_RankMod2.len x = m + impl_RankMod2.len y := by
  obtain ⟨g1, g2, g3⟩ := impl_RankMod2.len_pos hy
  generalize impl_RankMod2.len y = L at g1 g2 g3
  obtain ⟨n, rfl⟩ : ∃ n, L = n + 1 := ⟨L - 1, by omega⟩
  rw [Nat.add_sub_cancel] at g1
  rw [← Nat.add_assoc]
  refine impl_RankMod2.len_eq ?_ ?_
  · rw [Nat.pow_add, Nat.mul_comm]
    exact Nat.le_trans (Nat.mul_le_mul_right _ g1) h1
  · rw [Nat.add_assoc, Nat.pow_add, Nat.mul_comm]
    exact Nat.lt_of_lt_of_le h2 (Nat.mul_le_mul_right _ g2)
theorem impl_RankMod2.len24 {x y : Nat} (h1 : y * 16777216 ≤ x) (h2 : x < (y + 1) * 16777216) (hy : y ≠ 0) : impl_RankMod2.len x = 24 + impl_RankMod2.len y := impl_RankMod2.len_up 24 h1 h2 hy
theorem impl_RankMod2.len16 {x y : Nat} (h1 : y * 65536 ≤ x) (h2 : x < (y + 1) * 65536) (hy : y ≠ 0) : impl_RankMod2.len x = 16 + impl_RankMod2.len y := impl_RankMod2.len_up 16 h1 h2 hy
theorem impl_RankMod2.len8 {x y : Nat} (h1 : y * 256 ≤ x) (h2 : x < (y + 1) * 256) (hy : y ≠ 0) : impl_RankMod2.len x = 8 + impl_RankMod2.len y := impl_RankMod2.len_up 8 h1 h2 hy
theorem impl_RankMod2.wrap3 {L : Nat} (h : L ≤ 8) : wrap64 ((wrap64 ((wrap64 ((0 : Int) + 16)) + 8)) + (wrap64 (L : Int))) = ((24 + L : Nat) : Int) ∧ wrap64 ((wrap64 ((0 : Int) + 16)) + (wrap64 (L : Int))) = ((16 + L : Nat) : Int) ∧ wrap64 ((wrap64 ((0 : Int) + 8)) + (wrap64 (L : Int))) = ((8 + L : Nat) : Int) ∧ wrap64 ((0 : Int) + (wrap64 (L : Int))) = (L : Int) := by
  unfold wrap64
  omega
theorem impl_RankMod2.len_j0 (k : Nat) (x0 x2 : Int) : bits_Len64.j0 (k + 1) x0 x2 = if x0 ≥ 65536 then (if (x0 / 65536) ≥ 256 then (if 0 ≤ (((x0 / 65536) / 256) % 256) then (if (((x0 / 65536) / 256) % 256) < 256 then (some (wrap64 ((wrap64 ((wrap64 (x2 + 16)) + 8)) + (wrap64 (bt impl_RankMod2.tab (((x0 / 65536) / 256) % 256)))))) else (none)) else (none)) else (if 0 ≤ ((x0 / 65536) % 256) then (if ((x0 / 65536) % 256) < 256 then (some (wrap64 ((wrap64 (x2 + 16)) + (wrap64 (bt impl_RankMod2.tab ((x0 / 65536) % 256)))))) else (none)) else (none))) else (if x0 ≥ 256 then (if 0 ≤ ((x0 / 256) % 256) then (if ((x0 / 256) % 256) < 256 then (some (wrap64 ((wrap64 (x2 + 8)) + (wrap64 (bt impl_RankMod2.tab ((x0 / 256) % 256)))))) else (none)) else (none)) else (if 0 ≤ ((x0) % 256) then (if ((x0) % 256) < 256 then (some (wrap64 (x2 + (wrap64 (bt impl_RankMod2.tab ((x0) % 256)))))) else (none)) else (none))) := rfl
theorem impl_RankMod2.len64 {x : Nat} (h : x < 4294967296) : bits_Len64.f 3 (x : Int) = some ((impl_RankMod2.len x : Nat) : Int) := by
  have hl : ∀ y : Nat, y < 256 → impl_RankMod2.len y ≤ 8 := fun y hy => impl_RankMod2.len_of (n := 8) hy
  unfold bits_Len64.f
  rw [if_neg (by omega)]
  show bits_Len64.j0 (2 + 1) (x : Int) 0 = _
  rw [impl_RankMod2.len_j0]
  by_cases h1 : x ≥ 65536
  · rw [if_pos (by omega)]
    by_cases h2 : x / 65536 ≥ 256
    · obtain ⟨y, hy⟩ : ∃ y, y = x / 16777216 := ⟨_, rfl⟩
      have hy8 : y < 256 := by omega
      have e2 : ((((x : Int) / 65536) / 256) % 256) = (y : Int) := by omega
      rw [if_pos (by omega), e2, if_pos (by omega), if_pos (by omega), impl_RankMod2.tab_at hy8, (impl_RankMod2.wrap3 (hl y hy8)).1, impl_RankMod2.len24 (x := x) (y := y) (by omega) (by omega) (by omega)]
    · obtain ⟨y, hy⟩ : ∃ y, y = x / 65536 := ⟨_, rfl⟩
      have hy8 : y < 256 := by omega
      have e2 : (((x : Int) / 65536) % 256) = (y : Int) := by omega
      rw [if_neg (by omega), e2, if_pos (by omega), if_pos (by omega), impl_RankMod2.tab_at hy8, (impl_RankMod2.wrap3 (hl y hy8)).2.1, impl_RankMod2.len16 (x := x) (y := y) (by omega) (by omega) (by omega)]
  · rw [if_neg (by omega)]
    by_cases h2 : x ≥ 256
    · obtain ⟨y, hy⟩ : ∃ y, y = x / 256 := ⟨_, rfl⟩
      have hy8 : y < 256 := by omega
      have e2 : (((x : Int) / 256) % 256) = (y : Int) := by omega
      rw [if_pos (by omega), e2, if_pos (by omega), if_pos (by omega), impl_RankMod2.tab_at hy8, (impl_RankMod2.wrap3 (hl y hy8)).2.2.1, impl_RankMod2.len8 (x := x) (y := y) (by omega) (by omega) (by omega)]
    · have hy8 : x < 256 := by omega
      have e2 : ((x : Int) % 256) = (x : Int) := by omega
      rw [if_neg (by omega), e2, if_pos (by omega), if_pos (by omega), impl_RankMod2.tab_at hy8, (impl_RankMod2.wrap3 (hl x hy8)).2.2.2]
set_option maxHeartbeats 400000 in
theorem impl_RankMod2_1.any (x : Int) (W : World) : Gives Try.prog 48 #[] #[.int .i64 x] (.bool (impl_RankMod2.bad x)) W := by
  show Calls Try.prog 48 #[.int .i64 x] W _
  by_cases h : x < 0
  · have d1 : decide (x < 0) = true := decide_eq_true h
    have HE : Aside0 (impl_RankMod2.bad x = true) := ⟨by unfold impl_RankMod2.bad; rw [d1]; rfl⟩
    go_enter Try.func48, Try.ntmps48
    go_wp2
    go_ret
    exact ⟨by rw [HE.out]; rfl, Below.refl _ _⟩
  · have d1 : decide (x < 0) = false := decide_eq_false h
    have HE : Aside0 (impl_RankMod2.bad x = (x / 4294967296 != 0)) := ⟨by unfold impl_RankMod2.bad; rw [d1]; rfl⟩
    go_enter Try.func48, Try.ntmps48
    go_wp2
    go_ret
    exact ⟨by rw [HE.out]; rfl, Below.refl _ _⟩
theorem impl_RankMod2.wf {x : Nat} (h : x < 9223372036854775808) : (Lit.int .i64 (x : Int)).wf = true := by
  simp [Lit.wf, IntKind.min, IntKind.max, IntKind.bits, IntKind.signed]
  omega
set_option maxHeartbeats 1000000 in
set_option maxRecDepth 100000 in
theorem impl_RankMod2.calls (A0 : Option Addr) (c0 : Nat) (l0 : List Int) (r : Int) (w : World) (hr0 : Kd.C (Kd.int .i64) w A0 l0.length l0) (hc0 : l0.length ≤ c0) (h : impl_RankMod2.f l0 = some r) :
    Calls Try.prog 28 #[.slice A0 l0.length c0] w fun e w' => e = .returned (.int .i64 r) ∧ Below w.heap.size w w' := by
  have HR := Aside0.mk hr0
  clear hr0 hc0
  unfold impl_RankMod2.f at h
  split at h
  next hL =>
    have HL := Aside0.mk hL
    clear hL
    by_cases h5 : l0.length ≤ 32
    · rw [if_pos h5] at h
      have d1 : decide (32 < l0.length) = false := decide_eq_false (by omega)
      have d2 : decide ((32 : Int) < (l0.length : Int)) = false := decide_eq_false (by omega)
      have EG := Aside0.mk (enters_of Try.func48 (by kernel_rfl) rfl)
      obtain ⟨q, hq⟩ : ∃ q, q = B.exN (fun i => impl_RankMod2.bad (rd l0 i)) l0.length := ⟨_, rfl⟩
      have HCC : Aside0 (∀ w' : World, Below w.heap.size w w' → Calls Try.prog 47 #[.slice A0 l0.length c0, .func (.func 48) #[] #[]] w' fun e w'' => e = .returned (.bool q) ∧ Below w'.heap.size w' w'') := ⟨by
        intro w' hb
        rw [hq]
        exact slices_ContainsFunc_int.any A0 c0 l0 impl_RankMod2.bad 48 #[] EG.out w' (Kd.Heap.C (Kd.heap_int .i64) hb.block HR.out) (fun W x _ _ => impl_RankMod2_1.any (rd l0 x) W) HL.out⟩
      rw [← hq] at h
      cases q with
      | true =>
        rw [if_pos rfl] at h
        cases h
        clear hq
        go_enter Try.func28, Try.ntmps28
        go_wp2_with (go_at_call 47; refine (HCC.out _ (Below.refl _ _)).mono ?_; rintro e w2 ⟨rfl, hd2⟩)
        go_ret
        exact ⟨rfl, hd2⟩
      | false =>
        rw [if_neg (by decide)] at h
        cases h
        have hgood : ∀ i : Nat, i < l0.length → 0 ≤ rd l0 i ∧ rd l0 i < 4294967296 := by
          intro i hi
          cases hc : impl_RankMod2.bad (rd l0 i) with
          | true => rw [B.exN_hit (p := fun i => impl_RankMod2.bad (rd l0 i)) hi hc] at hq; cases hq
          | false =>
            unfold impl_RankMod2.bad at hc
            rw [Bool.or_eq_false_iff, decide_eq_false_iff_not, bne_eq_false_iff_eq] at hc
            omega
        have HALL : Aside0 (∀ i, i ≤ l0.length → impl_RankMod2.Ok (impl_RankMod2.all l0 i) ∧ (impl_RankMod2.all l0 i).length ≤ i) := ⟨fun i hi => impl_RankMod2.all_ok l0 hgood i hi (by omega)⟩
        have HGOOD := Aside0.mk hgood
        clear hq hgood
        have law3 : Go.Maps.Keyed Try.prog 3 := Go.Maps.int_keyed Try.underlying3
        have hmm := @run_makeMap Try.prog
        go_enter Try.func28, Try.ntmps28
        go_wp2_with (go_at_call 47; refine (HCC.out _ (Below.refl _ _)).mono ?_; rintro e w2 ⟨rfl, hd2⟩; have HB2 := Aside0.mk hd2; clear hd2)
        go_loopg [19] l0.length (fun gg v19 wr => ∃ x : Nat, x ≤ l0.length ∧ l0.length - x ≤ gg ∧ v19 = .int .i64 x ∧ Aside0 (wr.ownsMap Try.prog 3 (plainElem Try.prog 3) w2.heap.size (impl_RankMod2.all l0 x).length (impl_RankMod2.D (impl_RankMod2.all l0 x))) ∧ Aside0 (Below w.heap.size w wr))
        case atStart => exact ⟨0, Nat.zero_le _, by omega, rfl, ⟨World.ownsMap_made _ _ _ _⟩, ⟨HB2.out.alloc HB2.out.size _⟩⟩
        case round =>
          obtain ⟨x, hx, hg, rfl, HO, HB⟩ := hrel
          by_cases hlt : x < l0.length
          · have hltz : (x : Int) < (l0.length : Int) := by omega
            have h0z : (0 : Int) ≤ (x : Int) := by omega
            obtain ⟨ad, rfl, hc⟩ := Kd.at_int HR.out (x : Int) h0z hltz
            have hc' := (HB.out.cell (World.block_lt_of_cell? w _ hc)).trans hc
            rw [Int.toNat_natCast] at hc'
            clear hc
            obtain ⟨r0, hr0⟩ := Int.eq_ofNat_of_zero_le (HGOOD.out x hlt).1
            rw [hr0] at hc'
            have HR0 : Aside0 (r0 < 4294967296 ∧ impl_RankMod2.all l0 (x + 1) = impl_RankMod2.red 33 (impl_RankMod2.all l0 x) r0) := ⟨by have := (HGOOD.out x hlt).2; omega, by rw [impl_RankMod2.all, hr0, Int.toNat_natCast]⟩
            have HOK := Aside0.mk (HALL.out x (by omega))
            clear hr0
            go_upto_block 1 with (fail)
            go_cut [5] (fun v5 wx => Aside0 (wx.ownsMap Try.prog 3 (plainElem Try.prog 3) w2.heap.size (impl_RankMod2.all l0 (x + 1)).length (impl_RankMod2.D (impl_RankMod2.all l0 (x + 1)))) ∧ Aside0 (Below w.heap.size w wx))
            case first =>
              go_wp2_with (fail)
              go_loopg [5] 33 (fun gg v5 wr => ∃ fuel y : Nat, v5 = .int .i64 y ∧ fuel ≤ gg ∧ Aside0 (y < 4294967296 ∧ impl_RankMod2.len y < fuel ∧ impl_RankMod2.red fuel (impl_RankMod2.all l0 x) y = impl_RankMod2.all l0 (x + 1)) ∧ Aside0 (wr.ownsMap Try.prog 3 (plainElem Try.prog 3) w2.heap.size (impl_RankMod2.all l0 x).length (impl_RankMod2.D (impl_RankMod2.all l0 x))) ∧ Aside0 (Below w.heap.size w wr))
              case atStart => exact ⟨33, r0, rfl, Nat.le_refl _, ⟨HR0.out.1, by have := impl_RankMod2.len_lt HR0.out.1; omega, HR0.out.2.symm⟩, HO, HB⟩
              case round =>
                clear HO HB hc'
                obtain ⟨fuel, y, rfl, hfg, HY, HO, HB⟩ := hrel
                obtain ⟨fuel, rfl⟩ : ∃ f, fuel = f + 1 := ⟨fuel - 1, by have := HY.out.2.1; omega⟩
                by_cases hy : y = 0
                · subst hy
                  have HE : Aside0 (impl_RankMod2.all l0 (x + 1) = impl_RankMod2.all l0 x) := ⟨by rw [← HY.out.2.2, impl_RankMod2.red, if_pos rfl]⟩
                  go_wp2
                  go_meet
                  exact ⟨⟨by rw [HE.out]; exact HO.out⟩, HB⟩
                · have hyz : ((y : Int) != 0) = true := bne_iff_ne.mpr (by omega)
                  have hyn : ¬ (y : Int) = 0 := by omega
                  have HU : Aside0 (IntKind.u64.wrap (y : Int) = (y : Int)) := ⟨B.wrapu_of (by omega) (by have := HY.out.1; omega)⟩
                  have hu := HU.out
                  have H64 := Aside0.mk (impl_RankMod2.len64 HY.out.1)
                  have HLB : Aside0 (impl_RankMod2.len y ≤ 32) := ⟨impl_RankMod2.len_lt HY.out.1⟩
                  have hkey := Go.Maps.keyOf_int_mk (P := Try.prog) Try.underlying3 (impl_RankMod2.wf (x := impl_RankMod2.len y) (by have := HLB.out; omega))
                  have HKEY := Aside0.mk hkey
                  clear hkey
                  have HDL := Aside0.mk (impl_RankMod2.D_look (impl_RankMod2.len y) (.lit (.int .i64 0)) (impl_RankMod2.all l0 x))
                  have HXL : Aside0 (∀ v, impl_RankMod2.look (impl_RankMod2.all l0 x) (impl_RankMod2.len y) = some v → impl_RankMod2.len (y ^^^ v) < fuel ∧ y ^^^ v < 4294967296 ∧ v < 4294967296) := ⟨fun v hv => by
                    have h1 := HOK.out.1.1 _ _ hv
                    have h2 := impl_RankMod2.xor_len hy h1.1
                    exact ⟨by have := HY.out.2.1; omega, Nat.xor_lt_two_pow (n := 32) HY.out.1 h1.2, h1.2⟩⟩
                  cases hl : impl_RankMod2.look (impl_RankMod2.all l0 x) (impl_RankMod2.len y) with
                  | none =>
                    have HE : Aside0 (impl_RankMod2.all l0 (x + 1) = (impl_RankMod2.len y, y) :: impl_RankMod2.all l0 x) := ⟨by rw [← HY.out.2.2, impl_RankMod2.red, if_neg hy, hl]⟩
                    have hhas : Go.Maps.has (impl_RankMod2.D (impl_RankMod2.all l0 x)) (.int .i64 ((impl_RankMod2.len y : Nat) : Int)) = false := by rw [HDL.out.1, hl]; rfl
                    have HYW : Aside0 ((Lit.int .i64 (y : Int)).wf = true) := ⟨impl_RankMod2.wf (by have := HY.out.1; omega)⟩
                    clear hl
                    generalize impl_RankMod2.len y = t at H64 HKEY HE hhas
                    go_wp2_with (first | (go_at_call 49; refine (bits_Len64.calls 3 y t _ H64.out).mono ?_; rintro e w3 ⟨rfl, hd⟩; have HB3 := Aside0.mk (below_step HB.out hd.below); have HO3 : Aside0 (w3.ownsMap Try.prog 3 (plainElem Try.prog 3) w2.heap.size (impl_RankMod2.all l0 x).length (impl_RankMod2.D (impl_RankMod2.all l0 x))) := ⟨by obtain ⟨nd, rfl⟩ := hd; exact HO.out⟩; clear hd) | (at_lookup; refine wpList_lookup_own_ok_int _ rfl _ _ 65 rfl 3 3 .i64 law3 Try.underlying65 Try.underlying3 (by kernel_rfl) w2.heap.size _ _ rfl HO3.out _ _ rfl HKEY.out ?_; intro c hat hwc; clear hat hwc) | (at_mapUpdate; refine wpList_mapUpdate_own _ rfl _ _ _ 65 rfl 3 3 law3 Try.underlying65 (plainElem (H := Unit) Try.prog 3) w2.heap.size _ _ rfl HO3.out (by have := HOK.out.2; unfold maxLen; omega) _ _ _ rfl rfl HKEY.out _ [] (plainElem_int Try.underlying3 HYW.out) ?_; intro w1 hown1 hgrow1))
                    go_meet
                    exact ⟨⟨by rw [HE.out]; exact hown1⟩, ⟨HB3.out.grown hgrow1 HB3.out.size (fun j hj => by cases hj; exact HB2.out.size)⟩⟩
                  | some v =>
                    have HE : Aside0 (impl_RankMod2.red fuel (impl_RankMod2.all l0 x) (y ^^^ v) = impl_RankMod2.all l0 (x + 1)) := ⟨by rw [← HY.out.2.2, impl_RankMod2.red, if_neg hy, hl]⟩
                    have hhas : Go.Maps.has (impl_RankMod2.D (impl_RankMod2.all l0 x)) (.int .i64 ((impl_RankMod2.len y : Nat) : Int)) = true := by rw [HDL.out.1, hl]; rfl
                    have HAT := Aside0.mk (HDL.out.2 v hl)
                    have HX := Aside0.mk (HXL.out v hl)
                    have hxr : Go.bits .xor .i64 (y : Int) (v : Int) = ((y ^^^ v : Nat) : Int) := B.xor_cast (by have := HY.out.1; omega) (by have := HX.out.2.2; omega)
                    have HXR := Aside0.mk hxr
                    clear hl hxr
                    generalize impl_RankMod2.len y = t at H64 HKEY hhas HAT
                    go_wp2_with (first | (go_at_call 49; refine (bits_Len64.calls 3 y t _ H64.out).mono ?_; rintro e w3 ⟨rfl, hd⟩; have HB3 := Aside0.mk (below_step HB.out hd.below); have HO3 : Aside0 (w3.ownsMap Try.prog 3 (plainElem Try.prog 3) w2.heap.size (impl_RankMod2.all l0 x).length (impl_RankMod2.D (impl_RankMod2.all l0 x))) := ⟨by obtain ⟨nd, rfl⟩ := hd; exact HO.out⟩; clear hd) | (at_lookup; refine wpList_lookup_own_ok_int _ rfl _ _ 65 rfl 3 3 .i64 law3 Try.underlying65 Try.underlying3 (by kernel_rfl) w2.heap.size _ _ rfl HO3.out _ _ rfl HKEY.out ?_; intro c hat hwc; have hxc : Go.bits .xor .i64 (y : Int) c = ((y ^^^ v : Nat) : Int) := (by rw [HAT.out] at hat; injection hat with h1; injection h1 with _ h2; rw [← h2]; exact HXR.out); clear hat hwc))
                    go_roundg fuel
                    case measure => omega
                    case rel => exact ⟨fuel, y ^^^ v, rfl, Nat.le_refl _, ⟨HX.out.2.1, HX.out.1, HE.out⟩, HO3, HB3⟩
            case rest =>
              clear HO HB hc'
              obtain ⟨HO, HB⟩ := hcut
              go_wp2
              go_roundg (l0.length - (x + 1))
              case measure => omega
              case rel => exact ⟨x + 1, by omega, by omega, by have := HL.out; go_num, HO, HB⟩
          · have hltz : ¬ (x : Int) < (l0.length : Int) := by omega
            obtain rfl : x = l0.length := by omega
            have HSZ := Aside0.mk (impl_RankMod2.D_size (impl_RankMod2.all l0 l0.length) (HALL.out l0.length (Nat.le_refl _)).1.2.1)
            go_wp2_with (first | (at_len; refine wpList_len_own _ rfl _ 65 rfl 3 3 Try.underlying65 _ w2.heap.size _ _ rfl HO.out ?_))
            go_ret
            exact ⟨by rw [← HSZ.out]; rfl, HB.out⟩
    · rw [if_neg h5] at h
      cases h
      have d1 : decide (32 < l0.length) = true := decide_eq_true (by omega)
      have d2 : decide ((32 : Int) < (l0.length : Int)) = true := decide_eq_true (by omega)
      go_enter Try.func28, Try.ntmps28
      go_wp2
      go_ret
      exact ⟨rfl, Below.refl _ _⟩
  next => cases h


end Go.Proofs.Ytcgjlmgfmiacgaa.F
