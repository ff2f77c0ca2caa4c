/- Orders of variables: both ways to tell them, and places in them. -/
import Derived.Test.YtpbdjpbkocdidaaBase
import Derived.Test.YtpbdjpbkocdidaaFspecl3Perm
import Derived.Test.YtpbdjpbkocdidaaFspecl19Level
import Derived.Test.YtpbdjpbkocdidaaFimplisOrder
namespace Go.Proofs.Ytpbdjpbkocdidaa.U
open Go.RowKit Go.Proofs.YtpbdjpbkocdidaaW.PrintWords Go.Proofs.YtpbdjpbkocdidaaW.PrintLast Go.Proofs.YtpbdjpbkocdidaaW.PrintMore Go.Proofs.Ytpbdjpbkocdidaa.F Go.Proofs.Ytpbdjpbkocdidaa.B
set_option linter.unusedVariables false
set_option linter.unusedSimpArgs false

/-! ### Lists that hold 0 to n - 1 once each -/
theorem erase_mem {l : List Int} {a v : Int} (h : v ∈ l) (hne : v ≠ a) : v ∈ l.erase a := (List.mem_erase_of_ne hne).mpr h
theorem nodup_len : ∀ (n : Nat) (l : List Int), l.Nodup → (∀ v ∈ l, 0 ≤ v ∧ v < (n : Int)) → l.length ≤ n := by
  intro n
  induction n with
  | zero =>
    intro l _ h
    cases l with
    | nil => exact Nat.le_refl _
    | cons a l => have := h a (List.mem_cons_self ..); omega
  | succ n ih =>
    intro l hd h
    by_cases hm : (n : Int) ∈ l
    · have h1 := ih (l.erase (n : Int)) (hd.erase _) (fun v hv => by
        have h2 := (hd.mem_erase_iff.mp hv)
        have h3 := h v h2.2
        have h4 := h2.1
        omega)
      rw [List.length_erase_of_mem hm] at h1
      omega
    · have h1 := ih l hd (fun v hv => by
        have h3 := h v hv
        have h4 : v ≠ (n : Int) := fun e => hm (e ▸ hv)
        omega)
      omega
theorem nodup_all : ∀ (n : Nat) (l : List Int), l.Nodup → (∀ v ∈ l, 0 ≤ v ∧ v < (n : Int)) → l.length = n → ∀ v : Nat, v < n → (v : Int) ∈ l := by
  intro n
  induction n with
  | zero => intro l _ _ _ v hv; omega
  | succ n ih =>
    intro l hd h hl v hv
    by_cases hm : (n : Int) ∈ l
    · by_cases hvn : v = n
      · rw [hvn]; exact hm
      · have h1 := ih (l.erase (n : Int)) (hd.erase _) (fun v hv => by
          have h2 := (hd.mem_erase_iff.mp hv)
          have h3 := h v h2.2
          have h4 := h2.1
          omega) (by rw [List.length_erase_of_mem hm]; omega) v (by omega)
        exact List.mem_of_mem_erase h1
    · have h1 := nodup_len n l hd (fun v hv => by
        have h3 := h v hv
        have h4 : v ≠ (n : Int) := fun e => hm (e ▸ hv)
        omega)
      omega
theorem all_perm : ∀ (n : Nat) (l : List Int), (∀ v : Nat, v < n → (v : Int) ∈ l) → l.length = n → l.Nodup ∧ ∀ v ∈ l, 0 ≤ v ∧ v < (n : Int) := by
  intro n
  induction n with
  | zero =>
    intro l _ hl
    cases l with
    | nil => exact ⟨List.Pairwise.nil, fun v hv => by cases hv⟩
    | cons a l => cases hl
  | succ n ih =>
    intro l h hl
    have hm := h n (by omega)
    have hp := List.perm_cons_erase hm
    obtain ⟨h1, h2⟩ := ih (l.erase (n : Int)) (fun v hv => erase_mem (h v (by omega)) (by omega)) (by rw [List.length_erase_of_mem hm]; omega)
    constructor
    · rw [hp.nodup_iff, List.nodup_cons]
      exact ⟨fun q => by have := h2 _ q; omega, h1⟩
    · intro v hv
      rcases List.mem_cons.mp (hp.mem_iff.mp hv) with rfl | hv
      · omega
      · have := h2 v hv
        omega
/-! ### The reference's test -/
def goodAt (o : List Int) (n : Int) (i : Nat) : Prop := (0 ≤ rd o i ∧ rd o i < n) ∧ ∀ j : Nat, j < i → rd o j ≠ rd o i
theorem spec_perm_l1 {o : List Int} {n : Int} {i : Nat} (hl : o.length ≤ 1048576) (hi : i < o.length) : ∀ (d k j : Nat), j + d = i → d < k →
    (spec_l3Perm.l1 k o n i j = some false ∧ ∃ j' : Nat, j ≤ j' ∧ j' < i ∧ rd o j' = rd o i) ∨ (spec_l3Perm.l1 k o n i j = spec_l3Perm.l0 (k - d - 1) o n ((i + 1 : Nat) : Int) ∧ ∀ j' : Nat, j ≤ j' → j' < i → rd o j' ≠ rd o i) := by
  intro d
  induction d with
  | zero =>
    intro k j hj hk
    obtain ⟨k, rfl⟩ : ∃ m, k = m + 1 := ⟨k - 1, by omega⟩
    right
    simp only [spec_l3Perm.l1]
    rw [if_neg (by omega), wrap64_succ (by omega)]
    exact ⟨rfl, fun j' h1 h2 => by omega⟩
  | succ d ih =>
    intro k j hj hk
    obtain ⟨k, rfl⟩ : ∃ m, k = m + 1 := ⟨k - 1, by omega⟩
    simp only [spec_l3Perm.l1]
    rw [if_pos (by omega), if_pos (by omega), if_pos (by omega), if_pos (by omega), if_pos (by omega)]
    by_cases he : rd o j = rd o i
    · left
      rw [if_pos he]
      exact ⟨rfl, j, Nat.le_refl _, by omega, he⟩
    · rw [if_neg he, wrap64_succ (by omega), show k + 1 - (d + 1) - 1 = k - d - 1 by omega]
      rcases ih k (j + 1) (by omega) (by omega) with ⟨h1, j', h2, h3, h4⟩ | ⟨h1, h2⟩
      · exact .inl ⟨h1, j', by omega, h3, h4⟩
      · exact .inr ⟨h1, fun j' h3 h4 => by
          by_cases e : j' = j
          · rw [e]; exact he
          · exact h2 j' (by omega) h4⟩
theorem spec_perm_l0 {o : List Int} {n : Int} (hl : o.length ≤ 1048576) (hn : -9223372036854775807 ≤ n ∧ n ≤ 9223372036854775807) : ∀ (d k i : Nat), i + d = o.length → d * 1048578 + 1 < k →
    ∃ b, spec_l3Perm.l0 k o n i = some b ∧ (b = true ↔ ((o.length : Int) = n ∧ ∀ i' : Nat, i ≤ i' → i' < o.length → goodAt o n i')) := by
  intro d
  induction d with
  | zero =>
    intro k i hi hk
    obtain ⟨k, rfl⟩ : ∃ m, k = m + 1 := ⟨k - 1, by omega⟩
    simp only [spec_l3Perm.l0]
    rw [if_neg (by omega)]
    refine ⟨_, rfl, ?_⟩
    rw [beq_iff_eq]
    exact ⟨fun h => ⟨h, fun i' h1 h2 => by omega⟩, fun h => h.1⟩
  | succ d ih =>
    intro k i hi hk
    obtain ⟨k, rfl⟩ : ∃ m, k = m + 1 := ⟨k - 1, by omega⟩
    rw [Nat.succ_mul] at hk
    simp only [spec_l3Perm.l0]
    rw [if_pos (by omega), if_pos (by omega), wrap64_of (by omega) (by omega), l1In_some _ _ _ _ rfl, Option.bind_some]
    by_cases h1 : 0 ≤ rd o i ∧ rd o i ≤ n - 1
    · rw [if_pos (decide_eq_true h1)]
      rcases spec_perm_l1 (n := n) hl (show i < o.length by omega) i k 0 (by omega) (by generalize d * 1048578 = Q at hk; omega) with ⟨h2, j', _, h4, h5⟩ | ⟨h2, h3⟩
      · refine ⟨false, h2, ?_⟩
        constructor
        · intro h; cases h
        · intro h; exact absurd h5 ((h.2 i (Nat.le_refl _) (by omega)).2 j' h4)
      · have h2' : spec_l3Perm.l1 k o n (i : Nat) 0 = _ := h2
        rw [h2']
        obtain ⟨b, hb, hbi⟩ := ih (k - i - 1) (i + 1) (by omega) (by generalize d * 1048578 = Q at hk ⊢; omega)
        refine ⟨b, hb, hbi.trans ?_⟩
        constructor
        · rintro ⟨h6, h7⟩
          refine ⟨h6, fun i' h8 h9 => ?_⟩
          by_cases e : i' = i
          · subst e
            exact ⟨by omega, fun j hj => h3 j (Nat.zero_le _) hj⟩
          · exact h7 i' (by omega) h9
        · rintro ⟨h6, h7⟩
          exact ⟨h6, fun i' h8 h9 => h7 i' (by omega) h9⟩
    · rw [if_neg (fun q => h1 (of_decide_eq_true q))]
      refine ⟨false, rfl, ?_⟩
      constructor
      · intro h; cases h
      · intro h
        have := (h.2 i (Nat.le_refl _) (by omega)).1
        omega
/-- The list holds 0 to its length - 1 once each. -/
def isPerm (o : List Int) : Bool := allN (fun v => o.contains (v : Int)) o.length
theorem isPerm_iff (o : List Int) : isPerm o = true ↔ ∀ v : Nat, v < o.length → (v : Int) ∈ o := by
  unfold isPerm
  rw [allN_iff]
  exact ⟨fun h v hv => List.contains_iff_mem.mp (h v hv), fun h v hv => List.contains_iff_mem.mpr (h v hv)⟩
theorem rd_get (o : List Int) {i : Nat} (h : i < o.length) : rd o i = o[i] := by
  unfold rd
  rw [Int.toNat_natCast, List.getD_eq_getElem?_getD, List.getElem?_eq_getElem h]
  rfl
theorem rd_mem (o : List Int) {i : Nat} (h : i < o.length) : rd o i ∈ o := by rw [rd_get o h]; exact List.getElem_mem h
theorem good_perm (o : List Int) : (∀ i : Nat, i < o.length → goodAt o (o.length : Int) i) ↔ isPerm o = true := by
  rw [isPerm_iff]
  constructor
  · intro h
    refine nodup_all o.length o ?_ ?_ rfl
    · rw [List.Nodup, List.pairwise_iff_getElem]
      intro i j hi hj hij
      have h1 := (h j hj).2 i hij
      rw [rd_get o hi, rd_get o hj] at h1
      exact h1
    · intro v hv
      obtain ⟨i, hi, rfl⟩ := List.getElem_of_mem hv
      have h1 := (h i hi).1
      rw [rd_get o hi] at h1
      exact h1
  · intro h i hi
    obtain ⟨h1, h2⟩ := all_perm o.length o h rfl
    refine ⟨h2 _ (rd_mem o hi), fun j hj => ?_⟩
    rw [rd_get o hi, rd_get o (by omega)]
    rw [List.Nodup, List.pairwise_iff_getElem] at h1
    exact h1 j i (by omega) hi hj
theorem spec_perm {o : List Int} {n : Int} (hl : o.length ≤ 1048576) (hn : -9223372036854775807 ≤ n ∧ n ≤ 9223372036854775807) {k : Nat} (hk : 1200000000000 < k) : spec_l3Perm.f k o n = some (decide ((o.length : Int) = n) && isPerm o) := by
  unfold spec_l3Perm.f
  have hq : o.length * 1048578 ≤ 1099513724928 := Nat.le_trans (Nat.mul_le_mul_right 1048578 hl) (by decide)
  obtain ⟨b, hb, hbi⟩ := spec_perm_l0 (n := n) hl hn o.length k 0 (by omega) (by generalize o.length * 1048578 = Q at hq ⊢; omega)
  refine hb.trans (congrArg some ?_)
  rw [Bool.eq_iff_iff, hbi, Bool.and_eq_true, decide_eq_true_eq]
  constructor
  · rintro ⟨h1, h2⟩
    refine ⟨h1, (good_perm o).mp fun i hi => ?_⟩
    rw [h1]
    exact h2 i (Nat.zero_le _) hi
  · rintro ⟨h1, h2⟩
    refine ⟨h1, fun i _ hi => ?_⟩
    have := (good_perm o).mpr h2 i hi
    rwa [h1] at this
/-! ### Places -/
def levF (o : List Int) (v : Int) : Nat → Nat → Nat
  | 0, x => x
  | d + 1, x => if rd o x = v then x else levF o v d (x + 1)
/-- The place of a number, or the length. -/
def lev (o : List Int) (v : Int) : Nat := levF o v o.length 0
theorem levF_spec (o : List Int) (v : Int) : ∀ d x, x + d = o.length → x ≤ levF o v d x ∧ levF o v d x ≤ o.length ∧ (levF o v d x < o.length → rd o (levF o v d x : Nat) = v) ∧ ∀ i : Nat, x ≤ i → i < levF o v d x → rd o i ≠ v := by
  intro d
  induction d with
  | zero => intro x hx; rw [levF]; exact ⟨Nat.le_refl _, by omega, fun h => by omega, fun i h1 h2 => by omega⟩
  | succ d ih =>
    intro x hx
    rw [levF]
    by_cases h : rd o x = v
    · rw [if_pos h]
      exact ⟨Nat.le_refl _, by omega, fun _ => h, fun i h1 h2 => by omega⟩
    · rw [if_neg h]
      obtain ⟨h1, h2, h3, h4⟩ := ih (x + 1) (by omega)
      refine ⟨by omega, h2, h3, fun i h5 h6 => ?_⟩
      by_cases e : i = x
      · rw [e]; exact h
      · exact h4 i (by omega) h6
theorem lev_le (o : List Int) (v : Int) : lev o v ≤ o.length := (levF_spec o v o.length 0 (by omega)).2.1
theorem rd_lev {o : List Int} {v : Int} (h : lev o v < o.length) : rd o (lev o v : Nat) = v := (levF_spec o v o.length 0 (by omega)).2.2.1 h
theorem lev_first {o : List Int} {v : Int} {i : Nat} (h : i < lev o v) : rd o i ≠ v := (levF_spec o v o.length 0 (by omega)).2.2.2 i (Nat.zero_le _) h
theorem lev_mem {o : List Int} {v : Int} : lev o v < o.length ↔ v ∈ o := by
  constructor
  · intro h
    have := rd_mem o h
    rwa [rd_lev h] at this
  · intro h
    obtain ⟨i, hi, rfl⟩ := List.getElem_of_mem h
    by_cases hlt : i < lev o o[i]
    · exact absurd (rd_get o hi) (lev_first hlt)
    · omega
theorem spec_lev_loop (o : List Int) (v : Int) (hl : o.length ≤ 1048576) : ∀ d k x, x + d = o.length → d < k → spec_l19Level.l0 k o v (x : Nat) = some ((levF o v d x : Nat) : Int) := by
  intro d
  induction d with
  | zero =>
    intro k x hx hk
    obtain ⟨k, rfl⟩ : ∃ m, k = m + 1 := ⟨k - 1, by omega⟩
    simp only [spec_l19Level.l0]
    rw [if_neg (by omega), levF, show x = o.length by omega]
  | succ d ih =>
    intro k x hx hk
    obtain ⟨k, rfl⟩ : ∃ m, k = m + 1 := ⟨k - 1, by omega⟩
    simp only [spec_l19Level.l0]
    rw [if_pos (by omega), if_pos (by omega), levF]
    by_cases h : rd o x = v
    · rw [if_pos h, if_pos h]
    · rw [if_neg h, if_neg h, wrap64_succ (by omega)]
      exact ih k (x + 1) (by omega) (by omega)
theorem spec_lev (o : List Int) (v : Int) {k : Nat} (hl : o.length ≤ 1048576) (hk : o.length < k) : spec_l19Level.f k o v = some ((lev o v : Nat) : Int) := spec_lev_loop o v hl o.length k 0 (by omega) hk
theorem index_loop (o : List Int) (v : Int) (hl : o.length ≤ 1048576) : ∀ d k x, x + d = o.length → d < k → slices_Index_int_int.l0 k o v (o.length : Int) (x : Nat) = some (if levF o v d x < o.length then ((levF o v d x : Nat) : Int) else -1) := by
  intro d
  induction d with
  | zero =>
    intro k x hx hk
    obtain ⟨k, rfl⟩ : ∃ m, k = m + 1 := ⟨k - 1, by omega⟩
    simp only [slices_Index_int_int.l0]
    rw [if_neg (by omega), levF, if_neg (by omega)]
  | succ d ih =>
    intro k x hx hk
    obtain ⟨k, rfl⟩ : ∃ m, k = m + 1 := ⟨k - 1, by omega⟩
    simp only [slices_Index_int_int.l0]
    rw [if_pos (by omega), if_pos (by omega), if_pos (by omega), levF]
    by_cases h : rd o x = v
    · rw [if_pos h.symm, if_pos h, if_pos (by omega)]
    · rw [if_neg (fun e => h e.symm), if_neg h, wrap64_succ (by omega)]
      exact ih k (x + 1) (by omega) (by omega)
theorem index_some (o : List Int) (v : Int) {k : Nat} (hl : o.length ≤ 1048576) (hk : o.length < k) : slices_Index_int_int.f k o v = some (if lev o v < o.length then ((lev o v : Nat) : Int) else -1) := index_loop o v hl o.length k 0 (by omega) hk
theorem contains_some (o : List Int) (v : Int) {k : Nat} (hl : o.length ≤ 1048576) (hk : o.length < k) : slices_Contains_int_int.f k o v = some (o.contains v) := by
  unfold slices_Contains_int_int.f
  rw [index_some o v hl hk, Option.bind_some]
  congr 1
  rw [Bool.eq_iff_iff, decide_eq_true_eq, List.contains_iff_mem, ← lev_mem]
  by_cases h : lev o v < o.length
  · rw [if_pos h]; exact ⟨fun _ => h, fun _ => Int.natCast_nonneg _⟩
  · rw [if_neg h]; exact ⟨fun q => by omega, fun q => absurd q h⟩
/-! ### The program's test -/
theorem order_loop (o : List Int) (hl : o.length ≤ 1048576) : ∀ (d k x : Nat), x + d = o.length → d + o.length < k → allN (fun v => o.contains (v : Int)) x = true → impl_isOrder.l0 k o (o.length : Int) x = some (isPerm o) := by
  intro d
  induction d with
  | zero =>
    intro k x hx hk ha
    obtain ⟨k, rfl⟩ : ∃ m, k = m + 1 := ⟨k - 1, by omega⟩
    simp only [impl_isOrder.l0]
    rw [if_neg (by omega)]
    unfold isPerm
    rw [show o.length = x by omega, ha]
  | succ d ih =>
    intro k x hx hk ha
    obtain ⟨k, rfl⟩ : ∃ m, k = m + 1 := ⟨k - 1, by omega⟩
    simp only [impl_isOrder.l0]
    rw [if_pos (by omega), contains_some o _ hl (by omega), Option.bind_some]
    cases hc : o.contains (x : Int) with
    | false =>
      rw [if_neg (by decide)]
      unfold isPerm
      rw [allN_miss (show x < o.length by omega) hc]
    | true =>
      rw [if_pos rfl, wrap64_succ (by omega)]
      exact ih k (x + 1) (by omega) (by omega) (allN_next ha hc)
theorem order_some (o : List Int) (n : Int) {k : Nat} (hl : o.length ≤ 1048576) (hk : 3000000 < k) : impl_isOrder.f k o n = some (decide ((o.length : Int) = n) && isPerm o) := by
  unfold impl_isOrder.f
  by_cases h : (o.length : Int) = n
  · rw [if_pos h, decide_eq_true h, Bool.true_and, ← h]
    exact order_loop o hl o.length k 0 (by omega) (by omega) rfl
  · rw [if_neg h, decide_eq_false h, Bool.false_and]
theorem order_short (o : List Int) {k : Nat} (hl : o.length ≤ 5) (hk : 20 < k) : impl_isOrder.f k o (o.length : Int) = some (isPerm o) := by
  unfold impl_isOrder.f
  rw [if_pos rfl]
  exact order_loop o (by omega) o.length k 0 (by omega) (by omega) rfl
end Go.Proofs.Ytpbdjpbkocdidaa.U
