/- Symmetric tables and their profiles: both ways. -/
import Derived.Test.YtnkkkabdpbonaaaU14
import Derived.Test.YtnkkkabdpbonaaaFimplTableprofile
import Derived.Test.YtnkkkabdpbonaaaFspecIsSymmetric
import Derived.Test.YtnkkkabdpbonaaaFimplIsSymmetric
import Derived.Test.YtnkkkabdpbonaaaFspecProfileOf
import Derived.Test.YtnkkkabdpbonaaaFimplProfileOf
namespace Go.Proofs.Ytnkkkabdpbonaaa.U
open Go.RowKit Go.Proofs.YtnkkkabdpbonaaaW.PrintWords Go.Proofs.YtnkkkabdpbonaaaW.PrintLast Go.Proofs.YtnkkkabdpbonaaaW.PrintMore Go.Proofs.Ytnkkkabdpbonaaa.F Go.Proofs.Ytnkkkabdpbonaaa.B
set_option linter.unusedVariables false
set_option linter.unusedSimpArgs false
/-- The number of ones of a small number. -/
def pop (x : Nat) : Nat := bitN x 0 + bitN x 1 + bitN x 2 + bitN x 3 + bitN x 4
theorem ones_small {x : Nat} (hx : x < 32) : impl_ones.f x = some ((pop x : Nat) : Int) := by
  have h : ∀ x : Fin 32, impl_ones.f ((x.val : Nat) : Int) = some ((pop x.val : Nat) : Int) := by decide +kernel
  exact h ⟨x, hx⟩
theorem pop_le {n x : Nat} (hn : n ≤ 5) (hx : x < 2 ^ n) : pop x ≤ n := by
  have h : ∀ n : Fin 6, ∀ x : Fin 32, x.val < 2 ^ n.val → pop x.val ≤ n.val := by decide +kernel
  have := pow_le hn
  exact h ⟨n, by omega⟩ ⟨x, by omega⟩ hx
/-- The value depends on the number of ones alone. -/
def symAt (w x : Nat) : Bool := w.testBit x == w.testBit (2 ^ pop x - 1)
def sym (n w : Nat) : Bool := allN (symAt w) (2 ^ n)
/-- An exchange of neighbours that makes x less, or x has its ones at the least places. -/
theorem sort_step {n x : Nat} (hn : n ≤ 5) (hx : x < 2 ^ n) : x = 2 ^ pop x - 1 ∨ ∃ i, 1 ≤ i ∧ i < n ∧ swp x (i - 1) i < x ∧ pop (swp x (i - 1) i) = pop x := by
  have h : ∀ n : Fin 6, ∀ x : Fin 32, x.val < 2 ^ n.val → x.val = 2 ^ pop x.val - 1 ∨ ∃ i : Fin 5, 1 ≤ i.val ∧ i.val < n.val ∧ swp x.val (i.val - 1) i.val < x.val ∧ pop (swp x.val (i.val - 1) i.val) = pop x.val := by decide +kernel
  have := pow_le hn
  rcases h ⟨n, by omega⟩ ⟨x, by omega⟩ hx with h | ⟨i, h1, h2, h3, h4⟩
  · exact .inl h
  · exact .inr ⟨i.val, h1, h2, h3, h4⟩
theorem pop_swp {x i k : Nat} (hx : x < 32) (hi : i < 5) (hk : k < 5) : pop (swp x i k) = pop x := by
  have h : ∀ x : Fin 32, ∀ i : Fin 5, ∀ k : Fin 5, pop (swp x.val i.val k.val) = pop x.val := by decide +kernel
  exact h ⟨x, hx⟩ ⟨i, hi⟩ ⟨k, hk⟩
/-- All neighbours up to i can be exchanged. -/
def nbs (n w m : Nat) : Bool := allN (fun i => i == 0 || exch n w (i - 1) i) m
theorem nbs_sym {n w : Nat} (ht : Tab n w) (hn0 : 0 < n) : nbs n w n = sym n w := by
  have hn := ht.1
  have hM := pow_le ht.1
  apply Bool.eq_iff_iff.mpr
  unfold nbs sym
  rw [allN_iff, allN_iff]
  constructor
  · intro h
    have key : ∀ (b x : Nat), x < b → x < 2 ^ n → symAt w x = true := by
      intro b
      induction b with
      | zero => intro x hb; omega
      | succ b ih =>
        intro x hb hx
        unfold symAt
        rw [beq_iff_eq]
        rcases sort_step hn hx with e | ⟨i, h1, h2, h3, h4⟩
        · rw [← e]
        · have hi := h i h2
          rw [Bool.or_eq_true, beq_iff_eq] at hi
          have hi : exch n w (i - 1) i = true := hi.resolve_left (by omega)
          have hs := allN_iff.mp hi x hx
          rw [beq_iff_eq] at hs
          have := ih (swp x (i - 1) i) (by omega) (by omega)
          unfold symAt at this
          rw [beq_iff_eq, h4] at this
          rw [hs, this]
    exact fun x hx => key (x + 1) x (by omega) hx
  · intro h i hi
    rw [Bool.or_eq_true, beq_iff_eq]
    by_cases h0 : i = 0
    · exact .inl h0
    · refine .inr (allN_iff.mpr fun x hx => ?_)
      have e1 := h x hx
      have e2 := h (swp x (i - 1) i) (swp_lt hx (by omega) hi)
      unfold symAt at e1 e2
      rw [beq_iff_eq] at e1 e2 ⊢
      rw [e1, e2, pop_swp (by omega) (by omega) (by omega)]
theorem nbs_zero (w : Nat) : sym 0 w = true := by
  unfold sym
  rw [allN_iff]
  intro x hx
  obtain rfl : x = 0 := by omega
  unfold symAt
  rw [show 2 ^ pop 0 - 1 = 0 from by decide]
  simp
/-- The values for 0, 1 and so on ones. -/
def profL (w : Nat) : Nat → List Int
  | 0 => []
  | k + 1 => profL w k ++ [((bitN w (2 ^ k - 1) : Nat) : Int)]
theorem profL_length (w k : Nat) : (profL w k).length = k := by
  induction k with
  | zero => rfl
  | succ k ih => rw [profL, List.length_append, ih]; rfl
theorem profL_get {w m k : Nat} (h : k < m) : (profL w m).getD k 0 = ((bitN w (2 ^ k - 1) : Nat) : Int) := by
  induction m with
  | zero => omega
  | succ m ih =>
    rw [profL, List.getD_eq_getElem?_getD]
    by_cases e : k = m
    · subst e
      rw [List.getElem?_append_right (by rw [profL_length]; omega), profL_length]
      simp
    · rw [List.getElem?_append_left (by rw [profL_length]; omega), ← List.getD_eq_getElem?_getD]
      exact ih (by omega)
theorem rd_cast' (l : List Int) (x : Nat) : rd l (x : Int) = l.getD x 0 := by unfold rd; rw [Int.toNat_natCast]
theorem prof_step (w n x : Nat) (h : x < n) : (profL w x ++ List.replicate (n - x) 0).set x ((bitN w (2 ^ x - 1) : Nat) : Int) = profL w (x + 1) ++ List.replicate (n - (x + 1)) 0 := by
  obtain ⟨d, hd⟩ : ∃ d, n - x = d + 1 := ⟨n - x - 1, by omega⟩
  rw [hd, show n - (x + 1) = d by omega, List.replicate_succ, List.set_append, if_neg (by rw [profL_length]; omega), profL_length]
  simp [profL]
theorem bit_same {w x y : Nat} : ((((bitN w x : Nat) : Int)) = ((bitN w y : Nat) : Int)) ↔ w.testBit x = w.testBit y := by
  unfold bitN
  generalize w.testBit x = p
  generalize w.testBit y = q
  cases p <;> cases q <;> simp
theorem sym_miss {n w x : Nat} (hx : x < 2 ^ n) (h : ¬ w.testBit x = w.testBit (2 ^ pop x - 1)) : sym n w = false :=
  allN_miss hx (by unfold symAt; exact beq_eq_false_iff_ne.mpr h)
theorem prof_l1 {n w : Nat} (ht : Tab n w) : ∀ (d k x : Nat), x + d = 2 ^ n → d < k → allN (symAt w) x = true →
    impl_Table_profile.l1 k (profL w (n + 1)) ((2 ^ n : Nat) : Int) x n w = some (if sym n w = true then (profL w (n + 1), true) else ([], false)) := by
  have hM := pow_le ht.1
  have hn := ht.1
  intro d
  induction d with
  | zero =>
    intro k x hx hk ha
    obtain ⟨k, rfl⟩ : ∃ m, k = m + 1 := ⟨k - 1, by omega⟩
    obtain rfl : x = 2 ^ n := by omega
    simp only [impl_Table_profile.l1]
    rw [if_neg (by omega), if_pos (show sym n w = true from ha)]
  | succ d ih =>
    intro k x hx hk ha
    obtain ⟨k, rfl⟩ : ∃ m, k = m + 1 := ⟨k - 1, by omega⟩
    have hlt : x < 2 ^ n := by omega
    have hp := pop_le hn hlt
    have hone := ones_small (x := x) (by omega)
    have hmiss := sym_miss (n := n) (w := w) hlt
    have hgo : w.testBit x = w.testBit (2 ^ pop x - 1) → allN (symAt w) (x + 1) = true := fun hv => allN_next ha (by unfold symAt; exact beq_iff_eq.mpr hv)
    generalize pop x = p at hp hone hmiss hgo
    have hget := profL_get (w := w) (m := n + 1) (k := p) (by omega)
    generalize 2 ^ p - 1 = y at hmiss hgo hget
    simp only [impl_Table_profile.l1, hone]
    rw [if_pos (by exact_mod_cast hlt), at_some' ht.lt63 (by omega)]
    simp only [Option.bind_some, profL_length]
    rw [if_pos (by omega), if_pos (by omega), rd_cast', hget, wrap64_succ (by omega)]
    by_cases hv : w.testBit x = w.testBit y
    · rw [if_pos (bit_same.mpr hv)]
      exact ih k (x + 1) (by omega) (by omega) (hgo hv)
    · rw [if_neg (fun h => hv (bit_same.mp h)), hmiss hv]
      rfl
theorem prof_l0 {n w : Nat} (ht : Tab n w) : ∀ (d k x : Nat), x + d = n + 1 → d + 40 < k →
    impl_Table_profile.l0 k (profL w x ++ List.replicate (n + 1 - x) 0) ((n + 1 : Nat) : Int) x n w = some (if sym n w = true then (profL w (n + 1), true) else ([], false)) := by
  have hM := pow_le ht.1
  have hn := ht.1
  intro d
  induction d with
  | zero =>
    intro k x hx hk
    obtain ⟨k, rfl⟩ : ∃ m, k = m + 1 := ⟨k - 1, by omega⟩
    obtain rfl : x = n + 1 := by omega
    simp only [impl_Table_profile.l0, Nat.sub_self, List.replicate_zero, List.append_nil]
    rw [if_neg (by omega), size_some _ (by omega)]
    simp only [Option.bind_some]
    exact prof_l1 ht (2 ^ n) k 0 (by omega) (by omega) rfl
  | succ d ih =>
    intro k x hx hk
    obtain ⟨k, rfl⟩ : ∃ m, k = m + 1 := ⟨k - 1, by omega⟩
    have hp := pow_pos x
    have hp2 := pow_le_pow (show x ≤ 5 by omega)
    simp only [impl_Table_profile.l0, List.length_append, profL_length, List.length_replicate, Int.toNat_natCast]
    rw [if_pos (by omega), if_pos (by omega), shl1_of (by omega), pred_cast' hp (by omega), at_some' ht.lt63 (by omega)]
    simp only [Option.bind_some]
    rw [if_pos (by omega), wrap64_succ (by omega), prof_step w (n + 1) x (by omega)]
    exact ih k (x + 1) (by omega) (by omega)
theorem impl_profile {n w k : Nat} (ht : Tab n w) (hk : 60 < k) : impl_Table_profile.f k n w = some (if sym n w = true then (profL w (n + 1), true) else ([], false)) := by
  have hn := ht.1
  unfold impl_Table_profile.f
  rw [wrap64_succ (by omega), if_pos (by omega), if_pos (by omega)]
  simp only [Option.bind_some, List.length_replicate, Int.toNat_natCast]
  exact prof_l0 ht (n + 1) k 0 (by omega) (by omega)
theorem impl_isSym {a b : Int} (h0 : -9223372036854775808 ≤ b) (h1 : b ≤ 9223372036854775807) {k : Nat} (hk : 60 < k) : impl_IsSymmetric.f k a b = some (isTab a b && sym a.toNat b.toNat) := by
  unfold impl_IsSymmetric.f
  rw [impl_isTable h0 h1]
  simp only [Option.bind_some]
  by_cases h : isTab a b = true
  · obtain ⟨n, w, rfl, rfl, ht⟩ := tab_of h
    rw [if_pos h, impl_profile ht hk, h]
    simp only [Option.bind_some, Bool.true_and, Int.toNat_natCast]
    cases sym n w <;> rfl
  · rw [if_neg h, Bool.eq_false_iff.mpr h]; rfl
theorem spec_sym_loop {n w : Nat} (ht : Tab n w) (hn0 : 0 < n) : ∀ (d k i : Nat), i + d = n → 1 ≤ i → d * 2 + 90 < k → nbs n w i = true →
    spec_IsSymmetric.l0 k i n w = some (sym n w) := by
  have hn := ht.1
  have hw := ht.lt
  intro d
  induction d with
  | zero =>
    intro k i hi h1 hk ha
    obtain ⟨k, rfl⟩ : ∃ m, k = m + 1 := ⟨k - 1, by omega⟩
    obtain ⟨k, rfl⟩ : ∃ m, k = m + 1 := ⟨k - 1, by omega⟩
    obtain rfl : i = n := by omega
    simp only [spec_IsSymmetric.l0]
    rw [spec_isTable, isTab_of ht]
    simp only [Option.bind_some, if_true, spec_IsSymmetric.j1]
    rw [if_neg (by simp), ← nbs_sym ht hn0, ha, spec_isTable, isTab_of ht]
    rfl
  | succ d ih =>
    intro k i hi h1 hk ha
    obtain ⟨k, rfl⟩ : ∃ m, k = m + 1 := ⟨k - 1, by omega⟩
    obtain ⟨k, rfl⟩ : ∃ m, k = m + 1 := ⟨k - 1, by omega⟩
    simp only [spec_IsSymmetric.l0]
    rw [spec_isTable, isTab_of ht]
    simp only [Option.bind_some, if_true]
    rw [decide_eq_true (by omega)]
    simp only [spec_IsSymmetric.j1, if_true]
    have e1 : wrap64 ((i : Int) - 1) = ((i - 1 : Nat) : Int) := by rw [wrap64_of (by omega) (by omega)]; omega
    have e2 : exchB n w ((i - 1 : Nat) : Int) i = exch n w (i - 1) i := by
      unfold exchB
      rw [isTab_of ht, decide_eq_true (by omega), decide_eq_true (by omega)]
      simp
    rw [e1, spec_exch _ _ _ _ (by omega), e2, wrap64_succ (by omega)]
    simp only [Option.bind_some]
    have hst : nbs n w (i + 1) = (nbs n w i && (i == 0 || exch n w (i - 1) i)) := rfl
    cases hx : exch n w (i - 1) i with
    | true =>
      rw [if_pos rfl]
      exact ih k (i + 1) (by omega) (by omega) (by omega) (by rw [hst, ha, hx]; simp)
    | false =>
      rw [if_neg (by decide), ← nbs_sym ht hn0, nbs, allN_miss (i := i) (by omega) (by rw [hx]; simp; omega)]
theorem spec_isSym (a b : Int) {k : Nat} (hk : 110 < k) : spec_IsSymmetric.f k a b = some (isTab a b && sym a.toNat b.toNat) := by
  unfold spec_IsSymmetric.f
  by_cases h : isTab a b = true
  · obtain ⟨n, w, rfl, rfl, ht⟩ := tab_of h
    have hn := ht.1
    rw [h]
    by_cases hn0 : 0 < n
    · exact spec_sym_loop ht hn0 (n - 1) k 1 (by omega) (by omega) (by omega) (by simp [nbs, allN])
    · obtain rfl : n = 0 := by omega
      obtain ⟨k, rfl⟩ : ∃ m, k = m + 1 := ⟨k - 1, by omega⟩
      obtain ⟨k, rfl⟩ : ∃ m, k = m + 1 := ⟨k - 1, by omega⟩
      simp only [spec_IsSymmetric.l0]
      rw [spec_isTable, h]
      simp only [Option.bind_some, if_true, spec_IsSymmetric.j1]
      rw [if_neg (by decide), spec_isTable, h]
      simp only [Option.bind_some, Int.toNat_natCast, nbs_zero]
      rfl
  · obtain ⟨k, rfl⟩ : ∃ m, k = m + 1 := ⟨k - 1, by omega⟩
    obtain ⟨k, rfl⟩ : ∃ m, k = m + 1 := ⟨k - 1, by omega⟩
    simp only [spec_IsSymmetric.l0]
    rw [spec_isTable]
    simp only [Option.bind_some]
    rw [if_neg h]
    simp only [spec_IsSymmetric.j1]
    rw [if_neg (by decide), spec_isTable, Bool.eq_false_iff.mpr h]
    rfl
/-- What both answer. -/
def prof (a b : Int) : List Int := if (isTab a b && sym a.toNat b.toNat) = true then profL b.toNat (a.toNat + 1) else []
theorem impl_prof {a b : Int} (h0 : -9223372036854775808 ≤ b) (h1 : b ≤ 9223372036854775807) {k : Nat} (hk : 60 < k) : impl_ProfileOf.f k a b = some (prof a b) := by
  unfold impl_ProfileOf.f prof
  rw [impl_isTable h0 h1]
  simp only [Option.bind_some]
  by_cases h : isTab a b = true
  · obtain ⟨n, w, rfl, rfl, ht⟩ := tab_of h
    rw [if_pos h, impl_profile ht hk, h]
    simp only [Option.bind_some, Bool.true_and, Int.toNat_natCast]
    cases sym n w <;> rfl
  · rw [if_neg h, Bool.eq_false_iff.mpr h]; rfl
theorem spec_prof_loop {n w : Nat} (ht : Tab n w) (hs : sym n w = true) : ∀ (d k x : Nat), x + d = n + 1 → d + 120 < k →
    spec_ProfileOf.l0 k (profL w x) x n w = some (profL w (n + 1)) := by
  have hn := ht.1
  intro d
  induction d with
  | zero =>
    intro k x hx hk
    obtain ⟨k, rfl⟩ : ∃ m, k = m + 1 := ⟨k - 1, by omega⟩
    obtain rfl : x = n + 1 := by omega
    simp only [spec_ProfileOf.l0]
    rw [spec_isSym _ _ (by omega), isTab_of ht]
    simp only [Option.bind_some, Int.toNat_natCast, hs, Bool.and_self, if_true]
    rw [if_neg (by omega)]
  | succ d ih =>
    intro k x hx hk
    obtain ⟨k, rfl⟩ : ∃ m, k = m + 1 := ⟨k - 1, by omega⟩
    have hp := pow_pos x
    have hp2 := pow_le_pow (show x ≤ 5 by omega)
    simp only [spec_ProfileOf.l0]
    rw [spec_isSym _ _ (by omega), isTab_of ht]
    simp only [Option.bind_some, Int.toNat_natCast, hs, Bool.and_self, if_true, profL_length]
    rw [if_pos (by omega), if_pos (by omega), shlu1_of (by omega), upred_cast hp (by omega), if_pos (Int.natCast_nonneg _), if_pos (by omega), bit_cast ht.lt63 (by omega), wrap64_succ (by omega)]
    exact ih k (x + 1) (by omega) (by omega)
theorem spec_prof (a b : Int) {k : Nat} (hk : 140 < k) : spec_ProfileOf.f k a b = some (prof a b) := by
  unfold spec_ProfileOf.f prof
  by_cases h : (isTab a b && sym a.toNat b.toNat) = true
  · rw [if_pos h]
    rw [Bool.and_eq_true] at h
    obtain ⟨n, w, rfl, rfl, ht⟩ := tab_of h.1
    have := ht.1
    exact spec_prof_loop ht h.2 (n + 1) k 0 (by omega) (by omega)
  · obtain ⟨k, rfl⟩ : ∃ m, k = m + 1 := ⟨k - 1, by omega⟩
    simp only [spec_ProfileOf.l0]
    rw [spec_isSym _ _ (by omega)]
    simp only [Option.bind_some]
    rw [if_neg h, if_neg h]
theorem prof_length (a b : Int) : (prof a b).length ≤ 32 := by
  unfold prof
  by_cases h : (isTab a b && sym a.toNat b.toNat) = true
  · rw [if_pos h]
    rw [Bool.and_eq_true] at h
    obtain ⟨n, w, rfl, rfl, ht⟩ := tab_of h.1
    have := ht.1
    rw [profL_length, Int.toNat_natCast]
    omega
  · rw [if_neg h]; exact Nat.zero_le _
end Go.Proofs.Ytnkkkabdpbonaaa.U
