/- Variables that matter, and dummies: both ways. -/
import Derived.Test.YtnkkkabdpbonaaaUa
import Derived.Test.YtnkkkabdpbonaaaFGc
import Derived.Test.YtnkkkabdpbonaaaFimplDummyPlayers
import Derived.Test.YtnkkkabdpbonaaaFspecDummyPlayers
namespace Go.Proofs.Ytnkkkabdpbonaaa.U
open Go.RowKit Go.Proofs.YtnkkkabdpbonaaaW.PrintWords Go.Proofs.YtnkkkabdpbonaaaW.PrintLast Go.Proofs.YtnkkkabdpbonaaaW.PrintMore Go.Proofs.Ytnkkkabdpbonaaa.F Go.Proofs.Ytnkkkabdpbonaaa.B
set_option linter.unusedVariables false
set_option linter.unusedSimpArgs false
/-- The table depends on variable i. -/
def dep (n w i : Nat) : Bool := resW (n - 1) w i 0 != resW (n - 1) w i 1
theorem int_ne (a b : Nat) : (((a : Nat) : Int) != ((b : Nat) : Int)) = (a != b) := by
  by_cases h : a = b
  · subst h; simp
  · have : ((a : Int)) ≠ b := by omega
    rw [bne_iff_ne.mpr h, bne_iff_ne.mpr this]
theorem impl_depends {n w i : Nat} (ht : Tab n w) (hi : i < n) : impl_Table_depends.f n w i = some (dep n w i) := by
  obtain ⟨m, rfl⟩ : ∃ m, n = m + 1 := ⟨n - 1, by omega⟩
  have e0 : impl_Table_restrict.f ((m + 1 : Nat) : Int) w i 0 = some ((m : Int), ((resW m w i 0 : Nat) : Int)) := impl_restrict (b := 0) ht (by omega) (by omega)
  have e1 : impl_Table_restrict.f ((m + 1 : Nat) : Int) w i 1 = some ((m : Int), ((resW m w i 1 : Nat) : Int)) := impl_restrict (b := 1) ht (by omega) (by omega)
  unfold impl_Table_depends.f
  rw [e0]
  simp only [Option.bind_some]
  rw [e1]
  simp only [Option.bind_some, beq_self_eq_true, Bool.not_true, Bool.false_or]
  congr 1
  exact int_ne _ _
theorem spec_depends {n w i k : Nat} (ht : Tab n w) (hi : i < n) (hk : 32 < k) : spec_l3Depends.f k n w i = some (dep n w i) := by
  obtain ⟨m, rfl⟩ : ∃ m, n = m + 1 := ⟨n - 1, by omega⟩
  have e0 : spec_l3Restrict.f k ((m + 1 : Nat) : Int) w i 0 = some ((m : Int), ((resW m w i 0 : Nat) : Int)) := spec_restrict (b := 0) ht (by omega) (by omega) hk
  have e1 : spec_l3Restrict.f k ((m + 1 : Nat) : Int) w i 1 = some ((m : Int), ((resW m w i 1 : Nat) : Int)) := spec_restrict (b := 1) ht (by omega) (by omega) hk
  unfold spec_l3Depends.f
  rw [e0]
  simp only [Option.bind_some]
  rw [e1]
  simp only [Option.bind_some]
  congr 1
  exact int_ne _ _
/-- The dummies, in order. -/
def dummies (n w : Nat) : List Int := filtN (fun i => !dep n w i) n
theorem impl_dummy_loop {n w : Nat} (ht : Tab n w) : ∀ d k i, i + d = n → d < k →
    impl_DummyPlayers.l0 k (filtN (fun i => !dep n w i) i) n i n w = some (dummies n w) := by
  have hn := ht.1
  intro d
  induction d with
  | zero =>
    intro k i hi hk
    obtain ⟨k, rfl⟩ : ∃ m, k = m + 1 := ⟨k - 1, by omega⟩
    obtain rfl : i = n := by omega
    simp only [impl_DummyPlayers.l0]
    rw [if_neg (by omega)]
    rfl
  | succ d ih =>
    intro k i hi hk
    obtain ⟨k, rfl⟩ : ∃ m, k = m + 1 := ⟨k - 1, by omega⟩
    have hl := filtN_length (fun i => !dep n w i) i
    have e := ih k (i + 1) (by omega) (by omega)
    rw [filtN] at e
    simp only [impl_DummyPlayers.l0]
    rw [if_pos (by omega), impl_depends ht (by omega)]
    simp only [Option.bind_some]
    rw [wrap64_succ (by omega)]
    cases hd : dep n w i with
    | true =>
      rw [hd] at e
      rw [if_pos rfl]
      exact e
    | false =>
      rw [hd] at e
      rw [if_neg (by decide), if_pos (by omega)]
      exact e
theorem spec_dummy_loop {n w : Nat} (ht : Tab n w) (hg : game n w = true) : ∀ d k i, i + d = n → d * 2 + 60 < k →
    spec_DummyPlayers.l0 k (filtN (fun i => !dep n w i) i) i n w = some (dummies n w) := by
  have hn := ht.1
  intro d
  induction d with
  | zero =>
    intro k i hi hk
    obtain ⟨k, rfl⟩ : ∃ m, k = m + 1 := ⟨k - 1, by omega⟩
    obtain ⟨k, rfl⟩ : ∃ m, k = m + 1 := ⟨k - 1, by omega⟩
    obtain rfl : i = n := by omega
    simp only [spec_DummyPlayers.l0]
    rw [spec_game ht (by omega), hg]
    simp only [Option.bind_some, if_true, spec_DummyPlayers.j1]
    rw [if_neg (by simp)]
    rfl
  | succ d ih =>
    intro k i hi hk
    obtain ⟨k, rfl⟩ : ∃ m, k = m + 1 := ⟨k - 1, by omega⟩
    obtain ⟨k, rfl⟩ : ∃ m, k = m + 1 := ⟨k - 1, by omega⟩
    have hl := filtN_length (fun i => !dep n w i) i
    have e := ih k (i + 1) (by omega) (by omega)
    rw [filtN] at e
    simp only [spec_DummyPlayers.l0]
    rw [spec_game ht (by omega), hg]
    simp only [Option.bind_some, if_true]
    rw [decide_eq_true (by omega)]
    simp only [spec_DummyPlayers.j1, if_true]
    rw [spec_depends ht (by omega) (by omega)]
    simp only [Option.bind_some]
    rw [wrap64_succ (by omega)]
    cases hd : dep n w i with
    | true =>
      rw [hd] at e
      rw [if_pos rfl]
      exact e
    | false =>
      rw [hd] at e
      rw [if_neg (by decide), if_pos (by omega)]
      exact e
theorem spec_dummy (a b : Int) {k : Nat} (hk : 80 < k) : spec_DummyPlayers.f k a b = some (if (isTab a b && game a.toNat b.toNat) = true then dummies a.toNat b.toNat else []) := by
  unfold spec_DummyPlayers.f
  by_cases h : (isTab a b && game a.toNat b.toNat) = true
  · rw [if_pos h]
    rw [Bool.and_eq_true] at h
    obtain ⟨n, w, rfl, rfl, ht⟩ := tab_of h.1
    have := ht.1
    exact spec_dummy_loop ht h.2 n k 0 (by omega) (by omega)
  · obtain ⟨k, rfl⟩ : ∃ m, k = m + 1 := ⟨k - 1, by omega⟩
    obtain ⟨k, rfl⟩ : ∃ m, k = m + 1 := ⟨k - 1, by omega⟩
    simp only [spec_DummyPlayers.l0]
    rw [spec_isGame a b (by omega)]
    simp only [Option.bind_some]
    rw [if_neg h, if_neg h]
    simp only [spec_DummyPlayers.j1]
    rw [if_neg (by decide)]
theorem impl_dummy {a b : Int} (h0 : -9223372036854775808 ≤ b) (h1 : b ≤ 9223372036854775807) {k : Nat} (hk : 80 < k) : impl_DummyPlayers.f k a b = some (if (isTab a b && game a.toNat b.toNat) = true then dummies a.toNat b.toNat else []) := by
  unfold impl_DummyPlayers.f
  rw [impl_isGame h0 h1 (by omega)]
  simp only [Option.bind_some]
  by_cases h : (isTab a b && game a.toNat b.toNat) = true
  · rw [if_pos h, if_pos h]
    rw [Bool.and_eq_true] at h
    obtain ⟨n, w, rfl, rfl, ht⟩ := tab_of h.1
    have := ht.1
    exact impl_dummy_loop ht n k 0 (by omega) (by omega)
  · rw [if_neg h, if_neg h]
theorem game_length (a b : Int) (p : Nat → Bool) : (if (isTab a b && game a.toNat b.toNat) = true then filtN p a.toNat else []).length ≤ 32 := by
  by_cases h : (isTab a b && game a.toNat b.toNat) = true
  · rw [if_pos h]
    rw [Bool.and_eq_true] at h
    obtain ⟨n, w, rfl, rfl, ht⟩ := tab_of h.1
    have := ht.1
    exact Nat.le_trans (filtN_length _ _) (by rw [Int.toNat_natCast]; omega)
  · rw [if_neg h]; exact Nat.zero_le _
end Go.Proofs.Ytnkkkabdpbonaaa.U
