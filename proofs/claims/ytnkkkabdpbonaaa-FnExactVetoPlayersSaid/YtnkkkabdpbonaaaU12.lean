/- Veto players: both ways. -/
import Derived.Test.YtnkkkabdpbonaaaU11
import Derived.Test.YtnkkkabdpbonaaaFGa
import Derived.Test.YtnkkkabdpbonaaaFimplVetoPlayers
import Derived.Test.YtnkkkabdpbonaaaFspecVetoPlayers
namespace Go.Proofs.Ytnkkkabdpbonaaa.U
open Go.RowKit Go.Proofs.YtnkkkabdpbonaaaW.PrintWords Go.Proofs.YtnkkkabdpbonaaaW.PrintLast Go.Proofs.YtnkkkabdpbonaaaW.PrintMore Go.Proofs.Ytnkkkabdpbonaaa.F Go.Proofs.Ytnkkkabdpbonaaa.B
set_option linter.unusedVariables false
set_option linter.unusedSimpArgs false
/-- The word of a variable. -/
def varW (n i : Nat) : Nat := tabN (fun x => x.testBit i) (2 ^ n)
theorem varW_lt (n i : Nat) : varW n i < 2 ^ 2 ^ n := tabN_lt _ _
theorem testBit_varW {n i x : Nat} (hx : x < 2 ^ n) : (varW n i).testBit x = x.testBit i := by unfold varW; rw [testBit_tabN]; simp [hx]
theorem var_loop {n i : Nat} (hn : n ≤ 5) (hi : i < 5) : ∀ d k x, x + d = 2 ^ n → d < k →
    spec_l2Variable.l0 k n i ((tabN (fun x => x.testBit i) x : Nat) : Int) x = some ((varW n i : Nat) : Int) := by
  have hM := pow_le hn
  intro d
  induction d with
  | zero =>
    intro k x hx hk
    obtain ⟨k, rfl⟩ : ∃ m, k = m + 1 := ⟨k - 1, by omega⟩
    obtain rfl : x = 2 ^ n := by omega
    simp only [spec_l2Variable.l0]
    rw [if_pos (by omega), shl1_of (by omega), if_neg (by omega)]
    rfl
  | succ d ih =>
    intro k x hx hk
    obtain ⟨k, rfl⟩ : ∃ m, k = m + 1 := ⟨k - 1, by omega⟩
    have hlt : x < 2 ^ n := by omega
    have hl := tabN_lt63 (fun x => x.testBit i) (m := x) (by omega)
    have hp := pow_lt (n := x) (m := 32) (by omega)
    have e := ih k (x + 1) (by omega) (by omega)
    simp only [spec_l2Variable.l0]
    rw [if_pos (by omega), shl1_of (by omega), if_pos (by exact_mod_cast hlt), if_pos (by omega), bit_cast (by omega) (by omega), wrap64_succ (by omega)]
    cases hb : x.testBit i with
    | true =>
      rw [tabN_true (p := fun x => x.testBit i) hb] at e
      rw [if_pos (bit_eq_one.mpr hb), if_pos (by omega), shl1_of (by omega), or_cast hl (by omega)]
      exact e
    | false =>
      rw [tabN_false (p := fun x => x.testBit i) hb] at e
      rw [if_neg (by rw [bit_eq_one, hb]; decide)]
      exact e
theorem spec_var {n i k : Nat} (hn : n ≤ 5) (hi : i < 5) (hk : 32 < k) : spec_l2Variable.f k n i = some ((varW n i : Nat) : Int) := by
  have := pow_le hn
  exact var_loop hn hi (2 ^ n) k 0 (by omega) (by omega)
/-- All coalitions that win have player i. -/
def veto (n w i : Nat) : Bool := resW (n - 1) w i 0 == 0
theorem veto_iff {n w i : Nat} (ht : Tab n w) (hi : i < n) : veto n w i = true ↔ ∀ x, w.testBit x = true → x.testBit i = true := by
  obtain ⟨m, rfl⟩ : ∃ m, n = m + 1 := ⟨n - 1, by omega⟩
  have hm := ht.1
  have hM := pow_le_pow (show m ≤ 4 by omega)
  have hM5 := pow_le ht.1
  unfold veto
  rw [beq_iff_eq, Nat.add_sub_cancel]
  constructor
  · intro h x hx
    have hlt : x < 2 ^ (m + 1) := by
      apply Nat.lt_of_not_le
      intro hge
      rw [testBit_ge ht.2 hge] at hx
      cases hx
    cases hb : x.testBit i with
    | true => rfl
    | false =>
      have hd := del_lt (show m ≤ 4 by omega) hlt hi
      have h1 := @testBit_resW m w i 0 (del x i) hd
      have h2 := ins_del (x := x) (i := i) (by omega) (by omega)
      rw [show bitN x i = 0 from bitN_eq_zero.mpr hb] at h2
      rw [h2, h, hx, Nat.zero_testBit] at h1
      cases h1
  · intro h
    apply Nat.eq_of_testBit_eq
    intro y
    rw [Nat.zero_testBit]
    by_cases hy : y < 2 ^ m
    · rw [testBit_resW hy]
      cases hb : w.testBit (ins y i 0) with
      | false => rfl
      | true =>
        have h1 := h _ hb
        have h2 := bit_ins (x := y) (i := i) (b := 0) (by omega) (by omega) (by omega)
        rw [bitN_eq_zero, h1] at h2
        cases h2
    · exact testBit_ge (resW_lt m w i 0) (by omega)
theorem veto_and {n w i : Nat} (ht : Tab n w) (hi : i < n) : (w &&& varW n i = w) ↔ veto n w i = true := by
  rw [veto_iff ht hi, and_eq_iff, ldiff_zero_iff]
  constructor
  · intro h x hx
    have hlt : x < 2 ^ n := by
      apply Nat.lt_of_not_le
      intro hge
      rw [testBit_ge ht.2 hge] at hx
      cases hx
    rw [← testBit_varW hlt]
    exact h x hx
  · intro h x hx
    have hlt : x < 2 ^ n := by
      apply Nat.lt_of_not_le
      intro hge
      rw [testBit_ge ht.2 hge] at hx
      cases hx
    rw [testBit_varW hlt]
    exact h x hx
def vetoes (n w : Nat) : List Int := filtN (veto n w) n
theorem impl_veto_loop {n w : Nat} (ht : Tab n w) : ∀ d k i, i + d = n → d < k →
    impl_VetoPlayers.l0 k (filtN (veto n w) i) n i n w = some (vetoes n w) := by
  have hn := ht.1
  intro d
  induction d with
  | zero =>
    intro k i hi hk
    obtain ⟨k, rfl⟩ : ∃ m, k = m + 1 := ⟨k - 1, by omega⟩
    obtain rfl : i = n := by omega
    simp only [impl_VetoPlayers.l0]
    rw [if_neg (by omega)]
    rfl
  | succ d ih =>
    intro k i hi hk
    obtain ⟨k, rfl⟩ : ∃ m, k = m + 1 := ⟨k - 1, by omega⟩
    have hl := filtN_length (veto n w) i
    have e := ih k (i + 1) (by omega) (by omega)
    rw [filtN] at e
    obtain ⟨m, hm⟩ : ∃ m, n = m + 1 := ⟨n - 1, by omega⟩
    have e0 : impl_Table_restrict.f (n : Int) w i 0 = some ((m : Int), ((resW m w i 0 : Nat) : Int)) := by
      subst hm; exact impl_restrict (b := 0) ht (by omega) (by omega)
    simp only [impl_VetoPlayers.l0]
    rw [if_pos (by omega), e0]
    simp only [Option.bind_some]
    rw [wrap64_succ (by omega)]
    have hv : veto n w i = (resW m w i 0 == 0) := by subst hm; rfl
    rw [hv] at e
    by_cases hz : resW m w i 0 = 0
    · rw [if_pos (by rw [hz]; rfl), if_pos (by omega)]
      rw [if_pos (by rw [hz]; rfl)] at e
      exact e
    · rw [if_neg (by omega)]
      rw [if_neg (by simpa using hz)] at e
      exact e
theorem spec_veto_loop {n w : Nat} (ht : Tab n w) (hg : game n w = true) : ∀ d k i, i + d = n → d * 2 + 60 < k →
    spec_VetoPlayers.l0 k (filtN (veto n w) i) i n w = some (vetoes n w) := by
  have hn := ht.1
  have hw := ht.lt
  intro d
  induction d with
  | zero =>
    intro k i hi hk
    obtain ⟨k, rfl⟩ : ∃ m, k = m + 1 := ⟨k - 1, by omega⟩
    obtain ⟨k, rfl⟩ : ∃ m, k = m + 1 := ⟨k - 1, by omega⟩
    obtain rfl : i = n := by omega
    simp only [spec_VetoPlayers.l0]
    rw [spec_game ht (by omega), hg]
    simp only [Option.bind_some, if_true, spec_VetoPlayers.j1]
    rw [if_neg (by simp)]
    rfl
  | succ d ih =>
    intro k i hi hk
    obtain ⟨k, rfl⟩ : ∃ m, k = m + 1 := ⟨k - 1, by omega⟩
    obtain ⟨k, rfl⟩ : ∃ m, k = m + 1 := ⟨k - 1, by omega⟩
    have hl := filtN_length (veto n w) i
    have e := ih k (i + 1) (by omega) (by omega)
    have hvl := Nat.lt_of_lt_of_le (varW_lt n i) (full_le ht.1)
    rw [filtN] at e
    simp only [spec_VetoPlayers.l0]
    rw [spec_game ht (by omega), hg]
    simp only [Option.bind_some, if_true]
    rw [decide_eq_true (by omega)]
    simp only [spec_VetoPlayers.j1, if_true]
    rw [spec_var (by omega) (by omega) (by omega)]
    simp only [Option.bind_some]
    rw [wrap64_succ (by omega), and_cast (by omega) (by omega)]
    by_cases hz : veto n w i = true
    · rw [if_pos (by rw [(veto_and ht (by omega)).mpr hz]), if_pos (by omega)]
      rw [if_pos hz] at e
      exact e
    · rw [if_neg (by intro h; exact hz ((veto_and ht (by omega)).mp (by exact_mod_cast h)))]
      rw [if_neg hz] at e
      exact e
theorem spec_vetoes (a b : Int) {k : Nat} (hk : 80 < k) : spec_VetoPlayers.f k a b = some (if (isTab a b && game a.toNat b.toNat) = true then vetoes a.toNat b.toNat else []) := by
  unfold spec_VetoPlayers.f
  by_cases h : (isTab a b && game a.toNat b.toNat) = true
  · rw [if_pos h]
    rw [Bool.and_eq_true] at h
    obtain ⟨n, w, rfl, rfl, ht⟩ := tab_of h.1
    have := ht.1
    exact spec_veto_loop ht h.2 n k 0 (by omega) (by omega)
  · obtain ⟨k, rfl⟩ : ∃ m, k = m + 1 := ⟨k - 1, by omega⟩
    obtain ⟨k, rfl⟩ : ∃ m, k = m + 1 := ⟨k - 1, by omega⟩
    simp only [spec_VetoPlayers.l0]
    rw [spec_isGame a b (by omega)]
    simp only [Option.bind_some]
    rw [if_neg h, if_neg h]
    simp only [spec_VetoPlayers.j1]
    rw [if_neg (by decide)]
theorem impl_vetoes {a b : Int} (h0 : -9223372036854775808 ≤ b) (h1 : b ≤ 9223372036854775807) {k : Nat} (hk : 80 < k) : impl_VetoPlayers.f k a b = some (if (isTab a b && game a.toNat b.toNat) = true then vetoes a.toNat b.toNat else []) := by
  unfold impl_VetoPlayers.f
  rw [impl_isGame h0 h1 (by omega)]
  simp only [Option.bind_some]
  by_cases h : (isTab a b && game a.toNat b.toNat) = true
  · rw [if_pos h, if_pos h]
    rw [Bool.and_eq_true] at h
    obtain ⟨n, w, rfl, rfl, ht⟩ := tab_of h.1
    have := ht.1
    exact impl_veto_loop ht n k 0 (by omega) (by omega)
  · rw [if_neg h, if_neg h]
end Go.Proofs.Ytnkkkabdpbonaaa.U
