/- What the players of a game count: the program's side; Banzhaf's numbers both ways. -/
import Derived.Test.YtnkkkabdpbonaaaUP
import Derived.Test.YtnkkkabdpbonaaaFimplTablepowers
import Derived.Test.YtnkkkabdpbonaaaFimplBanzhafNumbers
import Derived.Test.YtnkkkabdpbonaaaFspecInfluenceOf
import Derived.Test.YtnkkkabdpbonaaaFspecBanzhafNumbers
namespace Go.Proofs.Ytnkkkabdpbonaaa.U
open Go.RowKit Go.Proofs.YtnkkkabdpbonaaaW.PrintWords Go.Proofs.YtnkkkabdpbonaaaW.PrintLast Go.Proofs.YtnkkkabdpbonaaaW.PrintMore Go.Proofs.Ytnkkkabdpbonaaa.F Go.Proofs.Ytnkkkabdpbonaaa.B
set_option linter.unusedVariables false
set_option linter.unusedSimpArgs false
def sumN (q : Nat → Nat) : Nat → Nat
  | 0 => 0
  | m + 1 => sumN q m + q m
theorem sumN_le {q : Nat → Nat} {c : Nat} (h : ∀ x, q x ≤ c) (m : Nat) : sumN q m ≤ m * c := by
  induction m with
  | zero => simp [sumN]
  | succ m ih => rw [sumN, Nat.succ_mul]; exact Nat.add_le_add ih (h m)
theorem sumN_congr {p q : Nat → Nat} {m : Nat} (h : ∀ x, x < m → p x = q x) : sumN p m = sumN q m := by
  induction m with
  | zero => rfl
  | succ m ih => rw [sumN, sumN, ih fun x hx => h x (by omega), h m (by omega)]
/-- What x counts for player i, where a coalition of p players counts cw p. -/
def powQ (cw : Nat → Nat) (w i x : Nat) : Nat := if x.testBit i = false ∧ (w.testBit x != w.testBit (x ^^^ 2 ^ i)) = true then cw (pop x) else 0
def powV (cw : Nat → Nat) (n w i : Nat) : Nat := sumN (powQ cw w i) (2 ^ n)
def powL (cw : Nat → Nat) (n w : Nat) : Nat → List Int
  | 0 => []
  | k + 1 => powL cw n w k ++ [((powV cw n w k : Nat) : Int)]
theorem powL_length (cw : Nat → Nat) (n w k : Nat) : (powL cw n w k).length = k := by
  induction k with
  | zero => rfl
  | succ k ih => rw [powL, List.length_append, ih]; rfl
theorem pop_lt {n i x : Nat} (hn : n ≤ 5) (hi : i < n) (hx : x < 2 ^ n) (hb : x.testBit i = false) : pop x < n := by
  have h : ∀ n : Fin 6, ∀ i : Fin 5, i.val < n.val → ∀ x : Fin 32, x.val < 2 ^ n.val → x.val.testBit i.val = false → pop x.val < n.val := by decide +kernel
  have := pow_le hn
  exact h ⟨n, by omega⟩ ⟨i, by omega⟩ hi ⟨x, by omega⟩ hx hb
theorem put_mid (p : List Int) (i : Nat) (hp : p.length = i) (s v : Int) (z : List Int) : (p ++ s :: z).set i v = p ++ v :: z := by
  subst hp
  rw [List.set_append, if_neg (by omega), Nat.sub_self, List.set_cons_zero]
theorem rd_mid (p : List Int) (i : Nat) (hp : p.length = i) (s : Int) (z : List Int) : rd (p ++ s :: z) (i : Int) = s := by
  subst hp
  unfold rd
  rw [Int.toNat_natCast, List.getD_eq_getElem?_getD, List.getElem?_append_right (by omega), Nat.sub_self]
  rfl
theorem pow_inner {n w i : Nat} {b : Int} {cw : Nat → Nat} (ht : Tab n w) (hi : i < n) (hc : ∀ p, p < n → impl_BanzhafNumbers_1.f (p : Nat) b = some ((cw p : Nat) : Int)) (hcw : ∀ p, cw p ≤ 1000)
    (P z : List Int) (hP : P.length = i) : ∀ (d k x : Nat), x + d = 2 ^ n →
    impl_Table_powers.l1 (k + 2 * d + 1) b (P ++ ((sumN (powQ cw w i) x : Nat) : Int) :: z) i n i ((2 ^ n : Nat) : Int) x n w = impl_Table_powers.l0 k b (P ++ ((powV cw n w i : Nat) : Int) :: z) n ((i + 1 : Nat) : Int) n w := by
  have hM := pow_le ht.1
  have hn := ht.1
  have hq : ∀ x, powQ cw w i x ≤ 1000 := fun x => by unfold powQ; split <;> first | exact hcw _ | omega
  intro d
  induction d with
  | zero =>
    intro k x hx
    obtain rfl : x = 2 ^ n := by omega
    simp only [impl_Table_powers.l1, Nat.mul_zero, Nat.add_zero]
    rw [if_neg (by omega), wrap64_succ (by omega)]
    rfl
  | succ d ih =>
    intro k x hx
    have hlt : x < 2 ^ n := by omega
    have hs := sumN_le hq x
    have hqx := hq x
    have hone := ones_small (x := x) (by omega)
    have hch := changes_some ht hlt hi
    have hi' := ih k (x + 1) (by omega)
    rw [sumN] at hi'
    rw [show k + 2 * (d + 1) + 1 = (k + 2 * d + 1) + 1 + 1 by omega]
    simp only [impl_Table_powers.l1, hch]
    rw [if_pos (by exact_mod_cast hlt), if_pos (Int.natCast_nonneg _), bit_cast (by omega) (by omega), Option.bind_some]
    rw [impl_Table_powers.j2, impl_Table_powers.j2]
    by_cases h1 : x.testBit i = true
    · rw [if_neg (fun h => by rw [bit_eq_zero, h1] at h; cases h), if_neg (by decide), wrap64_succ (by omega)]
      have e : powQ cw w i x = 0 := by unfold powQ; rw [if_neg (fun h => by rw [h1] at h; cases h.1)]
      rw [e, Nat.add_zero] at hi'
      exact hi'
    · have h1 := Bool.eq_false_iff.mpr h1
      rw [if_pos (bit_eq_zero.mpr h1)]
      by_cases h2 : (w.testBit x != w.testBit (x ^^^ 2 ^ i)) = true
      · have e : powQ cw w i x = cw (pop x) := by unfold powQ; rw [if_pos ⟨h1, h2⟩]
        have hpl := pop_lt hn hi hlt h1
        have hcp := hc (pop x) hpl
        rw [e] at hi' hqx
        generalize pop x = p at hcp hi' hqx hone
        rw [if_pos h2, if_pos (Int.natCast_nonneg _), if_pos (by rw [List.length_append, List.length_cons]; omega), hone, Option.bind_some, hcp, Option.bind_some]
        rw [Int.toNat_natCast, put_mid P i hP, rd_mid P i hP, wrap64_succ (by omega), wrap64_of (by omega) (by omega)]
        exact hi'
      · have e : powQ cw w i x = 0 := by unfold powQ; rw [if_neg (fun h => h2 h.2)]
        rw [e, Nat.add_zero] at hi'
        rw [if_neg h2, wrap64_succ (by omega)]
        exact hi'
theorem pow_outer {n w : Nat} {b : Int} {cw : Nat → Nat} (ht : Tab n w) (hc : ∀ p, p < n → impl_BanzhafNumbers_1.f (p : Nat) b = some ((cw p : Nat) : Int)) (hcw : ∀ p, cw p ≤ 1000) : ∀ (d k i : Nat), i + d = n →
    impl_Table_powers.l0 (k + d * (2 * 2 ^ n + 2) + 1) b (powL cw n w i ++ List.replicate d 0) n i n w = some (powL cw n w n) := by
  have hM := pow_le ht.1
  have hn := ht.1
  intro d
  induction d with
  | zero =>
    intro k i hi
    obtain rfl : i = n := by omega
    simp only [impl_Table_powers.l0, Nat.zero_mul, Nat.add_zero]
    rw [if_neg (by omega), List.replicate_zero, List.append_nil]
  | succ d ih =>
    intro k i hi
    rw [show k + (d + 1) * (2 * 2 ^ n + 2) + 1 = (k + d * (2 * 2 ^ n + 2) + 1) + 2 * 2 ^ n + 1 + 1 by rw [Nat.succ_mul]; omega]
    simp only [impl_Table_powers.l0]
    rw [if_pos (by omega), size_some _ (by omega)]
    simp only [Option.bind_some]
    rw [List.replicate_succ]
    have h := pow_inner ht (show i < n by omega) hc hcw (powL cw n w i) (List.replicate d 0) (powL_length cw n w i) (2 ^ n) (k + d * (2 * 2 ^ n + 2) + 1) 0 (by omega)
    rw [show ((sumN (powQ cw w i) 0 : Nat) : Int) = 0 from rfl] at h
    refine h.trans ?_
    have e := ih k (i + 1) (by omega)
    rw [powL, List.append_assoc] at e
    exact e
theorem impl_powers {a b : Int} {c : Int} {cw : Nat → Nat} (h0 : -9223372036854775808 ≤ b) (h1 : b ≤ 9223372036854775807) (hc : ∀ n w : Nat, a = n → b = w → Tab n w → ∀ p, p < n → impl_BanzhafNumbers_1.f (p : Nat) c = some ((cw p : Nat) : Int)) (hcw : ∀ p, cw p ≤ 1000) :
    impl_Table_powers.f 1000 a b c = some (if (isTab a b && game a.toNat b.toNat) = true then powL cw a.toNat b.toNat a.toNat else []) := by
  unfold impl_Table_powers.f
  rw [impl_isGame h0 h1 (by decide)]
  simp only [Option.bind_some]
  by_cases h : (isTab a b && game a.toNat b.toNat) = true
  · rw [if_pos h, if_pos h]
    rw [Bool.and_eq_true] at h
    obtain ⟨n, w, rfl, rfl, ht⟩ := tab_of h.1
    have hn := ht.1
    have hM := pow_le ht.1
    have hf : n * (2 * 2 ^ n + 2) ≤ 5 * 66 := Nat.mul_le_mul hn (by omega)
    rw [if_pos (Int.natCast_nonneg _), if_pos (by omega), Int.toNat_natCast, List.length_replicate, Int.toNat_natCast]
    have e := pow_outer ht (hc n w rfl rfl ht) hcw n (999 - n * (2 * 2 ^ n + 2)) 0 (by omega)
    rw [show 999 - n * (2 * 2 ^ n + 2) + n * (2 * 2 ^ n + 2) + 1 = 1000 by omega] at e
    exact e
  · rw [if_neg h, if_neg h]
/-! ### Banzhaf's numbers -/
theorem cnt_split (p q : Nat → Bool) (m : Nat) : cntN p m = cntN (fun x => q x && p x) m + cntN (fun x => !q x && p x) m := by
  induction m with
  | zero => rfl
  | succ m ih =>
    rw [cntN, cntN, cntN, ih]
    cases q m <;> cases p m <;> simp <;> omega
theorem cnt_countP (p : Nat → Bool) (m : Nat) : cntN p m = (List.range m).countP p := by
  induction m with
  | zero => rfl
  | succ m ih =>
    rw [cntN, ih, List.range_succ, List.countP_append]
    cases h : p m <;> simp [h]
theorem cnt_perm (p : Nat → Bool) (f : Nat → Nat) (m : Nat) (hf : ∀ x, x < m → f x < m) (hff : ∀ x, x < m → f (f x) = x) : cntN (fun x => p (f x)) m = cntN p m := by
  rw [cnt_countP, cnt_countP]
  have e : (List.range m).countP (fun x => p (f x)) = ((List.range m).map f).countP p := by rw [List.countP_map]; rfl
  rw [e]
  apply List.Perm.countP_eq
  refine (List.perm_ext_iff_of_nodup ?_ List.nodup_range).mpr fun x => ?_
  · refine List.pairwise_map.mpr (List.Pairwise.imp_of_mem ?_ List.nodup_range)
    intro x y hx hy hne he
    rw [List.mem_range] at hx hy
    apply hne
    rw [← hff x hx, ← hff y hy, he]
  · rw [List.mem_map]
    constructor
    · rintro ⟨y, hy, rfl⟩
      rw [List.mem_range] at hy ⊢
      exact hf y hy
    · intro hx
      rw [List.mem_range] at hx
      exact ⟨f x, List.mem_range.mpr (hf x hx), hff x hx⟩
/-- A change of variable i changes the value at x. -/
def chg (w i x : Nat) : Bool := w.testBit x != w.testBit (x ^^^ 2 ^ i)
theorem flip_flip (x i : Nat) : x ^^^ 2 ^ i ^^^ 2 ^ i = x := by rw [Nat.xor_assoc, Nat.xor_self, Nat.xor_zero]
theorem testBit_flip (x i : Nat) : (x ^^^ 2 ^ i).testBit i = !x.testBit i := by
  rw [Nat.testBit_xor, Nat.testBit_two_pow_self]
  cases x.testBit i <;> rfl
theorem infl_even {n w i : Nat} (hi : i < n) : cntN (chg w i) (2 ^ n) = 2 * cntN (fun x => !x.testBit i && chg w i x) (2 ^ n) := by
  rw [cnt_split (chg w i) (fun x => x.testBit i)]
  have e := cnt_perm (fun x => !x.testBit i && chg w i x) (fun x => x ^^^ 2 ^ i) (2 ^ n) (fun x hx => flip_lt hx hi) (fun x _ => flip_flip x i)
  rw [← e]
  have e2 : cntN (fun x => x.testBit i && chg w i x) (2 ^ n) = cntN (fun x => !(x ^^^ 2 ^ i).testBit i && chg w i (x ^^^ 2 ^ i)) (2 ^ n) := cntN_congr fun x _ => by
    rw [testBit_flip, Bool.not_not]
    unfold chg
    rw [flip_flip]
    cases w.testBit x <;> cases w.testBit (x ^^^ 2 ^ i) <;> rfl
  rw [e2]
  omega
theorem powV_one (n w i : Nat) : powV (fun _ => 1) n w i = cntN (fun x => !x.testBit i && chg w i x) (2 ^ n) := by
  unfold powV
  generalize 2 ^ n = m
  induction m with
  | zero => rfl
  | succ m ih =>
    rw [sumN, cntN, ih]
    unfold powQ chg
    cases m.testBit i <;> cases (w.testBit m != w.testBit (m ^^^ 2 ^ i)) <;> simp
theorem infl_step {w i x : Nat} (hw : w < 9223372036854775808) (hx : x ≤ 64) (hy : x ^^^ 2 ^ i ≤ 64) : Go.bits .and .i64 (Go.bits .xor .i64 (shr .i64 (w : Int) (x : Int)) (shr .i64 (w : Int) ((x ^^^ 2 ^ i : Nat) : Int))) 1 = (((chg w i x).toNat : Nat) : Int) := by
  have h1 : w >>> x < 9223372036854775808 := Nat.lt_of_le_of_lt (Nat.shiftRight_le _ _) hw
  have h2 : w >>> (x ^^^ 2 ^ i) < 9223372036854775808 := Nat.lt_of_le_of_lt (Nat.shiftRight_le _ _) hw
  rw [shr_cast w x hx, shr_cast w (x ^^^ 2 ^ i) hy, xor_cast h1 h2, and_one_cast (Nat.xor_lt_two_pow (lt63 h1) (lt63 h2))]
  unfold bitN chg
  rw [Nat.testBit_xor, Nat.testBit_shiftRight, Nat.testBit_shiftRight, Nat.add_zero, Nat.add_zero]
theorem infl_loop {n w i : Nat} (ht : Tab n w) (hi : i < n) : ∀ (d k x : Nat), x + d = 2 ^ n → d < k →
    spec_InfluenceOf.l0 k i ((cntN (chg w i) x : Nat) : Int) x n w = some ((cntN (chg w i) (2 ^ n) : Nat) : Int) := by
  have hM := pow_le ht.1
  have hn := ht.1
  have hpi := pow_le_pow (show i ≤ 4 by omega)
  intro d
  induction d with
  | zero =>
    intro k x hx hk
    obtain ⟨k, rfl⟩ : ∃ m, k = m + 1 := ⟨k - 1, by omega⟩
    obtain rfl : x = 2 ^ n := by omega
    simp only [spec_InfluenceOf.l0]
    rw [if_pos (Int.natCast_nonneg _), shl1_of (by omega), if_neg (by omega)]
  | succ d ih =>
    intro k x hx hk
    obtain ⟨k, rfl⟩ : ∃ m, k = m + 1 := ⟨k - 1, by omega⟩
    have hlt : x < 2 ^ n := by omega
    have hf := flip_lt hlt hi
    have hcl := cntN_le (chg w i) x
    have hb : (chg w i x).toNat ≤ 1 := by cases chg w i x <;> decide
    have e := ih k (x + 1) (by omega) (by omega)
    rw [cntN] at e
    simp only [spec_InfluenceOf.l0]
    rw [if_pos (Int.natCast_nonneg _), shl1_of (by omega), if_pos (by exact_mod_cast hlt), if_pos (Int.natCast_nonneg _), if_pos (Int.natCast_nonneg _), shl1_of (by omega), xor_cast (by omega) (by omega), if_pos (Int.natCast_nonneg _), infl_step ht.lt63 (by omega) (by omega), wrap64_succ (by omega), wrap64_of (by omega) (by omega)]
    exact e
theorem spec_infl {n w i k : Nat} (ht : Tab n w) (hi : i < n) (hk : 50 < k) : spec_InfluenceOf.f k n w i = some ((cntN (chg w i) (2 ^ n) : Nat) : Int) := by
  have hM := pow_le ht.1
  have hn := ht.1
  obtain ⟨k, rfl⟩ : ∃ m, k = m + 1 := ⟨k - 1, by omega⟩
  unfold spec_InfluenceOf.f
  rw [spec_isTable, isTab_of ht, pred_cast' (by omega) (by omega), l1In_some _ _ _ true (decide_eq_true (by omega))]
  simp only [Option.bind_some, if_true, Bool.not_true, spec_InfluenceOf.j0]
  rw [if_neg (by decide)]
  exact infl_loop ht hi (2 ^ n) k 0 (by omega) (by omega)
theorem spec_ban_loop {n w : Nat} (ht : Tab n w) (hg : game n w = true) : ∀ (d k i : Nat), i + d = n → d + 60 < k →
    spec_BanzhafNumbers.l0 k (powL (fun _ => 1) n w i) i n w = some (powL (fun _ => 1) n w n) := by
  have hn := ht.1
  intro d
  induction d with
  | zero =>
    intro k i hi hk
    obtain ⟨k, rfl⟩ : ∃ m, k = m + 1 := ⟨k - 1, by omega⟩
    obtain rfl : i = n := by omega
    simp only [spec_BanzhafNumbers.l0]
    rw [spec_game ht (by omega), hg]
    simp only [Option.bind_some, if_true]
    rw [if_neg (by omega)]
  | succ d ih =>
    intro k i hi hk
    obtain ⟨k, rfl⟩ : ∃ m, k = m + 1 := ⟨k - 1, by omega⟩
    have hl := powL_length (fun _ => 1) n w i
    have e := ih k (i + 1) (by omega) (by omega)
    have hc := cntN_le (fun x => !x.testBit i && chg w i x) (2 ^ n)
    have hM := pow_le ht.1
    rw [powL, powV_one] at e
    simp only [spec_BanzhafNumbers.l0]
    rw [spec_game ht (by omega), hg]
    simp only [Option.bind_some, if_true]
    rw [if_pos (by omega), spec_infl ht (by omega) (by omega), infl_even (by omega)]
    generalize cntN (fun x => !x.testBit i && chg w i x) (2 ^ n) = c at hc e
    simp only [Option.bind_some]
    have ed : Int.tdiv ((2 * c : Nat) : Int) 2 = (c : Int) := by
      have : Int.tdiv ((2 * c : Nat) : Int) ((2 : Nat) : Int) = ((2 * c / 2 : Nat) : Int) := rfl
      rw [show ((2 : Nat) : Int) = 2 from rfl] at this
      rw [this, Nat.mul_div_cancel_left c (by decide)]
    rw [if_pos (by omega), ed, wrap64_of (by omega) (by omega), wrap64_succ (by omega)]
    exact e
theorem spec_ban (a b : Int) {k : Nat} (hk : 80 < k) : spec_BanzhafNumbers.f k a b = some (if (isTab a b && game a.toNat b.toNat) = true then powL (fun _ => 1) a.toNat b.toNat a.toNat else []) := by
  unfold spec_BanzhafNumbers.f
  by_cases h : (isTab a b && game a.toNat b.toNat) = true
  · rw [if_pos h]
    rw [Bool.and_eq_true] at h
    obtain ⟨n, w, rfl, rfl, ht⟩ := tab_of h.1
    have := ht.1
    exact spec_ban_loop ht h.2 n k 0 (by omega) (by omega)
  · obtain ⟨k, rfl⟩ : ∃ m, k = m + 1 := ⟨k - 1, by omega⟩
    simp only [spec_BanzhafNumbers.l0]
    rw [spec_isGame a b (by omega)]
    simp only [Option.bind_some]
    rw [if_neg h, if_neg h]
theorem impl_ban {a b : Int} (h0 : -9223372036854775808 ≤ b) (h1 : b ≤ 9223372036854775807) : impl_BanzhafNumbers.f a b = some (if (isTab a b && game a.toNat b.toNat) = true then powL (fun _ => 1) a.toNat b.toNat a.toNat else []) := by
  unfold impl_BanzhafNumbers.f
  exact impl_powers h0 h1 (fun n w _ _ _ p _ => by unfold impl_BanzhafNumbers_1.f; rw [if_pos rfl]; rfl) (fun _ => by decide)
theorem pow_length (cw : Nat → Nat) (a b : Int) : (if (isTab a b && game a.toNat b.toNat) = true then powL cw a.toNat b.toNat a.toNat else []).length ≤ 32 := by
  by_cases h : (isTab a b && game a.toNat b.toNat) = true
  · rw [if_pos h]
    rw [Bool.and_eq_true] at h
    obtain ⟨n, w, rfl, rfl, ht⟩ := tab_of h.1
    have := ht.1
    rw [powL_length, Int.toNat_natCast]
    omega
  · rw [if_neg h]; exact Nat.zero_le _
end Go.Proofs.Ytnkkkabdpbonaaa.U
