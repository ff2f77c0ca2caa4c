/- Whether a list of nodes is a diagram: both ways. -/
import Derived.Test.YtpbdjpbkocdidaaUN
import Derived.Test.YtpbdjpbkocdidaaU37
import Derived.Test.YtpbdjpbkocdidaaFimplIsDiagram
import Derived.Test.YtpbdjpbkocdidaaFspecIsDiagram
namespace Go.Proofs.Ytpbdjpbkocdidaa.U
open Go.RowKit Go.Proofs.YtpbdjpbkocdidaaW.PrintWords Go.Proofs.YtpbdjpbkocdidaaW.PrintLast Go.Proofs.YtpbdjpbkocdidaaW.PrintMore Go.Proofs.Ytpbdjpbkocdidaa.F Go.Proofs.Ytpbdjpbkocdidaa.B
set_option linter.unusedVariables false
set_option linter.unusedSimpArgs false

def eqN (a b : S49) : Bool := a.f0 == b.f0 && (a.f1 == b.f1 && (a.f2 == b.f2))
theorem eqN_comm (a b : S49) : eqN a b = eqN b a := by
  unfold eqN
  rw [Bool.eq_iff_iff]
  simp only [Bool.and_eq_true, beq_iff_eq]
  exact ⟨fun ⟨h1, h2, h3⟩ => ⟨h1.symm, h2.symm, h3.symm⟩, fun ⟨h1, h2, h3⟩ => ⟨h1.symm, h2.symm, h3.symm⟩⟩
theorem eqN_self (a : S49) : eqN a a = true := by unfold eqN; simp
/-- No node before it is equal. -/
def newN (l : List S49) (i : Nat) : Bool := allN (fun j => !eqN (rd_T49 l (j : Nat)) (rd_T49 l (i : Nat))) i
/-- An end of node i, whose variable has place p, is an end value or an elder node with a later variable. -/
def okE (l : List S49) (o : List Int) (i p : Nat) (t : Int) : Bool := decide (-2 ≤ t ∧ t < i) && (decide (t < 0) || decide (p < lev o (rd_T49 l t).f0))
def okN (l : List S49) (o : List Int) (i : Nat) : Bool :=
  decide (lev o (rd_T49 l (i : Nat)).f0 < o.length) && (!decide ((rd_T49 l (i : Nat)).f1 = (rd_T49 l (i : Nat)).f2)) && newN l i &&
    okE l o i (lev o (rd_T49 l (i : Nat)).f0) (rd_T49 l (i : Nat)).f1 && okE l o i (lev o (rd_T49 l (i : Nat)).f0) (rd_T49 l (i : Nat)).f2
def diagB (l : List S49) (o : List Int) : Bool := isPerm o && decide (o.length ≤ 5) && decide (1 ≤ l.length ∧ l.length ≤ 31) && allN (okN l o) l.length
theorem okN_lev {l : List S49} {o : List Int} {i : Nat} (h : okN l o i = true) : lev o (rd_T49 l (i : Nat)).f0 < o.length := by
  unfold okN at h
  simp only [Bool.and_eq_true, decide_eq_true_eq] at h
  exact h.1.1.1.1
/-! ### The program -/
theorem node_loop (l : List S49) (hl : l.length ≤ 31) {i : Nat} (hi : i < l.length) : ∀ (d k x : Nat), x + d = i → d < k → allN (fun j => !eqN (rd_T49 l (j : Nat)) (rd_T49 l (i : Nat))) x = true →
    ∃ q : Int, impl_Node.l0 k l (l.length : Int) (x : Nat) (rd_T49 l (i : Nat)).f0 (rd_T49 l (i : Nat)).f1 (rd_T49 l (i : Nat)).f2 = some q ∧ (q = (i : Int) ↔ newN l i = true) := by
  intro d
  induction d with
  | zero =>
    intro k x hx hk ha
    obtain ⟨k, rfl⟩ : ∃ m, k = m + 1 := ⟨k - 1, by omega⟩
    obtain rfl : x = i := by omega
    simp only [impl_Node.l0]
    rw [if_pos (by omega), if_pos (by omega), if_pos (by omega), if_pos (by simp)]
    exact ⟨_, rfl, fun _ => ha, fun _ => rfl⟩
  | succ d ih =>
    intro k x hx hk ha
    obtain ⟨k, rfl⟩ : ∃ m, k = m + 1 := ⟨k - 1, by omega⟩
    simp only [impl_Node.l0]
    rw [if_pos (by omega), if_pos (by omega), if_pos (by omega)]
    by_cases he : eqN (rd_T49 l (i : Nat)) (rd_T49 l (x : Nat)) = true
    · have he' : ((rd_T49 l (i : Nat)).f0 == (rd_T49 l (x : Nat)).f0 && ((rd_T49 l (i : Nat)).f1 == (rd_T49 l (x : Nat)).f1 && ((rd_T49 l (i : Nat)).f2 == (rd_T49 l (x : Nat)).f2))) = true := he
      rw [if_pos he']
      refine ⟨_, rfl, fun h => by omega, fun h => ?_⟩
      unfold newN at h
      rw [allN_iff] at h
      have h1 := h x (by omega)
      rw [eqN_comm, he] at h1
      cases h1
    · have he' : ¬ ((rd_T49 l (i : Nat)).f0 == (rd_T49 l (x : Nat)).f0 && ((rd_T49 l (i : Nat)).f1 == (rd_T49 l (x : Nat)).f1 && ((rd_T49 l (i : Nat)).f2 == (rd_T49 l (x : Nat)).f2))) = true := he
      rw [if_neg he', wrap64_succ (by omega)]
      refine ih k (x + 1) (by omega) (by omega) (allN_next ha ?_)
      rw [eqN_comm, Bool.eq_false_iff.mpr he]
      rfl
theorem impl_bad {l : List S49} {o : List Int} {i : Nat} (ho : o.length ≤ 5) (p : Nat) (t : Int) (hb : ∀ j : Nat, j < i → lev o (rd_T49 l (j : Nat)).f0 < o.length) {k : Nat} (hk : 50 < k) :
    impl_IsDiagram.bad k l o i p t = some (!okE l o i p t) := by
  unfold impl_IsDiagram.bad okE
  by_cases h1 : t < -2
  · rw [if_pos h1, decide_eq_false (show ¬ (-2 ≤ t ∧ t < i) by omega)]
    rfl
  · rw [if_neg h1]
    by_cases h2 : (i : Int) ≤ t
    · rw [if_pos h2, decide_eq_false (show ¬ (-2 ≤ t ∧ t < i) by omega)]
      rfl
    · rw [if_neg h2, decide_eq_true (show -2 ≤ t ∧ t < i by omega), Bool.true_and]
      by_cases h3 : 0 ≤ t
      · obtain ⟨u, rfl⟩ := Int.eq_ofNat_of_zero_le h3
        rw [if_pos h3, index_some o _ (by omega) (by omega), Option.bind_some, if_pos (hb u (by omega)), decide_eq_false (show ¬ (u : Int) < 0 by omega), Bool.false_or]
        congr 1
        rw [← decide_not]
        exact decide_eq_decide.mpr (by omega)
      · rw [if_neg h3, decide_eq_true (show t < 0 by omega)]
        rfl
theorem impl_one {l : List S49} {o : List Int} {i : Nat} (ho : o.length ≤ 5) (hl : l.length ≤ 31) (hi : i < l.length) (hb : ∀ j : Nat, j < i → lev o (rd_T49 l (j : Nat)).f0 < o.length) (c : Option Bool) {k : Nat} (hk : 50 < k) :
    impl_IsDiagram.one k l o i (rd_T49 l (i : Nat)).f0 (rd_T49 l (i : Nat)).f1 (rd_T49 l (i : Nat)).f2 c = if okN l o i = true then c else some false := by
  unfold impl_IsDiagram.one okN
  rw [index_some o _ (by omega) (by omega), Option.bind_some]
  by_cases h1 : lev o (rd_T49 l (i : Nat)).f0 < o.length
  · rw [if_pos h1, decide_eq_true h1, Bool.true_and]
    unfold impl_IsDiagram.first
    rw [if_neg (by omega)]
    by_cases h2 : (rd_T49 l (i : Nat)).f1 = (rd_T49 l (i : Nat)).f2
    · rw [if_pos h2, Option.bind_some, if_pos rfl, decide_eq_true h2]
      rfl
    · rw [if_neg h2, decide_eq_false h2]
      unfold impl_Node.f
      obtain ⟨q, hq, hqi⟩ := node_loop l hl hi i k 0 (by omega) (by omega) rfl
      have hq' : impl_Node.l0 k l (l.length : Int) 0 (rd_T49 l (i : Nat)).f0 (rd_T49 l (i : Nat)).f1 (rd_T49 l (i : Nat)).f2 = some q := hq
      rw [hq', Option.bind_some, Option.bind_some]
      by_cases h3 : q = (i : Int)
      · rw [hqi.mp h3, h3, if_neg (by simp)]
        simp only [impl_IsDiagram.ends]
        rw [impl_bad ho _ _ hb hk, Option.bind_some, impl_bad ho _ _ hb hk, Option.bind_some]
        cases okE l o i (lev o (rd_T49 l (i : Nat)).f0) (rd_T49 l (i : Nat)).f1 with
        | false => rfl
        | true =>
          cases okE l o i (lev o (rd_T49 l (i : Nat)).f0) (rd_T49 l (i : Nat)).f2 with
          | false => rfl
          | true => rfl
      · rw [bne_iff_ne.mpr h3, if_pos rfl, Bool.eq_false_iff.mpr (fun e => h3 (hqi.mpr e))]
        rfl
  · rw [if_neg h1, decide_eq_false h1]
    unfold impl_IsDiagram.first
    rw [if_pos (by omega), Option.bind_some, if_pos rfl]
    rfl
theorem impl_diag_loop {l : List S49} {o : List Int} (ho : o.length ≤ 5) (hl : l.length ≤ 31) {k : Nat} (hk : 50 < k) : ∀ (d i : Nat), i + d = l.length → allN (okN l o) i = true → impl_IsDiagram.l0 k l o d i = some (allN (okN l o) l.length) := by
  intro d
  induction d with
  | zero =>
    intro i hi ha
    rw [impl_IsDiagram.l0, show l.length = i by omega, ha]
  | succ d ih =>
    intro i hi ha
    rw [impl_IsDiagram.l0, impl_one ho hl (by omega) (fun j hj => okN_lev (allN_iff.mp ha j hj)) _ hk]
    cases hn : okN l o i with
    | true => rw [if_pos rfl]; exact ih (i + 1) (by omega) (allN_next ha hn)
    | false => rw [if_neg (by decide), allN_miss (show i < l.length by omega) hn]
theorem impl_diag (l : List S49) (o : List Int) : impl_IsDiagram.f l o = some (diagB l o) := by
  have hg : ∀ k, 50 < k → impl_IsDiagram.g k l o = some (diagB l o) := by
    intro k hk
    unfold impl_IsDiagram.g diagB
    by_cases h1 : 5 < o.length
    · rw [if_pos h1, decide_eq_false (by omega), Bool.and_false, Bool.false_and, Bool.false_and]
    · rw [if_neg h1, order_short o (by omega) (by omega), Option.bind_some, decide_eq_true (show o.length ≤ 5 by omega), Bool.and_true]
      cases isPerm o with
      | false => rw [if_neg (by decide), Bool.false_and, Bool.false_and]
      | true =>
        rw [if_pos rfl, Bool.true_and]
        by_cases h2 : l.length < 1
        · rw [if_pos h2, decide_eq_false (by omega), Bool.false_and]
        · rw [if_neg h2]
          by_cases h3 : 31 < l.length
          · rw [if_pos h3, decide_eq_false (by omega), Bool.false_and]
          · rw [if_neg h3, decide_eq_true (by omega), Bool.true_and]
            exact impl_diag_loop (by omega) (by omega) hk l.length 0 (by omega) rfl
  unfold impl_IsDiagram.f
  exact hg 100 (by decide)
/-! ### The reference -/
theorem spec_new {l : List S49} {o : List Int} {i : Nat} (hl : l.length ≤ 31) (hi : i < l.length) : ∀ (d k j : Nat), j + d = i → d < k → allN (fun j => !eqN (rd_T49 l (j : Nat)) (rd_T49 l (i : Nat))) j = true →
    spec_IsDiagram.l1 k l o i j (rd_T49 l (i : Nat)).f0 (rd_T49 l (i : Nat)).f1 (rd_T49 l (i : Nat)).f2 = if newN l i = true then spec_IsDiagram.l0 (k - d - 1) l o ((i + 1 : Nat) : Int) else some false := by
  intro d
  induction d with
  | zero =>
    intro k j hj hk ha
    obtain ⟨k, rfl⟩ : ∃ m, k = m + 1 := ⟨k - 1, by omega⟩
    obtain rfl : j = i := by omega
    simp only [spec_IsDiagram.l1]
    rw [if_neg (by omega), wrap64_succ (by omega), if_pos (show newN l j = true from ha)]
    rfl
  | succ d ih =>
    intro k j hj hk ha
    obtain ⟨k, rfl⟩ : ∃ m, k = m + 1 := ⟨k - 1, by omega⟩
    simp only [spec_IsDiagram.l1]
    rw [if_pos (by omega), if_pos (by omega), if_pos (by omega)]
    by_cases he : eqN (rd_T49 l (j : Nat)) (rd_T49 l (i : Nat)) = true
    · have he' : ((rd_T49 l (j : Nat)).f0 == (rd_T49 l (i : Nat)).f0 && ((rd_T49 l (j : Nat)).f1 == (rd_T49 l (i : Nat)).f1 && ((rd_T49 l (j : Nat)).f2 == (rd_T49 l (i : Nat)).f2))) = true := he
      rw [if_pos he', if_neg]
      intro h
      unfold newN at h
      rw [allN_iff] at h
      have h1 := h j (by omega)
      rw [he] at h1
      cases h1
    · have he' : ¬ ((rd_T49 l (j : Nat)).f0 == (rd_T49 l (i : Nat)).f0 && ((rd_T49 l (j : Nat)).f1 == (rd_T49 l (i : Nat)).f1 && ((rd_T49 l (j : Nat)).f2 == (rd_T49 l (i : Nat)).f2))) = true := he
      rw [if_neg he', wrap64_succ (by omega), show k + 1 - (d + 1) - 1 = k - d - 1 by omega]
      refine ih k (j + 1) (by omega) (by omega) (allN_next ha ?_)
      rw [Bool.eq_false_iff.mpr he]
      rfl
/-- Whether an end leads down to a variable that is not later. -/
def upE (l : List S49) (o : List Int) (p : Nat) (t : Int) : Bool := !decide (t < 0) && decide (lev o (rd_T49 l t).f0 ≤ p)
theorem spec_j2 {l : List S49} {o : List Int} {i p : Nat} (ho : o.length ≤ 5) (hl : l.length ≤ 31) (hi : i < l.length) (n0 n1 n2 : Int) (h1 : n1 < i) (h2 : n2 < i) {k : Nat} (hk : 10 < k) :
    spec_IsDiagram.j2 (k + 1) l o i p false n0 n1 n2 = spec_IsDiagram.j3 k l o i (upE l o p n1 || upE l o p n2) n0 n1 n2 := by
  simp only [spec_IsDiagram.j2]
  rw [if_neg (by decide)]
  unfold upE
  by_cases g1 : n1 ≥ 0
  · rw [if_pos g1, if_pos g1, if_pos (by omega), spec_lev o _ (by omega) (by omega), Option.bind_some, decide_eq_false (show ¬ n1 < 0 by omega), Bool.not_false, Bool.true_and]
    by_cases g2 : lev o (rd_T49 l n1).f0 ≤ p
    · rw [if_pos (by omega), decide_eq_true g2, Bool.true_or]
    · rw [if_neg (by omega), decide_eq_false g2, Bool.false_or]
      by_cases g3 : n2 ≥ 0
      · rw [if_pos g3, if_pos g3, if_pos (by omega), spec_lev o _ (by omega) (by omega), Option.bind_some, decide_eq_false (show ¬ n2 < 0 by omega), Bool.not_false, Bool.true_and, decide_eq_decide.mpr (show ((lev o (rd_T49 l n2).f0 : Nat) : Int) ≤ (p : Int) ↔ lev o (rd_T49 l n2).f0 ≤ p by omega)]
      · rw [if_neg g3, decide_eq_true (show n2 < 0 by omega), Bool.not_true, Bool.false_and]
  · rw [if_neg g1, decide_eq_true (show n1 < 0 by omega), Bool.not_true, Bool.false_and, Bool.false_or]
    by_cases g3 : n2 ≥ 0
    · rw [if_pos g3, if_pos g3, if_pos (by omega), spec_lev o _ (by omega) (by omega), Option.bind_some, decide_eq_false (show ¬ n2 < 0 by omega), Bool.not_false, Bool.true_and, decide_eq_decide.mpr (show ((lev o (rd_T49 l n2).f0 : Nat) : Int) ≤ (p : Int) ↔ lev o (rd_T49 l n2).f0 ≤ p by omega)]
    · rw [if_neg g3, decide_eq_true (show n2 < 0 by omega), Bool.not_true, Bool.false_and]
theorem okE_of {l : List S49} {o : List Int} {i p : Nat} {t : Int} (h0 : -2 ≤ t) (h1 : t < i) : okE l o i p t = !upE l o p t := by
  unfold okE upE
  rw [decide_eq_true (show -2 ≤ t ∧ t < i from ⟨h0, h1⟩), Bool.true_and, Bool.not_and, Bool.not_not, ← decide_not]
  congr 1
  exact decide_eq_decide.mpr (by omega)
theorem okE_not {l : List S49} {o : List Int} {i p : Nat} {t : Int} (h : ¬ (-2 ≤ t ∧ t ≤ (i : Int) - 1)) : okE l o i p t = false := by
  unfold okE
  rw [decide_eq_false (show ¬ (-2 ≤ t ∧ t < i) by omega), Bool.false_and]
theorem spec_one {l : List S49} {o : List Int} {i : Nat} (ho : o.length ≤ 5) (hl : l.length ≤ 31) (hi : i < l.length) {k : Nat} (hk : 100 < k) :
    spec_IsDiagram.l0 k l o i = if okN l o i = true then spec_IsDiagram.l0 (k - i - 4) l o ((i + 1 : Nat) : Int) else some false := by
  obtain ⟨k, rfl⟩ : ∃ m, k = m + 3 := ⟨k - 3, by omega⟩
  have hll := lev_le o (rd_T49 l (i : Nat)).f0
  have htrue : ∀ p n0 n1 n2, spec_IsDiagram.j2 (k + 2) l o (i : Nat) p true n0 n1 n2 = some false := by
    intro p n0 n1 n2
    simp only [spec_IsDiagram.j2]
    rw [if_pos trivial]
  have hnew := spec_new (o := o) hl hi i k 0 (by omega) (by omega) rfl
  rw [spec_IsDiagram.l0, if_pos (by omega), if_pos (by omega), spec_lev o _ (by omega) (by omega), Option.bind_some]
  unfold okN
  generalize hn : rd_T49 l (i : Nat) = n at hll hnew ⊢
  by_cases h1 : lev o n.f0 < o.length
  · rw [if_neg (by omega), decide_eq_true h1, Bool.true_and, l1In_some _ _ _ _ rfl, Option.bind_some, wrap64_of (by omega) (by omega)]
    by_cases h2 : -2 ≤ n.f1 ∧ n.f1 ≤ (i : Int) - 1
    · rw [if_pos (decide_eq_true h2), l1In_some _ _ _ _ rfl, Option.bind_some]
      by_cases h3 : -2 ≤ n.f2 ∧ n.f2 ≤ (i : Int) - 1
      · rw [if_pos (decide_eq_true h3)]
        by_cases h4 : n.f1 = n.f2
        · rw [beq_iff_eq.mpr h4, htrue, decide_eq_true h4]
          rfl
        · rw [beq_eq_false_iff_ne.mpr h4, decide_eq_false h4, spec_j2 ho hl hi _ _ _ (by omega) (by omega) (by omega), okE_of h2.1 (by omega), okE_of h3.1 (by omega), spec_IsDiagram.j3]
          cases upE l o (lev o n.f0) n.f1 with
          | true =>
            rw [Bool.true_or, if_pos rfl, Bool.not_true, Bool.and_false, Bool.false_and]
            rfl
          | false =>
            cases upE l o (lev o n.f0) n.f2 with
            | true =>
              rw [Bool.false_or, if_pos rfl, Bool.not_true, Bool.and_false]
              rfl
            | false =>
              rw [Bool.false_or, if_neg (by decide)]
              have hnew' : spec_IsDiagram.l1 k l o (i : Nat) 0 n.f0 n.f1 n.f2 = _ := hnew
              rw [hnew', show k + 3 - i - 4 = k - i - 1 by omega]
              cases newN l i <;> rfl
      · rw [if_neg (fun q => h3 (of_decide_eq_true q)), htrue, okE_not h3, Bool.and_false]
        rfl
    · rw [if_neg (fun q => h2 (of_decide_eq_true q)), htrue, okE_not h2, Bool.and_false, Bool.false_and]
      rfl
  · rw [if_pos (by omega), htrue, decide_eq_false h1]
    rfl
theorem spec_diag_loop {l : List S49} {o : List Int} (ho : o.length ≤ 5) (hl : l.length ≤ 31) : ∀ (d k i : Nat), i + d = l.length → d * 40 + 100 < k → allN (okN l o) i = true → spec_IsDiagram.l0 k l o i = some (allN (okN l o) l.length) := by
  intro d
  induction d with
  | zero =>
    intro k i hi hk ha
    obtain ⟨k, rfl⟩ : ∃ m, k = m + 1 := ⟨k - 1, by omega⟩
    rw [spec_IsDiagram.l0, if_neg (by omega), show l.length = i by omega, ha]
  | succ d ih =>
    intro k i hi hk ha
    rw [spec_one ho hl (by omega) (by omega)]
    cases hn : okN l o i with
    | true => rw [if_pos rfl]; exact ih (k - i - 4) (i + 1) (by omega) (by omega) (allN_next ha hn)
    | false => rw [if_neg (by decide), allN_miss (show i < l.length by omega) hn]
theorem spec_diag (l : List S49) (o : List Int) {k : Nat} (hl : l.length ≤ 1048576) (ho : o.length ≤ 1048576) (hk : 1200000000010 < k) : spec_IsDiagram.f k l o = some (diagB l o) := by
  obtain ⟨k, rfl⟩ : ∃ m, k = m + 1 := ⟨k - 1, by omega⟩
  unfold spec_IsDiagram.f diagB
  rw [spec_perm ho (by omega) (by omega), Option.bind_some, decide_eq_true rfl, Bool.true_and]
  have htrue : spec_IsDiagram.j0 (k + 1) l o true = some false := by
    simp only [spec_IsDiagram.j0]
    rw [if_pos trivial]
  cases isPerm o with
  | false => rw [if_neg (by decide), htrue]; rfl
  | true =>
    rw [if_pos rfl, Bool.true_and]
    by_cases h1 : (o.length : Int) > 5
    · rw [if_pos h1, htrue, decide_eq_false (by omega)]; rfl
    · rw [if_neg h1, l1In_some _ _ _ _ rfl, Option.bind_some, decide_eq_true (show o.length ≤ 5 by omega), Bool.true_and]
      by_cases h2 : 1 ≤ l.length ∧ l.length ≤ 31
      · rw [decide_eq_true h2, decide_eq_true (show 1 ≤ (l.length : Int) ∧ (l.length : Int) ≤ 31 by omega), Bool.true_and, spec_IsDiagram.j0, if_neg (by decide)]
        exact spec_diag_loop (by omega) h2.2 l.length k 0 (by omega) (by omega) rfl
      · rw [decide_eq_false h2, decide_eq_false (show ¬ (1 ≤ (l.length : Int) ∧ (l.length : Int) ≤ 31) by omega), Bool.not_false, htrue]; rfl
end Go.Proofs.Ytpbdjpbkocdidaa.U
