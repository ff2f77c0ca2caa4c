/- The count of the inputs that a diagram leads to 1: over the inputs, and from below. -/
import Derived.Test.YtpbdjpbkocdidaaU36
import Derived.Test.YtpbdjpbkocdidaaU38
import Derived.Test.YtpbdjpbkocdidaaFimplCountInDiagram
import Derived.Test.YtpbdjpbkocdidaaFspecCountInDiagram
namespace Go.Proofs.Ytpbdjpbkocdidaa.U
open Go.RowKit Go.Proofs.YtpbdjpbkocdidaaW.PrintWords Go.Proofs.YtpbdjpbkocdidaaW.PrintLast Go.Proofs.YtpbdjpbkocdidaaW.PrintMore Go.Proofs.Ytpbdjpbkocdidaa.F Go.Proofs.Ytpbdjpbkocdidaa.B
set_option linter.unusedVariables false
set_option linter.unusedSimpArgs false

/-! ### Sums over inputs -/
def sm (f : Nat → Nat) : Nat → Nat
  | 0 => 0
  | m + 1 => sm f m + f m
theorem sm_congr {f g : Nat → Nat} : ∀ m, (∀ x, x < m → f x = g x) → sm f m = sm g m := by
  intro m
  induction m with
  | zero => intro _; rfl
  | succ m ih => intro h; rw [sm, sm, ih (fun x hx => h x (by omega)), h m (by omega)]
theorem sm_add (f g : Nat → Nat) : ∀ m, sm (fun x => f x + g x) m = sm f m + sm g m := by
  intro m
  induction m with
  | zero => rfl
  | succ m ih => rw [sm, sm, sm, ih]; omega
theorem sm_app (f : Nat → Nat) (a : Nat) : ∀ b, sm f (a + b) = sm f a + sm (fun x => f (a + x)) b := by
  intro b
  induction b with
  | zero => rfl
  | succ b ih => rw [← Nat.add_assoc, sm, sm, ih]; omega
theorem sm_const (c : Nat) : ∀ m, sm (fun _ => c) m = m * c := by
  intro m
  induction m with
  | zero => simp [sm]
  | succ m ih => rw [sm, ih, Nat.succ_mul]
theorem sm_le {f : Nat → Nat} {c : Nat} (m : Nat) (h : ∀ x, x < m → f x ≤ c) : sm f m ≤ m * c := by
  induction m with
  | zero => simp [sm]
  | succ m ih => rw [sm, Nat.succ_mul]; exact Nat.add_le_add (ih fun x hx => h x (by omega)) (h m (by omega))
theorem flip_bit (x v : Nat) : (x ^^^ 2 ^ v).testBit v = !x.testBit v := by
  rw [Nat.testBit_xor, Nat.testBit_two_pow_self, Bool.xor_true]
theorem flip_other {x v u : Nat} (h : v ≠ u) : (x ^^^ 2 ^ v).testBit u = x.testBit u := by
  rw [Nat.testBit_xor, Nat.testBit_two_pow_of_ne h, Bool.xor_false]
theorem flip_back (x v : Nat) : x ^^^ 2 ^ v ^^^ 2 ^ v = x := by rw [Nat.xor_assoc, Nat.xor_self, Nat.xor_zero]
theorem top_add {n x : Nat} (h : x < 2 ^ n) : 2 ^ n + x = x ^^^ 2 ^ n := by
  apply Nat.eq_of_testBit_eq
  intro i
  rw [Nat.testBit_xor]
  by_cases e : i = n
  · subst e
    rw [Nat.testBit_two_pow_add_eq, Nat.testBit_two_pow_self, Bool.xor_true]
  · rw [Nat.testBit_two_pow_of_ne (fun q => e q.symm), Bool.xor_false]
    by_cases hi : i < n
    · rw [Nat.testBit_two_pow_add_gt hi]
    · rw [Nat.testBit_lt_two_pow (Nat.lt_of_lt_of_le h (Nat.pow_le_pow_right (by decide) (by omega))), Nat.testBit_lt_two_pow]
      have : 2 ^ (n + 1) ≤ 2 ^ i := Nat.pow_le_pow_right (by decide) (by omega)
      rw [Nat.pow_succ] at this
      omega
theorem sm_flip {v : Nat} : ∀ (n : Nat) (f : Nat → Nat), v < n → sm (fun x => f (x ^^^ 2 ^ v)) (2 ^ n) = sm f (2 ^ n) := by
  intro n
  induction n with
  | zero => intro f h; omega
  | succ n ih =>
    intro f h
    rw [Nat.pow_succ, Nat.mul_two, sm_app, sm_app]
    by_cases e : v = n
    · subst e
      rw [sm_congr (f := fun x => f (x ^^^ 2 ^ v)) (g := fun x => f (2 ^ v + x)) _ (fun x hx => by rw [top_add hx]), sm_congr (f := fun x => (fun x => f (x ^^^ 2 ^ v)) (2 ^ v + x)) (g := f) _ (fun x hx => by
        show f ((2 ^ v + x) ^^^ 2 ^ v) = f x
        rw [top_add hx, flip_back])]
      omega
    · have hv : v < n := by omega
      rw [ih f hv, sm_congr (f := fun x => (fun x => f (x ^^^ 2 ^ v)) (2 ^ n + x)) (g := fun x => (fun y => f (2 ^ n + y)) (x ^^^ 2 ^ v)) _ (fun x hx => by
        show f ((2 ^ n + x) ^^^ 2 ^ v) = f (2 ^ n + (x ^^^ 2 ^ v))
        rw [top_add hx, top_add (Nat.xor_lt_two_pow hx (pow_lt hv)), Nat.xor_assoc, Nat.xor_comm (2 ^ n), Nat.xor_assoc]), ih (fun y => f (2 ^ n + y)) hv]
theorem sm_half {v n : Nat} (hv : v < n) (h : Nat → Nat) (hh : ∀ x, x < 2 ^ n → h (x ^^^ 2 ^ v) = h x) :
    2 * sm (fun x => if x.testBit v = true then h x else 0) (2 ^ n) = sm h (2 ^ n) ∧ 2 * sm (fun x => if x.testBit v = true then 0 else h x) (2 ^ n) = sm h (2 ^ n) := by
  have h1 : sm h (2 ^ n) = sm (fun x => if x.testBit v = true then h x else 0) (2 ^ n) + sm (fun x => if x.testBit v = true then 0 else h x) (2 ^ n) := by
    rw [← sm_add]
    refine sm_congr _ fun x _ => ?_
    cases x.testBit v <;> simp
  have h2 : sm (fun x => if x.testBit v = true then 0 else h x) (2 ^ n) = sm (fun x => if x.testBit v = true then h x else 0) (2 ^ n) := by
    rw [← sm_flip n _ hv]
    refine sm_congr _ fun x hx => ?_
    show (if (x ^^^ 2 ^ v).testBit v = true then 0 else h (x ^^^ 2 ^ v)) = _
    rw [flip_bit, hh x hx]
    cases x.testBit v <;> rfl
  omega
theorem sm_mix {v n : Nat} (hv : v < n) (h l : Nat → Nat) (hh : ∀ x, x < 2 ^ n → h (x ^^^ 2 ^ v) = h x) (hl : ∀ x, x < 2 ^ n → l (x ^^^ 2 ^ v) = l x) :
    2 * sm (fun x => if x.testBit v = true then h x else l x) (2 ^ n) = sm l (2 ^ n) + sm h (2 ^ n) := by
  have e : sm (fun x => if x.testBit v = true then h x else l x) (2 ^ n) = sm (fun x => if x.testBit v = true then h x else 0) (2 ^ n) + sm (fun x => if x.testBit v = true then 0 else l x) (2 ^ n) := by
    rw [← sm_add]
    refine sm_congr _ fun x _ => ?_
    cases x.testBit v <;> simp
  have h1 := (sm_half hv h hh).1
  have h2 := (sm_half hv l hl).2
  omega
/-! ### What a valid diagram says -/
structure Vd (l : List S49) (o : List Int) : Prop where
  n5 : o.length ≤ 5
  one : 1 ≤ l.length
  most : l.length ≤ 31
  var : ∀ i : Nat, i < l.length → 0 ≤ (rd_T49 l i).f0 ∧ (rd_T49 l i).f0 < o.length
  lv : ∀ i : Nat, i < l.length → lev o (rd_T49 l i).f0 < o.length
  lo : ∀ i : Nat, i < l.length → -2 ≤ (rd_T49 l i).f1 ∧ (rd_T49 l i).f1 < i ∧ (0 ≤ (rd_T49 l i).f1 → lev o (rd_T49 l i).f0 < lev o (rd_T49 l (rd_T49 l i).f1).f0)
  hi : ∀ i : Nat, i < l.length → -2 ≤ (rd_T49 l i).f2 ∧ (rd_T49 l i).f2 < i ∧ (0 ≤ (rd_T49 l i).f2 → lev o (rd_T49 l i).f0 < lev o (rd_T49 l (rd_T49 l i).f2).f0)
theorem vd_of {l : List S49} {o : List Int} (h : diagB l o = true) : Vd l o := by
  unfold diagB at h
  simp only [Bool.and_eq_true, decide_eq_true_eq] at h
  obtain ⟨⟨⟨hp, h5⟩, h1, h31⟩, ha⟩ := h
  rw [allN_iff] at ha
  have hE : ∀ (i p : Nat) (t : Int), okE l o i p t = true → -2 ≤ t ∧ t < i ∧ (0 ≤ t → p < lev o (rd_T49 l t).f0) := by
    intro i p t h
    unfold okE at h
    simp only [Bool.and_eq_true, Bool.or_eq_true, decide_eq_true_eq] at h
    exact ⟨h.1.1, h.1.2, fun h0 => h.2.resolve_left (by omega)⟩
  have hA : ∀ i : Nat, i < l.length → lev o (rd_T49 l i).f0 < o.length ∧ okE l o i (lev o (rd_T49 l i).f0) (rd_T49 l i).f1 = true ∧ okE l o i (lev o (rd_T49 l i).f0) (rd_T49 l i).f2 = true := by
    intro i hi
    have h := ha i hi
    unfold okN at h
    simp only [Bool.and_eq_true, decide_eq_true_eq] at h
    exact ⟨h.1.1.1.1, h.1.2, h.2⟩
  refine ⟨h5, h1, h31, fun i hi => ?_, fun i hi => (hA i hi).1, fun i hi => hE _ _ _ (hA i hi).2.1, fun i hi => hE _ _ _ (hA i hi).2.2⟩
  have hm := lev_mem.mp (hA i hi).1
  exact (all_perm o.length o ((isPerm_iff o).mp hp) rfl).2 _ hm
def vN (l : List S49) (x : Nat) : Nat → Nat → Nat
  | 0, _ => 0
  | m + 1, at_ => if dnext (rd_T49 l at_) x < 0 then (dnext (rd_T49 l at_) x + 2).toNat else vN l x m (dnext (rd_T49 l at_) x).toNat
/-- The value from a node or an end on. -/
def vE (l : List S49) (x : Nat) (e : Int) : Nat := if e < 0 then (e + 2).toNat else vN l x (e.toNat + 1) e.toNat
section
variable {l : List S49} {o : List Int} (V : Vd l o)
include V
theorem next_lt (x : Nat) {i : Nat} (hi : i < l.length) : -2 ≤ dnext (rd_T49 l i) x ∧ dnext (rd_T49 l i) x < i ∧ (0 ≤ dnext (rd_T49 l i) x → lev o (rd_T49 l i).f0 < lev o (rd_T49 l (dnext (rd_T49 l i) x)).f0) := by
  unfold dnext
  split
  · exact V.hi i hi
  · exact V.lo i hi
theorem vN_fuel (x : Nat) : ∀ (a m at_ : Nat), at_ ≤ a → at_ < m → at_ < l.length → vN l x m at_ = vN l x (at_ + 1) at_ := by
  intro a
  induction a with
  | zero =>
    intro m at_ h0 h1 h2
    obtain ⟨m, rfl⟩ : ∃ k, m = k + 1 := ⟨m - 1, by omega⟩
    have := next_lt V x h2
    rw [vN, vN, if_pos (by omega), if_pos (by omega)]
  | succ a ih =>
    intro m at_ h0 h1 h2
    obtain ⟨m, rfl⟩ : ∃ k, m = k + 1 := ⟨m - 1, by omega⟩
    have := next_lt V x h2
    rw [vN, vN]
    by_cases h3 : dnext (rd_T49 l at_) x < 0
    · rw [if_pos h3, if_pos h3]
    · rw [if_neg h3, if_neg h3, ih m _ (by omega) (by omega) (by omega), ih at_ _ (by omega) (by omega) (by omega)]
theorem vE_next (x : Nat) {i : Nat} (hi : i < l.length) : vE l x i = vE l x (dnext (rd_T49 l i) x) := by
  have := next_lt V x hi
  unfold vE
  rw [if_neg (by omega), Int.toNat_natCast, vN]
  by_cases h3 : dnext (rd_T49 l i) x < 0
  · rw [if_pos h3, if_pos h3]
  · rw [if_neg h3, if_neg h3]
    exact vN_fuel V x i i _ (by omega) (by omega) (by omega)
theorem vE_step (x : Nat) {i : Nat} (hi : i < l.length) : vE l x i = if x.testBit (rd_T49 l i).f0.toNat = true then vE l x (rd_T49 l i).f2 else vE l x (rd_T49 l i).f1 := by
  rw [vE_next V x hi]
  unfold dnext
  split <;> rfl
theorem vE_le (x : Nat) : ∀ (a : Nat) (e : Int), e < a → -2 ≤ e → e < l.length → vE l x e ≤ 1 := by
  intro a
  induction a with
  | zero => intro e h0 h1 h2; unfold vE; rw [if_pos (by omega)]; omega
  | succ a ih =>
    intro e h0 h1 h2
    by_cases h3 : e < 0
    · unfold vE; rw [if_pos h3]; omega
    · obtain ⟨i, rfl⟩ := Int.eq_ofNat_of_zero_le (show 0 ≤ e by omega)
      have hi : i < l.length := by omega
      rw [vE_step V x hi]
      have h4 := V.lo i hi
      have h5 := V.hi i hi
      split
      · exact ih _ (by omega) (by omega) (by omega)
      · exact ih _ (by omega) (by omega) (by omega)
theorem dval_vE (x : Nat) : ∀ (a m at_ : Nat), at_ ≤ a → at_ < m → at_ < l.length → dval l x m at_ = (vE l x at_ : Nat) := by
  intro a
  induction a with
  | zero =>
    intro m at_ h0 h1 h2
    obtain ⟨m, rfl⟩ : ∃ k, m = k + 1 := ⟨m - 1, by omega⟩
    have h3 := next_lt V x h2
    have h4 := V.var at_ h2
    have h5 := V.n5
    rw [vE_next V x h2, dval, if_neg (by omega), if_neg (by omega), if_pos (by omega)]
    unfold vE
    rw [if_pos (by omega)]
    omega
  | succ a ih =>
    intro m at_ h0 h1 h2
    obtain ⟨m, rfl⟩ : ∃ k, m = k + 1 := ⟨m - 1, by omega⟩
    have h3 := next_lt V x h2
    have h4 := V.var at_ h2
    have h5 := V.n5
    rw [vE_next V x h2, dval, if_neg (by omega), if_neg (by omega)]
    by_cases h6 : dnext (rd_T49 l at_) x < 0
    · rw [if_pos h6]
      unfold vE
      rw [if_pos h6]
      omega
    · rw [if_neg h6, ih m _ (by omega) (by omega) (by omega), Int.toNat_of_nonneg (by omega)]
theorem vE_flip {v : Nat} : ∀ (a : Nat) (e : Int) (x : Nat), e < a → e < l.length → (0 ≤ e → lev o (v : Int) < lev o (rd_T49 l e).f0) → vE l (x ^^^ 2 ^ v) e = vE l x e := by
  intro a
  induction a with
  | zero => intro e x h0 h1 h2; unfold vE; rw [if_pos (by omega), if_pos (by omega)]
  | succ a ih =>
    intro e x h0 h1 h2
    by_cases h3 : e < 0
    · unfold vE; rw [if_pos h3, if_pos h3]
    · obtain ⟨i, rfl⟩ := Int.eq_ofNat_of_zero_le (show 0 ≤ e by omega)
      have hi : i < l.length := by omega
      have hlv := h2 (by omega)
      have h4 := V.lo i hi
      have h5 := V.hi i hi
      have h6 := V.var i hi
      have hne : v ≠ (rd_T49 l i).f0.toNat := by
        intro e
        rw [e, Int.toNat_of_nonneg h6.1] at hlv
        omega
      rw [vE_step V _ hi, vE_step V x hi, flip_other hne, ih (rd_T49 l i).f2 x (by omega) (by omega) (fun h => by have := h5.2.2 h; omega), ih (rd_T49 l i).f1 x (by omega) (by omega) (fun h => by have := h4.2.2 h; omega)]
/-- How many inputs lead to 1 from a node or an end on. -/
def tot (l : List S49) (n : Nat) (e : Int) : Nat := sm (fun x => vE l x e) (2 ^ n)
omit V in
theorem tot_zero (n : Nat) : tot l n (-2) = 0 := by
  unfold tot
  rw [sm_congr (f := fun x => vE l x (-2)) (g := fun _ => 0) _ (fun x _ => rfl), sm_const]
  rfl
omit V in
theorem tot_one (n : Nat) : tot l n (-1) = 2 ^ n := by
  unfold tot
  rw [sm_congr (f := fun x => vE l x (-1)) (g := fun _ => 1) _ (fun x _ => rfl), sm_const, Nat.mul_one]
theorem tot_le {e : Int} (h1 : -2 ≤ e) (h2 : e < l.length) : tot l o.length e ≤ 32 := by
  unfold tot
  have := sm_le (f := fun x => vE l x e) (c := 1) (2 ^ o.length) (fun x _ => vE_le V x l.length e h2 h1 h2)
  have := pow_le V.n5
  omega
theorem tot_step {i : Nat} (hi : i < l.length) : 2 * tot l o.length i = tot l o.length (rd_T49 l i).f1 + tot l o.length (rd_T49 l i).f2 := by
  have h4 := V.lo i hi
  have h5 := V.hi i hi
  have h6 := V.var i hi
  unfold tot
  rw [sm_congr _ (fun x _ => vE_step V x hi)]
  have hc : ((((rd_T49 l i).f0.toNat : Nat)) : Int) = (rd_T49 l i).f0 := Int.toNat_of_nonneg h6.1
  refine sm_mix (by omega) (fun x => vE l x (rd_T49 l i).f2) (fun x => vE l x (rd_T49 l i).f1) (fun x _ => ?_) (fun x _ => ?_)
  · exact vE_flip V l.length _ x (by omega) (by omega) (fun h => by rw [hc]; exact h5.2.2 h)
  · exact vE_flip V l.length _ x (by omega) (by omega) (fun h => by rw [hc]; exact h4.2.2 h)
/-! ### The program: over the inputs -/
theorem impl_count_loop {M : Nat} (hM : M ≤ 32) : ∀ (d k x : Nat), x + d = M → d + 200 < k →
    impl_CountInDiagram.l0 k l ((sm (fun x => vE l x ((l.length - 1 : Nat) : Int)) x : Nat) : Int) M x = some ((sm (fun x => vE l x ((l.length - 1 : Nat) : Int)) M : Nat) : Int) := by
  have h1 := V.one
  have h31 := V.most
  intro d
  induction d with
  | zero =>
    intro k x hx hk
    obtain ⟨k, rfl⟩ : ∃ m, k = m + 1 := ⟨k - 1, by omega⟩
    obtain rfl : x = M := by omega
    simp only [impl_CountInDiagram.l0]
    rw [if_neg (by omega)]
  | succ d ih =>
    intro k x hx hk
    obtain ⟨k, rfl⟩ : ∃ m, k = m + 1 := ⟨k - 1, by omega⟩
    have hs := sm_le (f := fun x => vE l x ((l.length - 1 : Nat) : Int)) (c := 1) x (fun x _ => vE_le V x l.length _ (by omega) (by omega) (by omega))
    have hv := vE_le V x l.length ((l.length - 1 : Nat) : Int) (by omega) (by omega) (by omega)
    have hi := ih k (x + 1) (by omega) (by omega)
    rw [sm] at hi
    simp only [impl_CountInDiagram.l0]
    rw [if_pos (by omega), impl_dval l x (by omega) (by omega), Option.bind_some]
    unfold dvalI
    rw [if_neg (by omega), Int.toNat_natCast, dval_vE V x l.length l.length (l.length - 1) (by omega) (by omega) (by omega), wrap64_of (by omega) (by omega), wrap64_succ (by omega), ← Int.natCast_add]
    exact hi
/-! ### The reference: from below -/
/-- What is kept for the first i nodes. -/
def Kept (l : List S49) (o : List Int) (u : List Int) (i : Nat) : Prop := u.length = i ∧ ∀ j : Nat, j < i → ∃ c : Nat, rd u j = c ∧ c * 2 ^ lev o (rd_T49 l j).f0 = tot l o.length j
/-- What an end adds. -/
theorem add_end {u : List Int} {i p : Nat} (hi : i < l.length) (hk : Kept l o u i) (hp : p < o.length) (e : Int) (h0 : -2 ≤ e) (h1 : e < i) (h2 : 0 ≤ e → p < lev o (rd_T49 l e).f0) (es : List Int) (x : Nat) (hx : x < 2) (hes : es.length = 2) (he : rd es x = e) (s : Nat) (hs : s ≤ 1000) {k : Nat} (hkk : 50 < k) :
    ∃ c : Nat, c * 2 ^ (p + 1) = tot l o.length e ∧ c ≤ 32 ∧ spec_CountInDiagram.l1 (k + 1) l o u i p s es x = spec_CountInDiagram.l1 k l o u i p ((s + c : Nat) : Int) es ((x + 1 : Nat) : Int) := by
  have h5 := V.n5
  have ht := tot_le V h0 (show e < l.length by omega)
  have hc32 : ∀ c q : Nat, c * 2 ^ q = tot l o.length e → c ≤ 32 := fun c q h => by
    have h1 : c * 1 ≤ c * 2 ^ q := Nat.mul_le_mul_left c (pow_pos q)
    omega
  simp only [spec_CountInDiagram.l1]
  rw [if_pos (by omega), if_pos (by omega), if_pos (by omega), he, wrap64_succ (by omega)]
  by_cases e1 : e = -1
  · subst e1
    have hc : 2 ^ (o.length - p - 1) * 2 ^ (p + 1) = tot l o.length (-1) := by
      rw [tot_one, ← Nat.pow_add]
      congr 1
      omega
    have h32 := hc32 _ _ hc
    refine ⟨2 ^ (o.length - p - 1), hc, h32, ?_⟩
    have hw : wrap64 (wrap64 ((o.length : Int) - (p : Int)) - 1) = ((o.length - p - 1 : Nat) : Int) := by
      rw [wrap64_of (n := (o.length : Int) - (p : Int)) (by omega) (by omega), wrap64_of (by omega) (by omega)]
      omega
    rw [if_pos rfl, hw, if_pos (Int.natCast_nonneg _), shl1_of (by omega)]
    generalize 2 ^ (o.length - p - 1) = c at h32 ⊢
    rw [wrap64_of (by omega) (by omega), ← Int.natCast_add]
  · rw [if_neg e1]
    by_cases e2 : e ≥ 0
    · obtain ⟨j, rfl⟩ := Int.eq_ofNat_of_zero_le e2
      obtain ⟨c, hc1, hc2⟩ := hk.2 j (by omega)
      have hlv := h2 e2
      have hl5 := lev_le o (rd_T49 l (j : Int)).f0
      have hc : (c * 2 ^ (lev o (rd_T49 l (j : Int)).f0 - p - 1)) * 2 ^ (p + 1) = tot l o.length j := by
        rw [← hc2, Nat.mul_assoc, ← Nat.pow_add]
        congr 2
        omega
      have h32 := hc32 _ _ hc
      refine ⟨_, hc, h32, ?_⟩
      have hw : wrap64 (wrap64 (((lev o (rd_T49 l (j : Int)).f0 : Nat) : Int) - (p : Int)) - 1) = ((lev o (rd_T49 l (j : Int)).f0 - p - 1 : Nat) : Int) := by
        rw [wrap64_of (n := ((lev o (rd_T49 l (j : Int)).f0 : Nat) : Int) - (p : Int)) (by omega) (by omega), wrap64_of (by omega) (by omega)]
        omega
      rw [if_pos e2, if_pos e2, if_pos (by have := hk.1; omega), if_pos (by omega), spec_lev o _ (by omega) (by omega), Option.bind_some, hw, if_pos (Int.natCast_nonneg _), hc1, shl_cast (by rw [Nat.shiftLeft_eq]; omega) (by omega), Nat.shiftLeft_eq]
      generalize c * 2 ^ (lev o (rd_T49 l (j : Int)).f0 - p - 1) = c' at h32 ⊢
      rw [wrap64_of (by omega) (by omega), ← Int.natCast_add]
    · obtain rfl : e = -2 := by omega
      rw [if_neg (by omega)]
      exact ⟨0, by rw [tot_zero, Nat.zero_mul], Nat.zero_le _, rfl⟩
omit V in
theorem kept_snoc {u : List Int} {i c : Nat} (hk : Kept l o u i) (h : c * 2 ^ lev o (rd_T49 l (i : Nat)).f0 = tot l o.length i) : Kept l o (u ++ [((c : Nat) : Int)]) (i + 1) := by
  refine ⟨by rw [List.length_append, hk.1]; rfl, fun j hj => ?_⟩
  by_cases e : j = i
  · subst e
    refine ⟨c, ?_, h⟩
    unfold rd
    rw [Int.toNat_natCast, List.getD_eq_getElem?_getD, List.getElem?_append_right (by rw [hk.1]; exact Nat.le_refl _), hk.1, Nat.sub_self]
    rfl
  · obtain ⟨c', h1, h2⟩ := hk.2 j (by omega)
    refine ⟨c', ?_, h2⟩
    rw [← h1]
    unfold rd
    rw [Int.toNat_natCast, List.getD_eq_getElem?_getD, List.getD_eq_getElem?_getD, List.getElem?_append_left (by rw [hk.1]; omega)]
theorem spec_count_loop : ∀ (d k i : Nat) (u : List Int), i + d = l.length → d * 10 + 200 < k → Kept l o u i → spec_CountInDiagram.l0 k l o u i = some ((tot l o.length ((l.length - 1 : Nat) : Int) : Nat) : Int) := by
  have h1 := V.one
  have h31 := V.most
  have h5 := V.n5
  intro d
  induction d with
  | zero =>
    intro k i u hi hk hu
    obtain ⟨k, rfl⟩ : ∃ m, k = m + 1 := ⟨k - 1, by omega⟩
    obtain ⟨c, hc1, hc2⟩ := hu.2 (l.length - 1) (by omega)
    have ht := tot_le V (e := ((l.length - 1 : Nat) : Int)) (by omega) (by omega)
    have hl5 := lev_le o (rd_T49 l ((l.length - 1 : Nat) : Int)).f0
    rw [spec_CountInDiagram.l0, if_neg (by omega), wrap64_of (by omega) (by omega), show ((l.length : Int) - 1) = ((l.length - 1 : Nat) : Int) by omega, if_pos (Int.natCast_nonneg _), if_pos (by have := hu.1; omega), if_pos (by omega), spec_lev o _ (by omega) (by omega), Option.bind_some, if_pos (Int.natCast_nonneg _), hc1, shl_cast (by rw [Nat.shiftLeft_eq, hc2]; omega) (by omega), Nat.shiftLeft_eq, hc2]
  | succ d ih =>
    intro k i u hi hk hu
    obtain ⟨k, rfl⟩ : ∃ m, k = m + 4 := ⟨k - 4, by omega⟩
    have hil : i < l.length := by omega
    have hlv := V.lv i hil
    have hlo := V.lo i hil
    have hhi := V.hi i hil
    obtain ⟨c1, e1, b1, r1⟩ := add_end V hil hu hlv (rd_T49 l (i : Nat)).f1 hlo.1 hlo.2.1 hlo.2.2 [(rd_T49 l (i : Nat)).f1, (rd_T49 l (i : Nat)).f2] 0 (by omega) rfl rfl 0 (by omega) (k := k + 2) (by omega)
    obtain ⟨c2, e2, b2, r2⟩ := add_end V hil hu hlv (rd_T49 l (i : Nat)).f2 hhi.1 hhi.2.1 hhi.2.2 [(rd_T49 l (i : Nat)).f1, (rd_T49 l (i : Nat)).f2] 1 (by omega) rfl rfl (0 + c1) (by omega) (k := k + 1) (by omega)
    have hc : (0 + c1 + c2) * 2 ^ lev o (rd_T49 l (i : Nat)).f0 = tot l o.length i := by
      have h2 := tot_step V hil
      rw [← e1, ← e2, Nat.pow_succ, ← Nat.mul_assoc, ← Nat.mul_assoc] at h2
      rw [Nat.zero_add, Nat.add_mul]
      omega
    have hn := ih k (i + 1) (u ++ [((0 + c1 + c2 : Nat) : Int)]) (by omega) (by omega) (kept_snoc hu hc)
    rw [spec_CountInDiagram.l0, if_pos (by omega), if_pos (by omega), spec_lev o _ (by omega) (by omega), Option.bind_some]
    refine Eq.trans r1 (Eq.trans r2 ?_)
    rw [spec_CountInDiagram.l1, if_neg (by omega), if_pos (by have := hu.1; omega), wrap64_succ (by omega)]
    exact hn
end
/-- What both say. -/
def cntD (l : List S49) (o : List Int) : Int := if diagB l o = true then ((tot l o.length ((l.length - 1 : Nat) : Int) : Nat) : Int) else -1
theorem impl_count (l : List S49) (o : List Int) {k : Nat} (hk : 1000 < k) : impl_CountInDiagram.f k l o = some (cntD l o) := by
  unfold impl_CountInDiagram.f cntD
  rw [impl_diag, Option.bind_some]
  cases h : diagB l o with
  | false => rw [if_neg (by decide), if_neg (by decide)]
  | true =>
    have V := vd_of h
    have h5 := V.n5
    rw [if_pos rfl, if_pos rfl, shl1_of (by omega)]
    have hp := pow_le V.n5
    exact impl_count_loop V hp (2 ^ o.length) k 0 (by omega) (by omega)
theorem spec_count (l : List S49) (o : List Int) {k : Nat} (hl : l.length ≤ 1048576) (ho : o.length ≤ 1048576) (hk : 1200000000010 < k) : spec_CountInDiagram.f k l o = some (cntD l o) := by
  unfold spec_CountInDiagram.f cntD
  rw [spec_diag l o hl ho hk, Option.bind_some]
  cases h : diagB l o with
  | false => rw [if_neg (by decide), if_neg (by decide)]
  | true =>
    have V := vd_of h
    rw [if_pos rfl, if_pos rfl]
    have := V.most
    exact spec_count_loop V l.length k 0 [] (by omega) (by omega) ⟨rfl, fun j hj => by omega⟩
end Go.Proofs.Ytpbdjpbkocdidaa.U
