/- The rank of rows, by sums modulo 2: both ways. -/
import Derived.Test.YtcgjlmgfmiacgaaUG
import Derived.Test.YtcgjlmgfmiacgaaFimplRankMod2
import Derived.Test.YtcgjlmgfmiacgaaFspecRankMod2
import Derived.Test.YtcgjlmgfmiacgaaFGa
namespace Go.Proofs.Ytcgjlmgfmiacgaa.U
open Go.RowKit Go.Proofs.YtcgjlmgfmiacgaaW.PrintWords Go.Proofs.YtcgjlmgfmiacgaaW.PrintLast Go.Proofs.YtcgjlmgfmiacgaaW.PrintMore Go.Proofs.Ytcgjlmgfmiacgaa.F Go.Proofs.Ytcgjlmgfmiacgaa.B
set_option linter.unusedVariables false
set_option linter.unusedSimpArgs false
set_option maxRecDepth 100000
/-- The sums of some of the numbers. -/
def InSpan : List Nat → Nat → Prop
  | [], x => x = 0
  | a :: l, x => InSpan l x ∨ InSpan l (x ^^^ a)
theorem span_zero : ∀ l, InSpan l 0
  | [] => rfl
  | _ :: l => .inl (span_zero l)
theorem xor_cancel (x a : Nat) : x ^^^ a ^^^ a = x := by rw [Nat.xor_assoc, Nat.xor_self, Nat.xor_zero]
theorem span_xor : ∀ (l : List Nat) (x y : Nat), InSpan l x → InSpan l y → InSpan l (x ^^^ y)
  | [], x, y, hx, hy => by
    have hx : x = 0 := hx
    have hy : y = 0 := hy
    subst hx hy; rfl
  | a :: l, x, y, hx, hy => by
    rcases hx with hx | hx <;> rcases hy with hy | hy
    · exact .inl (span_xor l x y hx hy)
    · refine .inr ?_
      rw [Nat.xor_assoc]
      exact span_xor l x (y ^^^ a) hx hy
    · refine .inr ?_
      rw [Nat.xor_assoc, Nat.xor_comm y a, ← Nat.xor_assoc]
      exact span_xor l (x ^^^ a) y hx hy
    · refine .inl ?_
      have := span_xor l (x ^^^ a) (y ^^^ a) hx hy
      rw [Nat.xor_assoc, Nat.xor_comm y a, ← Nat.xor_assoc a a, Nat.xor_self, Nat.zero_xor] at this
      exact this
theorem span_mem : ∀ {l : List Nat} {a : Nat}, a ∈ l → InSpan l a
  | b :: l, a, h => by
    rcases List.mem_cons.mp h with e | e
    · subst e; refine .inr ?_; rw [Nat.xor_self]; exact span_zero l
    · exact .inl (span_mem e)
theorem span_snoc (y : Nat) : ∀ (l : List Nat) (z : Nat), InSpan (l ++ [y]) z ↔ InSpan l z ∨ InSpan l (z ^^^ y)
  | [], z => Iff.rfl
  | a :: l, z => by
    have h1 := span_snoc y l z
    have h2 := span_snoc y l (z ^^^ a)
    rw [List.cons_append]
    show InSpan (l ++ [y]) z ∨ InSpan (l ++ [y]) (z ^^^ a) ↔ (InSpan l z ∨ InSpan l (z ^^^ a)) ∨ (InSpan l (z ^^^ y) ∨ InSpan l (z ^^^ y ^^^ a))
    rw [h1, h2, Nat.xor_assoc z a y, Nat.xor_comm a y, ← Nat.xor_assoc z y a]
    constructor
    · rintro ((h | h) | (h | h))
      · exact .inl (.inl h)
      · exact .inr (.inl h)
      · exact .inl (.inr h)
      · exact .inr (.inr h)
    · rintro ((h | h) | (h | h))
      · exact .inl (.inl h)
      · exact .inr (.inl h)
      · exact .inl (.inr h)
      · exact .inr (.inr h)
/-! ### The program: one leads for each length -/
def vals (ps : List (Nat × Nat)) : List Nat := ps.map Prod.snd
theorem len_zero : impl_RankMod2.len 0 = 0 := by unfold impl_RankMod2.len; rw [if_pos rfl]
theorem len_xor_lt {a b : Nat} (h : impl_RankMod2.len a < impl_RankMod2.len b) : impl_RankMod2.len (a ^^^ b) = impl_RankMod2.len b := by
  have hb : b ≠ 0 := fun q => by rw [q, len_zero] at h; omega
  obtain ⟨h1, h2, h3⟩ := impl_RankMod2.len_pos hb
  have tb := impl_RankMod2.top hb
  obtain ⟨n, hn⟩ : ∃ n, impl_RankMod2.len b = n + 1 := ⟨impl_RankMod2.len b - 1, by omega⟩
  rw [hn] at h h2 tb ⊢
  rw [Nat.add_sub_cancel] at tb
  have ha : a < 2 ^ n := by
    by_cases h0 : a = 0
    · rw [h0]; exact Nat.two_pow_pos n
    · exact Nat.lt_of_lt_of_le (impl_RankMod2.len_pos h0).2.1 (Nat.pow_le_pow_right (by decide) (by omega))
  have hu : a ^^^ b < 2 ^ (n + 1) := Nat.xor_lt_two_pow (Nat.lt_of_lt_of_le ha (Nat.pow_le_pow_right (by decide) (by omega))) h2
  have ht : (a ^^^ b).testBit n = true := by rw [Nat.testBit_xor, testBit_ge ha (Nat.le_refl n), tb]; rfl
  have hl : 2 ^ n ≤ a ^^^ b := by
    by_cases hq : a ^^^ b < 2 ^ n
    · rw [testBit_ge hq (Nat.le_refl n)] at ht; cases ht
    · omega
  exact impl_RankMod2.len_eq hl hu
theorem len_xor {a b : Nat} (h : impl_RankMod2.len a ≠ impl_RankMod2.len b) : impl_RankMod2.len (a ^^^ b) = impl_RankMod2.len a ∨ impl_RankMod2.len (a ^^^ b) = impl_RankMod2.len b := by
  by_cases h1 : impl_RankMod2.len a < impl_RankMod2.len b
  · exact .inr (len_xor_lt h1)
  · rw [Nat.xor_comm]; exact .inl (len_xor_lt (by omega))
theorem ok_tail {p : Nat × Nat} {ps : List (Nat × Nat)} (h : impl_RankMod2.Ok (p :: ps)) : impl_RankMod2.Ok ps ∧ impl_RankMod2.look ps p.1 = none ∧ impl_RankMod2.len p.2 = p.1 := by
  have hn := h.2.1 p ps (List.suffix_refl _)
  refine ⟨⟨fun t v hv => ?_, fun q qs hq => h.2.1 q qs (hq.trans (List.suffix_cons p ps)), by have := h.2.2; rw [List.length_cons] at this; omega⟩, hn, ?_⟩
  · refine h.1 t v ?_
    rw [impl_RankMod2.look]
    by_cases e : p.1 = t
    · rw [e, hv] at hn; cases hn
    · rw [if_neg e]; exact hv
  · exact (h.1 p.1 p.2 (by rw [impl_RankMod2.look, if_pos rfl])).1
theorem look_cons_some {p : Nat × Nat} {ps : List (Nat × Nat)} {t v : Nat} (h : impl_RankMod2.look ps t = some v) : ∃ u, impl_RankMod2.look (p :: ps) t = some u := by
  rw [impl_RankMod2.look]
  split
  · exact ⟨_, rfl⟩
  · exact ⟨v, h⟩
theorem span_top : ∀ (ps : List (Nat × Nat)) (x : Nat), impl_RankMod2.Ok ps → InSpan (vals ps) x → x ≠ 0 → ∃ v, impl_RankMod2.look ps (impl_RankMod2.len x) = some v
  | [], x, _, h, h0 => absurd h h0
  | p :: ps, x, hk, h, h0 => by
    obtain ⟨h1, h2, h3⟩ := ok_tail hk
    rcases h with h | h
    · obtain ⟨v, hv⟩ := span_top ps x h1 h h0
      exact look_cons_some hv
    · by_cases hz : x ^^^ p.2 = 0
      · have e : x = p.2 := by rw [← xor_cancel x p.2, hz, Nat.zero_xor]
        refine ⟨p.2, ?_⟩
        rw [e, h3, impl_RankMod2.look, if_pos rfl]
      · obtain ⟨v, hv⟩ := span_top ps (x ^^^ p.2) h1 h hz
        have hne : impl_RankMod2.len (x ^^^ p.2) ≠ impl_RankMod2.len p.2 := fun q => by rw [q, h3, h2] at hv; cases hv
        have e := len_xor hne
        rw [xor_cancel] at e
        rcases e with e | e
        · rw [e]; exact look_cons_some hv
        · rw [e, h3]; exact ⟨p.2, by rw [impl_RankMod2.look, if_pos rfl]⟩
theorem look_mem {ps : List (Nat × Nat)} {t v : Nat} (h : impl_RankMod2.look ps t = some v) : v ∈ vals ps := by
  induction ps with
  | nil => cases h
  | cons p ps ih =>
    rw [impl_RankMod2.look] at h
    split at h
    · cases h; exact List.mem_cons_self
    · exact List.mem_cons_of_mem _ (ih h)
/-- What becomes of a row. -/
theorem red_tells : ∀ (k : Nat) (ps : List (Nat × Nat)) (r : Nat), impl_RankMod2.Ok ps → impl_RankMod2.len r < k →
    (impl_RankMod2.red k ps r = ps ∧ InSpan (vals ps) r) ∨ (∃ u, impl_RankMod2.red k ps r = (impl_RankMod2.len u, u) :: ps ∧ InSpan (vals ps) (u ^^^ r) ∧ ¬ InSpan (vals ps) r)
  | 0, ps, r, _, hk => absurd hk (Nat.not_lt_zero _)
  | k + 1, ps, r, h, hk => by
    rw [impl_RankMod2.red]
    by_cases h0 : r = 0
    · rw [if_pos h0, h0]; exact .inl ⟨rfl, span_zero _⟩
    · rw [if_neg h0]
      cases hl : impl_RankMod2.look ps (impl_RankMod2.len r) with
      | none =>
        refine .inr ⟨r, rfl, by rw [Nat.xor_self]; exact span_zero _, fun hs => ?_⟩
        obtain ⟨v, hv⟩ := span_top ps r h hs h0
        rw [hl] at hv; cases hv
      | some v =>
        have hv := look_mem hl
        have h1 := h.1 _ _ hl
        have h2 := impl_RankMod2.xor_len h0 h1.1
        rcases red_tells k ps (r ^^^ v) h (by omega) with ⟨e, hs⟩ | ⟨u, e, hs, hn⟩
        · refine .inl ⟨e, ?_⟩
          have := span_xor _ _ _ hs (span_mem hv)
          rw [xor_cancel] at this
          exact this
        · refine .inr ⟨u, e, ?_, fun hr => hn (span_xor _ _ _ hr (span_mem hv))⟩
          have := span_xor _ _ _ hs (span_mem hv)
          rw [← Nat.xor_assoc, xor_cancel] at this
          exact this
/-! ### The reference: leading bits are cleared in order -/
def topN (a : Nat) : Nat := impl_RankMod2.len a - 1
theorem top_true {a : Nat} (h : a ≠ 0) : a.testBit (topN a) = true := impl_RankMod2.top h
theorem bit_mod {x i : Nat} : x % 2 ^ (i + 1) = (x.testBit i).toNat * 2 ^ i + x % 2 ^ i := by
  rw [Nat.mod_pow_succ, Nat.testBit_eq_decide_div_mod_eq]
  rcases Nat.mod_two_eq_zero_or_one (x / 2 ^ i) with h | h <;> rw [h] <;> simp <;> omega
theorem lt_by_bit {x y : Nat} (i : Nat) (hx : x.testBit i = false) (hy : y.testBit i = true) (h : ∀ j, i < j → x.testBit j = y.testBit j) : x < y := by
  have hp := Nat.two_pow_pos i
  have e : x / 2 ^ (i + 1) = y / 2 ^ (i + 1) := by
    apply Nat.eq_of_testBit_eq
    intro j
    rw [Nat.testBit_div_two_pow, Nat.testBit_div_two_pow]
    exact h _ (by omega)
  have h1 := Nat.mod_add_div x (2 ^ (i + 1))
  have h2 := Nat.mod_add_div y (2 ^ (i + 1))
  have h3 := Nat.mod_lt x hp
  rw [bit_mod, hx, e] at h1
  rw [bit_mod, hy] at h2
  simp only [Bool.toNat_false, Bool.toNat_true, Nat.zero_mul, Nat.one_mul, Nat.zero_add] at h1 h2
  omega
theorem min_xor {x a : Nat} (h : a ≠ 0) : min x (x ^^^ a) = if x.testBit (topN a) = true then x ^^^ a else x := by
  have ht := top_true h
  obtain ⟨h1, h2, h3⟩ := impl_RankMod2.len_pos h
  have hhi : ∀ i, topN a < i → a.testBit i = false := fun i hi => testBit_ge h2 (by unfold topN at hi; omega)
  have hdiff : ∀ i, topN a < i → (x ^^^ a).testBit i = x.testBit i := fun i hi => by rw [Nat.testBit_xor, hhi i hi, Bool.xor_false]
  cases hx : x.testBit (topN a) with
  | true =>
    rw [if_pos rfl]
    have : x ^^^ a < x := lt_by_bit (topN a) (by rw [Nat.testBit_xor, hx, ht]; rfl) hx (fun j hj => hdiff j hj)
    omega
  | false =>
    rw [if_neg (by decide)]
    have : x < x ^^^ a := lt_by_bit (topN a) hx (by rw [Nat.testBit_xor, hx, ht]; rfl) (fun j hj => (hdiff j hj).symm)
    omega
def redS : List Nat → Nat → Nat
  | [], x => x
  | a :: l, x => redS l (min x (x ^^^ a))
theorem redS_snoc (b : Nat) : ∀ (l : List Nat) (x : Nat), redS (l ++ [b]) x = min (redS l x) (redS l x ^^^ b)
  | [], x => rfl
  | a :: l, x => redS_snoc b l _
def Ech : List Nat → Prop
  | [] => True
  | a :: l => a ≠ 0 ∧ (∀ b ∈ l, b.testBit (topN a) = false) ∧ Ech l
theorem min_bit {x a t : Nat} (ha : a ≠ 0) (h : a.testBit t = false) : (min x (x ^^^ a)).testBit t = x.testBit t := by
  rw [min_xor ha]
  split
  · rw [Nat.testBit_xor, h, Bool.xor_false]
  · rfl
theorem ech_ne {l : List Nat} (h : Ech l) : ∀ a ∈ l, a ≠ 0 := by
  induction l with
  | nil => intro a h; cases h
  | cons b l ih =>
    intro a ha
    rcases List.mem_cons.mp ha with e | e
    · rw [e]; exact h.1
    · exact ih h.2.2 a e
theorem redS_bit {t : Nat} : ∀ (l : List Nat) (x : Nat), Ech l → (∀ b ∈ l, b.testBit t = false) → (redS l x).testBit t = x.testBit t
  | [], _, _, _ => rfl
  | a :: l, x, he, h => by
    rw [redS, redS_bit l _ he.2.2 (fun b hb => h b (List.mem_cons_of_mem _ hb)), min_bit he.1 (h a List.mem_cons_self)]
theorem redS_span : ∀ (l : List Nat) (x : Nat), Ech l → InSpan l (redS l x ^^^ x)
  | [], x, _ => Nat.xor_self x
  | a :: l, x, he => by
    have ih := redS_span l (min x (x ^^^ a)) he.2.2
    rw [redS, min_xor he.1] at *
    split at ih
    next h =>
      rw [if_pos h]
      refine .inr ?_
      rw [← Nat.xor_assoc] at ih
      rw [Nat.xor_assoc, Nat.xor_comm x a, ← Nat.xor_assoc]
      rw [Nat.xor_assoc, Nat.xor_comm x a, ← Nat.xor_assoc] at ih
      exact ih
    next h => rw [if_neg h]; exact .inl ih
theorem redS_clear : ∀ (l : List Nat) (x : Nat), Ech l → ∀ a ∈ l, (redS l x).testBit (topN a) = false
  | [], _, _, a, h => by cases h
  | b :: l, x, he, a, ha => by
    rw [redS]
    rcases List.mem_cons.mp ha with e | e
    · subst e
      rw [redS_bit l _ he.2.2 he.2.1, min_xor he.1]
      split
      next h => rw [Nat.testBit_xor, h, top_true he.1]; rfl
      next h => simpa using h
    · exact redS_clear l _ he.2.2 a e
theorem span_bit {t : Nat} : ∀ (l : List Nat) (z : Nat), (∀ b ∈ l, b.testBit t = false) → InSpan l z → z.testBit t = false
  | [], z, _, h => by have h : z = 0 := h; rw [h]; exact Nat.zero_testBit t
  | a :: l, z, hb, h => by
    rcases h with h | h
    · exact span_bit l z (fun b h => hb b (List.mem_cons_of_mem _ h)) h
    · have := span_bit l (z ^^^ a) (fun b h => hb b (List.mem_cons_of_mem _ h)) h
      rw [Nat.testBit_xor, hb a List.mem_cons_self, Bool.xor_false] at this
      exact this
theorem span_none : ∀ (l : List Nat) (z : Nat), Ech l → InSpan l z → (∀ a ∈ l, z.testBit (topN a) = false) → z = 0
  | [], z, _, h, _ => h
  | a :: l, z, he, h, hb => by
    rcases h with h | h
    · exact span_none l z he.2.2 h (fun b hb' => hb b (List.mem_cons_of_mem _ hb'))
    · have := span_bit l (z ^^^ a) he.2.1 h
      rw [Nat.testBit_xor, hb a List.mem_cons_self, top_true he.1] at this
      cases this
theorem redS_iff {l : List Nat} {x : Nat} (h : Ech l) : redS l x = 0 ↔ InSpan l x := by
  have h1 := redS_span l x h
  constructor
  · intro e; rw [e, Nat.zero_xor] at h1; exact h1
  · intro hx
    have := span_xor _ _ _ h1 hx
    rw [xor_cancel] at this
    exact span_none l _ h this (redS_clear l x h)
theorem ech_snoc {y : Nat} (hy : y ≠ 0) : ∀ {l : List Nat}, Ech l → (∀ a ∈ l, y.testBit (topN a) = false) → Ech (l ++ [y])
  | [], _, _ => ⟨hy, (fun b h => by cases h), trivial⟩
  | a :: l, he, h => by
    refine ⟨he.1, fun b hb => ?_, ech_snoc hy he.2.2 (fun b hb => h b (List.mem_cons_of_mem _ hb))⟩
    rcases List.mem_append.mp hb with e | e
    · exact he.2.1 b e
    · rw [List.mem_singleton] at e; rw [e]; exact h a List.mem_cons_self
/-- The reference's list behind the first i rows. -/
def listS (l : List Int) : Nat → List Nat
  | 0 => []
  | i + 1 => if redS (listS l i) (rd l i).toNat = 0 then listS l i else listS l i ++ [redS (listS l i) (rd l i).toNat]
theorem listS_ech (l : List Int) : ∀ i, Ech (listS l i)
  | 0 => trivial
  | i + 1 => by
    rw [listS]
    split
    · exact listS_ech l i
    next h => exact ech_snoc h (listS_ech l i) (redS_clear _ _ (listS_ech l i))
theorem listS_length (l : List Int) : ∀ i, (listS l i).length ≤ i
  | 0 => Nat.le_refl _
  | i + 1 => by
    have := listS_length l i
    rw [listS]
    split
    · omega
    · rw [List.length_append, List.length_singleton]; omega
theorem redS_lt : ∀ (l : List Nat) (x : Nat), x < 4294967296 → redS l x < 4294967296
  | [], _, h => h
  | a :: l, x, h => redS_lt l _ (by omega)
theorem listS_lt (l : List Int) (n : Nat) (hl : ∀ i : Nat, i < n → 0 ≤ rd l i ∧ rd l i < 4294967296) : ∀ i, i ≤ n → ∀ a ∈ listS l i, a < 4294967296
  | 0, _, a, h => by cases h
  | i + 1, hi, a, h => by
    rw [listS] at h
    split at h
    · exact listS_lt l n hl i (by omega) a h
    · rcases List.mem_append.mp h with e | e
      · exact listS_lt l n hl i (by omega) a e
      · rw [List.mem_singleton] at e
        rw [e]
        have := hl i (by omega)
        exact redS_lt _ _ (by omega)
/-- Both lists have the same sums and as many members. -/
theorem same_rank (l : List Int) (hl : ∀ i : Nat, i < l.length → 0 ≤ rd l i ∧ rd l i < 4294967296) (h32 : l.length ≤ 32) : ∀ i, i ≤ l.length →
    (∀ z, InSpan (vals (impl_RankMod2.all l i)) z ↔ InSpan (listS l i) z) ∧ (impl_RankMod2.all l i).length = (listS l i).length
  | 0, _ => ⟨fun z => Iff.rfl, rfl⟩
  | i + 1, hi => by
    obtain ⟨ih, ihl⟩ := same_rank l hl h32 i (by omega)
    have hok := (impl_RankMod2.all_ok l hl i (by omega) (by omega)).1
    have hr := hl i (by omega)
    have hlen := impl_RankMod2.len_lt (x := (rd l i).toNat) (by omega)
    have he := listS_ech l i
    rw [impl_RankMod2.all, listS]
    generalize (rd l i).toNat = r at hlen ⊢
    rcases red_tells 33 (impl_RankMod2.all l i) r hok (by omega) with ⟨e, hs⟩ | ⟨u, e, hs, hn⟩
    · rw [e, if_pos ((redS_iff he).mpr ((ih r).mp hs))]
      exact ⟨ih, ihl⟩
    · rw [e, if_neg (fun q => hn ((ih r).mpr ((redS_iff he).mp q)))]
      refine ⟨fun z => ?_, by rw [List.length_cons, List.length_append, List.length_singleton, ihl]⟩
      rw [span_snoc]
      show InSpan (vals (impl_RankMod2.all l i)) z ∨ InSpan (vals (impl_RankMod2.all l i)) (z ^^^ u) ↔ _
      rw [ih, ih]
      have h1 := (ih _).mp hs
      have h2 := redS_span (listS l i) r he
      have h3 := span_xor _ _ _ h1 h2
      generalize redS (listS l i) r = y at h2 h3 ⊢
      have e2 : u ^^^ r ^^^ (y ^^^ r) = u ^^^ y := by
        rw [Nat.xor_comm y r, ← Nat.xor_assoc, xor_cancel]
      rw [e2] at h3
      constructor
      · rintro (h | h)
        · exact .inl h
        · have := span_xor _ _ _ h h3
          rw [← Nat.xor_assoc, xor_cancel] at this
          exact .inr this
      · rintro (h | h)
        · exact .inl h
        · have := span_xor _ _ _ h h3
          rw [Nat.xor_comm u y, ← Nat.xor_assoc, xor_cancel] at this
          exact .inr this
/-! ### The reference's loops -/
def castL (l : List Nat) : List Int := List.map (fun n : Nat => (n : Int)) l
theorem castL_length (l : List Nat) : (castL l).length = l.length := by simp [castL]
theorem castL_rd {l : List Nat} {j : Nat} (h : j < l.length) : rd (castL l) (j : Int) = ((l[j] : Nat) : Int) := by
  unfold rd
  rw [Int.toNat_natCast]
  simp [castL, List.getD_eq_getElem?_getD, h]
theorem castL_snoc (l : List Nat) (a : Nat) : castL (l ++ [a]) = castL l ++ [(a : Int)] := by simp [castL]
theorem mn_cast (a b : Nat) : mn (a : Int) (b : Int) = ((min a b : Nat) : Int) := by unfold mn; split <;> omega
theorem spec_rank_l1 {l : List Int} {i : Nat} {S : List Nat} (hS : S.length ≤ 100) (hlt : ∀ a ∈ S, a < 4294967296) {x : Nat} (hx : x < 4294967296) (hi : i < 9223372036854775807) : ∀ (d k j : Nat), j + d = S.length → d < k →
    spec_RankMod2.l1 k l (castL S) i ((redS (S.take j) x : Nat) : Int) j = spec_RankMod2.l0 (k - d - 1) l (castL (if redS S x = 0 then S else S ++ [redS S x])) ((i + 1 : Nat) : Int) := by
  intro d
  induction d with
  | zero =>
    intro k j hj hk
    obtain ⟨k, rfl⟩ : ∃ m, k = m + 1 := ⟨k - 1, by omega⟩
    obtain rfl : j = S.length := by omega
    simp only [spec_RankMod2.l1]
    rw [List.take_length, if_neg (by rw [castL_length]; omega), wrap64_succ (by omega)]
    by_cases h : redS S x = 0
    · rw [if_neg (by omega), if_pos h]; rfl
    · rw [if_pos (by omega), if_pos (by rw [castL_length]; omega), if_neg h, castL_snoc]; rfl
  | succ d ih =>
    intro k j hj hk
    obtain ⟨k, rfl⟩ : ∃ m, k = m + 1 := ⟨k - 1, by omega⟩
    have hjl : j < S.length := by omega
    have hr := redS_lt (S.take j) x hx
    have ha := hlt S[j] (List.getElem_mem hjl)
    simp only [spec_RankMod2.l1]
    rw [if_pos (by rw [castL_length]; omega), if_pos (Int.natCast_nonneg _), castL_rd hjl, xor_cast (by omega) (by omega), mn_cast, ← redS_snoc, List.take_append_getElem hjl, wrap64_succ (by omega), show k + 1 - (d + 1) - 1 = k - d - 1 by omega]
    exact ih k (j + 1) (by omega) (by omega)
/-- What both say. -/
def rankI (l : List Int) : Int := if l.length ≤ 32 ∧ exN (fun i => impl_RankMod2.bad (rd l i)) l.length = false then (((listS l l.length).length : Nat) : Int) else -1
theorem good_row {l : List Int} {n : Nat} (h : exN (fun i => impl_RankMod2.bad (rd l i)) n = false) : ∀ i : Nat, i < n → 0 ≤ rd l i ∧ rd l i < 4294967296 := by
  intro i hi
  cases hc : impl_RankMod2.bad (rd l i) with
  | true => rw [exN_hit (p := fun i => impl_RankMod2.bad (rd l i)) hi hc] at h; cases h
  | false =>
    unfold impl_RankMod2.bad at hc
    rw [Bool.or_eq_false_iff, decide_eq_false_iff_not, bne_eq_false_iff_eq] at hc
    omega
theorem spec_rank_l0 (l : List Int) (hl : l.length < 1099511627776) : ∀ (d k i : Nat), i + d = l.length → d * 40 + 40 < k → i ≤ 32 → exN (fun i => impl_RankMod2.bad (rd l i)) i = false →
    spec_RankMod2.l0 k l (castL (listS l i)) i = some (rankI l) := by
  intro d
  induction d with
  | zero =>
    intro k i hi hk h32 hx
    obtain ⟨k, rfl⟩ : ∃ m, k = m + 1 := ⟨k - 1, by omega⟩
    obtain rfl : i = l.length := by omega
    simp only [spec_RankMod2.l0]
    rw [if_neg (by omega), rankI, if_pos ⟨h32, hx⟩, castL_length]
  | succ d ih =>
    intro k i hi hk h32 hx
    obtain ⟨k, rfl⟩ : ∃ m, k = m + 2 := ⟨k - 2, by omega⟩
    have hgood := good_row hx
    have hj : rankI l = -1 → spec_RankMod2.j1 (k + 1) l (castL (listS l i)) i true = some (rankI l) := by
      intro h
      simp only [spec_RankMod2.j1]
      rw [if_pos trivial, h]
    simp only [spec_RankMod2.l0]
    rw [if_pos (by omega), if_pos (Int.natCast_nonneg _), l1In_some _ _ _ _ rfl, Option.bind_some]
    by_cases h1 : 0 ≤ rd l i ∧ rd l i ≤ 4294967295
    · rw [if_pos (decide_eq_true h1)]
      by_cases h2 : i < 32
      · have hb : impl_RankMod2.bad (rd l i) = false := by
          unfold impl_RankMod2.bad
          rw [decide_eq_false (by omega), Bool.false_or, bne_eq_false_iff_eq]
          omega
        obtain ⟨x, hxr⟩ := Int.eq_ofNat_of_zero_le h1.1
        have h3 := listS_length l i
        have h4 := listS_lt l i hgood i (Nat.le_refl _)
        have h5 := spec_rank_l1 (l := l) (i := i) (S := listS l i) (by omega) h4 (x := x) (by omega) (by omega) (listS l i).length k 0 (by omega) (by omega)
        simp only [spec_RankMod2.j1]
        rw [if_neg (by rw [decide_eq_true_eq]; omega), if_pos (Int.natCast_nonneg _), if_pos (by omega), hxr]
        refine Eq.trans h5 ?_
        have h6 := ih (k - (listS l i).length - 1) (i + 1) (by omega) (by omega) (by omega) (exN_skip hx hb)
        rw [listS, hxr, Int.toNat_natCast] at h6
        exact h6
      · rw [decide_eq_true (show (i : Int) > 31 by omega)]
        exact hj (by unfold rankI; rw [if_neg (fun q => by omega)])
    · rw [if_neg (by simpa using h1)]
      refine hj ?_
      unfold rankI
      rw [if_neg (fun q => ?_)]
      have := good_row q.2 i (by omega)
      omega
theorem spec_rank (l : List Int) (hl : l.length < 1099511627776) {k : Nat} (hk : l.length * 40 + 40 < k) : spec_RankMod2.f k l = some (rankI l) := show spec_RankMod2.l0 k l (castL (listS l 0)) ((0 : Nat) : Int) = _ from spec_rank_l0 l hl l.length k 0 (by omega) (by omega) (by omega) rfl
theorem impl_rank (l : List Int) (hl : l.length < 9223372036854775807) : impl_RankMod2.f l = some (rankI l) := by
  unfold impl_RankMod2.f rankI
  rw [if_pos hl]
  by_cases h : l.length ≤ 32
  · rw [if_pos h]
    cases hx : exN (fun i => impl_RankMod2.bad (rd l i)) l.length with
    | true => rw [if_pos rfl, if_neg (fun q => by cases q.2)]
    | false => rw [if_neg (by decide), if_pos ⟨h, rfl⟩, (same_rank l (good_row hx) h l.length (Nat.le_refl _)).2]
  · rw [if_neg h, if_neg (fun q => h q.1)]
end Go.Proofs.Ytcgjlmgfmiacgaa.U
