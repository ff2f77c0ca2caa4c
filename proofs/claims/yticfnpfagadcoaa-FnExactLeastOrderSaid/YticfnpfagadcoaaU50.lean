/- LeastOrder: both sides go through the same orders and take the first least one. -/
import Derived.Test.YticfnpfagadcoaaUc
import Derived.Test.YticfnpfagadcoaaFimplpermutations
import Derived.Test.YticfnpfagadcoaaFimplLeastOrder
import Derived.Test.YticfnpfagadcoaaFspecLeastOrder
import Derived.Test.YticfnpfagadcoaaFspecl4Perms
namespace Go.Proofs.Yticfnpfagadcoaa.U
open Go.RowKit Go.Proofs.YticfnpfagadcoaaW.PrintWords Go.Proofs.YticfnpfagadcoaaW.PrintLast Go.Proofs.YticfnpfagadcoaaW.PrintMore Go.Proofs.Yticfnpfagadcoaa.F Go.Proofs.Yticfnpfagadcoaa.B
set_option linter.unusedVariables false
set_option linter.unusedSimpArgs false
set_option maxRecDepth 100000
theorem per_rows {n : Nat} (hn : n ≤ 4) : 0 < (perF n n []).length ∧ (perF n n []).length < 1000 ∧ ∀ r ∈ perF n n [], r.length = n ∧ isPerm r = true := by
  have h : ∀ n : Fin 5, 0 < (perF n.val n.val []).length ∧ (perF n.val n.val []).length < 1000 ∧ ∀ r ∈ perF n.val n.val [], r.length = n.val ∧ isPerm r = true := by decide +kernel
  exact h ⟨n, by omega⟩
/-! ### The reference's orders -/
theorem per_scan {n x : Nat} {l : List Int} {acc : List (List Int)} (hl : l.length ≤ 4) : ∀ (e k j : Nat) (b : Bool), j + e = l.length → spec_l4Perms.l1 (k + e) n l acc x b j = spec_l4Perms.l1 k n l acc x (b || (l.drop j).contains (x : Int)) (l.length : Nat) := by
  intro e
  induction e with
  | zero =>
    intro k j b hj
    obtain rfl : j = l.length := by omega
    rw [List.drop_length]
    simp
  | succ e ih =>
    intro k j b hj
    have hd : l.drop j = rd l j :: l.drop (j + 1) := by
      rw [List.drop_eq_getElem_cons (show j < l.length by omega), rd_get l (show j < l.length by omega)]
    rw [show k + (e + 1) = (k + e) + 1 by omega, spec_l4Perms.l1, if_pos (by omega), wrap64_succ (by omega), hd, List.contains_cons]
    cases b with
    | true => rw [if_pos rfl, ih k (j + 1) true (by omega), Bool.true_or, Bool.true_or]
    | false =>
      rw [if_neg (by decide), if_pos (Int.natCast_nonneg _), ih k (j + 1) _ (by omega), Bool.false_or]
      congr 2
      rw [Bool.eq_iff_iff, beq_iff_eq, beq_iff_eq]
      exact ⟨fun h => h.symm, fun h => h.symm⟩
theorem perUp_le {f : Nat → List (List Int)} {m x : Nat} (h : ∀ x, (f x).length ≤ m) : (perUp f x).length ≤ x * m := perUp_len h x
theorem perms_eq {n : Nat} (hn : n ≤ 4) : ∀ (d k : Nat) (l : List Int), l.length + d = n → d * 100 + 10 < k → spec_l4Perms.f k n l = some (perF n d l) := by
  intro d
  induction d with
  | zero =>
    intro k l hl hk
    obtain ⟨k, rfl⟩ : ∃ m, k = m + 1 := ⟨k - 1, by omega⟩
    rw [spec_l4Perms.f, if_pos (by omega), perF]
  | succ d ih =>
    intro k l hl hk
    obtain ⟨k, rfl⟩ : ∃ m, k = m + 1 := ⟨k - 1, by omega⟩
    rw [spec_l4Perms.f, if_neg (by omega), perF]
    obtain ⟨f, hf⟩ : ∃ f : Nat → List (List Int), f = fun x : Nat => if l.contains (x : Int) = true then [] else perF n d (l ++ [(x : Int)]) := ⟨_, rfl⟩
    rw [← hf]
    have hp : n ^ d ≤ 4 ^ 4 := Nat.le_trans (Nat.pow_le_pow_left hn d) (Nat.pow_le_pow_right (by decide) (by omega))
    have hfl : ∀ x, (f x).length ≤ 256 := fun x => by
      rw [hf]
      show (if l.contains (x : Int) = true then [] else perF n d (l ++ [(x : Int)])).length ≤ 256
      split
      · exact Nat.zero_le _
      · exact Nat.le_trans (perF_len n d _) hp
    have loop : ∀ (e k x : Nat), x + e = n → e * 10 + d * 100 + 30 < k → spec_l4Perms.l0 k n l (perUp f x) x = some (perUp f n) := by
      intro e
      induction e with
      | zero =>
        intro k x hx hk
        obtain ⟨k, rfl⟩ : ∃ m, k = m + 1 := ⟨k - 1, by omega⟩
        obtain rfl : x = n := by omega
        rw [spec_l4Perms.l0, if_neg (by omega)]
      | succ e ihe =>
        intro k x hx hk
        obtain ⟨k, rfl⟩ : ∃ m, k = m + 1 + l.length + 1 := ⟨k - 2 - l.length, by omega⟩
        have h1 := perUp_le (x := x) hfl
        have h2 : x * 256 ≤ 4 * 256 := Nat.mul_le_mul_right 256 (by omega)
        have h3 := hfl x
        have hs := per_scan (n := n) (x := x) (l := l) (acc := perUp f x) (by omega) l.length (k + 1) 0 false (by omega)
        rw [List.drop_zero, Bool.false_or] at hs
        have hs' : spec_l4Perms.l1 (k + 1 + l.length) n l (perUp f x) x false 0 = spec_l4Perms.l1 (k + 1) n l (perUp f x) x (l.contains (x : Int)) (l.length : Nat) := hs
        rw [spec_l4Perms.l0, if_pos (by omega), hs', spec_l4Perms.l1, if_neg (by omega)]
        have hfx : f x = if l.contains (x : Int) = true then [] else perF n d (l ++ [(x : Int)]) := by rw [hf]
        have hnx := ihe k (x + 1) (by omega) (by omega)
        cases hc : l.contains (x : Int) with
        | true =>
          rw [hc, if_pos rfl] at hfx
          rw [perUp, hfx, List.append_nil] at hnx
          rw [if_pos rfl, wrap64_succ (by omega)]
          exact hnx
        | false =>
          rw [hc, if_neg (by decide)] at hfx
          rw [perUp] at hnx
          rw [if_neg (by decide), Option.bind_some, if_pos (by rw [List.length_nil]; omega), Option.bind_some, List.nil_append, if_pos (by omega), ih k (l ++ [(x : Int)]) (by rw [List.length_append, List.length_singleton]; omega) (by omega), Option.bind_some, ← hfx, if_pos (by omega), wrap64_succ (by omega)]
          exact hnx
    exact loop n k 0 (by omega) (by omega)
/-! ### Sizes -/
theorem dia_row {n w : Nat} {r : List Int} (ht : Tab n w) (hr : r.length = n ∧ isPerm r = true) : impl_Table_diagram.f n w r = some (bld n r n 0 w [] []).2.2 ∧ (bld n r n 0 w [] []).2.2.length < 1000 := by
  have ho := ord_of ht.1 hr.1 hr.2
  have hp := pow_le ht.1
  have hn := ht.1
  have hw := walk_bld ho n 10 0 w [] [] (by omega) (by omega) ht (fun j hj => absurd hj (Nat.not_lt_zero _)) (by rw [List.length_nil]; omega)
  have hlen := (bld_len (n := n) (ord := r) n 0 w [] []).2.1
  rw [List.length_nil] at hlen
  refine ⟨?_, by omega⟩
  unfold impl_Table_diagram.f
  rw [if_pos ⟨wf_small (by omega), by omega⟩, hw, Option.bind_some]
theorem size_row {n w k : Nat} {r : List Int} (ht : Tab n w) (hr : r.length = n ∧ isPerm r = true) (hk : 1200000000001 < k) : spec_SizeOfDiagram.f k n w r = some ((dgN n w r : Nat) : Int) := by
  have hn := ht.1
  have hd := spec_diagram (n : Int) (w : Int) (l := r) (k := k) (by omega) hk
  have h1 := (dia_row ht hr).1
  have e : diaI (n : Int) (w : Int) r = ((bld n r n 0 w [] []).2.2, true) := by
    unfold diaI
    rw [if_pos (isTab_of ht), if_pos (by rw [Bool.and_eq_true, decide_eq_true_eq]; exact ⟨by omega, hr.2⟩), Int.toNat_natCast, Int.toNat_natCast]
  unfold spec_SizeOfDiagram.f dgN
  rw [hd, h1, Option.bind_some, Option.getD_some, e, if_pos rfl]
theorem all_rows {n w : Nat} (ht : Tab n w) {xs : List (List Int)} (h : ∀ r ∈ xs, r.length = n ∧ isPerm r = true) : dgOk n w xs = true := by
  have hn := ht.1
  unfold dgOk
  refine List.all_eq_true.mpr (fun r hr => ?_)
  obtain ⟨h1, h2⟩ := dia_row ht (h r hr)
  have h3 := (h r hr).1
  rw [h1]
  generalize (bld n r n 0 w [] []).2.2 = nodes at h2
  show (decide (nodes.length < 1000) && decide (r.length < 1000)) = true
  rw [decide_eq_true h2, decide_eq_true (show r.length < 1000 by omega)]
  rfl
/-! ### The first least one -/
def leI (a b : Int) : List Int × Int × Bool := if isTab a b = true then (if a ≤ 4 then ((lstF (dgN a b) (perF a.toNat a.toNat []) [] (-1)).1, (lstF (dgN a b) (perF a.toNat a.toNat []) [] (-1)).2, true) else ([], 0, false)) else ([], 0, false)
theorem impl_least {a b : Int} (h0 : -9223372036854775808 ≤ b) (h1 : b ≤ 9223372036854775807) : impl_LeastOrder.f a b = some (leI a b) := by
  unfold impl_LeastOrder.f impl_isSmall.f leI
  rw [impl_isTable h0 h1, Option.bind_some]
  cases hT : isTab a b with
  | false => rw [if_neg (by decide), Option.bind_some, if_neg (by decide), if_neg (by decide)]
  | true =>
    obtain ⟨n, w, rfl, rfl, ht⟩ := tab_of hT
    rw [if_pos rfl, Option.bind_some, if_pos rfl]
    by_cases h4 : (n : Int) ≤ 4
    · have hr := per_rows (n := n) (by omega)
      rw [decide_eq_true h4, if_pos rfl, if_pos h4]
      unfold impl_permutations.f
      rw [if_pos ⟨Int.natCast_nonneg _, h4⟩, Int.toNat_natCast, Option.bind_some, if_pos ⟨all_rows ht hr.2.2, hr.2.1⟩]
    · rw [decide_eq_false h4, if_neg (by decide), if_neg h4]
theorem rdRL {xs : List (List Int)} {x : Nat} (h : x < xs.length) : rd_L2 xs (x : Int) = lrd xs x := rfl
theorem least_loop {n w : Nat} (ht : Tab n w) {xs : List (List Int)} (hx : xs.length < 1000) (h : ∀ r ∈ xs, r.length = n ∧ isPerm r = true) : ∀ (e k i b : Nat) (m : Nat), i + e = xs.length → b < xs.length → e + 1300000000000 < k →
    spec_LeastOrder.l0 k xs b m i n w = some ((lstF (dgN n w) (xs.drop i) (lrd xs b) m).1, (lstF (dgN n w) (xs.drop i) (lrd xs b) m).2, true) := by
  intro e
  induction e with
  | zero =>
    intro k i b m hi hb hk
    obtain ⟨k, rfl⟩ : ∃ m, k = m + 1 := ⟨k - 1, by omega⟩
    obtain rfl : i = xs.length := by omega
    rw [spec_LeastOrder.l0, if_neg (by omega), if_pos (Int.natCast_nonneg _), if_pos (by omega), List.drop_length, lstF]
    rfl
  | succ e ih =>
    intro k i b m hi hb hk
    obtain ⟨k, rfl⟩ : ∃ m, k = m + 1 := ⟨k - 1, by omega⟩
    have hil : i < xs.length := by omega
    have hm := h _ (lrd_mem hil)
    rw [spec_LeastOrder.l0, if_pos (by omega), if_pos (Int.natCast_nonneg _), rdRL hil, size_row ht hm (by omega), Option.bind_some, lrd_drop hil, lstF, wrap64_succ (by omega)]
    generalize dgN n w (lrd xs i) = s
    by_cases hs : (s : Int) < (m : Int)
    · rw [if_pos hs, if_pos (.inr hs)]
      exact ih k (i + 1) i s (by omega) hil (by omega)
    · rw [if_neg hs, if_neg (by omega)]
      exact ih k (i + 1) b m (by omega) hb (by omega)
theorem spec_least (a b : Int) {k : Nat} (hk : 1400000000000 < k) : spec_LeastOrder.f k a b = some (leI a b) := by
  obtain ⟨k, rfl⟩ : ∃ m, k = m + 1 := ⟨k - 1, by omega⟩
  unfold spec_LeastOrder.f leI
  rw [spec_isTable, Option.bind_some]
  cases hT : isTab a b with
  | false => rw [if_neg (by decide), if_neg (by decide), spec_LeastOrder.j0, if_pos rfl]
  | true =>
    obtain ⟨n, w, rfl, rfl, ht⟩ := tab_of hT
    rw [if_pos rfl, if_pos rfl, spec_LeastOrder.j0]
    by_cases h4 : (n : Int) ≤ 4
    · obtain ⟨r1, r2, r3⟩ := per_rows (n := n) (by omega)
      have hp := perms_eq (n := n) (by omega) n k [] (by simp) (by omega)
      have hp' : spec_l4Perms.f k n ([] : List Int) = some (perF n n []) := hp
      rw [decide_eq_false (show ¬ (n : Int) > 4 by omega), if_neg (by decide), hp', Option.bind_some, if_pos h4, Int.toNat_natCast]
      generalize perF n n [] = xs at r1 r2 r3
      have e0 : rd_L2 xs 0 = lrd xs (0 : Nat) := rfl
      have hd := lrd_drop r1
      rw [List.drop_zero] at hd
      rw [if_pos (by omega), e0, size_row ht (r3 _ (lrd_mem r1)) (by omega), Option.bind_some]
      have hl := least_loop ht r2 r3 (xs.length - 1) k 1 0 (dgN n w (lrd xs (0 : Nat))) (by omega) r1 (by omega)
      have e1 : lstF (dgN n w) xs [] (-1) = lstF (dgN n w) (xs.drop 1) (lrd xs (0 : Nat)) (dgN n w (lrd xs (0 : Nat))) := by
        rw [hd, lstF, if_pos (.inl (by decide)), ← hd]
      rw [e1]
      exact hl
    · rw [decide_eq_true (show (n : Int) > 4 by omega), if_pos rfl, if_neg h4]
theorem lstF_len {sz : List Int → Nat} {n : Nat} : ∀ (xs : List (List Int)) (b : List Int) (m : Int), (∀ r ∈ xs, r.length ≤ n) → b.length ≤ n → (lstF sz xs b m).1.length ≤ n := by
  intro xs
  induction xs with
  | nil => intro b m _ hb; exact hb
  | cons r rs ih =>
    intro b m h hb
    rw [lstF]
    split
    · exact ih r _ (fun q hq => h q (List.mem_cons_of_mem _ hq)) (h r (List.mem_cons_self ..))
    · exact ih b m (fun q hq => h q (List.mem_cons_of_mem _ hq)) hb
theorem leI_len (a b : Int) : (leI a b).1.length ≤ 4 := by
  unfold leI
  cases hT : isTab a b with
  | false => rw [if_neg (by decide)]; exact Nat.zero_le _
  | true =>
    obtain ⟨n, w, rfl, rfl, ht⟩ := tab_of hT
    rw [if_pos rfl]
    by_cases h4 : (n : Int) ≤ 4
    · obtain ⟨_, _, r3⟩ := per_rows (n := n) (by omega)
      rw [if_pos h4, Int.toNat_natCast]
      exact lstF_len _ _ _ (fun r hr => by have := (r3 r hr).1; omega) (Nat.zero_le _)
    · rw [if_neg h4]; exact Nat.zero_le _
end Go.Proofs.Yticfnpfagadcoaa.U
