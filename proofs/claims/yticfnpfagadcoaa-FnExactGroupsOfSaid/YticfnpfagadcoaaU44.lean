/- Groups of variables: both ways; rows that are marked and held. -/
import Derived.Test.YticfnpfagadcoaaU14
import Derived.Test.YticfnpfagadcoaaFspecGroupsOf
import Derived.Test.YticfnpfagadcoaaFimplGroupsOf
namespace Go.Proofs.Yticfnpfagadcoaa.U
open Go.RowKit Go.Proofs.YticfnpfagadcoaaW.PrintWords Go.Proofs.YticfnpfagadcoaaW.PrintLast Go.Proofs.YticfnpfagadcoaaW.PrintMore Go.Proofs.Yticfnpfagadcoaa.F Go.Proofs.Yticfnpfagadcoaa.B
set_option linter.unusedVariables false
set_option linter.unusedSimpArgs false
theorem spec_grp_l1 {a b R' : Int} {n i : Nat} {xs : List (List Int)} {R : List (List Int)} (hn : n ≤ 5) (hi : i < n) (hok : GrpOk i xs) {m : Nat} (hnext : ∀ k, m < k → spec_GroupsOf.l0 k (grpPut (exchB n b) (i : Int) xs) ((i + 1 : Nat) : Int) n b = some R) :
    ∀ (d k p : Nat), p + d = xs.length → (∀ j : Nat, j < p → exchB n b (rd (rdL xs j) 0) (i : Int) = false) → 2 * d + m + 90 < k → spec_GroupsOf.l1 k xs i false p n b = some R := by
  have hl := hok.1
  intro d
  induction d with
  | zero =>
    intro k p hp hno hk
    obtain ⟨k, rfl⟩ : ∃ m, k = m + 2 := ⟨k - 2, by omega⟩
    rw [spec_GroupsOf.l1, if_neg (by omega), spec_GroupsOf.j3, if_neg (by decide), if_neg (by decide), if_pos (by omega), wrap64_succ (by omega)]
    have h := hnext k (by omega)
    rw [grpPut_miss (exchB n b) (i : Int) xs (fun j hj => hno j (by omega))] at h
    exact h
  | succ d ih =>
    intro k p hp hno hk
    obtain ⟨k, rfl⟩ : ∃ m, k = m + 2 := ⟨k - 2, by omega⟩
    have hp2 : p < xs.length := by omega
    obtain ⟨h1, h2, _⟩ := hok.2 _ (rdL_mem hp2)
    have hrl : rd_L2 xs (p : Int) = rdL xs p := rfl
    rw [spec_GroupsOf.l1, if_pos (by omega), spec_GroupsOf.j3, Bool.not_false, if_pos rfl, if_pos (Int.natCast_nonneg _), if_pos (by omega), hrl, if_pos (by omega), spec_exch _ _ _ _ (by omega), Option.bind_some]
    cases he : exchB n b (rd (rdL xs p) 0) (i : Int) with
    | false =>
      rw [if_neg (by decide), wrap64_succ (by omega)]
      exact ih k (p + 1) (by omega) (fun j hj => by
        by_cases e : j = p
        · rw [e]; exact he
        · exact hno j (by omega)) (by omega)
    | true =>
      rw [if_pos rfl, if_pos (by omega), wrap64_succ (by omega), Int.toNat_natCast, ← grpPut_hit (exchB n b) (i : Int) xs p hp2 he hno]
      obtain ⟨k, rfl⟩ : ∃ m, k = m + 2 := ⟨k - 2, by omega⟩
      have hj : spec_GroupsOf.j3 (k + 1) (grpPut (exchB n b) (i : Int) xs) i true ((p + 1 : Nat) : Int) false n b = some R := by
        rw [spec_GroupsOf.j3, if_neg (by decide), if_pos rfl, wrap64_succ (by omega)]
        exact hnext k (by omega)
      rw [spec_GroupsOf.l1]
      split
      · exact hj
      · exact hj
theorem spec_grp_l0 {b : Int} {n : Nat} (hT : isTab n b = true) (hn : n ≤ 5) : ∀ (d k i : Nat), i + d = n → d * 120 + 5 < k → spec_GroupsOf.l0 k (grpN (exchB n b) i) i n b = some (grpN (exchB n b) n) := by
  intro d
  induction d with
  | zero =>
    intro k i hi hk
    obtain ⟨k, rfl⟩ : ∃ m, k = m + 2 := ⟨k - 2, by omega⟩
    obtain rfl : i = n := by omega
    rw [spec_GroupsOf.l0, spec_isTable, hT, Option.bind_some, if_pos rfl, spec_GroupsOf.j1, decide_eq_false (by omega), if_neg (by decide)]
  | succ d ih =>
    intro k i hi hk
    obtain ⟨k, rfl⟩ : ∃ m, k = m + 2 := ⟨k - 2, by omega⟩
    rw [spec_GroupsOf.l0, spec_isTable, hT, Option.bind_some, if_pos rfl, spec_GroupsOf.j1, decide_eq_true (by omega), if_pos rfl]
    have hok := grpN_ok (exchB n b) i
    exact spec_grp_l1 (R' := 0) (a := 0) hn (by omega) hok (m := d * 120 + 5) (fun k hk => ih k (i + 1) (by omega) hk) (grpN (exchB n b) i).length k 0 (by omega) (fun j hj => absurd hj (Nat.not_lt_zero _)) (by have := hok.1; omega)
/-- What both say. -/
def grpI (a b : Int) : List (List Int) := if isTab a b = true then grpN (exchB a b) a.toNat else []
theorem spec_groups (a b : Int) {k : Nat} (hk : 800 < k) : spec_GroupsOf.f k a b = some (grpI a b) := by
  unfold spec_GroupsOf.f grpI
  cases hT : isTab a b with
  | false =>
    obtain ⟨k, rfl⟩ : ∃ m, k = m + 2 := ⟨k - 2, by omega⟩
    rw [spec_GroupsOf.l0, spec_isTable, hT, Option.bind_some, if_neg (by decide), spec_GroupsOf.j1, if_neg (by decide), if_neg (by decide)]
  | true =>
    obtain ⟨n, w, rfl, rfl, ht⟩ := tab_of hT
    have := ht.1
    rw [if_pos rfl, Int.toNat_natCast]
    exact spec_grp_l0 hT ht.1 n k 0 (by omega) (by omega)
theorem grpN_congr {ex ex' : Int → Int → Bool} : ∀ i : Nat, (∀ x y : Nat, y < i → x < y → ex x y = ex' x y) → grpN ex i = grpN ex' i := by
  intro i
  induction i with
  | zero => intro _; rfl
  | succ i ih =>
    intro h
    rw [grpN, grpN, ih (fun x y hy hx => h x y (by omega) hx)]
    have hok := (grpN_ok ex' i).2
    generalize grpN ex' i = xs at hok
    induction xs with
    | nil => rfl
    | cons l ls ihl =>
      obtain ⟨_, _, y, hy, hyi⟩ := hok l (List.mem_cons_self ..)
      rw [grpPut, grpPut, hy, h y i (by omega) hyi, ihl (fun l hl => hok l (List.mem_cons_of_mem _ hl))]
theorem impl_groups {a b : Int} (h0 : -9223372036854775808 ≤ b) (h1 : b ≤ 9223372036854775807) : impl_GroupsOf.f a b = some (grpI a b) := by
  unfold impl_GroupsOf.f grpI
  rw [impl_isTable h0 h1, Option.bind_some]
  cases hT : isTab a b with
  | false => rw [if_neg (by decide), if_neg (by decide)]
  | true =>
    obtain ⟨n, w, rfl, rfl, ht⟩ := tab_of hT
    have hn := ht.1
    rw [if_pos rfl, if_pos rfl, if_pos (by omega), Int.toNat_natCast]
    have hd : grpDom n n w = true := by
      unfold grpDom
      rw [allN_iff]
      intro i hi
      rw [allN_iff]
      intro j hj
      rw [impl_exch h0 h1 _ _ (by omega)]
      rfl
    rw [if_pos hd]
    congr 1
    refine grpN_congr n (fun x y hy hx => ?_)
    unfold grpEx
    rw [impl_exch h0 h1 _ _ (by omega)]
    cases exchB n w x y <;> rfl
theorem grpI_ok (a b : Int) : (grpI a b).length ≤ 5 ∧ ∀ l ∈ grpI a b, l.length ≤ 5 := by
  unfold grpI
  split
  next h =>
    obtain ⟨n, w, rfl, rfl, ht⟩ := tab_of h
    have hn := ht.1
    obtain ⟨h1, h2⟩ := grpN_ok (exchB n w) n
    rw [Int.toNat_natCast]
    exact ⟨by omega, fun l hl => by have := (h2 l hl).2.1; omega⟩
  next => exact ⟨Nat.zero_le _, fun l hl => by cases hl⟩
end Go.Proofs.Yticfnpfagadcoaa.U
