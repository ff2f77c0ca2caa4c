/- Rows of numbers that are compared, marked and held, as the laws do. -/
import Derived.Test.YticfnpfagadcoaaU4
import Derived.Test.YticfnpfagadcoaaFlawseqIntSS
import Derived.Test.YticfnpfagadcoaaFlawsheldIntSS
import Derived.Test.YticfnpfagadcoaaFlawsmarkIntSS
namespace Go.Proofs.Yticfnpfagadcoaa.U
open Go.RowKit Go.Proofs.YticfnpfagadcoaaW.PrintWords Go.Proofs.YticfnpfagadcoaaW.PrintLast Go.Proofs.YticfnpfagadcoaaW.PrintMore Go.Proofs.Yticfnpfagadcoaa.F Go.Proofs.Yticfnpfagadcoaa.B
set_option linter.unusedVariables false
set_option linter.unusedSimpArgs false
theorem eqRows_loop (r : List (List Int)) (K : Nat) (hl : r.length < 1000) (hr : ∀ l ∈ r, l.length < 1000) : ∀ d k x, x + d = r.length → d + 1000 < k → laws_eqIntSS.l0 k r r (x : Nat) = some true := by
  intro d
  induction d with
  | zero =>
    intro k x hx hk
    obtain ⟨k, rfl⟩ : ∃ m, k = m + 1 := ⟨k - 1, by omega⟩
    rw [laws_eqIntSS.l0, if_neg (by omega)]
  | succ d ih =>
    intro k x hx hk
    obtain ⟨k, rfl⟩ : ∃ m, k = m + 1 := ⟨k - 1, by omega⟩
    have hm : rd_L2 r (x : Int) ∈ r := by
      unfold rd_L2
      rw [Int.toNat_natCast, List.getD_eq_getElem?_getD, List.getElem?_eq_getElem (show x < r.length by omega)]
      exact List.getElem_mem _
    have := hr _ hm
    rw [laws_eqIntSS.l0, if_pos (by omega), if_pos (Int.natCast_nonneg _), if_pos (by omega), eqInt_self _ (by omega) (by omega), Option.bind_some, if_pos rfl, wrap64_succ (by omega)]
    exact ih k (x + 1) (by omega) (by omega)
theorem eqRows_self (r : List (List Int)) {k : Nat} (hl : r.length < 1000) (hr : ∀ l ∈ r, l.length < 1000) (hk : 3000 < k) : laws_eqIntSS.f k r r = some true := by
  unfold laws_eqIntSS.f
  rw [if_pos rfl]
  exact eqRows_loop r 0 hl hr r.length k 0 (by omega) (by omega)
/-- The numbers from q on. -/
def marksF (q n : Nat) : List Int := (List.range n).map fun i => ((q + i : Nat) : Int)
theorem marksF_length (q n : Nat) : (marksF q n).length = n := by simp [marksF]
theorem marksF_succ (q n : Nat) : marksF q (n + 1) = marksF q n ++ [((q + n : Nat) : Int)] := by simp [marksF, List.range_succ]
theorem marksF_get {q n i : Nat} (h : i < n) : (marksF q n).getD i 0 = ((q + i : Nat) : Int) := by
  simp [marksF, List.getD_eq_getElem?_getD, h]
theorem markF_step (q : Nat) (l : List Int) {x : Nat} (h : x < l.length) : (marksF q x ++ l.drop x).set x ((q + x : Nat) : Int) = marksF q (x + 1) ++ l.drop (x + 1) := by
  rw [List.set_append, if_neg (by rw [marksF_length]; omega), marksF_length, Nat.sub_self, List.drop_eq_getElem_cons h, List.set_cons_zero, marksF_succ, List.append_assoc]
  rfl
theorem markF_loop (q : Nat) (l : List Int) (hl : q + l.length < 1099511627776) : ∀ d k x, x + d = l.length → d < k → laws_markIntS.l0 k (marksF q x ++ l.drop x) ((q + x : Nat) : Int) (x : Nat) = some (((q + l.length : Nat) : Int), marksF q l.length) := by
  intro d
  induction d with
  | zero =>
    intro k x hx hk
    obtain ⟨k, rfl⟩ : ∃ m, k = m + 1 := ⟨k - 1, by omega⟩
    obtain rfl : x = l.length := by omega
    simp only [laws_markIntS.l0, List.drop_length, List.append_nil, marksF_length]
    rw [if_neg (by omega)]
  | succ d ih =>
    intro k x hx hk
    obtain ⟨k, rfl⟩ : ∃ m, k = m + 1 := ⟨k - 1, by omega⟩
    simp only [laws_markIntS.l0]
    rw [if_pos (by rw [List.length_append, marksF_length, List.length_drop]; omega), if_pos (by omega), Int.toNat_natCast, markF_step q l (by omega), wrap64_succ (by omega), wrap64_succ (by omega)]
    exact ih k (x + 1) (by omega) (by omega)
theorem markF_some (q : Nat) (l : List Int) {k : Nat} (hl : q + l.length < 1099511627776) (hk : l.length < k) : laws_markIntS.f k l q = some (((q + l.length : Nat) : Int), marksF q l.length) := by
  have h := markF_loop q l hl l.length k 0 (by omega) hk
  unfold laws_markIntS.f
  simpa [marksF] using h
theorem heldF_loop (q n : Nat) (hl : q + n < 1099511627776) : ∀ d k x, x + d = n → d < k → laws_heldIntS.l0 k (marksF q n) ((q + x : Nat) : Int) (x : Nat) = some ((q + n : Nat) : Int) := by
  intro d
  induction d with
  | zero =>
    intro k x hx hk
    obtain ⟨k, rfl⟩ : ∃ m, k = m + 1 := ⟨k - 1, by omega⟩
    obtain rfl : x = n := by omega
    simp only [laws_heldIntS.l0, marksF_length]
    rw [if_neg (by omega)]
  | succ d ih =>
    intro k x hx hk
    obtain ⟨k, rfl⟩ : ∃ m, k = m + 1 := ⟨k - 1, by omega⟩
    simp only [laws_heldIntS.l0, marksF_length]
    rw [if_pos (by omega), if_pos (by omega), rd_cast, marksF_get (by omega), if_pos rfl, wrap64_succ (by omega), wrap64_succ (by omega)]
    exact ih k (x + 1) (by omega) (by omega)
theorem heldF_some (q n : Nat) {k : Nat} (hl : q + n < 1099511627776) (hk : n < k) : laws_heldIntS.f k (marksF q n) q = some ((q + n : Nat) : Int) := by
  have h := heldF_loop q n hl n k 0 (by omega) hk
  unfold laws_heldIntS.f
  simpa using h
/-- All rows, marked one behind the other. -/
def mkF : Nat → List (List Int) → List (List Int)
  | _, [] => []
  | q, l :: ls => marksF q l.length :: mkF (q + l.length) ls
def totL : List (List Int) → Nat
  | [] => 0
  | l :: ls => l.length + totL ls
theorem mkF_length : ∀ (xs : List (List Int)) (q : Nat), (mkF q xs).length = xs.length := by
  intro xs
  induction xs with
  | nil => intro q; rfl
  | cons l ls ih => intro q; rw [mkF, List.length_cons, List.length_cons, ih]
theorem mkLL_some {k : Nat} : ∀ (xs : List (List Int)) (q : Nat), q + totL xs < 1099511627776 → (∀ l ∈ xs, l.length < k) → mkLL k q xs = some (((q + totL xs : Nat) : Int), mkF q xs) := by
  intro xs
  induction xs with
  | nil => intro q _ _; rfl
  | cons l ls ih =>
    intro q hq hl
    rw [totL] at hq
    rw [mkLL, markF_some q l (by omega) (hl l (List.mem_cons_self ..)), Option.bind_some, ih (q + l.length) (by omega) (fun l hl' => hl l (List.mem_cons_of_mem _ hl')), Option.bind_some, totL, mkF, Nat.add_assoc]
theorem heldRows_loop (zs : List (List Int)) : ∀ (ys : List (List Int)) (k p q : Nat), zs.drop p = mkF q ys → p ≤ zs.length → zs.length < 1000 → q + totL ys < 1099511627776 → (∀ l ∈ ys, l.length < 1000) → ys.length + 1000 < k → laws_heldIntSS.l0 k zs q p = some ((q + totL ys : Nat) : Int) := by
  intro ys
  induction ys with
  | nil =>
    intro k p q hd hp hz hq hl hk
    obtain ⟨k, rfl⟩ : ∃ m, k = m + 1 := ⟨k - 1, by omega⟩
    have h := congrArg List.length hd
    rw [List.length_drop, mkF, List.length_nil] at h
    rw [laws_heldIntSS.l0, if_neg (by omega)]
    rfl
  | cons l ls ih =>
    intro k p q hd hp hz hq hl hk
    obtain ⟨k, rfl⟩ : ∃ m, k = m + 1 := ⟨k - 1, by omega⟩
    rw [List.length_cons] at hk
    rw [totL] at hq
    rw [mkF] at hd
    have h := congrArg List.length hd
    rw [List.length_drop, List.length_cons] at h
    have hlt : p < zs.length := by omega
    rw [List.drop_eq_getElem_cons hlt, List.cons.injEq] at hd
    have hrow : rd_L2 zs (p : Int) = marksF q l.length := by
      unfold rd_L2
      rw [Int.toNat_natCast, List.getD_eq_getElem?_getD, List.getElem?_eq_getElem hlt, ← hd.1]
      rfl
    have hl0 := hl l (List.mem_cons_self ..)
    rw [laws_heldIntSS.l0, if_pos (by omega), if_pos (Int.natCast_nonneg _), hrow, heldF_some q l.length (by omega) (by omega), Option.bind_some, if_neg (by omega), wrap64_succ (by omega), totL, ← Nat.add_assoc]
    exact ih k (p + 1) (q + l.length) hd.2 (by omega) hz (by omega) (fun l hl' => hl l (List.mem_cons_of_mem _ hl')) (by omega)
theorem heldRows_some (xs : List (List Int)) {k : Nat} (h1 : xs.length < 1000) (h2 : 1 + totL xs < 1099511627776) (h3 : ∀ l ∈ xs, l.length < 1000) (hk : 3000 < k) : laws_heldIntSS.f k (mkF 1 xs) 1 = some ((1 + totL xs : Nat) : Int) := by
  unfold laws_heldIntSS.f
  exact heldRows_loop (mkF 1 xs) xs k 0 1 rfl (Nat.zero_le _) (by rw [mkF_length]; exact h1) h2 h3 (by omega)
theorem totL_le : ∀ (xs : List (List Int)) (m : Nat), (∀ l ∈ xs, l.length ≤ m) → totL xs ≤ xs.length * m := by
  intro xs
  induction xs with
  | nil => intro m _; exact Nat.zero_le _
  | cons l ls ih =>
    intro m h
    have h1 := h l (List.mem_cons_self ..)
    have h2 := ih m (fun l hl => h l (List.mem_cons_of_mem _ hl))
    rw [totL, List.length_cons, Nat.succ_mul]
    omega
end Go.Proofs.Yticfnpfagadcoaa.U
