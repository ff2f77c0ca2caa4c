/- Lists of nodes that are compared. Nodes that are marked and held, as the laws do. -/
import Derived.Test.YticfnpfagadcoaaUL
import Derived.Test.YticfnpfagadcoaaFlawseqNodeS
import Derived.Test.YticfnpfagadcoaaFlawsmarkNodeS
import Derived.Test.YticfnpfagadcoaaFlawsheldNodeS
namespace Go.Proofs.Yticfnpfagadcoaa.U
open Go.RowKit Go.Proofs.YticfnpfagadcoaaW.PrintWords Go.Proofs.YticfnpfagadcoaaW.PrintLast Go.Proofs.YticfnpfagadcoaaW.PrintMore Go.Proofs.Yticfnpfagadcoaa.F Go.Proofs.Yticfnpfagadcoaa.B
set_option linter.unusedVariables false
set_option linter.unusedSimpArgs false
theorem eqNode_loop (l : List S139) (hl : l.length < 1099511627776) : ∀ d k x, x + d = l.length → d < k → laws_eqNodeS.l0 k l l (x : Nat) = some true := by
  intro d
  induction d with
  | zero =>
    intro k x hx hk
    obtain ⟨k, rfl⟩ : ∃ m, k = m + 1 := ⟨k - 1, by omega⟩
    obtain rfl : x = l.length := by omega
    simp only [laws_eqNodeS.l0]
    rw [if_neg (by omega)]
  | succ d ih =>
    intro k x hx hk
    obtain ⟨k, rfl⟩ : ∃ m, k = m + 1 := ⟨k - 1, by omega⟩
    simp only [laws_eqNodeS.l0, laws_eqNode.f]
    rw [if_pos (by omega), if_pos (by omega), if_pos (by omega), if_pos trivial, if_pos trivial, if_pos trivial, Option.bind_some, if_pos rfl, wrap64_succ (by omega)]
    exact ih k (x + 1) (by omega) (by omega)
theorem eqNode_self (l : List S139) {k : Nat} (hl : l.length < 1099511627776) (hk : l.length < k) : laws_eqNodeS.f k l l = some true := by
  unfold laws_eqNodeS.f
  rw [if_pos rfl]
  exact eqNode_loop l hl l.length k 0 (by omega) hk
end Go.Proofs.Yticfnpfagadcoaa.U

namespace Go.Proofs.Yticfnpfagadcoaa.U
open Go.RowKit Go.Proofs.YticfnpfagadcoaaW.PrintWords Go.Proofs.YticfnpfagadcoaaW.PrintLast Go.Proofs.YticfnpfagadcoaaW.PrintMore Go.Proofs.Yticfnpfagadcoaa.F Go.Proofs.Yticfnpfagadcoaa.B
set_option linter.unusedVariables false
set_option linter.unusedSimpArgs false
/-- A node with three numbers in a row. -/
def nd (q : Nat) : S139 := ⟨(q : Int), ((q + 1 : Nat) : Int), ((q + 1 + 1 : Nat) : Int)⟩
def marksN (q n : Nat) : List S139 := (List.range n).map fun i => nd (q + 3 * i)
theorem marksN_length (q n : Nat) : (marksN q n).length = n := by simp [marksN]
theorem marksN_succ (q n : Nat) : marksN q (n + 1) = marksN q n ++ [nd (q + 3 * n)] := by simp [marksN, List.range_succ]
theorem rdN_set (X : List S139) (v : S139) {x : Nat} (h : x < X.length) : rd_T139 (X.set x v) (x : Nat) = v := by
  unfold rd_T139
  rw [Int.toNat_natCast, List.getD_eq_getElem?_getD, List.getElem?_set_self h]
  rfl
theorem rdN_marks {q n x : Nat} (h : x < n) : rd_T139 (marksN q n) (x : Nat) = nd (q + 3 * x) := by
  unfold rd_T139
  rw [Int.toNat_natCast, List.getD_eq_getElem?_getD]
  simp [marksN, h]
theorem markN_step (q : Nat) (l : List S139) {x : Nat} (h : x < l.length) : (marksN q x ++ l.drop x).set x (nd (q + 3 * x)) = marksN q (x + 1) ++ l.drop (x + 1) := by
  rw [List.set_append, if_neg (by rw [marksN_length]; omega), marksN_length, Nat.sub_self, List.drop_eq_getElem_cons h, List.set_cons_zero, marksN_succ, List.append_assoc]
  rfl
theorem markN_loop (q : Nat) (l : List S139) (hl : q + 3 * l.length < 1099511627776) : ∀ d k x, x + d = l.length → d < k → laws_markNodeS.l0 k (marksN q x ++ l.drop x) ((q + 3 * x : Nat) : Int) (x : Nat) = some (((q + 3 * l.length : Nat) : Int), marksN q l.length) := by
  intro d
  induction d with
  | zero =>
    intro k x hx hk
    obtain ⟨k, rfl⟩ : ∃ m, k = m + 1 := ⟨k - 1, by omega⟩
    obtain rfl : x = l.length := by omega
    simp only [laws_markNodeS.l0, List.drop_length, List.append_nil, marksN_length]
    rw [if_neg (by omega)]
  | succ d ih =>
    intro k x hx hk
    obtain ⟨k, rfl⟩ : ∃ m, k = m + 1 := ⟨k - 1, by omega⟩
    have hX : x < (marksN q x ++ l.drop x).length := by rw [List.length_append, marksN_length, List.length_drop]; omega
    have hst := markN_step q l (x := x) (by omega)
    have hih := ih k (x + 1) (by omega) (by omega)
    rw [← hst] at hih
    clear ih hst
    generalize marksN q x ++ l.drop x = X at hX hih ⊢
    have h3 : ((q + 3 * (x + 1) : Nat) : Int) = ((q + 3 * x + 1 + 1 + 1 : Nat) : Int) := by omega
    rw [h3] at hih
    generalize hp : q + 3 * x = p at hih ⊢
    rw [laws_markNodeS.l0, if_pos (by omega), if_pos (Int.natCast_nonneg _), Option.bind_some, Option.bind_some, Int.toNat_natCast, rdN_set _ _ hX, List.set_set, List.set_set, List.set_set, rdN_set _ _ hX]
    dsimp only
    rw [wrap64_succ (by omega), wrap64_succ (by omega), wrap64_succ (by omega), wrap64_succ (by omega)]
    exact hih
theorem markN_some (q : Nat) (l : List S139) {k : Nat} (hl : q + 3 * l.length < 1099511627776) (hk : l.length < k) : laws_markNodeS.f k l q = some (((q + 3 * l.length : Nat) : Int), marksN q l.length) := by
  have h := markN_loop q l hl l.length k 0 (by omega) hk
  unfold laws_markNodeS.f
  simpa [marksN] using h
theorem heldN_loop (q n : Nat) (hl : q + 3 * n < 1099511627776) : ∀ d k x, x + d = n → d < k → laws_heldNodeS.l0 k (marksN q n) ((q + 3 * x : Nat) : Int) (x : Nat) = some ((q + 3 * n : Nat) : Int) := by
  intro d
  induction d with
  | zero =>
    intro k x hx hk
    obtain ⟨k, rfl⟩ : ∃ m, k = m + 1 := ⟨k - 1, by omega⟩
    obtain rfl : x = n := by omega
    rw [laws_heldNodeS.l0, if_neg (by rw [marksN_length]; omega)]
  | succ d ih =>
    intro k x hx hk
    obtain ⟨k, rfl⟩ : ∃ m, k = m + 1 := ⟨k - 1, by omega⟩
    have hih := ih k (x + 1) (by omega) (by omega)
    have h3 : ((q + 3 * (x + 1) : Nat) : Int) = ((q + 3 * x + 1 + 1 + 1 : Nat) : Int) := by omega
    rw [h3] at hih
    have hlen := marksN_length q n
    have hrd := rdN_marks (q := q) (n := n) (x := x) (by omega)
    generalize marksN q n = X at hih hlen hrd ⊢
    generalize hp : q + 3 * x = p at hih hrd ⊢
    rw [laws_heldNodeS.l0, if_pos (by omega), if_pos (Int.natCast_nonneg _), hrd]
    rw [if_pos (show (nd p).f0 = (p : Int) from rfl), wrap64_succ (by omega), if_pos (show (nd p).f1 = ((p + 1 : Nat) : Int) from rfl), wrap64_succ (by omega), if_pos (show (nd p).f2 = ((p + 1 + 1 : Nat) : Int) from rfl), wrap64_succ (by omega), wrap64_succ (by omega)]
    exact hih
theorem heldN_some (q n : Nat) {k : Nat} (hl : q + 3 * n < 1099511627776) (hk : n < k) : laws_heldNodeS.f k (marksN q n) q = some ((q + 3 * n : Nat) : Int) := by
  have h := heldN_loop q n hl n k 0 (by omega) hk
  unfold laws_heldNodeS.f
  simpa using h
end Go.Proofs.Yticfnpfagadcoaa.U
