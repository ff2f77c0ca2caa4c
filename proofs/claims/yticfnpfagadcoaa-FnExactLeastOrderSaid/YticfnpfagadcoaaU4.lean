/- Lists that are compared, marked and held, as the laws do. -/
import Derived.Test.YticfnpfagadcoaaBase
import Derived.Test.YticfnpfagadcoaaFGb
namespace Go.Proofs.Yticfnpfagadcoaa.U
open Go.RowKit Go.Proofs.YticfnpfagadcoaaW.PrintWords Go.Proofs.YticfnpfagadcoaaW.PrintLast Go.Proofs.YticfnpfagadcoaaW.PrintMore Go.Proofs.Yticfnpfagadcoaa.F Go.Proofs.Yticfnpfagadcoaa.B
set_option linter.unusedVariables false
set_option linter.unusedSimpArgs false
theorem rd_cast (l : List Int) (x : Nat) : rd l (x : Int) = l.getD x 0 := by unfold rd; rw [Int.toNat_natCast]
theorem eqInt_loop (l : List Int) (hl : l.length < 1099511627776) : ∀ d k x, x + d = l.length → d < k → laws_eqIntS.l0 k l l (x : Nat) = some true := by
  intro d
  induction d with
  | zero =>
    intro k x hx hk
    obtain ⟨k, rfl⟩ : ∃ m, k = m + 1 := ⟨k - 1, by omega⟩
    simp only [laws_eqIntS.l0]
    rw [if_neg (by omega)]
  | succ d ih =>
    intro k x hx hk
    obtain ⟨k, rfl⟩ : ∃ m, k = m + 1 := ⟨k - 1, by omega⟩
    simp only [laws_eqIntS.l0]
    rw [if_pos (by omega), if_pos (by omega), if_pos (by omega), if_pos trivial, wrap64_succ (by omega)]
    exact ih k (x + 1) (by omega) (by omega)
theorem eqInt_self (l : List Int) {k : Nat} (hl : l.length < 1099511627776) (hk : l.length < k) : laws_eqIntS.f k l l = some true := by
  unfold laws_eqIntS.f
  rw [if_pos rfl]
  exact eqInt_loop l hl l.length k 0 (by omega) hk
/-- What marking leaves: the numbers from 1 on. -/
def marks (n : Nat) : List Int := (List.range n).map fun i => ((i + 1 : Nat) : Int)
theorem marks_length (n : Nat) : (marks n).length = n := by simp [marks]
theorem marks_succ (n : Nat) : marks (n + 1) = marks n ++ [((n + 1 : Nat) : Int)] := by simp [marks, List.range_succ]
theorem marks_get {n i : Nat} (h : i < n) : (marks n).getD i 0 = ((i + 1 : Nat) : Int) := by
  simp [marks, List.getD_eq_getElem?_getD, h]
theorem mark_step (l : List Int) {x : Nat} (h : x < l.length) : (marks x ++ l.drop x).set x ((x + 1 : Nat) : Int) = marks (x + 1) ++ l.drop (x + 1) := by
  rw [List.set_append, if_neg (by rw [marks_length]; omega), marks_length, Nat.sub_self, List.drop_eq_getElem_cons h, List.set_cons_zero, marks_succ, List.append_assoc]
  rfl
theorem mark_loop (l : List Int) (hl : l.length < 1099511627776) : ∀ d k x, x + d = l.length → d < k → laws_markIntS.l0 k (marks x ++ l.drop x) ((x + 1 : Nat) : Int) (x : Nat) = some (((l.length + 1 : Nat) : Int), marks l.length) := by
  intro d
  induction d with
  | zero =>
    intro k x hx hk
    obtain ⟨k, rfl⟩ : ∃ m, k = m + 1 := ⟨k - 1, by omega⟩
    obtain rfl : x = l.length := by omega
    simp only [laws_markIntS.l0, List.drop_length, List.append_nil, marks_length]
    rw [if_neg (by omega)]
  | succ d ih =>
    intro k x hx hk
    obtain ⟨k, rfl⟩ : ∃ m, k = m + 1 := ⟨k - 1, by omega⟩
    simp only [laws_markIntS.l0]
    rw [if_pos (by rw [List.length_append, marks_length, List.length_drop]; omega), if_pos (by omega), Int.toNat_natCast, mark_step l (by omega), wrap64_succ (by omega), wrap64_succ (by omega)]
    exact ih k (x + 1) (by omega) (by omega)
theorem mark_some (l : List Int) {k : Nat} (hl : l.length < 1099511627776) (hk : l.length < k) : laws_markIntS.f k l 1 = some (((l.length + 1 : Nat) : Int), marks l.length) := by
  have h := mark_loop l hl l.length k 0 (by omega) hk
  unfold laws_markIntS.f
  simpa [marks] using h
theorem held_loop (n : Nat) (hl : n < 1099511627776) : ∀ d k x, x + d = n → d < k → laws_heldIntS.l0 k (marks n) ((x + 1 : Nat) : Int) (x : Nat) = some ((n + 1 : Nat) : Int) := by
  intro d
  induction d with
  | zero =>
    intro k x hx hk
    obtain ⟨k, rfl⟩ : ∃ m, k = m + 1 := ⟨k - 1, by omega⟩
    obtain rfl : x = n := by omega
    simp only [laws_heldIntS.l0, marks_length]
    rw [if_neg (by omega)]
  | succ d ih =>
    intro k x hx hk
    obtain ⟨k, rfl⟩ : ∃ m, k = m + 1 := ⟨k - 1, by omega⟩
    simp only [laws_heldIntS.l0, marks_length]
    rw [if_pos (by omega), if_pos (by omega), rd_cast, marks_get (by omega), if_pos rfl, wrap64_succ (by omega), wrap64_succ (by omega)]
    exact ih k (x + 1) (by omega) (by omega)
theorem held_some (n : Nat) {k : Nat} (hl : n < 1099511627776) (hk : n < k) : laws_heldIntS.f k (marks n) 1 = some ((n + 1 : Nat) : Int) := by
  have h := held_loop n hl n k 0 (by omega) hk
  unfold laws_heldIntS.f
  simpa using h
end Go.Proofs.Yticfnpfagadcoaa.U
