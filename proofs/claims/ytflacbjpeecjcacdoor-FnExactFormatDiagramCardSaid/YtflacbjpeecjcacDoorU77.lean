/- The text of a diagram: the reference's is the program's. -/
import Derived.Test.YtflacbjpeecjcacDoorBase
import Derived.Test.YtflacbjpeecjcacDoorUG
import Derived.Test.YtflacbjpeecjcacDoorFimplFormatDiagram
import Derived.Test.YtflacbjpeecjcacDoorFspecFormatDiagram
import Derived.Test.YtflacbjpeecjcacDoorFspecFormatInt
namespace Go.Proofs.YtflacbjpeecjcacDoor.U
open Go.RowKit Go.Proofs.YtflacbjpeecjcacDoorW.PrintWords Go.Proofs.YtflacbjpeecjcacDoorW.PrintLast Go.Proofs.YtflacbjpeecjcacDoorW.PrintMore Go.Proofs.YtflacbjpeecjcacDoor.F Go.Proofs.YtflacbjpeecjcacDoor.B
set_option linter.unusedVariables false
set_option linter.unusedSimpArgs false
theorem num_some {n : Int} {k : Nat} (h : impl_FormatDiagram.endOk n = true) (hk : 5 ≤ k) : spec_FormatInt.f k n = some (impl_FormatDiagram.num n) := by
  have hh : ∀ i : Fin 33, spec_FormatInt.f 5 ((i.val : Int) - 2) = some (impl_FormatDiagram.num ((i.val : Int) - 2)) := by decide +kernel
  have h1 := of_decide_eq_true h
  obtain ⟨m, hm⟩ := Int.eq_ofNat_of_zero_le (show 0 ≤ n + 2 by omega)
  have h2 := hh ⟨m, by omega⟩
  have e : ((m : Nat) : Int) - 2 = n := by omega
  have h2 : spec_FormatInt.f 5 (((m : Nat) : Int) - 2) = some (impl_FormatDiagram.num (((m : Nat) : Int) - 2)) := h2
  rw [e] at h2
  exact at_rounds (g := fun K => spec_FormatInt.f K n) (fun K => spec_FormatInt.mono _ K) hk h2
theorem letter_is {v : Int} (h : 0 ≤ v ∧ v < 5) : ((⟨#[97, 98, 99, 100, 101]⟩ : ByteArray).extract v.toNat (wrap64 (v + 1)).toNat) = strOfNums [97 + v] := by
  obtain ⟨m, rfl⟩ := Int.eq_ofNat_of_zero_le h.1
  rw [wrap64_succ (by omega), Int.toNat_natCast, Int.toNat_natCast]
  have hh : ∀ m : Fin 5, ((⟨#[97, 98, 99, 100, 101]⟩ : ByteArray).extract m.val (m.val + 1)) = strOfNums [97 + ((m.val : Nat) : Int)] := by decide +kernel
  exact hh ⟨m, by omega⟩
/-- The words of the first nodes, with blanks between. -/
def strJ (l : List S30) : Nat → ByteArray
  | 0 => ⟨#[]⟩
  | m + 1 => if m = 0 then impl_FormatDiagram.word (rd_T30 l (m : Int)) else (strJ l m ++ ⟨#[32]⟩) ++ impl_FormatDiagram.word (rd_T30 l (m : Int))
theorem join_snoc (x : List UInt8) (r : List (List UInt8)) (y sep : List UInt8) : Lib.join ((x :: r) ++ [y]) sep = Lib.join (x :: r) sep ++ sep ++ y := by
  rw [List.cons_append, Lib.join_cons, Lib.join_cons]
  unfold Lib.joinTail
  rw [List.map_append, List.flatten_append, List.append_assoc, List.append_assoc]
  simp
theorem strJ_join (l : List S30) : ∀ m, strJ l m = ⟨(Lib.join ((impl_FormatDiagram.words l m).map (·.data.toList)) [32]).toArray⟩ := by
  intro m
  induction m with
  | zero => rfl
  | succ m ih =>
    rw [strJ, impl_FormatDiagram.words_succ, List.map_append]
    by_cases h : m = 0
    · subst h
      rw [if_pos rfl]
      have e : (impl_FormatDiagram.words l 0).map (·.data.toList) ++ [impl_FormatDiagram.word (rd_T30 l ((0 : Nat) : Int))].map (·.data.toList) = [(impl_FormatDiagram.word (rd_T30 l ((0 : Nat) : Int))).data.toList] := rfl
      rw [e, Lib.join_one]
    · rw [if_neg h, ih]
      have hl := impl_FormatDiagram.words_length l m
      generalize impl_FormatDiagram.words l m = ws at hl
      cases ws with
      | nil => exact absurd hl.symm h
      | cons x r =>
        rw [List.map_cons, List.map_singleton, join_snoc]
        apply ByteArray.ext
        rw [ByteArray.data_append, ByteArray.data_append]
        simp
theorem strJ_size {l : List S30} : ∀ m : Nat, (∀ i : Nat, i < m → impl_FormatDiagram.ok (rd_T30 l (i : Int)) = true) → (strJ l m).size ≤ 7 * m ∧ (0 < m → 0 < (strJ l m).size) := by
  intro m
  induction m with
  | zero => intro _; exact ⟨Nat.le_refl _, fun h => absurd h (Nat.lt_irrefl _)⟩
  | succ m ih =>
    intro h
    have h1 := (ih fun i hi => h i (by omega)).1
    have h2 := impl_FormatDiagram.word_size (h m (by omega))
    have h3 : 0 < (impl_FormatDiagram.word (rd_T30 l (m : Int))).size := by
      unfold impl_FormatDiagram.word
      rw [ByteArray.size_append, ByteArray.size_append, ByteArray.size_append, strOfNums_size, List.length_singleton]
      omega
    have h4 : (⟨#[32]⟩ : ByteArray).size = 1 := rfl
    rw [strJ]
    split
    · omega
    · rw [ByteArray.size_append, ByteArray.size_append]
      omega
theorem spec_text_step {l : List S30} (hl : l.length ≤ 31) {m k : Nat} (hm : m < l.length) (hk : 10 ≤ k) (ho : ∀ i : Nat, i < m → impl_FormatDiagram.ok (rd_T30 l (i : Int)) = true) :
    spec_FormatDiagram.l0 (k + 2) l (strJ l m) m = if impl_FormatDiagram.ok (rd_T30 l (m : Int)) = true then spec_FormatDiagram.l0 k l (strJ l (m + 1)) ((m + 1 : Nat) : Int) else some ⟨#[]⟩ := by
  have hs := (strJ_size m ho).1
  rw [show k + 2 = (k + 1) + 1 by omega, spec_FormatDiagram.l0, if_pos (by omega), if_pos (Int.natCast_nonneg _), if_neg (by omega), strJ]
  generalize hn : rd_T30 l (m : Int) = s
  obtain ⟨n0, n1, n2⟩ := s
  dsimp only
  have ein : ∀ x lo hi : Int, spec_l1In.f x lo hi = some (decide (lo ≤ x ∧ x ≤ hi)) := by
    intro x lo hi
    unfold spec_l1In.f
    by_cases h : x ≥ lo
    · rw [if_pos h]; congr 1; exact decide_eq_decide.mpr (by omega)
    · rw [if_neg h]; congr 1; symm; exact decide_eq_false (by omega)
  have hok : impl_FormatDiagram.ok ⟨n0, n1, n2⟩ = (decide (0 ≤ n0 ∧ n0 < 5) && (impl_FormatDiagram.endOk n1 && impl_FormatDiagram.endOk n2)) := rfl
  rw [ein, Option.bind_some, hok]
  by_cases c0 : 0 ≤ n0 ∧ n0 < 5
  · rw [decide_eq_true (show 0 ≤ n0 ∧ n0 ≤ 4 by omega), if_pos rfl, ein, Option.bind_some, decide_eq_true c0, Bool.true_and]
    by_cases c1 : impl_FormatDiagram.endOk n1 = true
    · have c1' := of_decide_eq_true c1
      rw [decide_eq_true (show -2 ≤ n1 ∧ n1 ≤ 30 by omega), if_pos rfl, ein, Option.bind_some, c1, Bool.true_and]
      by_cases c2 : impl_FormatDiagram.endOk n2 = true
      · have c2' := of_decide_eq_true c2
        have z1 := impl_FormatDiagram.num_size c1
        have z2 := impl_FormatDiagram.num_size c2
        have hw : impl_FormatDiagram.word ⟨n0, n1, n2⟩ = ((strOfNums [97 + n0] ++ impl_FormatDiagram.num n1) ++ ⟨#[44]⟩) ++ impl_FormatDiagram.num n2 := rfl
        have hz : (strOfNums [97 + n0]).size = 1 := by rw [strOfNums_size]; rfl
        have z4 : (⟨#[44]⟩ : ByteArray).size = 1 := rfl
        have z3 : (⟨#[32]⟩ : ByteArray).size = 1 := rfl
        have hwr : wrap64 (n0 + 1) = n0 + 1 := wrap64_of (by omega) (by omega)
        rw [decide_eq_true (show -2 ≤ n2 ∧ n2 ≤ 30 by omega), if_pos c2, spec_FormatDiagram.j1, if_neg (by decide), hw, letter_is c0]
        generalize strOfNums [97 + n0] = S at hz ⊢
        rw [num_some c1 (by omega), num_some c2 (by omega)]
        generalize impl_FormatDiagram.num n1 = A at z1 ⊢
        generalize impl_FormatDiagram.num n2 = C at z2 ⊢
        by_cases h0 : m = 0
        · subst h0
          rw [if_neg (by omega), if_pos c0.1, if_pos (by omega), if_pos (by omega), if_pos (by rw [hz]; omega), Option.bind_some, if_pos (by rw [ByteArray.size_append]; omega), if_pos (by rw [ByteArray.size_append, ByteArray.size_append]; omega), Option.bind_some, if_pos (by rw [ByteArray.size_append, ByteArray.size_append, ByteArray.size_append]; omega), if_pos rfl, wrap64_succ (by omega)]
          have e : strJ l 0 = ⟨#[]⟩ := rfl
          have e2 : (⟨#[]⟩ : ByteArray) ++ S = S := ByteArray.empty_append
          rw [e, e2]
        · rw [if_pos (by omega), if_pos (by omega), if_pos c0.1, if_pos (by omega), if_pos (by omega), if_pos (by rw [ByteArray.size_append]; omega), Option.bind_some, if_pos (by rw [ByteArray.size_append, ByteArray.size_append]; omega), if_pos (by rw [ByteArray.size_append, ByteArray.size_append, ByteArray.size_append]; omega), Option.bind_some, if_pos (by rw [ByteArray.size_append, ByteArray.size_append, ByteArray.size_append, ByteArray.size_append]; omega), if_neg h0, wrap64_succ (by omega)]
          simp only [ByteArray.append_assoc]
      · rw [decide_eq_false (fun z => c2 (decide_eq_true (by omega))), if_neg c2, spec_FormatDiagram.j1, if_pos (show (!false) = true from rfl)]
    · rw [decide_eq_false (fun z => c1 (decide_eq_true (by omega))), if_neg (by decide), spec_FormatDiagram.j1, if_pos rfl, Bool.eq_false_iff.mpr c1, Bool.false_and, if_neg (by decide)]
  · rw [decide_eq_false (show ¬ (0 ≤ n0 ∧ n0 ≤ 4) by omega), if_neg (by decide), spec_FormatDiagram.j1, if_pos rfl, decide_eq_false c0, Bool.false_and, if_neg (by decide)]
theorem spec_text_loop {l : List S30} (hl : l.length ≤ 31) (h0 : 0 < l.length) : ∀ d k m : Nat, m + d = l.length → 2 * d + 20 < k → (∀ i : Nat, i < m → impl_FormatDiagram.ok (rd_T30 l (i : Int)) = true) →
    spec_FormatDiagram.l0 k l (strJ l m) m = if allN (fun i => impl_FormatDiagram.ok (rd_T30 l (i : Int))) l.length = true then some (strJ l l.length) else some ⟨#[]⟩ := by
  intro d
  induction d with
  | zero =>
    intro k m hm hk ho
    obtain ⟨k, rfl⟩ : ∃ z, k = z + 1 := ⟨k - 1, by omega⟩
    obtain rfl : m = l.length := by omega
    have hs := (strJ_size l.length ho).2 h0
    rw [spec_FormatDiagram.l0, if_neg (by omega), if_pos (allN_iff.mpr ho), if_neg]
    intro he
    have e : (strJ l l.length).toList = (strJ l l.length).data.toList := ByteArray.toList_eq _
    rw [e] at he
    have : (strJ l l.length).data.toList.length = 0 := by rw [he]; rfl
    have h2 : (strJ l l.length).size = (strJ l l.length).data.toList.length := rfl
    omega
  | succ d ih =>
    intro k m hm hk ho
    obtain ⟨k, rfl⟩ : ∃ z, k = z + 2 := ⟨k - 2, by omega⟩
    rw [spec_text_step hl (by omega) (by omega) ho]
    by_cases c : impl_FormatDiagram.ok (rd_T30 l (m : Int)) = true
    · rw [if_pos c]
      refine ih k (m + 1) (by omega) (by omega) fun i hi => ?_
      by_cases e : i = m
      · subst e; exact c
      · exact ho i (by omega)
    · rw [if_neg c, if_neg fun z => c (allN_iff.mp z m (by omega))]
/-- The reference's text is the program's, whatever the nodes. -/
theorem text_both (l : List S30) {k : Nat} (hk : 100 < k) (hl : l.length ≤ 9223372036854775807) : ∃ s, impl_FormatDiagram.f l = some s ∧ spec_FormatDiagram.f k l = some s := by
  unfold impl_FormatDiagram.f spec_FormatDiagram.f
  by_cases h0 : l.length = 0
  · obtain ⟨k, rfl⟩ : ∃ z, k = z + 1 := ⟨k - 1, by omega⟩
    refine ⟨_, if_pos h0, ?_⟩
    rw [spec_FormatDiagram.l0, if_neg (by omega), if_pos (show (⟨#[]⟩ : ByteArray).toList = [] by rw [ByteArray.toList_eq])]
  · rw [if_neg h0]
    by_cases h1 : 31 < l.length
    · obtain ⟨k, rfl⟩ : ∃ z, k = z + 2 := ⟨k - 2, by omega⟩
      refine ⟨_, if_pos h1, ?_⟩
      rw [spec_FormatDiagram.l0, if_pos (by omega), if_pos (Int.le_refl 0), if_pos (by omega), spec_FormatDiagram.j1, if_pos rfl]
    · rw [if_neg h1]
      have h := spec_text_loop (l := l) (by omega) (by omega) l.length k 0 (by omega) (by omega) (fun i hi => absurd hi (Nat.not_lt_zero _))
      have h : spec_FormatDiagram.l0 k l ⟨#[]⟩ 0 = _ := h
      rw [h, strJ_join]
      by_cases c : allN (fun i => impl_FormatDiagram.ok (rd_T30 l (i : Int))) l.length = true
      · rw [if_pos c]; exact ⟨_, rfl, rfl⟩
      · rw [if_neg c]; exact ⟨_, rfl, rfl⟩
end Go.Proofs.YtflacbjpeecjcacDoor.U
