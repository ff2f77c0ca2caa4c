/- The table of points: both ways. -/
import Derived.Test.YtnkkkabdpbonaaaU6
import Derived.Test.YtnkkkabdpbonaaaU4
import Derived.Test.YtnkkkabdpbonaaaFimplTableOfPoints
import Derived.Test.YtnkkkabdpbonaaaFspecTableOfPoints
import Derived.Test.YtnkkkabdpbonaaaFGb
namespace Go.Proofs.Ytnkkkabdpbonaaa.U
open Go.RowKit Go.Proofs.YtnkkkabdpbonaaaW.PrintWords Go.Proofs.YtnkkkabdpbonaaaW.PrintLast Go.Proofs.YtnkkkabdpbonaaaW.PrintMore Go.Proofs.Ytnkkkabdpbonaaa.F Go.Proofs.Ytnkkkabdpbonaaa.B
set_option linter.unusedVariables false
set_option linter.unusedSimpArgs false
theorem copy_step (l : List Int) {x : Nat} (h : x < l.length) : (l.take x ++ List.replicate (l.length - x) 0).set x (l.getD x 0) = l.take (x + 1) ++ List.replicate (l.length - (x + 1)) 0 := by
  obtain ⟨d, hd⟩ : ∃ d, l.length - x = d + 1 := ⟨l.length - x - 1, by omega⟩
  rw [hd, show l.length - (x + 1) = d by omega, List.replicate_succ, List.set_append, if_neg (by rw [List.length_take]; omega), List.length_take, show x - min x l.length = 0 by omega, List.set_cons_zero, ← List.take_append_getElem h, List.append_assoc, List.getD_eq_getElem?_getD, List.getElem?_eq_getElem h]
  rfl
theorem toInt_loop (l : List Int) (hl : l.length < 35184372088832) : ∀ d k x, x + d = l.length → d < k → laws_toIntS.l0 k l (l.take x ++ List.replicate (l.length - x) 0) (x : Nat) = some l := by
  intro d
  induction d with
  | zero =>
    intro k x hx hk
    obtain ⟨k, rfl⟩ : ∃ m, k = m + 1 := ⟨k - 1, by omega⟩
    obtain rfl : x = l.length := by omega
    simp only [laws_toIntS.l0]
    rw [if_neg (by omega), Nat.sub_self, List.take_length, List.replicate_zero, List.append_nil]
  | succ d ih =>
    intro k x hx hk
    obtain ⟨k, rfl⟩ : ∃ m, k = m + 1 := ⟨k - 1, by omega⟩
    simp only [laws_toIntS.l0]
    rw [if_pos (by omega), if_pos (by omega), if_pos (by rw [List.length_append, List.length_take, List.length_replicate]; omega), Int.toNat_natCast, rd_cast, copy_step l (by omega), wrap64_succ (by omega)]
    exact ih k (x + 1) (by omega) (by omega)
theorem toInt_some (l : List Int) {k : Nat} (hl : l.length < 35184372088832) (hk : l.length < k) : laws_toIntS.f k l = some l := by
  unfold laws_toIntS.f
  rw [if_pos (by omega), if_pos (by omega), Int.toNat_natCast]
  have h := toInt_loop l (by omega) l.length k 0 (by omega) hk
  simpa using h
theorem isBits_some (a : Int) : impl_isBits.f a = some (decide (0 ≤ a ∧ a ≤ 5)) := by
  unfold impl_isBits.f
  by_cases h : a ≥ 0
  · rw [if_pos h]; congr 1; exact decide_eq_decide.mpr (by omega)
  · rw [if_neg h]; congr 1; symm; exact decide_eq_false (by omega)
/-- No input of n variables. -/
def noInp (n : Nat) (x : Int) : Bool := !decide (0 ≤ x ∧ x < ((2 ^ n : Nat) : Int))
theorem isInput_some {n : Nat} (hn : n ≤ 5) (x : Int) : impl_isInput.f n x = some (!noInp n x) := by
  have hM := pow_le hn
  unfold impl_isInput.f noInp
  rw [Bool.not_not]
  by_cases h : x ≥ 0
  · rw [if_pos h, if_pos (Int.natCast_nonneg _), shl1_of (by omega)]; congr 1; exact decide_eq_decide.mpr (by omega)
  · rw [if_neg h]; congr 1; symm; exact decide_eq_false (by omega)
theorem pts_w {n : Nat} (hn : n ≤ 5) (l : List Int) : ∀ m : Nat, exN (fun i => noInp n (rd l i)) m = false → ∃ v : Nat, v < 2 ^ 2 ^ n ∧ impl_TableOfPoints.w l m = (v : Int) := by
  have hM := pow_le hn
  intro m
  induction m with
  | zero => intro _; exact ⟨0, pow_pos _, rfl⟩
  | succ m ih =>
    intro h
    rw [exN, Bool.or_eq_false_iff] at h
    obtain ⟨v, hv, e⟩ := ih h.1
    have hb := h.2
    unfold noInp at hb
    rw [Bool.not_eq_false'] at hb
    have hb := of_decide_eq_true hb
    rw [impl_TableOfPoints.w, e]
    generalize rd l m = y at hb
    obtain ⟨y, rfl⟩ := Int.eq_ofNat_of_zero_le hb.1
    have hy : y < 2 ^ n := by exact_mod_cast hb.2
    have hf := full_le hn
    have h2 : 2 ^ y < 2 ^ 2 ^ n := Nat.pow_lt_pow_right (by decide) hy
    exact ⟨v ||| 2 ^ y, Nat.or_lt_two_pow hv h2, by rw [shl1_of (by omega), or_cast (by omega) (by omega)]⟩
/-- What both say. -/
def pointsV (a : Int) (l : List Int) : Int × Int × Bool :=
  if 0 ≤ a ∧ a ≤ 5 then (if exN (fun i => noInp a.toNat (rd l i)) l.length = true then (0, 0, false) else (a, ((hullW a.toNat (impl_TableOfPoints.w l l.length).toNat : Nat) : Int), true)) else (0, 0, false)
theorem impl_points (a : Int) (l : List Int) (hl : l.length < 9223372036854775807) : impl_TableOfPoints.f a l = some (pointsV a l) := by
  unfold impl_TableOfPoints.f pointsV
  rw [isBits_some]
  simp only [Option.bind_some]
  by_cases h : 0 ≤ a ∧ a ≤ 5
  · rw [if_pos (decide_eq_true h), if_pos h]
    obtain ⟨n, rfl⟩ := Int.eq_ofNat_of_zero_le h.1
    have hn : n ≤ 5 := by omega
    have he : exN (fun i => impl_TableOfPoints.no n (rd l i)) l.length = exN (fun i => noInp n (rd l i)) l.length := exN_congr fun i _ => by
      unfold impl_TableOfPoints.no
      rw [isInput_some hn]
      cases noInp n (rd l i) <;> rfl
    rw [if_pos ⟨allN_iff.mpr fun i _ => by rw [isInput_some hn]; rfl, hl⟩, he, Int.toNat_natCast]
    cases hb : exN (fun i => noInp n (rd l i)) l.length with
    | true => rfl
    | false =>
      obtain ⟨v, hv, e⟩ := pts_w hn l l.length hb
      have hz : allN (fun i => decide (0 ≤ rd l i)) l.length = true := allN_iff.mpr fun i hi => by
        have := (Bool.eq_false_iff.mp hb)
        by_cases q : 0 ≤ rd l i
        · exact decide_eq_true q
        · exact absurd (exN_hit hi (show noInp n (rd l i) = true by unfold noInp; rw [decide_eq_false (by omega)]; rfl)) this
      rw [if_neg (by decide), if_pos hz, if_neg (by decide), e, impl_hull ⟨hn, hv⟩, Int.toNat_natCast]
      rfl
  · rw [if_neg (fun q => h (of_decide_eq_true q)), if_neg h]
theorem spec_points_loop {n : Nat} (hn : n ≤ 5) (l : List Int) (hl : l.length < 1099511627776) : ∀ (d k x : Nat), x + d = l.length → d + 1400 < k → exN (fun i => noInp n (rd l i)) x = false →
    spec_TableOfPoints.l0 k n l (impl_TableOfPoints.w l x) x = some (pointsV n l) := by
  have hM := pow_le hn
  have hp := pow_pos n
  intro d
  induction d with
  | zero =>
    intro k x hx hk hz
    obtain ⟨k, rfl⟩ : ∃ m, k = m + 1 := ⟨k - 1, by omega⟩
    obtain rfl : x = l.length := by omega
    obtain ⟨v, hv, e⟩ := pts_w hn l l.length hz
    simp only [spec_TableOfPoints.l0]
    rw [if_neg (by omega), e, spec_hull _ _ (by omega), isTab_of ⟨hn, hv⟩]
    simp only [Option.bind_some]
    unfold pointsV
    rw [if_pos trivial, if_pos (show 0 ≤ (n : Int) ∧ (n : Int) ≤ 5 by omega), Int.toNat_natCast, hz, if_neg (by decide), e, Int.toNat_natCast]
  | succ d ih =>
    intro k x hx hk hz
    obtain ⟨k, rfl⟩ : ∃ m, k = m + 1 := ⟨k - 1, by omega⟩
    simp only [spec_TableOfPoints.l0]
    rw [if_pos (by omega), if_pos (by omega), if_pos (Int.natCast_nonneg _), shl1_of (by omega), pred_cast' hp (by omega), l1In_some _ _ _ (!noInp n (rd l x)) (by unfold noInp; rw [Bool.not_not]; exact decide_eq_decide.mpr (by omega))]
    simp only [Option.bind_some]
    cases hb : noInp n (rd l x) with
    | true =>
      rw [Bool.not_true, if_neg (by decide)]
      unfold pointsV
      rw [if_pos (by omega), Int.toNat_natCast, if_pos (exN_hit (i := x) (by omega) hb)]
    | false =>
      have hb' := hb
      unfold noInp at hb'
      rw [Bool.not_eq_false'] at hb'
      have hb' := of_decide_eq_true hb'
      rw [Bool.not_false, if_pos rfl, if_pos hb'.1, wrap64_succ (by omega)]
      exact ih k (x + 1) (by omega) (by omega) (exN_skip hz hb)
theorem spec_points (a : Int) (l : List Int) (hl : l.length < 1099511627776) {k : Nat} (hk : l.length + 1400 < k) : spec_TableOfPoints.f k a l = some (pointsV a l) := by
  unfold spec_TableOfPoints.f
  rw [l1In_some a 0 5 _ rfl]
  simp only [Option.bind_some]
  by_cases h : 0 ≤ a ∧ a ≤ 5
  · rw [if_pos (decide_eq_true h)]
    obtain ⟨n, rfl⟩ := Int.eq_ofNat_of_zero_le h.1
    exact spec_points_loop (by omega) l hl l.length k 0 (by omega) (by omega) rfl
  · rw [if_neg (fun q => h (of_decide_eq_true q))]
    unfold pointsV
    rw [if_neg h]
end Go.Proofs.Ytnkkkabdpbonaaa.U
