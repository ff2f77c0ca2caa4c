/- The walk of one Go function: a call of it ends as the Lean function of its name tells; the conditions are those of each theorem. -/
import Derived.Test.YtcgjlmgfmiacgaaF0
import Derived.Test.YtcgjlmgfmiacgaaFGa
import Derived.Test.YtcgjlmgfmiacgaaFGa
import Derived.Test.YtcgjlmgfmiacgaaBase
namespace Go.Proofs.Ytcgjlmgfmiacgaa.F
open Go.RowKit Go.Proofs.YtcgjlmgfmiacgaaW.PrintWords Go.Proofs.YtcgjlmgfmiacgaaW.PrintLast Go.Proofs.YtcgjlmgfmiacgaaW.PrintMore
attribute [local go_sem] max2_int min2_int max_two min_two max_three min_three max_four min_four   -- for this text's walks alone
set_option linter.unusedVariables false
set_option linter.unusedSimpArgs false

/-! ### impl_TableOfMatrix: function 16 -/
/-- The value that rows tell at an input. -/
def impl_TableOfMatrix.bit (l : List Int) (s x : Nat) : Bool := Go.bits .and .i64 (shr .i64 (rd l ((x % 2 ^ s : Nat) : Int)) ((x / 2 ^ s : Nat) : Int)) 1 == 1
/-- A row that has bits beyond 2^m. -/
def impl_TableOfMatrix.bad (m : Nat) (r : Int) : Bool := decide (r < 0) || (r / 2 ^ 2 ^ m != 0)
/-- Do the numbers fit? -/
def impl_TableOfMatrix.ok (n k : Int) (len : Nat) : Bool := decide (0 ≤ n ∧ n ≤ 5 ∧ 0 ≤ k ∧ k ≤ n ∧ len = 2 ^ k.toNat)
def impl_TableOfMatrix.f (l0 : List Int) (a1 a2 : Int) : Option (Int × Int × Bool) :=
  if l0.length < 9223372036854775807 then (if impl_TableOfMatrix.ok a1 a2 l0.length = true then (if B.exN (fun i => impl_TableOfMatrix.bad (a1 - a2).toNat (rd l0 i)) l0.length = true then some (0, 0, false) else some (a1, ((B.tabN (impl_TableOfMatrix.bit l0 a2.toNat) (2 ^ a1.toNat) : Nat) : Int), true)) else some (0, 0, false)) else none
set_option maxHeartbeats 400000 in
set_option maxRecDepth 100000 in
theorem impl_TableOfMatrix_1.any (l : List Int) (s x : Nat) (A : Option Addr) (c : Nat) (hs : s ≤ 5) (hx : x < 32) (hl : l.length = 2 ^ s) (g1 g2 : Nat) (W : World) (hr : Kd.C (Kd.int .i64) W A l.length l)
    (h1 : W.heap[g1]? = some (.cells #[.slice A l.length c] 28 (0, 0))) (h2 : W.heap[g2]? = some (.cells #[.int .i64 s] 3 (0, 0))) :
    Gives Try.prog 39 #[.pointer (some ⟨g1, 0, none⟩), .pointer (some ⟨g2, 0, none⟩)] #[.int .i64 x] (.bool (impl_TableOfMatrix.bit l s x)) W := by
  show Calls Try.prog 39 #[.int .i64 x, .pointer (some ⟨g1, 0, none⟩), .pointer (some ⟨g2, 0, none⟩)] W _
  have hp := B.pow_le hs
  have hp0 := B.pow_pos s
  have hm : x % 2 ^ s < l.length := by rw [hl]; exact Nat.mod_lt _ hp0
  have hd : x / 2 ^ s ≤ x := Nat.div_le_self _ _
  have hq : impl_TableOfMatrix.bit l s x = (Go.bits .and .i64 (shr .i64 (rd l ((x % 2 ^ s : Nat) : Int)) ((x / 2 ^ s : Nat) : Int)) 1 == 1) := rfl
  have e1 : IntKind.i64.wrap (2 ^ s) = ((2 ^ s : Nat) : Int) := by rw [i64_w]; exact B.wrap64_pow (by omega)
  have e2 : IntKind.i64.wrap (((2 ^ s : Nat) : Int) - 1) = ((2 ^ s - 1 : Nat) : Int) := by rw [i64_w, B.wrap64_of (by omega) (by omega)]; omega
  have e3 : Go.bits .and .i64 (x : Int) ((2 ^ s - 1 : Nat) : Int) = ((x % 2 ^ s : Nat) : Int) := by rw [B.and_cast (by omega) (by omega), Nat.and_two_pow_sub_one_eq_mod]
  have e4 : (x : Int) / 2 ^ s = ((x / 2 ^ s : Nat) : Int) := by simp
  generalize x % 2 ^ s = a at hm hq e3
  generalize x / 2 ^ s = b at hd hq e4
  generalize 2 ^ s - 1 = M1 at e2 e3
  generalize 2 ^ s = M at e1 e2 hp hl hp0
  obtain ⟨v, hv⟩ : ∃ v, shr .i64 (rd l (a : Int)) (b : Int) = v := ⟨_, rfl⟩
  have hv2 : (rd l (a : Int)) / 2 ^ b = v := by rw [← hv]; unfold shr; simp only [IntKind.bits, Int.toNat_natCast, Nat.min_eq_left (show b ≤ 64 by omega)]
  rw [hv] at hq
  clear hv
  obtain ⟨ad, rfl, he⟩ := Kd.at_int hr (a : Int) (by omega) (by omega)
  rw [Int.toNat_natCast] at he
  have hc0 : W.cell? ⟨g1, 0, none⟩ = some (.slice (some ad) l.length c) := (blk_cell h1 0).trans rfl
  have hd0 : W.cell? ⟨g2, 0, none⟩ = some (.int .i64 s) := (blk_cell h2 0).trans rfl
  have hq1 := Aside0.mk hq
  have b1 : (a : Int) < (l.length : Int) := by omega
  have b2 : (s : Int) ≤ 64 := by omega
  have b3 : (b : Int) ≤ 64 := by omega
  clear h1 h2 hr hp hp0 hl hq hm hd
  go_enter Try.func39, Try.ntmps39
  go_wp2
  go_quiet (fail)
  go_wp2
  go_ret
  exact ⟨by rw [hq1.out]; rfl, by repeat (first | (with_reducible first | exact Below.refl _ _ | apply below_alloc | apply pw_below_drewN | apply below_drew1) | exact Below.refl _ _)⟩
set_option maxHeartbeats 400000 in
set_option maxRecDepth 100000 in
theorem impl_TableOfMatrix.no (A0 : Option Addr) (c0 : Nat) (l0 : List Int) (a1 a2 : Int) (w : World) (h : impl_TableOfMatrix.ok a1 a2 l0.length = false) :
    Calls Try.prog 16 #[.slice A0 l0.length c0, .int .i64 a1, .int .i64 a2] w fun e w' => e = .returned (.tuple #[.agg #[.int .i64 0, .int .i64 0], .bool false]) ∧ Below w.heap.size w w' := by
  have hu := Try.underlying25
  have k1 := blk_alloc (blk_alloc (blk_new w (.cells #[.slice A0 l0.length c0] 28 (0, 0))) (.cells #[.int .i64 a2] 3 (0, 0))) (.cells #[.int .i64 0, .int .i64 0] 25 (0, 0))
  have k2 : (((w.alloc (.cells #[.slice A0 l0.length c0] 28 (0, 0))).alloc (.cells #[.int .i64 a2] 3 (0, 0))).alloc (.cells #[.int .i64 0, .int .i64 0] 25 (0, 0))).heap[w.heap.size + 1]? = some (.cells #[.int .i64 a2] 3 (0, 0)) := blk_alloc (by simpa using blk_new (w.alloc (.cells #[.slice A0 l0.length c0] 28 (0, 0))) (.cells #[.int .i64 a2] 3 (0, 0))) _
  have k3 : (((w.alloc (.cells #[.slice A0 l0.length c0] 28 (0, 0))).alloc (.cells #[.int .i64 a2] 3 (0, 0))).alloc (.cells #[.int .i64 0, .int .i64 0] 25 (0, 0))).heap[w.heap.size + 2]? = some (.cells #[.int .i64 0, .int .i64 0] 25 (0, 0)) := by simpa using blk_new ((w.alloc (.cells #[.slice A0 l0.length c0] 28 (0, 0))).alloc (.cells #[.int .i64 a2] 3 (0, 0))) (.cells #[.int .i64 0, .int .i64 0] 25 (0, 0))
  have kb := below_alloc (below_alloc (below_alloc (Below.refl w.heap.size w) (.cells #[.slice A0 l0.length c0] 28 (0, 0))) (.cells #[.int .i64 a2] 3 (0, 0))) (.cells #[.int .i64 0, .int .i64 0] 25 (0, 0))
  have K1 := Aside0.mk k1
  have K2 := Aside0.mk k2
  have K3 := Aside0.mk k3
  have KB := Aside0.mk kb
  clear k1 k2 k3 kb
  obtain ⟨t, ht⟩ : ∃ t, impl_isBits.f a1 = some t := by unfold impl_isBits.f; split <;> exact ⟨_, rfl⟩
  have hH := Aside0.mk h
  have HT := Aside0.mk ht
  clear h ht
  go_enter Try.func16, Try.ntmps16
  go_wp2
  generalize ((w.alloc (.cells #[.slice A0 l0.length c0] 28 (0, 0))).alloc (.cells #[.int .i64 a2] 3 (0, 0))).alloc (.cells #[.int .i64 0, .int .i64 0] 25 (0, 0)) = W0 at K1 K2 K3 KB ⊢
  have hc0 : W0.cell? ⟨w.heap.size, 0, none⟩ = some (.slice A0 l0.length c0) := (blk_cell K1.out 0).trans rfl
  have hc1 : W0.cell? ⟨w.heap.size + 1, 0, none⟩ = some (.int .i64 a2) := (blk_cell K2.out 0).trans rfl
  have hx0 : W0.cell? ⟨w.heap.size + 2, 0, none⟩ = some (.int .i64 0) := (blk_cell K3.out 0).trans rfl
  have hx1 : W0.cell? ⟨w.heap.size + 2, 1, none⟩ = some (.int .i64 0) := (blk_cell K3.out 1).trans rfl
  have hf0 := blk_frozen K3.out 0
  have hf1 := blk_frozen K3.out 1
  have hbl : ∀ nq, Below w.heap.size w (W0.drewN nq) := fun nq => pw_below_drewN KB.out nq
  have HBL := Aside0.mk hbl
  clear hbl
  cases t with
  | false =>
    clear hH
    go_quiet ((go_at_call 37; (with_reducible refine (impl_isBits.calls a1 false _ HT.out).mono ?_); rintro e w' ⟨rfl, ⟨nd, rfl⟩⟩; (try first | exact ⟨rfl, _, World.drewN_drewN _ _ _⟩ | exact ⟨rfl, _, Eq.trans (World.drewN_drewN _ _ _) (congrArg (World.drewN _) (Nat.add_assoc _ _ _))⟩)))
    go_wp2
    refine bodyPost_ret (results_ct rfl _ _ (w.heap.size + 2) 25 #[.int .i64 0, .int .i64 0] (0, 0) _ rfl (by refine blk_put (cs := #[.int .i64 0, .int .i64 0]) ?_ 1 _ rfl; refine blk_put (cs := #[.int .i64 0, .int .i64 0]) ?_ 0 _ rfl; exact K3.out) Try.underlying25 rfl (by kernel_rfl)) rfl ?_
    exact ⟨rfl, below_set (below_set (HBL.out _) (by omega)) (by omega)⟩
  | true =>
    have h' := hH.out
    clear hH
    have ht := HT.out
    unfold impl_isBits.f at ht
    have h5 : 0 ≤ a1 ∧ a1 ≤ 5 := by
      by_cases hz : a1 ≥ 0
      · rw [if_pos hz] at ht; exact ⟨hz, of_decide_eq_true (Option.some.inj ht)⟩
      · rw [if_neg hz] at ht; cases ht
    clear ht
    unfold impl_TableOfMatrix.ok at h'
    have h' := of_decide_eq_false h'
    by_cases hk : a2 < 0
    · have d1 : decide (a2 < 0) = true := decide_eq_true hk
      clear hk h5 h'
      go_quiet ((go_at_call 37; (with_reducible refine (impl_isBits.calls a1 true _ HT.out).mono ?_); rintro e w' ⟨rfl, ⟨nd, rfl⟩⟩; (try first | exact ⟨rfl, _, World.drewN_drewN _ _ _⟩ | exact ⟨rfl, _, Eq.trans (World.drewN_drewN _ _ _) (congrArg (World.drewN _) (Nat.add_assoc _ _ _))⟩)))
      go_wp2
      refine bodyPost_ret (results_ct rfl _ _ (w.heap.size + 2) 25 #[.int .i64 0, .int .i64 0] (0, 0) _ rfl (by refine blk_put (cs := #[.int .i64 0, .int .i64 0]) ?_ 1 _ rfl; refine blk_put (cs := #[.int .i64 0, .int .i64 0]) ?_ 0 _ rfl; exact K3.out) Try.underlying25 rfl (by kernel_rfl)) rfl ?_
      exact ⟨rfl, below_set (below_set (HBL.out _) (by omega)) (by omega)⟩
    · by_cases hn : a1 < a2
      · have d1 : decide (a2 < 0) = false := decide_eq_false hk
        have d2 : decide (a1 < a2) = true := decide_eq_true hn
        clear hk hn h5 h'
        go_quiet ((go_at_call 37; (with_reducible refine (impl_isBits.calls a1 true _ HT.out).mono ?_); rintro e w' ⟨rfl, ⟨nd, rfl⟩⟩; (try first | exact ⟨rfl, _, World.drewN_drewN _ _ _⟩ | exact ⟨rfl, _, Eq.trans (World.drewN_drewN _ _ _) (congrArg (World.drewN _) (Nat.add_assoc _ _ _))⟩)))
        go_wp2
        refine bodyPost_ret (results_ct rfl _ _ (w.heap.size + 2) 25 #[.int .i64 0, .int .i64 0] (0, 0) _ rfl (by refine blk_put (cs := #[.int .i64 0, .int .i64 0]) ?_ 1 _ rfl; refine blk_put (cs := #[.int .i64 0, .int .i64 0]) ?_ 0 _ rfl; exact K3.out) Try.underlying25 rfl (by kernel_rfl)) rfl ?_
        exact ⟨rfl, below_set (below_set (HBL.out _) (by omega)) (by omega)⟩
      · obtain ⟨s, rfl⟩ := Int.eq_ofNat_of_zero_le (show 0 ≤ a2 by omega)
        have d2 : decide (a1 < (s : Int)) = false := decide_eq_false hn
        have hp := B.pow_le (n := s) (by omega)
        have hne : l0.length ≠ 2 ^ s := fun q => h' ⟨h5.1, h5.2, by omega, by omega, by rw [Int.toNat_natCast]; exact q⟩
        have e1 : IntKind.i64.wrap (2 ^ s) = ((2 ^ s : Nat) : Int) := by rw [i64_w]; exact B.wrap64_pow (by omega)
        have b2 : (s : Int) ≤ 64 := by omega
        generalize 2 ^ s = M at hne e1
        have d3 : (((l0.length : Nat) : Int) != (M : Int)) = true := bne_iff_ne.mpr (fun q => hne (by omega))
        have d4 : decide (l0.length = M) = false := decide_eq_false hne
        clear hk hn h5 h' hne hp
        go_quiet ((go_at_call 37; (with_reducible refine (impl_isBits.calls a1 true _ HT.out).mono ?_); rintro e w' ⟨rfl, ⟨nd, rfl⟩⟩; (try first | exact ⟨rfl, _, World.drewN_drewN _ _ _⟩ | exact ⟨rfl, _, Eq.trans (World.drewN_drewN _ _ _) (congrArg (World.drewN _) (Nat.add_assoc _ _ _))⟩)))
        go_wp2
        refine bodyPost_ret (results_ct rfl _ _ (w.heap.size + 2) 25 #[.int .i64 0, .int .i64 0] (0, 0) _ rfl (by refine blk_put (cs := #[.int .i64 0, .int .i64 0]) ?_ 1 _ rfl; refine blk_put (cs := #[.int .i64 0, .int .i64 0]) ?_ 0 _ rfl; exact K3.out) Try.underlying25 rfl (by kernel_rfl)) rfl ?_
        exact ⟨rfl, below_set (below_set (HBL.out _) (by omega)) (by omega)⟩
set_option maxHeartbeats 400000 in
set_option maxRecDepth 100000 in
theorem impl_TableOfMatrix.yes (A0 : Option Addr) (c0 : Nat) (l0 : List Int) (n s m : Nat) (hn : n ≤ 5) (hnm : n = s + m) (hl : l0.length = 2 ^ s) (w : World) (hr0 : Kd.C (Kd.int .i64) w A0 l0.length l0) (R : Array Value)
    (hR : R = (if B.exN (fun i => impl_TableOfMatrix.bad m (rd l0 i)) l0.length = true then #[.agg #[.int .i64 0, .int .i64 0], .bool false] else #[.agg #[.int .i64 n, .int .i64 (B.tabN (impl_TableOfMatrix.bit l0 s) (2 ^ n) : Nat)], .bool true])) :
    Calls Try.prog 16 #[.slice A0 l0.length c0, .int .i64 n, .int .i64 s] w fun e w' => e = .returned (.tuple R) ∧ Below w.heap.size w w' := by
  have HRR := Aside0.mk hR
  clear hR
  have hu := Try.underlying25
  have HR := Aside0.mk hr0
  have HLL := Aside0.mk hl
  have HN := Aside0.mk hn
  have HNM := Aside0.mk hnm
  have k1 := blk_alloc (blk_alloc (blk_new w (.cells #[.slice A0 l0.length c0] 28 (0, 0))) (.cells #[.int .i64 s] 3 (0, 0))) (.cells #[.int .i64 0, .int .i64 0] 25 (0, 0))
  have k2 : (((w.alloc (.cells #[.slice A0 l0.length c0] 28 (0, 0))).alloc (.cells #[.int .i64 s] 3 (0, 0))).alloc (.cells #[.int .i64 0, .int .i64 0] 25 (0, 0))).heap[w.heap.size + 1]? = some (.cells #[.int .i64 s] 3 (0, 0)) := blk_alloc (by simpa using blk_new (w.alloc (.cells #[.slice A0 l0.length c0] 28 (0, 0))) (.cells #[.int .i64 s] 3 (0, 0))) _
  have k3 : (((w.alloc (.cells #[.slice A0 l0.length c0] 28 (0, 0))).alloc (.cells #[.int .i64 s] 3 (0, 0))).alloc (.cells #[.int .i64 0, .int .i64 0] 25 (0, 0))).heap[w.heap.size + 2]? = some (.cells #[.int .i64 0, .int .i64 0] 25 (0, 0)) := by simpa using blk_new ((w.alloc (.cells #[.slice A0 l0.length c0] 28 (0, 0))).alloc (.cells #[.int .i64 s] 3 (0, 0))) (.cells #[.int .i64 0, .int .i64 0] 25 (0, 0))
  have kb := below_alloc (below_alloc (below_alloc (Below.refl w.heap.size w) (.cells #[.slice A0 l0.length c0] 28 (0, 0))) (.cells #[.int .i64 s] 3 (0, 0))) (.cells #[.int .i64 0, .int .i64 0] 25 (0, 0))
  have K1 := Aside0.mk k1
  have K2 := Aside0.mk k2
  have K3 := Aside0.mk k3
  have KB := Aside0.mk kb
  clear k1 k2 k3 kb hr0
  have HT : Aside0 (impl_isBits.f n = some true) := ⟨by unfold impl_isBits.f; rw [if_pos (by omega), decide_eq_true (by omega)]⟩
  have hp := B.pow_le (n := s) (by omega)
  have hpm := B.pow_le (n := m) (by omega)
  have e1 : IntKind.i64.wrap (2 ^ s) = ((l0.length : Nat) : Int) := by rw [hl, i64_w]; exact B.wrap64_pow (by omega)
  have hL32 : l0.length ≤ 32 := by omega
  have b2 : (s : Int) ≤ 64 := by omega
  have d1 : decide ((s : Int) < 0) = false := decide_eq_false (by omega)
  have d2 : decide (n < s) = false := decide_eq_false (by omega)
  have e5 : (n : Int) - (s : Int) = (m : Int) := by omega
  have e6 : IntKind.u64.wrap (2 ^ m) = ((2 ^ m : Nat) : Int) := by
    rw [show (2 : Int) ^ m = ((2 ^ m : Nat) : Int) by simp]
    generalize 2 ^ m = M at hpm
    exact B.wrapu_of (by omega) (by omega)
  have bm : (m : Int) ≤ 64 := by omega
  obtain ⟨Q, hQ⟩ : ∃ Q : Nat, Q = 2 ^ m := ⟨_, rfl⟩
  rw [← hQ] at e6 hpm
  have HQ := Aside0.mk hQ
  have bq : (Q : Int) ≤ 64 := by omega
  have E5 := Aside0.mk e5
  have E6 := Aside0.mk e6
  clear hn hnm hp hpm hl hQ e5 e6
  go_enter Try.func16, Try.ntmps16
  go_wp2
  generalize ((w.alloc (.cells #[.slice A0 l0.length c0] 28 (0, 0))).alloc (.cells #[.int .i64 s] 3 (0, 0))).alloc (.cells #[.int .i64 0, .int .i64 0] 25 (0, 0)) = W0 at K1 K2 K3 KB ⊢
  have hc0 : W0.cell? ⟨w.heap.size, 0, none⟩ = some (.slice A0 l0.length c0) := (blk_cell K1.out 0).trans rfl
  have hc1 : W0.cell? ⟨w.heap.size + 1, 0, none⟩ = some (.int .i64 s) := (blk_cell K2.out 0).trans rfl
  go_quiet ((go_at_call 37; (with_reducible refine (impl_isBits.calls n true _ HT.out).mono ?_); rintro e w' ⟨rfl, ⟨nd, rfl⟩⟩; (try first | exact ⟨rfl, _, World.drewN_drewN _ _ _⟩ | exact ⟨rfl, _, Eq.trans (World.drewN_drewN _ _ _) (congrArg (World.drewN _) (Nat.add_assoc _ _ _))⟩)))
  clear e1
  go_wp2
  have e5 := E5.out
  have e6 := E6.out
  go_loopg [32] l0.length (fun gg v32 wr => ∃ x : Nat, x ≤ l0.length ∧ l0.length - x ≤ gg ∧ v32 = .int .i64 x ∧ Aside0 (B.exN (fun i => impl_TableOfMatrix.bad m (rd l0 i)) x = false) ∧ Aside0 (wr.heap[w.heap.size]? = some (.cells #[.slice A0 l0.length c0] 28 (0, 0))) ∧ Aside0 (wr.heap[w.heap.size + 1]? = some (.cells #[.int .i64 s] 3 (0, 0))) ∧ Aside0 (wr.heap[w.heap.size + 2]? = some (.cells #[.int .i64 0, .int .i64 0] 25 (0, 0))) ∧ Aside0 (Below w.heap.size w wr))
  case atStart => exact ⟨0, Nat.zero_le _, by omega, rfl, ⟨rfl⟩, ⟨K1.out⟩, ⟨K2.out⟩, ⟨K3.out⟩, ⟨pw_below_drewN KB.out _⟩⟩
  case round =>
    clear K1 K2 K3 KB hc0 hc1
    obtain ⟨x, hx, hg, rfl, HZ, K1, K2, K3, HB⟩ := hrel
    by_cases hlt : x < l0.length
    · have hltz : (x : Int) < (l0.length : Int) := by omega
      have h0z : (0 : Int) ≤ (x : Int) := by omega
      obtain ⟨ad, rfl, hc⟩ := Kd.at_int HR.out (x : Int) h0z hltz
      have hc' := (HB.out.cell (World.block_lt_of_cell? w _ hc)).trans hc
      rw [Int.toNat_natCast] at hc'
      clear hc
      have hd0 : wr.cell? ⟨w.heap.size + 1, 0, none⟩ = some (.int .i64 s) := (blk_cell K2.out 0).trans rfl
      have hx0 : wr.cell? ⟨w.heap.size + 2, 0, none⟩ = some (.int .i64 0) := (blk_cell K3.out 0).trans rfl
      have hx1 : wr.cell? ⟨w.heap.size + 2, 1, none⟩ = some (.int .i64 0) := (blk_cell K3.out 1).trans rfl
      have hf0 := blk_frozen K3.out 0
      have hf1 := blk_frozen K3.out 1
      by_cases hneg : rd l0 (x : Int) < 0
      · have d3 : decide (rd l0 (x : Int) < 0) = true := decide_eq_true hneg
        have HX : Aside0 (B.exN (fun i => impl_TableOfMatrix.bad m (rd l0 i)) l0.length = true) := ⟨B.exN_hit hlt (by simp only [impl_TableOfMatrix.bad, d3, Bool.true_or])⟩
        go_wp2
        refine bodyPost_ret (results_ct rfl _ _ (w.heap.size + 2) 25 #[.int .i64 0, .int .i64 0] (0, 0) _ rfl (by refine blk_put (cs := #[.int .i64 0, .int .i64 0]) ?_ 1 _ rfl; refine blk_put (cs := #[.int .i64 0, .int .i64 0]) ?_ 0 _ rfl; exact K3.out) Try.underlying25 rfl (by kernel_rfl)) rfl ?_
        exact ⟨by rw [HRR.out, if_pos HX.out]; rfl, below_set (below_set HB.out (by omega)) (by omega)⟩
      · have d3 : decide (rd l0 (x : Int) < 0) = false := decide_eq_false hneg
        obtain ⟨v, hv⟩ : ∃ v, rd l0 (x : Int) / 2 ^ Q = v := ⟨_, rfl⟩
        by_cases hq : v = 0
        · subst hq
          have HX : Aside0 (impl_TableOfMatrix.bad m (rd l0 x) = false) := ⟨by unfold impl_TableOfMatrix.bad; rw [d3, ← HQ.out, hv]; rfl⟩
          go_wp2
          go_roundg (l0.length - (x + 1))
          case measure => omega
          case rel => exact ⟨x + 1, by omega, by omega, by go_num, ⟨B.exN_skip HZ.out HX.out⟩, K1, K2, K3, HB⟩
        · have HX : Aside0 (B.exN (fun i => impl_TableOfMatrix.bad m (rd l0 i)) l0.length = true) := ⟨B.exN_hit hlt (by simp only [impl_TableOfMatrix.bad]; rw [← HQ.out, hv, d3, Bool.false_or]; exact bne_iff_ne.mpr hq)⟩
          have d4 : (v != 0) = true := bne_iff_ne.mpr hq
          go_wp2
          refine bodyPost_ret (results_ct rfl _ _ (w.heap.size + 2) 25 #[.int .i64 0, .int .i64 0] (0, 0) _ rfl (by refine blk_put (cs := #[.int .i64 0, .int .i64 0]) ?_ 1 _ rfl; refine blk_put (cs := #[.int .i64 0, .int .i64 0]) ?_ 0 _ rfl; exact K3.out) Try.underlying25 rfl (by kernel_rfl)) rfl ?_
          exact ⟨by rw [HRR.out, if_pos HX.out]; rfl, below_set (below_set HB.out (by omega)) (by omega)⟩
    · have hltz : ¬ (x : Int) < (l0.length : Int) := by omega
      obtain rfl : x = l0.length := by omega
      clear e5 e6
      have EG := Aside0.mk (enters_of Try.func39 (by kernel_rfl) rfl)
      go_wp2_with (go_at_call 38; refine (impl_makeTable.any n HN.out (impl_TableOfMatrix.bit l0 s) 39 #[.pointer (some ⟨w.heap.size, 0, none⟩), .pointer (some ⟨w.heap.size + 1, 0, none⟩)] EG.out _ (fun W x hx hb => impl_TableOfMatrix_1.any l0 s x A0 c0 (by have := HNM.out; have := HN.out; omega) (Nat.lt_of_lt_of_le hx (B.pow_le HN.out)) HLL.out _ _ W (Kd.Heap.C (Kd.heap_int .i64) (below_step HB.out hb).block HR.out) (blk_below K1.out hb) (blk_below K2.out hb))).mono ?_; rintro e w' ⟨rfl, hb⟩; have BK := Aside0.mk (blk_below K3.out hb); have HB' := Aside0.mk (below_step HB.out hb); clear hb; have hx0 : w'.cell? ⟨w.heap.size + 2, 0, none⟩ = some (.int .i64 0) := (blk_cell BK.out 0).trans rfl; have hx1 : w'.cell? ⟨w.heap.size + 2, 1, none⟩ = some (.int .i64 0) := (blk_cell BK.out 1).trans rfl; have hf0 : w'.frozen? ⟨w.heap.size + 2, 0, none⟩ = false := blk_frozen BK.out 0; have hf1 : w'.frozen? ⟨w.heap.size + 2, 1, none⟩ = false := blk_frozen BK.out 1)
      refine bodyPost_ret (results_ct rfl _ _ (w.heap.size + 2) 25 #[.int .i64 n, .int .i64 (B.tabN (impl_TableOfMatrix.bit l0 s) (2 ^ n) : Nat)] (0, 0) _ rfl (by refine blk_put (cs := #[.int .i64 n, .int .i64 0]) ?_ 1 _ rfl; refine blk_put (cs := #[.int .i64 0, .int .i64 0]) ?_ 0 _ rfl; exact BK.out) Try.underlying25 rfl (by kernel_rfl)) rfl ?_
      exact ⟨by rw [HRR.out, if_neg (by rw [HZ.out]; decide)]; rfl, below_set (below_set HB'.out (by omega)) (by omega)⟩
theorem impl_TableOfMatrix.calls (A0 : Option Addr) (c0 : Nat) (l0 : List Int) (a1 : Int) (a2 : Int) (r1 : Int) (r2 : Int) (r3 : Bool) (w : World) (hr0 : Kd.C (Kd.int .i64) w A0 l0.length l0) (hc0 : l0.length ≤ c0) (h : impl_TableOfMatrix.f l0 a1 a2 = some (r1, r2, r3)) :
    Calls Try.prog 16 #[.slice A0 l0.length c0, .int .i64 a1, .int .i64 a2] w fun e w' => e = .returned (.tuple #[.agg #[.int .i64 r1, .int .i64 r2], .bool r3]) ∧ Below w.heap.size w w' := by
  unfold impl_TableOfMatrix.f at h
  split at h
  next hL =>
    cases ho : impl_TableOfMatrix.ok a1 a2 l0.length with
    | false =>
      rw [ho, if_neg (by decide)] at h
      cases h
      exact impl_TableOfMatrix.no A0 c0 l0 a1 a2 w ho
    | true =>
      rw [ho, if_pos rfl] at h
      have ho := of_decide_eq_true ho
      obtain ⟨n, rfl⟩ := Int.eq_ofNat_of_zero_le ho.1
      obtain ⟨s, rfl⟩ := Int.eq_ofNat_of_zero_le ho.2.2.1
      obtain ⟨m, rfl⟩ : ∃ m, n = s + m := ⟨n - s, by omega⟩
      rw [show (((s + m : Nat) : Int) - (s : Int)).toNat = m by omega, Int.toNat_natCast, Int.toNat_natCast] at h
      refine (impl_TableOfMatrix.yes A0 c0 l0 (s + m) s m (by omega) rfl (by simpa using ho.2.2.2.2) w hr0 _ rfl).mono fun e w' ⟨he, hb⟩ => ⟨?_, hb⟩
      rw [he]
      split at h
      next hx => rw [if_pos hx]; cases h; rfl
      next hx => rw [if_neg hx]; cases h; rfl
  next => cases h


end Go.Proofs.Ytcgjlmgfmiacgaa.F
