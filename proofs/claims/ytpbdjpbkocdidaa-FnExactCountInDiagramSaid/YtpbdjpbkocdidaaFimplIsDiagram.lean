/- The walk of one Go function: a call of it ends as the Lean function of its name tells; the conditions are those of each theorem. -/
import Derived.Test.YtpbdjpbkocdidaaF0
import Derived.Test.YtpbdjpbkocdidaaFslicesIndexintint
import Derived.Test.YtpbdjpbkocdidaaFimplisOrder
import Derived.Test.YtpbdjpbkocdidaaFimplNode
namespace Go.Proofs.Ytpbdjpbkocdidaa.F
open Go.RowKit Go.Proofs.YtpbdjpbkocdidaaW.PrintWords Go.Proofs.YtpbdjpbkocdidaaW.PrintLast Go.Proofs.YtpbdjpbkocdidaaW.PrintMore
attribute [local go_sem] max2_int min2_int max_two min_two max_three min_three max_four min_four   -- for this text's walks alone
set_option linter.unusedVariables false
set_option linter.unusedSimpArgs false

/-! ### impl_IsDiagram: function 16 -/
set_option maxHeartbeats 400000 in
theorem impl_IsDiagram_1.any (K : Nat) (o : List Int) (n0 n1 n2 p : Int) (A : Option Addr) (c g : Nat) (W : World) (hr : Kd.C (Kd.int .i64) W A o.length o) (hc : o.length ≤ c) (h1 : W.heap[g]? = some (.cells #[.slice A o.length c] 29 (0, 0))) (h : slices_Index_int_int.f K o n0 = some p) :
    Calls Try.prog 38 #[.agg #[.int .i64 n0, .int .i64 n1, .int .i64 n2], .pointer (some ⟨g, 0, none⟩)] W fun e w' => e = .returned (.int .i64 p) ∧ Below W.heap.size W w' := by
  have hu := Try.underlying49
  have HR := Aside0.mk hr
  have H := Aside0.mk h
  have HC := Aside0.mk hc
  clear hr h hc
  have hd0 : (W.alloc (.cells #[.int .i64 n0, .int .i64 n1, .int .i64 n2] 49 (0, 0))).cell? ⟨W.heap.size, 0, none⟩ = some (.int .i64 n0) := (blk_cell (blk_new _ _) 0).trans rfl
  have hd1 : (W.alloc (.cells #[.int .i64 n0, .int .i64 n1, .int .i64 n2] 49 (0, 0))).cell? ⟨g, 0, none⟩ = some (.slice A o.length c) := (blk_cell (blk_alloc h1 _) 0).trans rfl
  go_enter Try.func38, Try.ntmps38
  go_wp2_with (go_at_call 39; refine (slices_Index_int_int.calls K A c o n0 p _ (Kd.C_alloc HR.out _) HC.out H.out).mono ?_; rintro e w' ⟨rfl, hb⟩; have HB := Aside0.mk (hb.below); clear hb)
  go_ret
  exact ⟨rfl, below_step (below_alloc (Below.refl _ _) _) HB.out⟩
/-- An end that must not be. -/
def impl_IsDiagram.bad (K : Nat) (l : List S49) (o : List Int) (i p t : Int) : Option Bool :=
  if t < -2 then some true else if i ≤ t then some true else if 0 ≤ t then (slices_Index_int_int.f K o (rd_T49 l t).f0).bind fun q => some (decide (q ≤ p)) else some false
def impl_IsDiagram.first (K : Nat) (l : List S49) (i n0 n1 n2 p : Int) : Option Bool :=
  if p < 0 then some true else if n1 = n2 then some true else (impl_Node.f K l n0 n1 n2).bind fun q => some (q != i)
def impl_IsDiagram.ends (K : Nat) (l : List S49) (o : List Int) (i p : Int) (c : Option Bool) : List Int → Option Bool
  | [] => c
  | t :: ts => (impl_IsDiagram.bad K l o i p t).bind fun b => if b = true then some false else impl_IsDiagram.ends K l o i p c ts
def impl_IsDiagram.one (K : Nat) (l : List S49) (o : List Int) (i n0 n1 n2 : Int) (c : Option Bool) : Option Bool :=
  (slices_Index_int_int.f K o n0).bind fun p => (impl_IsDiagram.first K l i n0 n1 n2 p).bind fun b => if b = true then some false else impl_IsDiagram.ends K l o i p c [n1, n2]
def impl_IsDiagram.l0 (K : Nat) (l : List S49) (o : List Int) : Nat → Nat → Option Bool
  | 0, _ => some true
  | d + 1, i => impl_IsDiagram.one K l o i (rd_T49 l i).f0 (rd_T49 l i).f1 (rd_T49 l i).f2 (impl_IsDiagram.l0 K l o d (i + 1))
def impl_IsDiagram.g (K : Nat) (l : List S49) (o : List Int) : Option Bool :=
  if 5 < o.length then some false else (impl_isOrder.f K o o.length).bind fun t => if t = true then (if l.length < 1 then some false else if 31 < l.length then some false else impl_IsDiagram.l0 K l o l.length 0) else some false
set_option maxHeartbeats 400000 in
set_option maxRecDepth 100000 in
theorem impl_IsDiagram.no (K : Nat) (A0 : Option Addr) (c0 : Nat) (l : List S49) (A1 : Option Addr) (c1 : Nat) (o : List Int) (w : World) (hr1 : Kd.C (Kd.int .i64) w A1 o.length o) (hc1 : o.length ≤ c1) (hl0 : l.length ≤ 9223372036854775807) (hl1 : o.length ≤ 9223372036854775807)
    (h : 5 < o.length ∨ (o.length ≤ 5 ∧ impl_isOrder.f K o o.length = some false) ∨ (o.length ≤ 5 ∧ impl_isOrder.f K o o.length = some true ∧ (l.length < 1 ∨ 31 < l.length))) :
    Calls Try.prog 16 #[.slice A0 l.length c0, .slice A1 o.length c1] w fun e w' => e = .returned (.bool false) ∧ Below w.heap.size w w' := by
  have BK := blk_new w (.cells #[.slice A1 o.length c1] 29 (0, 0))
  have HB := Aside0.mk (below_alloc (Below.refl w.heap.size w) (.cells #[.slice A1 o.length c1] 29 (0, 0)))
  have hd1 : (w.alloc (.cells #[.slice A1 o.length c1] 29 (0, 0))).cell? ⟨w.heap.size, 0, none⟩ = some (.slice A1 o.length c1) := (blk_cell BK 0).trans rfl
  have HR := Aside0.mk hr1
  have HC := Aside0.mk hc1
  clear hr1 hc1
  rcases h with h5 | ⟨h5, h6⟩ | ⟨h5, h6, h7⟩
  · have d1 : decide ((5 : Int) < (o.length : Int)) = true := decide_eq_true (by omega)
    have d2 : decide (5 < o.length) = true := decide_eq_true h5
    go_enter Try.func16, Try.ntmps16
    go_wp2
    go_ret
    exact ⟨rfl, HB.out⟩
  · have d1 : decide ((5 : Int) < (o.length : Int)) = false := decide_eq_false (by omega)
    have d2 : decide (5 < o.length) = false := decide_eq_false (by omega)
    have H6 := Aside0.mk h6
    clear h6
    go_enter Try.func16, Try.ntmps16
    go_wp2_with (go_at_call 37; refine (impl_isOrder.calls K A1 c1 o o.length false _ (Kd.C_alloc HR.out _) HC.out H6.out).mono ?_; rintro e w' ⟨rfl, hb⟩; have HB' := Aside0.mk (below_step HB.out hb.below); clear hb)
    go_ret
    exact ⟨rfl, HB'.out⟩
  · have d1 : decide ((5 : Int) < (o.length : Int)) = false := decide_eq_false (by omega)
    have d2 : decide (5 < o.length) = false := decide_eq_false (by omega)
    have H6 := Aside0.mk h6
    clear h6
    by_cases h8 : l.length < 1
    · have e1 : decide ((l.length : Int) < 1) = true := decide_eq_true (by omega)
      have e2 : decide (l.length < 1) = true := decide_eq_true h8
      have e3 : decide (l.length = 0) = true := decide_eq_true (by omega)
      go_enter Try.func16, Try.ntmps16
      go_wp2_with (go_at_call 37; refine (impl_isOrder.calls K A1 c1 o o.length true _ (Kd.C_alloc HR.out _) HC.out H6.out).mono ?_; rintro e w' ⟨rfl, hb⟩; have HB' := Aside0.mk (below_step HB.out hb.below); clear hb)
      go_ret
      exact ⟨rfl, HB'.out⟩
    · have h9 : 31 < l.length := by omega
      have e1 : decide ((l.length : Int) < 1) = false := decide_eq_false (by omega)
      have e2 : decide (l.length < 1) = false := decide_eq_false h8
      have e3 : decide (l.length = 0) = false := decide_eq_false (by omega)
      have e4 : decide ((31 : Int) < (l.length : Int)) = true := decide_eq_true (by omega)
      have e5 : decide (31 < l.length) = true := decide_eq_true h9
      go_enter Try.func16, Try.ntmps16
      go_wp2_with (go_at_call 37; refine (impl_isOrder.calls K A1 c1 o o.length true _ (Kd.C_alloc HR.out _) HC.out H6.out).mono ?_; rintro e w' ⟨rfl, hb⟩; have HB' := Aside0.mk (below_step HB.out hb.below); clear hb)
      go_ret
      exact ⟨rfl, HB'.out⟩
set_option maxHeartbeats 1600000 in
set_option maxRecDepth 100000 in
theorem impl_IsDiagram.yes (KN : Nat) (A0 : Option Addr) (c0 : Nat) (l : List S49) (A1 : Option Addr) (c1 : Nat) (o : List Int) (r : Bool) (w : World) (hr0 : Kd.C k49 w A0 l.length l) (hc0 : l.length ≤ c0) (hr1 : Kd.C (Kd.int .i64) w A1 o.length o) (hc1 : o.length ≤ c1)
    (h5 : o.length ≤ 5) (h6 : impl_isOrder.f KN o o.length = some true) (h7 : 1 ≤ l.length) (h8 : l.length ≤ 31) (h : impl_IsDiagram.l0 KN l o l.length 0 = some r) :
    Calls Try.prog 16 #[.slice A0 l.length c0, .slice A1 o.length c1] w fun e w' => e = .returned (.bool r) ∧ Below w.heap.size w w' := by
  have hu := Try.underlying49
  have BK := blk_new w (.cells #[.slice A1 o.length c1] 29 (0, 0))
  have HB := Aside0.mk (below_alloc (Below.refl w.heap.size w) (.cells #[.slice A1 o.length c1] 29 (0, 0)))
  have hd1 : (w.alloc (.cells #[.slice A1 o.length c1] 29 (0, 0))).cell? ⟨w.heap.size, 0, none⟩ = some (.slice A1 o.length c1) := (blk_cell BK 0).trans rfl
  have HR := Aside0.mk hr1
  have HC := Aside0.mk hc1
  have HR0 := Aside0.mk hr0
  have HC0 := Aside0.mk hc0
  have H6 := Aside0.mk h6
  have HBK := Aside0.mk BK
  have H0 := Aside0.mk h
  clear hr1 hc1 hr0 hc0 h6 BK h
  obtain ⟨M, hM⟩ : ∃ M : Nat, M = l.length := ⟨_, rfl⟩
  obtain ⟨O, hO⟩ : ∃ O : Nat, O = o.length := ⟨_, rfl⟩
  have eg := enters_of Try.func38 (by kernel_rfl) rfl
  have EG := Aside0.mk eg
  clear eg
  have d1 : decide ((5 : Int) < (o.length : Int)) = false := decide_eq_false (by omega)
  have d2 : decide (5 < o.length) = false := decide_eq_false (by omega)
  have e1 : decide ((l.length : Int) < 1) = false := decide_eq_false (by omega)
  have e2 : decide (l.length < 1) = false := decide_eq_false (by omega)
  have e3 : decide (l.length = 0) = false := decide_eq_false (by omega)
  have e4 : decide ((31 : Int) < (l.length : Int)) = false := decide_eq_false (by omega)
  have e5 : decide (31 < l.length) = false := decide_eq_false (by omega)
  go_enter Try.func16, Try.ntmps16
  go_wp2_with (go_at_call 37; refine (impl_isOrder.calls KN A1 c1 o o.length true _ (Kd.C_alloc HR.out _) HC.out H6.out).mono ?_; rintro e w1 ⟨rfl, hb⟩; have BK1 := Aside0.mk (blk_below HBK.out hb.below); have HB1 := Aside0.mk (below_step HB.out hb.below); clear hb)
  clear d1 d2 e1 e2 e3 e4 e5 hd1
  go_loopg [33] l.length (fun gg v33 wr => ∃ x d : Nat, x + d = l.length ∧ d ≤ gg ∧ v33 = .int .i64 x ∧ Aside0 (impl_IsDiagram.l0 KN l o d x = some r) ∧ Aside0 (wr.heap[w.heap.size]? = some (.cells #[.slice A1 o.length c1] 29 (0, 0))) ∧ Aside0 (Below w.heap.size w wr))
  case atStart => exact ⟨0, l.length, by omega, by omega, rfl, H0, BK1, HB1⟩
  case round =>
    clear H0 BK1 HB1 HB HBK
    obtain ⟨x, d, hx, hg, rfl, H0, BK, HB⟩ := hrel
    cases d with
    | zero =>
      have hltz : ¬ (x : Int) < (l.length : Int) := by omega
      obtain rfl := Option.some.inj H0.out
      go_wp2
      go_ret
      exact ⟨rfl, HB.out⟩
    | succ d =>
      have hltz : (x : Int) < (l.length : Int) := by omega
      have h0z : (0 : Int) ≤ (x : Int) := by omega
      have H1 := H0.out
      rw [impl_IsDiagram.l0, impl_IsDiagram.one] at H1
      obtain ⟨p, hp, H2⟩ := Option.bind_eq_some_iff.mp H1
      obtain ⟨b, hbb, H3⟩ := Option.bind_eq_some_iff.mp H2
      have HP := Aside0.mk hp
      have HBB := Aside0.mk hbb
      have H4 := Aside0.mk H3
      clear H0 H1 H2 H3 hp hbb
      obtain ⟨ad, eA, q0, q1, q2⟩ := at_T49 HR0.out (x : Int) h0z hltz
      replace q0 := (HB.out.cell (World.block_lt_of_cell? w _ q0)).trans q0
      replace q1 := (HB.out.cell (World.block_lt_of_cell? w _ q1)).trans q1
      replace q2 := (HB.out.cell (World.block_lt_of_cell? w _ q2)).trans q2
      rw [Int.toNat_natCast] at q0 q1 q2
      cases eA
      generalize (rd_T49 l (x : Int)).f0 = n0 at HP HBB H4 q0
      generalize (rd_T49 l (x : Int)).f1 = n1 at HP HBB H4 q1
      generalize (rd_T49 l (x : Int)).f2 = n2 at HP HBB H4 q2
      have GS : w.heap.size ≤ wr.heap.size := below_size HB.out
      have HBn := Aside0.mk (below_alloc HB.out (.cells #[.int .i64 n0, .int .i64 n1, .int .i64 n2] 49 (0, 0)))
      have BKn := Aside0.mk (blk_alloc BK.out (.cells #[.int .i64 n0, .int .i64 n1, .int .i64 n2] 49 (0, 0)))
      have BNn := Aside0.mk (blk_new wr (.cells #[.int .i64 n0, .int .i64 n1, .int .i64 n2] 49 (0, 0)))
      have hz0 : (wr.alloc (.cells #[.int .i64 n0, .int .i64 n1, .int .i64 n2] 49 (0, 0))).cell? ⟨wr.heap.size, 0, none⟩ = some (.int .i64 n0) := (blk_cell BNn.out 0).trans rfl
      have hz1 : (wr.alloc (.cells #[.int .i64 n0, .int .i64 n1, .int .i64 n2] 49 (0, 0))).cell? ⟨wr.heap.size, 1, none⟩ = some (.int .i64 n1) := (blk_cell BNn.out 1).trans rfl
      have hz2 : (wr.alloc (.cells #[.int .i64 n0, .int .i64 n1, .int .i64 n2] 49 (0, 0))).cell? ⟨wr.heap.size, 2, none⟩ = some (.int .i64 n2) := (blk_cell BNn.out 2).trans rfl
      go_upto_region 7 with (fail)
      clear q0 q1 q2
      have H5 := HBB.out
      unfold impl_IsDiagram.first at H5
      by_cases f1 : p < 0
      · rw [if_pos f1] at H5
        obtain rfl := Option.some.inj H5
        have H6 := H4.out
        rw [if_pos rfl] at H6
        obtain rfl := Option.some.inj H6
        have f2 : decide (p < 0) = true := decide_eq_true f1
        clear H4 HBB
        go_wp2_with (with_reducible refine (impl_IsDiagram_1.any KN o n0 n1 n2 p A1 c1 w.heap.size _ (Kd.C_below HR.out HBn.out) HC.out BKn.out HP.out).mono ?_; rintro e w2 ⟨rfl, hb⟩; have BK2 := Aside0.mk (blk_below BKn.out hb); have BN2 := Aside0.mk (blk_below BNn.out hb); have HB2 := Aside0.mk (below_step HBn.out hb); clear hb hz0 hz1 hz2; have hy0 : w2.cell? ⟨wr.heap.size, 0, none⟩ = some (.int .i64 n0) := (blk_cell BN2.out 0).trans rfl; have hy1 : w2.cell? ⟨wr.heap.size, 1, none⟩ = some (.int .i64 n1) := (blk_cell BN2.out 1).trans rfl; have hy2 : w2.cell? ⟨wr.heap.size, 2, none⟩ = some (.int .i64 n2) := (blk_cell BN2.out 2).trans rfl)
        go_ret
        exact ⟨rfl, HB2.out⟩
      · rw [if_neg f1] at H5
        have f2 : decide (p < 0) = false := decide_eq_false f1
        by_cases f3 : n1 = n2
        · rw [if_pos f3] at H5
          obtain rfl := Option.some.inj H5
          have H6 := H4.out
          rw [if_pos rfl] at H6
          obtain rfl := Option.some.inj H6
          subst f3
          clear H4 HBB
          go_wp2_with (with_reducible refine (impl_IsDiagram_1.any KN o n0 n1 n1 p A1 c1 w.heap.size _ (Kd.C_below HR.out HBn.out) HC.out BKn.out HP.out).mono ?_; rintro e w2 ⟨rfl, hb⟩; have BK2 := Aside0.mk (blk_below BKn.out hb); have BN2 := Aside0.mk (blk_below BNn.out hb); have HB2 := Aside0.mk (below_step HBn.out hb); clear hb hz0 hz1 hz2; have hy0 : w2.cell? ⟨wr.heap.size, 0, none⟩ = some (.int .i64 n0) := (blk_cell BN2.out 0).trans rfl; have hy1 : w2.cell? ⟨wr.heap.size, 1, none⟩ = some (.int .i64 n1) := (blk_cell BN2.out 1).trans rfl; have hy2 : w2.cell? ⟨wr.heap.size, 2, none⟩ = some (.int .i64 n1) := (blk_cell BN2.out 2).trans rfl)
          go_ret
          exact ⟨rfl, HB2.out⟩
        · rw [if_neg f3] at H5
          obtain ⟨q, hq, H7⟩ := Option.bind_eq_some_iff.mp H5
          obtain rfl := Option.some.inj H7
          have HQ := Aside0.mk hq
          have f4 : decide (n1 = n2) = false := decide_eq_false f3
          have f5 : (n1 == n2) = false := beq_eq_false_iff_ne.mpr f3
          clear H5 H7 hq HBB
          by_cases f6 : q = (x : Int)
          · subst f6
            have H6 := H4.out
            rw [if_neg (by simp)] at H6
            have H8 := Aside0.mk H6
            clear H4 H6
            go_upto_region 9 with (first | (with_reducible refine (impl_IsDiagram_1.any KN o n0 n1 n2 p A1 c1 w.heap.size _ (Kd.C_below HR.out HBn.out) HC.out BKn.out HP.out).mono ?_; rintro e w2 ⟨rfl, hb⟩; have BK2 := Aside0.mk (blk_below BKn.out hb); have BN2 := Aside0.mk (blk_below BNn.out hb); have HB2 := Aside0.mk (below_step HBn.out hb); clear hb hz0 hz1 hz2; have hy0 : w2.cell? ⟨wr.heap.size, 0, none⟩ = some (.int .i64 n0) := (blk_cell BN2.out 0).trans rfl; have hy1 : w2.cell? ⟨wr.heap.size, 1, none⟩ = some (.int .i64 n1) := (blk_cell BN2.out 1).trans rfl; have hy2 : w2.cell? ⟨wr.heap.size, 2, none⟩ = some (.int .i64 n2) := (blk_cell BN2.out 2).trans rfl) | (go_at_call 40; refine (impl_Node.calls KN _ c0 l n0 n1 n2 _ _ (Kd.C_below HR0.out HB2.out) HC0.out HQ.out).mono ?_; rintro e w3 ⟨rfl, hb⟩; have BK3 := Aside0.mk (blk_below BK2.out hb); have BN3 := Aside0.mk (blk_below BN2.out hb); have HB3 := Aside0.mk (below_step HB2.out hb); clear hb hy0 hy1 hy2; have hx0 : w3.cell? ⟨wr.heap.size, 0, none⟩ = some (.int .i64 n0) := (blk_cell BN3.out 0).trans rfl; have hx1 : w3.cell? ⟨wr.heap.size, 1, none⟩ = some (.int .i64 n1) := (blk_cell BN3.out 1).trans rfl; have hx2 : w3.cell? ⟨wr.heap.size, 2, none⟩ = some (.int .i64 n2) := (blk_cell BN3.out 2).trans rfl))
            go_wp2
            have BK4 := Aside0.mk (blk_alloc BK3.out (.cells #[.int .i64 n1, .int .i64 n2] 3 (0, 0)))
            have BN4 := Aside0.mk (blk_alloc BN3.out (.cells #[.int .i64 n1, .int .i64 n2] 3 (0, 0)))
            have BE4 := Aside0.mk (blk_new w3 (.cells #[.int .i64 n1, .int .i64 n2] 3 (0, 0)))
            have HB4 := Aside0.mk (below_alloc HB3.out (.cells #[.int .i64 n1, .int .i64 n2] 3 (0, 0)))
            clear hx0 hx1 hx2 BK2 BN2 HB2 BK3 BN3 HB3 BKn HBn BNn BK HB HQ f2 f4 f5
            generalize wr.heap.size = Gn at BN4 ⊢
            generalize w3.heap.size = Ge at BE4 ⊢
            go_loopg [62] 2 (fun gi v62 ws => ∃ y : Int, (y = 0 ∨ y = 1 ∨ y = 2) ∧ 2 - y.toNat ≤ gi ∧ v62 = .int .i64 y ∧ Aside0 (impl_IsDiagram.ends KN l o x p (impl_IsDiagram.l0 KN l o d (x + 1)) (([n1, n2] : List Int).drop y.toNat) = some r) ∧ Aside0 (ws.heap[w.heap.size]? = some (.cells #[.slice A1 o.length c1] 29 (0, 0))) ∧ Aside0 (ws.heap[Gn]? = some (.cells #[.int .i64 n0, .int .i64 n1, .int .i64 n2] 49 (0, 0))) ∧ Aside0 (ws.heap[Ge]? = some (.cells #[.int .i64 n1, .int .i64 n2] 3 (0, 0))) ∧ Aside0 (Below w.heap.size w ws))
            case atStart => exact ⟨0, by omega, by decide, rfl, H8, BK4, BN4, BE4, HB4⟩
            case round =>
              clear H8 BK4 BN4 BE4 HB4
              obtain ⟨y, hy, hgi, rfl, HE, BK, BN, BE, HB⟩ := hrel
              rcases hy with rfl | rfl | rfl
              · replace hgi : 2 ≤ _ := hgi
                have hE0 : wr.cell? ⟨Ge, 0, none⟩ = some (.int .i64 n1) := (blk_cell BE.out 0).trans rfl
                have H1 : (impl_IsDiagram.bad KN l o x p n1).bind (fun b => if b = true then some false else impl_IsDiagram.ends KN l o x p (impl_IsDiagram.l0 KN l o d (x + 1)) [n2]) = some r := HE.out
                obtain ⟨b, hb, H2⟩ := Option.bind_eq_some_iff.mp H1
                clear HE H1
                unfold impl_IsDiagram.bad at hb
                by_cases g1 : n1 < -2
                · rw [if_pos g1] at hb
                  obtain rfl := Option.some.inj hb
                  rw [if_pos rfl] at H2
                  obtain rfl := Option.some.inj H2
                  have g2 : decide (n1 < -2) = true := decide_eq_true g1
                  go_wp2
                  repeat (go_quiet (fail); try go_wp2)
                  go_ret
                  exact ⟨rfl, by repeat (first | (with_reducible first | exact HB.out | apply below_alloc | apply pw_below_drewN | apply below_drew1) | exact HB.out)⟩
                · rw [if_neg g1] at hb
                  have g2 : decide (n1 < -2) = false := decide_eq_false g1
                  by_cases g3 : (x : Int) ≤ n1
                  · rw [if_pos g3] at hb
                    obtain rfl := Option.some.inj hb
                    rw [if_pos rfl] at H2
                    obtain rfl := Option.some.inj H2
                    have g4 : decide ((x : Int) ≤ n1) = true := decide_eq_true g3
                    go_wp2
                    repeat (go_quiet (fail); try go_wp2)
                    go_ret
                    exact ⟨rfl, by repeat (first | (with_reducible first | exact HB.out | apply below_alloc | apply pw_below_drewN | apply below_drew1) | exact HB.out)⟩
                  · rw [if_neg g3] at hb
                    have g4 : decide ((x : Int) ≤ n1) = false := decide_eq_false g3
                    by_cases g5 : 0 ≤ n1
                    · rw [if_pos g5] at hb
                      have g6 : decide (0 ≤ n1) = true := decide_eq_true g5
                      obtain ⟨q, hq, hb⟩ := Option.bind_eq_some_iff.mp hb
                      obtain rfl := Option.some.inj hb
                      obtain ⟨tn, rfl⟩ := Int.eq_ofNat_of_zero_le g5
                      have g4n : decide (x ≤ tn) = false := decide_eq_false (by omega)
                      have hz9 : (tn : Int) < (l.length : Int) := by omega
                      obtain ⟨ad', eA, C0, C1, C2⟩ := at_T49 HR0.out (tn : Int) g5 hz9
                      cases eA
                      rw [Int.toNat_natCast] at C0 C1 C2
                      have C0 := Aside0.mk ((HB.out.cell (World.block_lt_of_cell? w _ C0)).trans C0)
                      have C1 := Aside0.mk ((HB.out.cell (World.block_lt_of_cell? w _ C1)).trans C1)
                      have C2 := Aside0.mk ((HB.out.cell (World.block_lt_of_cell? w _ C2)).trans C2)
                      generalize (rd_T49 l (tn : Int)).f0 = m0 at C0 hq
                      generalize (rd_T49 l (tn : Int)).f1 = m1 at C1
                      generalize (rd_T49 l (tn : Int)).f2 = m2 at C2
                      have HQ2 := Aside0.mk hq
                      clear hq hb
                      have C3 : Aside0 (wr.cell? ⟨Gn, 0, none⟩ = some (.int .i64 n0)) := ⟨(blk_cell BN.out 0).trans rfl⟩
                      have C4 : Aside0 (wr.cell? ⟨Gn, 1, none⟩ = some (.int .i64 (tn : Int))) := ⟨(blk_cell BN.out 1).trans rfl⟩
                      have C5 : Aside0 (wr.cell? ⟨Gn, 2, none⟩ = some (.int .i64 n2)) := ⟨(blk_cell BN.out 2).trans rfl⟩
                      go_wp2
                      have n0_ : Aside0 (wr.drew.cell? (ad.add (tn * 3)) = some (.int .i64 m0)) := C0
                      clear C0
                      have C0 := n0_
                      clear n0_
                      have n1_ : Aside0 (wr.drew.cell? ⟨(ad.add (tn * 3)).block, (ad.add (tn * 3)).off + 1, none⟩ = some (.int .i64 m1)) := C1
                      clear C1
                      have C1 := n1_
                      clear n1_
                      have n2_ : Aside0 (wr.drew.cell? ⟨(ad.add (tn * 3)).block, (ad.add (tn * 3)).off + 2, none⟩ = some (.int .i64 m2)) := C2
                      clear C2
                      have C2 := n2_
                      clear n2_
                      have n3_ : Aside0 (wr.drew.cell? ⟨Gn, 0, none⟩ = some (.int .i64 n0)) := C3
                      clear C3
                      have C3 := n3_
                      clear n3_
                      have n4_ : Aside0 (wr.drew.cell? ⟨Gn, 1, none⟩ = some (.int .i64 (tn : Int))) := C4
                      clear C4
                      have C4 := n4_
                      clear n4_
                      have n5_ : Aside0 (wr.drew.cell? ⟨Gn, 2, none⟩ = some (.int .i64 n2)) := C5
                      clear C5
                      have C5 := n5_
                      clear n5_
                      have n_ := Aside0.mk (below_drew1 HB.out)
                      clear HB
                      have HB := n_
                      clear n_
                      have n_ := Aside0.mk (blk_drew BK.out)
                      clear BK
                      have BK := n_
                      clear n_
                      have n_ := Aside0.mk (blk_drew BN.out)
                      clear BN
                      have BN := n_
                      clear n_
                      have n_ := Aside0.mk (blk_drew BE.out)
                      clear BE
                      have BE := n_
                      clear n_
                      refine start_ (n := 23) (S := (fun w_ => w_.cell? (ad.add (tn * 3)) = some (.int .i64 m0) ∧ w_.cell? ⟨(ad.add (tn * 3)).block, (ad.add (tn * 3)).off + 1, none⟩ = some (.int .i64 m1) ∧ w_.cell? ⟨(ad.add (tn * 3)).block, (ad.add (tn * 3)).off + 2, none⟩ = some (.int .i64 m2) ∧ w_.cell? ⟨Gn, 0, none⟩ = some (.int .i64 n0) ∧ w_.cell? ⟨Gn, 1, none⟩ = some (.int .i64 (tn : Int)) ∧ w_.cell? ⟨Gn, 2, none⟩ = some (.int .i64 n2))) (ds := []) #[false, false, false, false, false, false, false, false, false, false, false, false, false, false, false, false, false, false, false, false, false, false, false] (by kernel_rfl) rfl rfl ⟨C0.out, C1.out, C2.out, C3.out, C4.out, C5.out⟩ (fun hHeld => ?_)
                      generalize wr.drew = W0_ at C0 C1 C2 C3 C4 C5 HB BK BN BE hHeld ⊢
                      refine pure_ (i := 0) (N := some 66) (v := ?_) (a' := ?_) #[true, false, false, false, false, false, false, false, false, false, false, false, false, false, false, false, false, false, false, false, false, false, false] rfl rfl (by kernel_rfl) (fun _ _ _ h => h) (Or.inl ⟨by rfl, ?_⟩) ?_ ?_
                      rotate_left
                      · intro w'
                        go_simp
                        with_reducible rfl
                      rotate_left
                      · simp only [Act.put, List.setIfInBounds_toArray, List.set_cons_zero, List.set_cons_succ, i64_w, i32_w]
                        rfl
                      refine pure_ (i := 1) (N := some 67) (v := ?_) (a' := ?_) #[true, true, false, false, false, false, false, false, false, false, false, false, false, false, false, false, false, false, false, false, false, false, false] rfl rfl (by kernel_rfl) (fun _ _ _ h => h) (Or.inl ⟨by rfl, ?_⟩) ?_ ?_
                      rotate_left
                      · intro w'
                        go_simp
                        first | rw [g2] | skip
                        with_reducible rfl
                      rotate_left
                      · simp only [Act.put, List.setIfInBounds_toArray, List.set_cons_zero, List.set_cons_succ, i64_w, i32_w]
                        rfl
                      refine pure_ (i := 2) (N := some 68) (v := ?_) (a' := ?_) #[true, true, true, false, false, false, false, false, false, false, false, false, false, false, false, false, false, false, false, false, false, false, false] rfl rfl (by kernel_rfl) (fun _ _ _ h => h) (Or.inl ⟨by rfl, ?_⟩) ?_ ?_
                      rotate_left
                      · intro w'
                        go_simp
                        with_reducible rfl
                      rotate_left
                      · simp only [Act.put, List.setIfInBounds_toArray, List.set_cons_zero, List.set_cons_succ, i64_w, i32_w]
                        rfl
                      refine pure_ (i := 3) (N := some 69) (v := ?_) (a' := ?_) #[true, true, true, true, false, false, false, false, false, false, false, false, false, false, false, false, false, false, false, false, false, false, false] rfl rfl (by kernel_rfl) (fun _ _ _ h => h) (Or.inl ⟨by rfl, ?_⟩) ?_ ?_
                      rotate_left
                      · intro w'
                        go_simp
                        with_reducible rfl
                      rotate_left
                      · simp only [Act.put, List.setIfInBounds_toArray, List.set_cons_zero, List.set_cons_succ, i64_w, i32_w]
                        rfl
                      refine pure_ (i := 4) (N := some 70) (v := ?_) (a' := ?_) #[true, true, true, true, true, false, false, false, false, false, false, false, false, false, false, false, false, false, false, false, false, false, false] rfl rfl (by kernel_rfl) (fun _ _ _ h => h) (Or.inl ⟨by rfl, ?_⟩) ?_ ?_
                      rotate_left
                      · intro w'
                        go_simp
                        with_reducible rfl
                      rotate_left
                      · simp only [Act.put, List.setIfInBounds_toArray, List.set_cons_zero, List.set_cons_succ, i64_w, i32_w]
                        rfl
                      refine pure_ (i := 5) (N := some 71) (v := ?_) (a' := ?_) #[true, true, true, true, true, true, false, false, false, false, false, false, false, false, false, false, false, false, false, false, false, false, false] rfl rfl (by kernel_rfl) (fun _ _ _ h => h) (Or.inl ⟨by rfl, ?_⟩) ?_ ?_
                      rotate_left
                      · intro w'
                        go_simp
                        first | rw [g4] | rw [g4n] | skip
                        with_reducible rfl
                      rotate_left
                      · simp only [Act.put, List.setIfInBounds_toArray, List.set_cons_zero, List.set_cons_succ, i64_w, i32_w]
                        rfl
                      refine pure_ (i := 6) (N := some 72) (v := ?_) (a' := ?_) #[true, true, true, true, true, true, true, false, false, false, false, false, false, false, false, false, false, false, false, false, false, false, false] rfl rfl (by kernel_rfl) (fun _ _ _ h => h) (Or.inl ⟨by rfl, ?_⟩) ?_ ?_
                      rotate_left
                      · intro w'
                        go_simp
                        with_reducible rfl
                      rotate_left
                      · simp only [Act.put, List.setIfInBounds_toArray, List.set_cons_zero, List.set_cons_succ, i64_w, i32_w]
                        rfl
                      refine pure_ (i := 7) (N := some 73) (v := ?_) (a' := ?_) #[true, true, true, true, true, true, true, true, false, false, false, false, false, false, false, false, false, false, false, false, false, false, false] rfl rfl (by kernel_rfl) (fun _ _ _ h => h) (Or.inl ⟨by rfl, ?_⟩) ?_ ?_
                      rotate_left
                      · intro w'
                        go_simp
                        with_reducible rfl
                      rotate_left
                      · simp only [Act.put, List.setIfInBounds_toArray, List.set_cons_zero, List.set_cons_succ, i64_w, i32_w]
                        rfl
                      refine pure_ (i := 8) (N := some 74) (v := ?_) (a' := ?_) #[true, true, true, true, true, true, true, true, true, false, false, false, false, false, false, false, false, false, false, false, false, false, false] rfl rfl (by kernel_rfl) (fun _ _ _ h => h) (Or.inl ⟨by rfl, ?_⟩) ?_ ?_
                      rotate_left
                      · intro w'
                        go_simp
                        with_reducible rfl
                      rotate_left
                      · simp only [Act.put, List.setIfInBounds_toArray, List.set_cons_zero, List.set_cons_succ, i64_w, i32_w]
                        rfl
                      refine pure_ (i := 9) (N := some 75) (v := ?_) (a' := ?_) #[true, true, true, true, true, true, true, true, true, true, false, false, false, false, false, false, false, false, false, false, false, false, false] rfl rfl (by kernel_rfl) (fun _ _ _ h => h) (Or.inl ⟨by rfl, ?_⟩) ?_ ?_
                      rotate_left
                      · intro w'
                        go_simp
                        first | done | rw [g6] | skip
                        with_reducible rfl
                      rotate_left
                      · simp only [Act.put, List.setIfInBounds_toArray, List.set_cons_zero, List.set_cons_succ, i64_w, i32_w]
                        rfl
                      refine pure_ (i := 10) (N := some 76) (v := ?_) (a' := ?_) #[true, true, true, true, true, true, true, true, true, true, true, false, false, false, false, false, false, false, false, false, false, false, false] rfl rfl (by kernel_rfl) (fun _ _ _ h => h) (Or.inl ⟨by rfl, ?_⟩) ?_ ?_
                      rotate_left
                      · intro w'
                        go_simp
                        with_reducible rfl
                      rotate_left
                      · simp only [Act.put, List.setIfInBounds_toArray, List.set_cons_zero, List.set_cons_succ, i64_w, i32_w]
                        rfl
                      refine pure_ (i := 11) (N := some 77) (v := ?_) (a' := ?_) #[true, true, true, true, true, true, true, true, true, true, true, true, false, false, false, false, false, false, false, false, false, false, false] rfl rfl (by kernel_rfl) (fun _ _ _ h => h) (Or.inl ⟨by rfl, ?_⟩) ?_ ?_
                      rotate_left
                      · intro w'
                        go_simp
                        with_reducible rfl
                      rotate_left
                      · simp only [Act.put, List.setIfInBounds_toArray, List.set_cons_zero, List.set_cons_succ, i64_w, i32_w]
                        rfl
                      refine pure_ (i := 12) (N := some 78) (v := ?_) (a' := ?_) #[true, true, true, true, true, true, true, true, true, true, true, true, true, false, false, false, false, false, false, false, false, false, false] rfl rfl (by kernel_rfl) (fun _ _ _ h => h) (Or.inl ⟨by rfl, ?_⟩) ?_ ?_
                      rotate_left
                      · intro w'
                        go_simp
                        with_reducible rfl
                      rotate_left
                      · simp only [Act.put, List.setIfInBounds_toArray, List.set_cons_zero, List.set_cons_succ, i64_w, i32_w]
                        rfl
                      refine pure_ (i := 13) (N := some 79) (v := ?_) (a' := ?_) #[true, true, true, true, true, true, true, true, true, true, true, true, true, true, false, false, false, false, false, false, false, false, false] rfl rfl (by kernel_rfl) (fun _ _ _ h => h) (Or.inl ⟨by rfl, ?_⟩) ?_ ?_
                      rotate_left
                      · intro w'
                        go_simp
                        with_reducible rfl
                      rotate_left
                      · simp only [Act.put, List.setIfInBounds_toArray, List.set_cons_zero, List.set_cons_succ, i64_w, i32_w]
                        rfl
                      refine pure_ (i := 14) (N := some 80) (v := ?_) (a' := ?_) #[true, true, true, true, true, true, true, true, true, true, true, true, true, true, true, false, false, false, false, false, false, false, false] rfl rfl (by kernel_rfl) (fun _ _ _ h => h) (Or.inl ⟨by rfl, ?_⟩) ?_ ?_
                      rotate_left
                      · intro w'
                        go_simp
                        with_reducible rfl
                      rotate_left
                      · simp only [Act.put, List.setIfInBounds_toArray, List.set_cons_zero, List.set_cons_succ, i64_w, i32_w]
                        rfl
                      refine take_ (i := 15) (N := some 81) (v := ?_) (a' := ?_) #[true, true, true, true, true, true, true, true, true, true, true, true, true, true, true, true, false, false, false, false, false, false, false] rfl rfl (by kernel_rfl) (fun _ _ _ h => h) (Or.inl ⟨by rfl, ?_⟩) hHeld ?_ ?_
                      rotate_left
                      · rintro w' ⟨s0, s1, s2, s3, s4, s5⟩
                        go_simp
                        with_reducible rfl
                      rotate_left
                      · simp only [Act.put, List.setIfInBounds_toArray, List.set_cons_zero, List.set_cons_succ, i64_w, i32_w]
                        rfl
                      refine pure_ (i := 17) (N := some 83) (v := ?_) (a' := ?_) #[true, true, true, true, true, true, true, true, true, true, true, true, true, true, true, true, false, true, false, false, false, false, false] rfl rfl (by kernel_rfl) (fun _ _ _ h => h) (Or.inl ⟨by rfl, ?_⟩) ?_ ?_
                      rotate_left
                      · intro w'
                        go_simp
                        with_reducible rfl
                      rotate_left
                      · simp only [Act.put, List.setIfInBounds_toArray, List.set_cons_zero, List.set_cons_succ, i64_w, i32_w]
                        rfl
                      refine take_ (i := 18) (N := some 84) (v := ?_) (a' := ?_) #[true, true, true, true, true, true, true, true, true, true, true, true, true, true, true, true, false, true, true, false, false, false, false] rfl rfl (by kernel_rfl) (fun _ _ _ h => h) (Or.inl ⟨by rfl, ?_⟩) hHeld ?_ ?_
                      rotate_left
                      · rintro w' ⟨s0, s1, s2, s3, s4, s5⟩
                        go_simp
                        with_reducible rfl
                      rotate_left
                      · simp only [Act.put, List.setIfInBounds_toArray, List.set_cons_zero, List.set_cons_succ, i64_w, i32_w]
                        rfl
                      refine one_ (i := 16) (N := some 82) #[true, true, true, true, true, true, true, true, true, true, true, true, true, true, true, true, true, true, true, false, false, false, false] rfl rfl (by kernel_rfl) (by decide) (fun K hK => ?_)
                      refine call_ 38 #[.agg #[.int .i64 m0, .int .i64 m1, .int .i64 m2], .pointer (some ⟨w.heap.size, 0, none⟩)] (by rfl) rfl (by have he_ := enters_ Try.func38 (by kernel_rfl) rfl #[.agg #[.int .i64 m0, .int .i64 m1, .int .i64 m2], .pointer (some ⟨w.heap.size, 0, none⟩)] W0_; unfold execOp; first | (simp [resolve, Deferred.ofValue, invoke, Act.eval]; done) | (simp [resolve, Deferred.ofValue, invoke, Act.eval, he_]; done)) ?_
                      with_reducible refine (impl_IsDiagram_1.any KN o m0 m1 m2 q A1 c1 w.heap.size _ (Kd.C_below HR.out HB.out) HC.out BK.out HQ2.out).mono ?_
                      rintro e W1_ ⟨rfl, hb⟩
                      refine ⟨_, rfl, ?_⟩
                      have n0_ : Aside0 (W1_.cell? (ad.add (tn * 3)) = some (.int .i64 m0)) := ⟨pw_cell_below hb C0.out⟩
                      clear C0
                      have C0 := n0_
                      clear n0_
                      have n1_ : Aside0 (W1_.cell? ⟨(ad.add (tn * 3)).block, (ad.add (tn * 3)).off + 1, none⟩ = some (.int .i64 m1)) := ⟨pw_cell_below hb C1.out⟩
                      clear C1
                      have C1 := n1_
                      clear n1_
                      have n2_ : Aside0 (W1_.cell? ⟨(ad.add (tn * 3)).block, (ad.add (tn * 3)).off + 2, none⟩ = some (.int .i64 m2)) := ⟨pw_cell_below hb C2.out⟩
                      clear C2
                      have C2 := n2_
                      clear n2_
                      have n3_ : Aside0 (W1_.cell? ⟨Gn, 0, none⟩ = some (.int .i64 n0)) := ⟨pw_cell_below hb C3.out⟩
                      clear C3
                      have C3 := n3_
                      clear n3_
                      have n4_ : Aside0 (W1_.cell? ⟨Gn, 1, none⟩ = some (.int .i64 (tn : Int))) := ⟨pw_cell_below hb C4.out⟩
                      clear C4
                      have C4 := n4_
                      clear n4_
                      have n5_ : Aside0 (W1_.cell? ⟨Gn, 2, none⟩ = some (.int .i64 n2)) := ⟨pw_cell_below hb C5.out⟩
                      clear C5
                      have C5 := n5_
                      clear n5_
                      have n_ := Aside0.mk (blk_below BK.out hb)
                      clear BK
                      have BK := n_
                      clear n_
                      have n_ := Aside0.mk (blk_below BN.out hb)
                      clear BN
                      have BN := n_
                      clear n_
                      have n_ := Aside0.mk (blk_below BE.out hb)
                      clear BE
                      have BE := n_
                      clear n_
                      have n_ := Aside0.mk (below_step HB.out hb)
                      clear HB hb
                      have HB := n_
                      clear n_
                      refine hK.out _ _ ⟨C0.out, C1.out, C2.out, C3.out, C4.out, C5.out⟩ (fun hHeld => ?_)
                      clear hK K
                      refine norm_ (a' := ?_) ?_ ?_
                      rotate_left
                      · show Act.put _ (some 82) _ = _
                        simp only [Act.put, List.setIfInBounds_toArray, List.set_cons_zero, List.set_cons_succ, i64_w, i32_w]
                        rfl
                      refine one_ (i := 19) (N := some 85) #[true, true, true, true, true, true, true, true, true, true, true, true, true, true, true, true, true, true, true, true, false, false, false] rfl rfl (by kernel_rfl) (by decide) (fun K hK => ?_)
                      refine call_ 38 #[.agg #[.int .i64 n0, .int .i64 (tn : Int), .int .i64 n2], .pointer (some ⟨w.heap.size, 0, none⟩)] (by rfl) rfl (by have he_ := enters_ Try.func38 (by kernel_rfl) rfl #[.agg #[.int .i64 n0, .int .i64 (tn : Int), .int .i64 n2], .pointer (some ⟨w.heap.size, 0, none⟩)] W1_; unfold execOp; first | (simp [resolve, Deferred.ofValue, invoke, Act.eval]; done) | (simp [resolve, Deferred.ofValue, invoke, Act.eval, he_]; done)) ?_
                      with_reducible refine (impl_IsDiagram_1.any KN o n0 (tn : Int) n2 p A1 c1 w.heap.size _ (Kd.C_below HR.out HB.out) HC.out BK.out HP.out).mono ?_
                      rintro e W2_ ⟨rfl, hb⟩
                      refine ⟨_, rfl, ?_⟩
                      have n0_ : Aside0 (W2_.cell? (ad.add (tn * 3)) = some (.int .i64 m0)) := ⟨pw_cell_below hb C0.out⟩
                      clear C0
                      have C0 := n0_
                      clear n0_
                      have n1_ : Aside0 (W2_.cell? ⟨(ad.add (tn * 3)).block, (ad.add (tn * 3)).off + 1, none⟩ = some (.int .i64 m1)) := ⟨pw_cell_below hb C1.out⟩
                      clear C1
                      have C1 := n1_
                      clear n1_
                      have n2_ : Aside0 (W2_.cell? ⟨(ad.add (tn * 3)).block, (ad.add (tn * 3)).off + 2, none⟩ = some (.int .i64 m2)) := ⟨pw_cell_below hb C2.out⟩
                      clear C2
                      have C2 := n2_
                      clear n2_
                      have n3_ : Aside0 (W2_.cell? ⟨Gn, 0, none⟩ = some (.int .i64 n0)) := ⟨pw_cell_below hb C3.out⟩
                      clear C3
                      have C3 := n3_
                      clear n3_
                      have n4_ : Aside0 (W2_.cell? ⟨Gn, 1, none⟩ = some (.int .i64 (tn : Int))) := ⟨pw_cell_below hb C4.out⟩
                      clear C4
                      have C4 := n4_
                      clear n4_
                      have n5_ : Aside0 (W2_.cell? ⟨Gn, 2, none⟩ = some (.int .i64 n2)) := ⟨pw_cell_below hb C5.out⟩
                      clear C5
                      have C5 := n5_
                      clear n5_
                      have n_ := Aside0.mk (blk_below BK.out hb)
                      clear BK
                      have BK := n_
                      clear n_
                      have n_ := Aside0.mk (blk_below BN.out hb)
                      clear BN
                      have BN := n_
                      clear n_
                      have n_ := Aside0.mk (blk_below BE.out hb)
                      clear BE
                      have BE := n_
                      clear n_
                      have n_ := Aside0.mk (below_step HB.out hb)
                      clear HB hb
                      have HB := n_
                      clear n_
                      refine hK.out _ _ ⟨C0.out, C1.out, C2.out, C3.out, C4.out, C5.out⟩ (fun hHeld => ?_)
                      clear hK K
                      refine norm_ (a' := ?_) ?_ ?_
                      rotate_left
                      · show Act.put _ (some 85) _ = _
                        simp only [Act.put, List.setIfInBounds_toArray, List.set_cons_zero, List.set_cons_succ, i64_w, i32_w]
                        rfl
                      refine pure_ (i := 20) (N := some 86) (v := ?_) (a' := ?_) #[true, true, true, true, true, true, true, true, true, true, true, true, true, true, true, true, true, true, true, true, true, false, false] rfl rfl (by kernel_rfl) (fun _ _ _ h => h) (Or.inl ⟨by rfl, ?_⟩) ?_ ?_
                      rotate_left
                      · intro w'
                        go_simp
                        with_reducible rfl
                      rotate_left
                      · simp only [Act.put, List.setIfInBounds_toArray, List.set_cons_zero, List.set_cons_succ, i64_w, i32_w]
                        rfl
                      refine pure_ (i := 21) (N := some 87) (v := ?_) (a' := ?_) #[true, true, true, true, true, true, true, true, true, true, true, true, true, true, true, true, true, true, true, true, true, true, false] rfl rfl (by kernel_rfl) (fun _ _ _ h => h) (Or.inl ⟨by rfl, ?_⟩) ?_ ?_
                      rotate_left
                      · intro w'
                        go_simp
                        with_reducible rfl
                      rotate_left
                      · simp only [Act.put, List.setIfInBounds_toArray, List.set_cons_zero, List.set_cons_succ, i64_w, i32_w]
                        rfl
                      refine pure_ (i := 22) (N := some 88) (v := ?_) (a' := ?_) #[true, true, true, true, true, true, true, true, true, true, true, true, true, true, true, true, true, true, true, true, true, true, true] rfl rfl (by kernel_rfl) (fun _ _ _ h => h) (Or.inl ⟨by rfl, ?_⟩) ?_ ?_
                      rotate_left
                      · intro w'
                        go_simp
                        with_reducible rfl
                      rotate_left
                      · simp only [Act.put, List.setIfInBounds_toArray, List.set_cons_zero, List.set_cons_succ, i64_w, i32_w]
                        rfl
                      refine done_ (by kernel_rfl) ?_
                      by_cases g7 : q ≤ p
                      · have g8 : decide (q ≤ p) = true := decide_eq_true g7
                        rw [g8] at H2
                        rw [if_pos rfl] at H2
                        obtain rfl := Option.some.inj H2
                        go_wp2
                        go_ret
                        exact ⟨rfl, by repeat (first | (with_reducible first | exact HB.out | apply below_alloc | apply pw_below_drewN | apply below_drew1) | exact HB.out)⟩
                      · have g8 : decide (q ≤ p) = false := decide_eq_false g7
                        rw [g8] at H2
                        have H3 := H2
                        rw [if_neg (by decide)] at H3
                        have HN := Aside0.mk H3
                        clear H2 H3
                        go_wp2
                        go_roundg (2 - (0 + 1))
                        case measure => omega
                        case rel => exact ⟨1, by omega, by decide, by first | rfl | (simp; done), HN, ⟨BK.out⟩, ⟨BN.out⟩, ⟨BE.out⟩, ⟨by repeat (first | (with_reducible first | exact HB.out | apply below_alloc | apply pw_below_drewN | apply below_drew1) | exact HB.out)⟩⟩
                    · rw [if_neg g5] at hb
                      obtain rfl := Option.some.inj hb
                      have g6 : decide (0 ≤ n1) = false := decide_eq_false g5
                      have H3 := H2
                      rw [if_neg (by decide)] at H3
                      have HN := Aside0.mk H3
                      clear H2 H3
                      go_wp2
                      repeat (go_quiet (fail); try go_wp2)
                      go_roundg (2 - (0 + 1))
                      case measure => omega
                      case rel => exact ⟨1, by omega, by decide, by first | rfl | (simp; done), HN, ⟨by repeat (first | exact BK.out | (with_reducible refine blk_drew ?_) | (with_reducible refine blk_drewN ?_))⟩, ⟨by repeat (first | exact BN.out | (with_reducible refine blk_drew ?_) | (with_reducible refine blk_drewN ?_))⟩, ⟨by repeat (first | exact BE.out | (with_reducible refine blk_drew ?_) | (with_reducible refine blk_drewN ?_))⟩, ⟨by repeat (first | (with_reducible first | exact HB.out | apply below_alloc | apply pw_below_drewN | apply below_drew1) | exact HB.out)⟩⟩

              · replace hgi : 1 ≤ _ := hgi
                have hE0 : wr.cell? ⟨Ge, 1, none⟩ = some (.int .i64 n2) := (blk_cell BE.out 1).trans rfl
                have H1 : (impl_IsDiagram.bad KN l o x p n2).bind (fun b => if b = true then some false else impl_IsDiagram.ends KN l o x p (impl_IsDiagram.l0 KN l o d (x + 1)) []) = some r := HE.out
                obtain ⟨b, hb, H2⟩ := Option.bind_eq_some_iff.mp H1
                clear HE H1
                unfold impl_IsDiagram.bad at hb
                by_cases g1 : n2 < -2
                · rw [if_pos g1] at hb
                  obtain rfl := Option.some.inj hb
                  rw [if_pos rfl] at H2
                  obtain rfl := Option.some.inj H2
                  have g2 : decide (n2 < -2) = true := decide_eq_true g1
                  go_wp2
                  repeat (go_quiet (fail); try go_wp2)
                  go_ret
                  exact ⟨rfl, by repeat (first | (with_reducible first | exact HB.out | apply below_alloc | apply pw_below_drewN | apply below_drew1) | exact HB.out)⟩
                · rw [if_neg g1] at hb
                  have g2 : decide (n2 < -2) = false := decide_eq_false g1
                  by_cases g3 : (x : Int) ≤ n2
                  · rw [if_pos g3] at hb
                    obtain rfl := Option.some.inj hb
                    rw [if_pos rfl] at H2
                    obtain rfl := Option.some.inj H2
                    have g4 : decide ((x : Int) ≤ n2) = true := decide_eq_true g3
                    go_wp2
                    repeat (go_quiet (fail); try go_wp2)
                    go_ret
                    exact ⟨rfl, by repeat (first | (with_reducible first | exact HB.out | apply below_alloc | apply pw_below_drewN | apply below_drew1) | exact HB.out)⟩
                  · rw [if_neg g3] at hb
                    have g4 : decide ((x : Int) ≤ n2) = false := decide_eq_false g3
                    by_cases g5 : 0 ≤ n2
                    · rw [if_pos g5] at hb
                      have g6 : decide (0 ≤ n2) = true := decide_eq_true g5
                      obtain ⟨q, hq, hb⟩ := Option.bind_eq_some_iff.mp hb
                      obtain rfl := Option.some.inj hb
                      obtain ⟨tn, rfl⟩ := Int.eq_ofNat_of_zero_le g5
                      have g4n : decide (x ≤ tn) = false := decide_eq_false (by omega)
                      have hz9 : (tn : Int) < (l.length : Int) := by omega
                      obtain ⟨ad', eA, C0, C1, C2⟩ := at_T49 HR0.out (tn : Int) g5 hz9
                      cases eA
                      rw [Int.toNat_natCast] at C0 C1 C2
                      have C0 := Aside0.mk ((HB.out.cell (World.block_lt_of_cell? w _ C0)).trans C0)
                      have C1 := Aside0.mk ((HB.out.cell (World.block_lt_of_cell? w _ C1)).trans C1)
                      have C2 := Aside0.mk ((HB.out.cell (World.block_lt_of_cell? w _ C2)).trans C2)
                      generalize (rd_T49 l (tn : Int)).f0 = m0 at C0 hq
                      generalize (rd_T49 l (tn : Int)).f1 = m1 at C1
                      generalize (rd_T49 l (tn : Int)).f2 = m2 at C2
                      have HQ2 := Aside0.mk hq
                      clear hq hb
                      have C3 : Aside0 (wr.cell? ⟨Gn, 0, none⟩ = some (.int .i64 n0)) := ⟨(blk_cell BN.out 0).trans rfl⟩
                      have C4 : Aside0 (wr.cell? ⟨Gn, 1, none⟩ = some (.int .i64 n1)) := ⟨(blk_cell BN.out 1).trans rfl⟩
                      have C5 : Aside0 (wr.cell? ⟨Gn, 2, none⟩ = some (.int .i64 (tn : Int))) := ⟨(blk_cell BN.out 2).trans rfl⟩
                      go_wp2
                      have n0_ : Aside0 (wr.drew.cell? (ad.add (tn * 3)) = some (.int .i64 m0)) := C0
                      clear C0
                      have C0 := n0_
                      clear n0_
                      have n1_ : Aside0 (wr.drew.cell? ⟨(ad.add (tn * 3)).block, (ad.add (tn * 3)).off + 1, none⟩ = some (.int .i64 m1)) := C1
                      clear C1
                      have C1 := n1_
                      clear n1_
                      have n2_ : Aside0 (wr.drew.cell? ⟨(ad.add (tn * 3)).block, (ad.add (tn * 3)).off + 2, none⟩ = some (.int .i64 m2)) := C2
                      clear C2
                      have C2 := n2_
                      clear n2_
                      have n3_ : Aside0 (wr.drew.cell? ⟨Gn, 0, none⟩ = some (.int .i64 n0)) := C3
                      clear C3
                      have C3 := n3_
                      clear n3_
                      have n4_ : Aside0 (wr.drew.cell? ⟨Gn, 1, none⟩ = some (.int .i64 n1)) := C4
                      clear C4
                      have C4 := n4_
                      clear n4_
                      have n5_ : Aside0 (wr.drew.cell? ⟨Gn, 2, none⟩ = some (.int .i64 (tn : Int))) := C5
                      clear C5
                      have C5 := n5_
                      clear n5_
                      have n_ := Aside0.mk (below_drew1 HB.out)
                      clear HB
                      have HB := n_
                      clear n_
                      have n_ := Aside0.mk (blk_drew BK.out)
                      clear BK
                      have BK := n_
                      clear n_
                      have n_ := Aside0.mk (blk_drew BN.out)
                      clear BN
                      have BN := n_
                      clear n_
                      have n_ := Aside0.mk (blk_drew BE.out)
                      clear BE
                      have BE := n_
                      clear n_
                      refine start_ (n := 23) (S := (fun w_ => w_.cell? (ad.add (tn * 3)) = some (.int .i64 m0) ∧ w_.cell? ⟨(ad.add (tn * 3)).block, (ad.add (tn * 3)).off + 1, none⟩ = some (.int .i64 m1) ∧ w_.cell? ⟨(ad.add (tn * 3)).block, (ad.add (tn * 3)).off + 2, none⟩ = some (.int .i64 m2) ∧ w_.cell? ⟨Gn, 0, none⟩ = some (.int .i64 n0) ∧ w_.cell? ⟨Gn, 1, none⟩ = some (.int .i64 n1) ∧ w_.cell? ⟨Gn, 2, none⟩ = some (.int .i64 (tn : Int)))) (ds := []) #[false, false, false, false, false, false, false, false, false, false, false, false, false, false, false, false, false, false, false, false, false, false, false] (by kernel_rfl) rfl rfl ⟨C0.out, C1.out, C2.out, C3.out, C4.out, C5.out⟩ (fun hHeld => ?_)
                      generalize wr.drew = W0_ at C0 C1 C2 C3 C4 C5 HB BK BN BE hHeld ⊢
                      refine pure_ (i := 0) (N := some 66) (v := ?_) (a' := ?_) #[true, false, false, false, false, false, false, false, false, false, false, false, false, false, false, false, false, false, false, false, false, false, false] rfl rfl (by kernel_rfl) (fun _ _ _ h => h) (Or.inl ⟨by rfl, ?_⟩) ?_ ?_
                      rotate_left
                      · intro w'
                        go_simp
                        with_reducible rfl
                      rotate_left
                      · simp only [Act.put, List.setIfInBounds_toArray, List.set_cons_zero, List.set_cons_succ, i64_w, i32_w]
                        rfl
                      refine pure_ (i := 1) (N := some 67) (v := ?_) (a' := ?_) #[true, true, false, false, false, false, false, false, false, false, false, false, false, false, false, false, false, false, false, false, false, false, false] rfl rfl (by kernel_rfl) (fun _ _ _ h => h) (Or.inl ⟨by rfl, ?_⟩) ?_ ?_
                      rotate_left
                      · intro w'
                        go_simp
                        first | rw [g2] | skip
                        with_reducible rfl
                      rotate_left
                      · simp only [Act.put, List.setIfInBounds_toArray, List.set_cons_zero, List.set_cons_succ, i64_w, i32_w]
                        rfl
                      refine pure_ (i := 2) (N := some 68) (v := ?_) (a' := ?_) #[true, true, true, false, false, false, false, false, false, false, false, false, false, false, false, false, false, false, false, false, false, false, false] rfl rfl (by kernel_rfl) (fun _ _ _ h => h) (Or.inl ⟨by rfl, ?_⟩) ?_ ?_
                      rotate_left
                      · intro w'
                        go_simp
                        with_reducible rfl
                      rotate_left
                      · simp only [Act.put, List.setIfInBounds_toArray, List.set_cons_zero, List.set_cons_succ, i64_w, i32_w]
                        rfl
                      refine pure_ (i := 3) (N := some 69) (v := ?_) (a' := ?_) #[true, true, true, true, false, false, false, false, false, false, false, false, false, false, false, false, false, false, false, false, false, false, false] rfl rfl (by kernel_rfl) (fun _ _ _ h => h) (Or.inl ⟨by rfl, ?_⟩) ?_ ?_
                      rotate_left
                      · intro w'
                        go_simp
                        with_reducible rfl
                      rotate_left
                      · simp only [Act.put, List.setIfInBounds_toArray, List.set_cons_zero, List.set_cons_succ, i64_w, i32_w]
                        rfl
                      refine pure_ (i := 4) (N := some 70) (v := ?_) (a' := ?_) #[true, true, true, true, true, false, false, false, false, false, false, false, false, false, false, false, false, false, false, false, false, false, false] rfl rfl (by kernel_rfl) (fun _ _ _ h => h) (Or.inl ⟨by rfl, ?_⟩) ?_ ?_
                      rotate_left
                      · intro w'
                        go_simp
                        with_reducible rfl
                      rotate_left
                      · simp only [Act.put, List.setIfInBounds_toArray, List.set_cons_zero, List.set_cons_succ, i64_w, i32_w]
                        rfl
                      refine pure_ (i := 5) (N := some 71) (v := ?_) (a' := ?_) #[true, true, true, true, true, true, false, false, false, false, false, false, false, false, false, false, false, false, false, false, false, false, false] rfl rfl (by kernel_rfl) (fun _ _ _ h => h) (Or.inl ⟨by rfl, ?_⟩) ?_ ?_
                      rotate_left
                      · intro w'
                        go_simp
                        first | rw [g4] | rw [g4n] | skip
                        with_reducible rfl
                      rotate_left
                      · simp only [Act.put, List.setIfInBounds_toArray, List.set_cons_zero, List.set_cons_succ, i64_w, i32_w]
                        rfl
                      refine pure_ (i := 6) (N := some 72) (v := ?_) (a' := ?_) #[true, true, true, true, true, true, true, false, false, false, false, false, false, false, false, false, false, false, false, false, false, false, false] rfl rfl (by kernel_rfl) (fun _ _ _ h => h) (Or.inl ⟨by rfl, ?_⟩) ?_ ?_
                      rotate_left
                      · intro w'
                        go_simp
                        with_reducible rfl
                      rotate_left
                      · simp only [Act.put, List.setIfInBounds_toArray, List.set_cons_zero, List.set_cons_succ, i64_w, i32_w]
                        rfl
                      refine pure_ (i := 7) (N := some 73) (v := ?_) (a' := ?_) #[true, true, true, true, true, true, true, true, false, false, false, false, false, false, false, false, false, false, false, false, false, false, false] rfl rfl (by kernel_rfl) (fun _ _ _ h => h) (Or.inl ⟨by rfl, ?_⟩) ?_ ?_
                      rotate_left
                      · intro w'
                        go_simp
                        with_reducible rfl
                      rotate_left
                      · simp only [Act.put, List.setIfInBounds_toArray, List.set_cons_zero, List.set_cons_succ, i64_w, i32_w]
                        rfl
                      refine pure_ (i := 8) (N := some 74) (v := ?_) (a' := ?_) #[true, true, true, true, true, true, true, true, true, false, false, false, false, false, false, false, false, false, false, false, false, false, false] rfl rfl (by kernel_rfl) (fun _ _ _ h => h) (Or.inl ⟨by rfl, ?_⟩) ?_ ?_
                      rotate_left
                      · intro w'
                        go_simp
                        with_reducible rfl
                      rotate_left
                      · simp only [Act.put, List.setIfInBounds_toArray, List.set_cons_zero, List.set_cons_succ, i64_w, i32_w]
                        rfl
                      refine pure_ (i := 9) (N := some 75) (v := ?_) (a' := ?_) #[true, true, true, true, true, true, true, true, true, true, false, false, false, false, false, false, false, false, false, false, false, false, false] rfl rfl (by kernel_rfl) (fun _ _ _ h => h) (Or.inl ⟨by rfl, ?_⟩) ?_ ?_
                      rotate_left
                      · intro w'
                        go_simp
                        first | done | rw [g6] | skip
                        with_reducible rfl
                      rotate_left
                      · simp only [Act.put, List.setIfInBounds_toArray, List.set_cons_zero, List.set_cons_succ, i64_w, i32_w]
                        rfl
                      refine pure_ (i := 10) (N := some 76) (v := ?_) (a' := ?_) #[true, true, true, true, true, true, true, true, true, true, true, false, false, false, false, false, false, false, false, false, false, false, false] rfl rfl (by kernel_rfl) (fun _ _ _ h => h) (Or.inl ⟨by rfl, ?_⟩) ?_ ?_
                      rotate_left
                      · intro w'
                        go_simp
                        with_reducible rfl
                      rotate_left
                      · simp only [Act.put, List.setIfInBounds_toArray, List.set_cons_zero, List.set_cons_succ, i64_w, i32_w]
                        rfl
                      refine pure_ (i := 11) (N := some 77) (v := ?_) (a' := ?_) #[true, true, true, true, true, true, true, true, true, true, true, true, false, false, false, false, false, false, false, false, false, false, false] rfl rfl (by kernel_rfl) (fun _ _ _ h => h) (Or.inl ⟨by rfl, ?_⟩) ?_ ?_
                      rotate_left
                      · intro w'
                        go_simp
                        with_reducible rfl
                      rotate_left
                      · simp only [Act.put, List.setIfInBounds_toArray, List.set_cons_zero, List.set_cons_succ, i64_w, i32_w]
                        rfl
                      refine pure_ (i := 12) (N := some 78) (v := ?_) (a' := ?_) #[true, true, true, true, true, true, true, true, true, true, true, true, true, false, false, false, false, false, false, false, false, false, false] rfl rfl (by kernel_rfl) (fun _ _ _ h => h) (Or.inl ⟨by rfl, ?_⟩) ?_ ?_
                      rotate_left
                      · intro w'
                        go_simp
                        with_reducible rfl
                      rotate_left
                      · simp only [Act.put, List.setIfInBounds_toArray, List.set_cons_zero, List.set_cons_succ, i64_w, i32_w]
                        rfl
                      refine pure_ (i := 13) (N := some 79) (v := ?_) (a' := ?_) #[true, true, true, true, true, true, true, true, true, true, true, true, true, true, false, false, false, false, false, false, false, false, false] rfl rfl (by kernel_rfl) (fun _ _ _ h => h) (Or.inl ⟨by rfl, ?_⟩) ?_ ?_
                      rotate_left
                      · intro w'
                        go_simp
                        with_reducible rfl
                      rotate_left
                      · simp only [Act.put, List.setIfInBounds_toArray, List.set_cons_zero, List.set_cons_succ, i64_w, i32_w]
                        rfl
                      refine pure_ (i := 14) (N := some 80) (v := ?_) (a' := ?_) #[true, true, true, true, true, true, true, true, true, true, true, true, true, true, true, false, false, false, false, false, false, false, false] rfl rfl (by kernel_rfl) (fun _ _ _ h => h) (Or.inl ⟨by rfl, ?_⟩) ?_ ?_
                      rotate_left
                      · intro w'
                        go_simp
                        with_reducible rfl
                      rotate_left
                      · simp only [Act.put, List.setIfInBounds_toArray, List.set_cons_zero, List.set_cons_succ, i64_w, i32_w]
                        rfl
                      refine take_ (i := 15) (N := some 81) (v := ?_) (a' := ?_) #[true, true, true, true, true, true, true, true, true, true, true, true, true, true, true, true, false, false, false, false, false, false, false] rfl rfl (by kernel_rfl) (fun _ _ _ h => h) (Or.inl ⟨by rfl, ?_⟩) hHeld ?_ ?_
                      rotate_left
                      · rintro w' ⟨s0, s1, s2, s3, s4, s5⟩
                        go_simp
                        with_reducible rfl
                      rotate_left
                      · simp only [Act.put, List.setIfInBounds_toArray, List.set_cons_zero, List.set_cons_succ, i64_w, i32_w]
                        rfl
                      refine pure_ (i := 17) (N := some 83) (v := ?_) (a' := ?_) #[true, true, true, true, true, true, true, true, true, true, true, true, true, true, true, true, false, true, false, false, false, false, false] rfl rfl (by kernel_rfl) (fun _ _ _ h => h) (Or.inl ⟨by rfl, ?_⟩) ?_ ?_
                      rotate_left
                      · intro w'
                        go_simp
                        with_reducible rfl
                      rotate_left
                      · simp only [Act.put, List.setIfInBounds_toArray, List.set_cons_zero, List.set_cons_succ, i64_w, i32_w]
                        rfl
                      refine take_ (i := 18) (N := some 84) (v := ?_) (a' := ?_) #[true, true, true, true, true, true, true, true, true, true, true, true, true, true, true, true, false, true, true, false, false, false, false] rfl rfl (by kernel_rfl) (fun _ _ _ h => h) (Or.inl ⟨by rfl, ?_⟩) hHeld ?_ ?_
                      rotate_left
                      · rintro w' ⟨s0, s1, s2, s3, s4, s5⟩
                        go_simp
                        with_reducible rfl
                      rotate_left
                      · simp only [Act.put, List.setIfInBounds_toArray, List.set_cons_zero, List.set_cons_succ, i64_w, i32_w]
                        rfl
                      refine one_ (i := 16) (N := some 82) #[true, true, true, true, true, true, true, true, true, true, true, true, true, true, true, true, true, true, true, false, false, false, false] rfl rfl (by kernel_rfl) (by decide) (fun K hK => ?_)
                      refine call_ 38 #[.agg #[.int .i64 m0, .int .i64 m1, .int .i64 m2], .pointer (some ⟨w.heap.size, 0, none⟩)] (by rfl) rfl (by have he_ := enters_ Try.func38 (by kernel_rfl) rfl #[.agg #[.int .i64 m0, .int .i64 m1, .int .i64 m2], .pointer (some ⟨w.heap.size, 0, none⟩)] W0_; unfold execOp; first | (simp [resolve, Deferred.ofValue, invoke, Act.eval]; done) | (simp [resolve, Deferred.ofValue, invoke, Act.eval, he_]; done)) ?_
                      with_reducible refine (impl_IsDiagram_1.any KN o m0 m1 m2 q A1 c1 w.heap.size _ (Kd.C_below HR.out HB.out) HC.out BK.out HQ2.out).mono ?_
                      rintro e W1_ ⟨rfl, hb⟩
                      refine ⟨_, rfl, ?_⟩
                      have n0_ : Aside0 (W1_.cell? (ad.add (tn * 3)) = some (.int .i64 m0)) := ⟨pw_cell_below hb C0.out⟩
                      clear C0
                      have C0 := n0_
                      clear n0_
                      have n1_ : Aside0 (W1_.cell? ⟨(ad.add (tn * 3)).block, (ad.add (tn * 3)).off + 1, none⟩ = some (.int .i64 m1)) := ⟨pw_cell_below hb C1.out⟩
                      clear C1
                      have C1 := n1_
                      clear n1_
                      have n2_ : Aside0 (W1_.cell? ⟨(ad.add (tn * 3)).block, (ad.add (tn * 3)).off + 2, none⟩ = some (.int .i64 m2)) := ⟨pw_cell_below hb C2.out⟩
                      clear C2
                      have C2 := n2_
                      clear n2_
                      have n3_ : Aside0 (W1_.cell? ⟨Gn, 0, none⟩ = some (.int .i64 n0)) := ⟨pw_cell_below hb C3.out⟩
                      clear C3
                      have C3 := n3_
                      clear n3_
                      have n4_ : Aside0 (W1_.cell? ⟨Gn, 1, none⟩ = some (.int .i64 n1)) := ⟨pw_cell_below hb C4.out⟩
                      clear C4
                      have C4 := n4_
                      clear n4_
                      have n5_ : Aside0 (W1_.cell? ⟨Gn, 2, none⟩ = some (.int .i64 (tn : Int))) := ⟨pw_cell_below hb C5.out⟩
                      clear C5
                      have C5 := n5_
                      clear n5_
                      have n_ := Aside0.mk (blk_below BK.out hb)
                      clear BK
                      have BK := n_
                      clear n_
                      have n_ := Aside0.mk (blk_below BN.out hb)
                      clear BN
                      have BN := n_
                      clear n_
                      have n_ := Aside0.mk (blk_below BE.out hb)
                      clear BE
                      have BE := n_
                      clear n_
                      have n_ := Aside0.mk (below_step HB.out hb)
                      clear HB hb
                      have HB := n_
                      clear n_
                      refine hK.out _ _ ⟨C0.out, C1.out, C2.out, C3.out, C4.out, C5.out⟩ (fun hHeld => ?_)
                      clear hK K
                      refine norm_ (a' := ?_) ?_ ?_
                      rotate_left
                      · show Act.put _ (some 82) _ = _
                        simp only [Act.put, List.setIfInBounds_toArray, List.set_cons_zero, List.set_cons_succ, i64_w, i32_w]
                        rfl
                      refine one_ (i := 19) (N := some 85) #[true, true, true, true, true, true, true, true, true, true, true, true, true, true, true, true, true, true, true, true, false, false, false] rfl rfl (by kernel_rfl) (by decide) (fun K hK => ?_)
                      refine call_ 38 #[.agg #[.int .i64 n0, .int .i64 n1, .int .i64 (tn : Int)], .pointer (some ⟨w.heap.size, 0, none⟩)] (by rfl) rfl (by have he_ := enters_ Try.func38 (by kernel_rfl) rfl #[.agg #[.int .i64 n0, .int .i64 n1, .int .i64 (tn : Int)], .pointer (some ⟨w.heap.size, 0, none⟩)] W1_; unfold execOp; first | (simp [resolve, Deferred.ofValue, invoke, Act.eval]; done) | (simp [resolve, Deferred.ofValue, invoke, Act.eval, he_]; done)) ?_
                      with_reducible refine (impl_IsDiagram_1.any KN o n0 n1 (tn : Int) p A1 c1 w.heap.size _ (Kd.C_below HR.out HB.out) HC.out BK.out HP.out).mono ?_
                      rintro e W2_ ⟨rfl, hb⟩
                      refine ⟨_, rfl, ?_⟩
                      have n0_ : Aside0 (W2_.cell? (ad.add (tn * 3)) = some (.int .i64 m0)) := ⟨pw_cell_below hb C0.out⟩
                      clear C0
                      have C0 := n0_
                      clear n0_
                      have n1_ : Aside0 (W2_.cell? ⟨(ad.add (tn * 3)).block, (ad.add (tn * 3)).off + 1, none⟩ = some (.int .i64 m1)) := ⟨pw_cell_below hb C1.out⟩
                      clear C1
                      have C1 := n1_
                      clear n1_
                      have n2_ : Aside0 (W2_.cell? ⟨(ad.add (tn * 3)).block, (ad.add (tn * 3)).off + 2, none⟩ = some (.int .i64 m2)) := ⟨pw_cell_below hb C2.out⟩
                      clear C2
                      have C2 := n2_
                      clear n2_
                      have n3_ : Aside0 (W2_.cell? ⟨Gn, 0, none⟩ = some (.int .i64 n0)) := ⟨pw_cell_below hb C3.out⟩
                      clear C3
                      have C3 := n3_
                      clear n3_
                      have n4_ : Aside0 (W2_.cell? ⟨Gn, 1, none⟩ = some (.int .i64 n1)) := ⟨pw_cell_below hb C4.out⟩
                      clear C4
                      have C4 := n4_
                      clear n4_
                      have n5_ : Aside0 (W2_.cell? ⟨Gn, 2, none⟩ = some (.int .i64 (tn : Int))) := ⟨pw_cell_below hb C5.out⟩
                      clear C5
                      have C5 := n5_
                      clear n5_
                      have n_ := Aside0.mk (blk_below BK.out hb)
                      clear BK
                      have BK := n_
                      clear n_
                      have n_ := Aside0.mk (blk_below BN.out hb)
                      clear BN
                      have BN := n_
                      clear n_
                      have n_ := Aside0.mk (blk_below BE.out hb)
                      clear BE
                      have BE := n_
                      clear n_
                      have n_ := Aside0.mk (below_step HB.out hb)
                      clear HB hb
                      have HB := n_
                      clear n_
                      refine hK.out _ _ ⟨C0.out, C1.out, C2.out, C3.out, C4.out, C5.out⟩ (fun hHeld => ?_)
                      clear hK K
                      refine norm_ (a' := ?_) ?_ ?_
                      rotate_left
                      · show Act.put _ (some 85) _ = _
                        simp only [Act.put, List.setIfInBounds_toArray, List.set_cons_zero, List.set_cons_succ, i64_w, i32_w]
                        rfl
                      refine pure_ (i := 20) (N := some 86) (v := ?_) (a' := ?_) #[true, true, true, true, true, true, true, true, true, true, true, true, true, true, true, true, true, true, true, true, true, false, false] rfl rfl (by kernel_rfl) (fun _ _ _ h => h) (Or.inl ⟨by rfl, ?_⟩) ?_ ?_
                      rotate_left
                      · intro w'
                        go_simp
                        with_reducible rfl
                      rotate_left
                      · simp only [Act.put, List.setIfInBounds_toArray, List.set_cons_zero, List.set_cons_succ, i64_w, i32_w]
                        rfl
                      refine pure_ (i := 21) (N := some 87) (v := ?_) (a' := ?_) #[true, true, true, true, true, true, true, true, true, true, true, true, true, true, true, true, true, true, true, true, true, true, false] rfl rfl (by kernel_rfl) (fun _ _ _ h => h) (Or.inl ⟨by rfl, ?_⟩) ?_ ?_
                      rotate_left
                      · intro w'
                        go_simp
                        with_reducible rfl
                      rotate_left
                      · simp only [Act.put, List.setIfInBounds_toArray, List.set_cons_zero, List.set_cons_succ, i64_w, i32_w]
                        rfl
                      refine pure_ (i := 22) (N := some 88) (v := ?_) (a' := ?_) #[true, true, true, true, true, true, true, true, true, true, true, true, true, true, true, true, true, true, true, true, true, true, true] rfl rfl (by kernel_rfl) (fun _ _ _ h => h) (Or.inl ⟨by rfl, ?_⟩) ?_ ?_
                      rotate_left
                      · intro w'
                        go_simp
                        with_reducible rfl
                      rotate_left
                      · simp only [Act.put, List.setIfInBounds_toArray, List.set_cons_zero, List.set_cons_succ, i64_w, i32_w]
                        rfl
                      refine done_ (by kernel_rfl) ?_
                      by_cases g7 : q ≤ p
                      · have g8 : decide (q ≤ p) = true := decide_eq_true g7
                        rw [g8] at H2
                        rw [if_pos rfl] at H2
                        obtain rfl := Option.some.inj H2
                        go_wp2
                        go_ret
                        exact ⟨rfl, by repeat (first | (with_reducible first | exact HB.out | apply below_alloc | apply pw_below_drewN | apply below_drew1) | exact HB.out)⟩
                      · have g8 : decide (q ≤ p) = false := decide_eq_false g7
                        rw [g8] at H2
                        have H3 := H2
                        rw [if_neg (by decide)] at H3
                        have HN := Aside0.mk H3
                        clear H2 H3
                        go_wp2
                        go_roundg (2 - (1 + 1))
                        case measure => omega
                        case rel => exact ⟨2, by omega, by decide, by first | rfl | (simp; done), HN, ⟨BK.out⟩, ⟨BN.out⟩, ⟨BE.out⟩, ⟨by repeat (first | (with_reducible first | exact HB.out | apply below_alloc | apply pw_below_drewN | apply below_drew1) | exact HB.out)⟩⟩
                    · rw [if_neg g5] at hb
                      obtain rfl := Option.some.inj hb
                      have g6 : decide (0 ≤ n2) = false := decide_eq_false g5
                      have H3 := H2
                      rw [if_neg (by decide)] at H3
                      have HN := Aside0.mk H3
                      clear H2 H3
                      go_wp2
                      repeat (go_quiet (fail); try go_wp2)
                      go_roundg (2 - (1 + 1))
                      case measure => omega
                      case rel => exact ⟨2, by omega, by decide, by first | rfl | (simp; done), HN, ⟨by repeat (first | exact BK.out | (with_reducible refine blk_drew ?_) | (with_reducible refine blk_drewN ?_))⟩, ⟨by repeat (first | exact BN.out | (with_reducible refine blk_drew ?_) | (with_reducible refine blk_drewN ?_))⟩, ⟨by repeat (first | exact BE.out | (with_reducible refine blk_drew ?_) | (with_reducible refine blk_drewN ?_))⟩, ⟨by repeat (first | (with_reducible first | exact HB.out | apply below_alloc | apply pw_below_drewN | apply below_drew1) | exact HB.out)⟩⟩

              · have HN : Aside0 (impl_IsDiagram.l0 KN l o d (x + 1) = some r) := HE
                go_wp2
                go_roundg d
                case measure => omega
                case rel => exact ⟨x + 1, d, by omega, by omega, by go_num, HN, BK, HB⟩
          · have f7 : (q != (x : Int)) = true := bne_iff_ne.mpr f6
            have f8 : decide (q = (x : Int)) = false := decide_eq_false f6
            have f9 : (q == (x : Int)) = false := beq_eq_false_iff_ne.mpr f6
            have H6 := H4.out
            rw [f7, if_pos rfl] at H6
            obtain rfl := Option.some.inj H6
            clear H4
            go_wp2_with (first | (with_reducible refine (impl_IsDiagram_1.any KN o n0 n1 n2 p A1 c1 w.heap.size _ (Kd.C_below HR.out HBn.out) HC.out BKn.out HP.out).mono ?_; rintro e w2 ⟨rfl, hb⟩; have BK2 := Aside0.mk (blk_below BKn.out hb); have BN2 := Aside0.mk (blk_below BNn.out hb); have HB2 := Aside0.mk (below_step HBn.out hb); clear hb hz0 hz1 hz2; have hy0 : w2.cell? ⟨wr.heap.size, 0, none⟩ = some (.int .i64 n0) := (blk_cell BN2.out 0).trans rfl; have hy1 : w2.cell? ⟨wr.heap.size, 1, none⟩ = some (.int .i64 n1) := (blk_cell BN2.out 1).trans rfl; have hy2 : w2.cell? ⟨wr.heap.size, 2, none⟩ = some (.int .i64 n2) := (blk_cell BN2.out 2).trans rfl) | (go_at_call 40; refine (impl_Node.calls KN _ c0 l n0 n1 n2 _ _ (Kd.C_below HR0.out HB2.out) HC0.out HQ.out).mono ?_; rintro e w3 ⟨rfl, hb⟩; have BK3 := Aside0.mk (blk_below BK2.out hb); have BN3 := Aside0.mk (blk_below BN2.out hb); have HB3 := Aside0.mk (below_step HB2.out hb); clear hb hy0 hy1 hy2; have hx0 : w3.cell? ⟨wr.heap.size, 0, none⟩ = some (.int .i64 n0) := (blk_cell BN3.out 0).trans rfl; have hx1 : w3.cell? ⟨wr.heap.size, 1, none⟩ = some (.int .i64 n1) := (blk_cell BN3.out 1).trans rfl; have hx2 : w3.cell? ⟨wr.heap.size, 2, none⟩ = some (.int .i64 n2) := (blk_cell BN3.out 2).trans rfl))
            go_ret
            exact ⟨rfl, HB3.out⟩
def impl_IsDiagram.f (l0 : List S49) (l1 : List Int) : Option Bool := impl_IsDiagram.g 100 l0 l1
theorem impl_IsDiagram.calls (A0 : Option Addr) (c0 : Nat) (l0 : List S49) (A1 : Option Addr) (c1 : Nat) (l1 : List Int) (r : Bool) (w : World) (hr0 : Kd.C k49 w A0 l0.length l0) (hc0 : l0.length ≤ c0) (hr1 : Kd.C (Kd.int .i64) w A1 l1.length l1) (hc1 : l1.length ≤ c1) (h : impl_IsDiagram.f l0 l1 = some r) :
    Calls Try.prog 16 #[.slice A0 l0.length c0, .slice A1 l1.length c1] w fun e w' => e = .returned (.bool r) ∧ Below w.heap.size w w' := by
  unfold impl_IsDiagram.f impl_IsDiagram.g at h
  split at h
  next h5 =>
    cases h
    exact impl_IsDiagram.no 100 A0 c0 l0 A1 c1 l1 w hr1 hc1 hr0.2.1 hr1.2.1 (.inl h5)
  next h5 =>
    obtain ⟨t, ht, h⟩ := Option.bind_eq_some_iff.mp h
    cases t with
    | false =>
      rw [if_neg (by decide)] at h
      cases h
      exact impl_IsDiagram.no 100 A0 c0 l0 A1 c1 l1 w hr1 hc1 hr0.2.1 hr1.2.1 (.inr (.inl ⟨by omega, ht⟩))
    | true =>
      rw [if_pos rfl] at h
      split at h
      next h7 =>
        cases h
        exact impl_IsDiagram.no 100 A0 c0 l0 A1 c1 l1 w hr1 hc1 hr0.2.1 hr1.2.1 (.inr (.inr ⟨by omega, ht, .inl h7⟩))
      next h7 =>
        split at h
        next h8 =>
          cases h
          exact impl_IsDiagram.no 100 A0 c0 l0 A1 c1 l1 w hr1 hc1 hr0.2.1 hr1.2.1 (.inr (.inr ⟨by omega, ht, .inr h8⟩))
        next h8 => exact impl_IsDiagram.yes 100 A0 c0 l0 A1 c1 l1 r w hr0 hc0 hr1 hc1 (by omega) ht (by omega) (by omega) h


end Go.Proofs.Ytpbdjpbkocdidaa.F
