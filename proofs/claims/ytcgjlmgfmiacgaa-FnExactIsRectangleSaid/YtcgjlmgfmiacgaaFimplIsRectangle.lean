/- The walk of one Go function: a call of it ends as the Lean function of its name tells; the conditions are those of each theorem. -/
import Derived.Test.YtcgjlmgfmiacgaaF0
import Derived.Test.YtcgjlmgfmiacgaaFGa
import Derived.Test.YtcgjlmgfmiacgaaFimplisSplit
import Derived.Test.YtcgjlmgfmiacgaaFGa
import Derived.Test.YtcgjlmgfmiacgaaBase
namespace Go.Proofs.Ytcgjlmgfmiacgaa.F
open Go.RowKit Go.Proofs.YtcgjlmgfmiacgaaW.PrintWords Go.Proofs.YtcgjlmgfmiacgaaW.PrintLast Go.Proofs.YtcgjlmgfmiacgaaW.PrintMore
attribute [local go_sem] max2_int min2_int max_two min_two max_three min_three max_four min_four   -- for this text's walks alone
set_option linter.unusedVariables false
set_option linter.unusedSimpArgs false

/-! ### impl_IsRectangle: function 13 -/
/-- Row and column of an input are among the chosen ones. -/
def impl_IsRectangle.hit (s a b x : Nat) : Bool := a.testBit (x % 2 ^ s) && b.testBit (x / 2 ^ s)
def impl_IsRectangle.seen (s v a b : Nat) (q : Bool) (x : Nat) : Bool := impl_IsRectangle.hit s a b x && (v.testBit x == q)
/-- A set that is not one of m elements, or has none. -/
def impl_IsRectangle.bad (m : Nat) (a : Int) : Bool := decide (a ≤ 0) || (a / 2 ^ 2 ^ m != 0)
def impl_IsRectangle.both (n s v a b : Nat) : Bool := !B.exN (impl_IsRectangle.seen s v a b false) (2 ^ n) || !B.exN (impl_IsRectangle.seen s v a b true) (2 ^ n)
def impl_IsRectangle.f (a0_0 a0_1 a1 a2 a3 : Int) : Option Bool :=
  (impl_isSplit.f a0_0 a0_1 a1).bind fun t => if t = true then
    (if (0 ≤ a0_0 ∧ a0_0 ≤ 5 ∧ 0 ≤ a0_1 ∧ a0_1 < 9223372036854775808) ∧ (0 ≤ a1 ∧ a1 ≤ a0_0) ∧ a2 < 9223372036854775808 ∧ a3 < 9223372036854775808 then
      (if impl_IsRectangle.bad a1.toNat a2 = true then some false else if impl_IsRectangle.bad (a0_0 - a1).toNat a3 = true then some false else some (impl_IsRectangle.both a0_0.toNat a1.toNat a0_1.toNat a2.toNat a3.toNat)) else none) else some false
theorem rect_at {n : Int} {w x : Nat} (hw : w < 9223372036854775808) (hx : x ≤ 64) : impl_Table_at.f n w x = some ((B.bitN w x : Nat) : Int) := by
  unfold impl_Table_at.f
  rw [if_pos (by omega), B.bit_cast hw hx]
theorem rect_bit {a p : Nat} {t : Bool} (ha : a < 9223372036854775808) (h : a.testBit p = t) : ∃ y : Int, (a : Int) / 2 ^ p = y ∧ Go.bits .and .i64 y 1 = (t.toNat : Int) := by
  refine ⟨((a >>> p : Nat) : Int), by rw [Nat.shiftRight_eq_div_pow]; simp, ?_⟩
  have := B.and_cast (b := 1) (B.shr_lt (x := p) ha) (by decide)
  rw [B.shr_and_one] at this
  rw [← h]
  exact this
set_option maxHeartbeats 400000 in
set_option maxRecDepth 100000 in
theorem impl_IsRectangle.no (a0_0 a0_1 a1 a2 a3 : Int) (w : World) (h : impl_isSplit.f a0_0 a0_1 a1 = some false) :
    Calls Try.prog 13 #[.agg #[.int .i64 a0_0, .int .i64 a0_1], .int .i64 a1, .int .i64 a2, .int .i64 a3] w fun e w' => e = .returned (.bool false) ∧ Below w.heap.size w w' := by
  have hu := Try.underlying25
  have HB := below_alloc (Below.refl w.heap.size w) (.cells #[.int .i64 a0_0, .int .i64 a0_1] 25 (0, 0))
  have hc0 : (w.alloc (.cells #[.int .i64 a0_0, .int .i64 a0_1] 25 (0, 0))).cell? ⟨w.heap.size, 0, none⟩ = some (.int .i64 a0_0) := (blk_cell (blk_new _ _) 0).trans rfl
  have hc1 : (w.alloc (.cells #[.int .i64 a0_0, .int .i64 a0_1] 25 (0, 0))).cell? ⟨w.heap.size, 1, none⟩ = some (.int .i64 a0_1) := (blk_cell (blk_new _ _) 1).trans rfl
  have H := Aside0.mk h
  clear h
  go_enter Try.func13, Try.ntmps13
  go_wp2_with (go_at_call 34; refine (impl_isSplit.calls a0_0 a0_1 a1 false _ H.out).mono ?_; rintro e w' ⟨rfl, hb⟩)
  go_ret
  exact ⟨rfl, below_step HB hb⟩
set_option maxHeartbeats 1000000 in
set_option maxRecDepth 100000 in
theorem impl_IsRectangle.yes (n s m v : Nat) (a b : Int) (hn : n ≤ 5) (hnm : n = s + m) (hv : v < 9223372036854775808) (w : World) (h : impl_isSplit.f n v s = some true) (ha : a < 9223372036854775808) (hb : b < 9223372036854775808) (R : Bool)
    (hR : R = (if impl_IsRectangle.bad s a = true then false else if impl_IsRectangle.bad m b = true then false else impl_IsRectangle.both n s v a.toNat b.toNat)) :
    Calls Try.prog 13 #[.agg #[.int .i64 n, .int .i64 v], .int .i64 s, .int .i64 a, .int .i64 b] w fun e w' => e = .returned (.bool R) ∧ Below w.heap.size w w' := by
  have hu := Try.underlying25
  have hub := Try.underlying51
  have HB := below_alloc (Below.refl w.heap.size w) (.cells #[.int .i64 n, .int .i64 v] 25 (0, 0))
  have BK := blk_new w (.cells #[.int .i64 n, .int .i64 v] 25 (0, 0))
  have hc0 : (w.alloc (.cells #[.int .i64 n, .int .i64 v] 25 (0, 0))).cell? ⟨w.heap.size, 0, none⟩ = some (.int .i64 n) := (blk_cell BK 0).trans rfl
  have hc1 : (w.alloc (.cells #[.int .i64 n, .int .i64 v] 25 (0, 0))).cell? ⟨w.heap.size, 1, none⟩ = some (.int .i64 v) := (blk_cell BK 1).trans rfl
  have H := Aside0.mk h
  have HRR := Aside0.mk hR
  have HN := Aside0.mk hn
  have HNM := Aside0.mk hnm
  have HV := Aside0.mk hv
  have hps := B.pow_le (n := s) (by omega)
  have hpm := B.pow_le (n := m) (by omega)
  have b2 : (s : Int) ≤ 64 := by omega
  have b3 : (m : Int) ≤ 64 := by omega
  have hqs := B.pow_pos s
  have e5 : (n : Int) - (s : Int) = (m : Int) := by omega
  have e6 : IntKind.u64.wrap (2 ^ s) = ((2 ^ s : Nat) : Int) := by
    rw [show (2 : Int) ^ s = ((2 ^ s : Nat) : Int) by simp]
    generalize 2 ^ s = M at hps
    exact B.wrapu_of (by omega) (by omega)
  have e7 : IntKind.u64.wrap (2 ^ m) = ((2 ^ m : Nat) : Int) := by
    rw [show (2 : Int) ^ m = ((2 ^ m : Nat) : Int) by simp]
    generalize 2 ^ m = M at hpm
    exact B.wrapu_of (by omega) (by omega)
  obtain ⟨Qs, hQs⟩ : ∃ Q : Nat, Q = 2 ^ s := ⟨_, rfl⟩
  obtain ⟨Qm, hQm⟩ : ∃ Q : Nat, Q = 2 ^ m := ⟨_, rfl⟩
  have e8 : IntKind.i64.wrap (2 ^ s) = ((2 ^ s : Nat) : Int) := by rw [i64_w]; exact B.wrap64_pow (by omega)
  have e9 : IntKind.i64.wrap (((2 ^ s : Nat) : Int) - 1) = ((2 ^ s - 1 : Nat) : Int) := by rw [i64_w, B.wrap64_of (by omega) (by omega)]; omega
  rw [← hQs] at e6 e8 e9 hps hqs
  rw [← hQm] at e7 hpm
  have HQs := Aside0.mk hQs
  have HQm := Aside0.mk hQm
  have E8 := Aside0.mk e8
  have E9 := Aside0.mk e9
  have bqs : (Qs : Int) ≤ 64 := by omega
  have bqm : (Qm : Int) ≤ 64 := by omega
  obtain ⟨ya, hya⟩ : ∃ y, a / 2 ^ Qs = y := ⟨_, rfl⟩
  obtain ⟨yb, hyb⟩ : ∃ y, b / 2 ^ Qm = y := ⟨_, rfl⟩
  have HBAD : Aside0 (impl_IsRectangle.bad s a = (decide (a ≤ 0) || (ya != 0)) ∧ impl_IsRectangle.bad m b = (decide (b ≤ 0) || (yb != 0))) := ⟨by unfold impl_IsRectangle.bad; rw [← hQs, ← hQm, hya, hyb]; exact ⟨rfl, rfl⟩⟩
  have HA := Aside0.mk ha
  have HBB := Aside0.mk hb
  clear h hR hn hnm hv hQs hQm e8 e9 ha hb
  by_cases c1 : a ≤ 0
  · have d1 : decide (a ≤ 0) = true := decide_eq_true c1
    have HX : Aside0 (R = false) := ⟨by rw [HRR.out, HBAD.out.1, d1]; rfl⟩
    clear e5 e6 e7 hya hyb
    go_enter Try.func13, Try.ntmps13
    go_wp2_with (go_at_call 34; refine (impl_isSplit.calls n v s true _ H.out).mono ?_; rintro e w' ⟨rfl, hb⟩)
    go_ret
    exact ⟨by rw [HX.out]; rfl, below_step HB hb⟩
  · have d1 : decide (a ≤ 0) = false := decide_eq_false c1
    by_cases c2 : ya = 0
    · subst c2
      by_cases c3 : b ≤ 0
      · have d3 : decide (b ≤ 0) = true := decide_eq_true c3
        have HX : Aside0 (R = false) := ⟨by rw [HRR.out, HBAD.out.2, d3]; simp⟩
        clear e5 e7 hyb
        go_enter Try.func13, Try.ntmps13
        go_wp2_with (go_at_call 34; refine (impl_isSplit.calls n v s true _ H.out).mono ?_; rintro e w' ⟨rfl, hb⟩)
        go_ret
        exact ⟨by rw [HX.out]; rfl, below_step HB hb⟩
      · have d3 : decide (b ≤ 0) = false := decide_eq_false c3
        by_cases c4 : yb = 0
        · subst c4
          have HX : Aside0 (R = impl_IsRectangle.both n s v a.toNat b.toNat) := ⟨by rw [HRR.out, HBAD.out.1, HBAD.out.2, d1, d3]; rfl⟩
          obtain ⟨an, rfl⟩ : ∃ k : Nat, a = k := ⟨a.toNat, by omega⟩
          obtain ⟨bn, rfl⟩ : ∃ k : Nat, b = k := ⟨b.toNat, by omega⟩
          rw [Int.toNat_natCast, Int.toNat_natCast] at HX
          have HAN : Aside0 (an < 9223372036854775808) := ⟨by have := HA.out; omega⟩
          have HBN : Aside0 (bn < 9223372036854775808) := ⟨by have := HBB.out; omega⟩
          have ca : decide (an = 0) = false := decide_eq_false (by omega)
          have cb : decide (bn = 0) = false := decide_eq_false (by omega)
          have ca2 : ¬ an = 0 := by omega
          have cb2 : ¬ bn = 0 := by omega
          clear HRR HBAD HA HBB c1 c3
          obtain ⟨M, hM⟩ : ∃ M : Nat, M = 2 ^ n := ⟨_, rfl⟩
          have hM32 : M ≤ 32 := by rw [hM]; exact B.pow_le HN.out
          have HSZ : Aside0 (impl_Table_size.f n v = some (M : Int)) := ⟨by unfold impl_Table_size.f; rw [if_pos (by omega), B.shl1_of (by have := HN.out; omega), hM]⟩
          have HM := Aside0.mk hM
          clear hM
          go_enter Try.func13, Try.ntmps13
          go_wp2_with (first | (go_at_call 34; refine (impl_isSplit.calls n v s true _ H.out).mono ?_; rintro e w1 ⟨rfl, hb⟩; have L1 := Aside0.mk (blk_below BK hb); have LB := Aside0.mk (below_step HB hb); clear hb; have hz0 : w1.cell? ⟨w.heap.size, 0, none⟩ = some (.int .i64 n) := (blk_cell L1.out 0).trans rfl; have hz1 : w1.cell? ⟨w.heap.size, 1, none⟩ = some (.int .i64 v) := (blk_cell L1.out 1).trans rfl; have ha0 : (w1.alloc (.cells #[.bool false, .bool false] 51 (0, 0))).cell? ⟨w.heap.size, 0, none⟩ = some (.int .i64 n) := (blk_cell (blk_alloc L1.out _) 0).trans rfl; have ha1 : (w1.alloc (.cells #[.bool false, .bool false] 51 (0, 0))).cell? ⟨w.heap.size, 1, none⟩ = some (.int .i64 v) := (blk_cell (blk_alloc L1.out _) 1).trans rfl) | (go_at_call 35; refine (impl_Table_size.calls n v M _ HSZ.out).mono ?_; rintro e w2 ⟨rfl, hb⟩; have M1 := Aside0.mk (blk_below (blk_alloc L1.out _) hb); have S1 := Aside0.mk (blk_below (blk_new w1 (.cells #[.bool false, .bool false] 51 (0, 0))) hb); have hG := Aside0.mk (blk_lt L1.out); have MB := Aside0.mk (below_step (below_alloc LB.out _) hb); clear hb ha0 ha1 hz0 hz1))
          clear L1 LB
          generalize w1.heap.size = G at hG S1 ⊢
          have e8 := E8.out
          have e9 := E9.out
          clear e5 e6 e7 hya hyb hc0 hc1
          go_loopg [43] M (fun gg v43 wr => ∃ x : Nat, x ≤ M ∧ M - x ≤ gg ∧ v43 = .int .i64 x ∧ Aside0 (wr.heap[w.heap.size]? = some (.cells #[.int .i64 n, .int .i64 v] 25 (0, 0))) ∧ Aside0 (wr.heap[G]? = some (.cells #[.bool (B.exN (impl_IsRectangle.seen s v an bn false) x), .bool (B.exN (impl_IsRectangle.seen s v an bn true) x)] 51 (0, 0))) ∧ Aside0 (Below w.heap.size w wr))
          case atStart => exact ⟨0, Nat.zero_le _, by omega, rfl, M1, S1, MB⟩
          case round =>
            clear M1 S1 MB
            obtain ⟨x, hx, hg, rfl, M1, S1, MB⟩ := hrel
            by_cases hlt : x < M
            · have hltz : (x : Int) < (M : Int) := by omega
              have HE1 : Aside0 (Go.bits .and .i64 (x : Int) ((Qs - 1 : Nat) : Int) = ((x % 2 ^ s : Nat) : Int) ∧ (x : Int) / 2 ^ s = ((x / 2 ^ s : Nat) : Int) ∧ x % 2 ^ s < 32 ∧ x / 2 ^ s < 32) := ⟨by
                have := HQs.out
                have h1 : x % 2 ^ s < 2 ^ s := Nat.mod_lt _ (B.pow_pos s)
                have h2 : x / 2 ^ s ≤ x := Nat.div_le_self _ _
                exact ⟨by rw [this, B.and_cast (by omega) (by omega), Nat.and_two_pow_sub_one_eq_mod], by simp, by omega, by omega⟩⟩
              have HH : Aside0 (∀ q, impl_IsRectangle.seen s v an bn q x = ((an.testBit (x % 2 ^ s) && bn.testBit (x / 2 ^ s)) && (v.testBit x == q))) := ⟨fun q => rfl⟩
              generalize x % 2 ^ s = p at HE1 HH
              generalize x / 2 ^ s = q at HE1 HH
              have e1 := HE1.out.1
              have e2 := HE1.out.2.1
              have b4 : (p : Int) ≤ 64 := by have := HE1.out.2.2.1; omega
              have b5 : (q : Int) ≤ 64 := by have := HE1.out.2.2.2; omega
              clear HE1
              cases hA : an.testBit p with
              | false =>
                obtain ⟨ya, f1, f2⟩ := rect_bit HAN.out hA
                rw [show ((false.toNat : Nat) : Int) = 0 from rfl] at f2
                have HM0 : Aside0 (∀ q, impl_IsRectangle.seen s v an bn q x = false) := ⟨fun z => by rw [HH.out, hA]; rfl⟩
                clear hA
                go_wp2
                go_roundg (M - (x + 1))
                case measure => omega
                case rel => exact ⟨x + 1, by omega, by omega, by go_num, M1, ⟨by rw [B.exN, B.exN, HM0.out, HM0.out, Bool.or_false, Bool.or_false]; exact S1.out⟩, MB⟩
              | true =>
                obtain ⟨ya, f1, f2⟩ := rect_bit HAN.out hA
                rw [show ((true.toNat : Nat) : Int) = 1 from rfl] at f2
                cases hB : bn.testBit q with
                | false =>
                  obtain ⟨yb, g1, g2⟩ := rect_bit HBN.out hB
                  rw [show ((false.toNat : Nat) : Int) = 0 from rfl] at g2
                  have HM0 : Aside0 (∀ q, impl_IsRectangle.seen s v an bn q x = false) := ⟨fun z => by rw [HH.out, hB, Bool.and_false]; rfl⟩
                  clear hA hB
                  go_wp2
                  go_roundg (M - (x + 1))
                  case measure => omega
                  case rel => exact ⟨x + 1, by omega, by omega, by go_num, M1, ⟨by rw [B.exN, B.exN, HM0.out, HM0.out, Bool.or_false, Bool.or_false]; exact S1.out⟩, MB⟩
                | true =>
                  obtain ⟨yb, g1, g2⟩ := rect_bit HBN.out hB
                  rw [show ((true.toNat : Nat) : Int) = 1 from rfl] at g2
                  have HM0 : Aside0 (∀ q, impl_IsRectangle.seen s v an bn q x = (v.testBit x == q)) := ⟨fun z => by rw [HH.out, hA, hB]; rfl⟩
                  clear hA hB
                  have hz0 : wr.cell? ⟨w.heap.size, 0, none⟩ = some (.int .i64 n) := (blk_cell M1.out 0).trans rfl
                  have hz1 : wr.cell? ⟨w.heap.size, 1, none⟩ = some (.int .i64 v) := (blk_cell M1.out 1).trans rfl
                  have HAT := Aside0.mk (rect_at (n := (n : Int)) (x := x) HV.out (by omega))
                  cases hq : v.testBit x with
                  | false =>
                    rw [show B.bitN v x = 0 from B.bitN_eq_zero.mpr hq] at HAT
                    have HQ := Aside0.mk hq
                    clear hq
                    go_wp2_with (go_at_call 36; refine (impl_Table_at.calls n v x 0 _ HAT.out).mono ?_; rintro e w' ⟨rfl, hb⟩; have N1 := Aside0.mk (blk_below M1.out hb); have T1 := Aside0.mk (blk_below S1.out hb); have NB := Aside0.mk (below_step MB.out hb); clear hb; have hs0 : w'.cell? ⟨G, 0, none⟩ = some (.bool (B.exN (impl_IsRectangle.seen s v an bn false) x)) := (blk_cell T1.out 0).trans rfl; have hfs := blk_frozen T1.out 0)
                    go_roundg (M - (x + 1))
                    case measure => omega
                    case rel => exact ⟨x + 1, by omega, by omega, by go_num, ⟨blk_far N1.out (by have := hG.out; show _ ≠ G; omega) _⟩, ⟨by rw [B.exN, B.exN, HM0.out, HM0.out, HQ.out]; simp only [beq_self_eq_true, Bool.or_true, show (false == true) = false from rfl, Bool.or_false]; exact blk_put T1.out 0 _ rfl⟩, ⟨below_set NB.out (by have := hG.out; omega)⟩⟩
                  | true =>
                    rw [show B.bitN v x = 1 from B.bitN_eq_one.mpr hq] at HAT
                    have HQ := Aside0.mk hq
                    clear hq
                    go_wp2_with (go_at_call 36; refine (impl_Table_at.calls n v x 1 _ HAT.out).mono ?_; rintro e w' ⟨rfl, hb⟩; have N1 := Aside0.mk (blk_below M1.out hb); have T1 := Aside0.mk (blk_below S1.out hb); have NB := Aside0.mk (below_step MB.out hb); clear hb; have hs0 : w'.cell? ⟨G, 1, none⟩ = some (.bool (B.exN (impl_IsRectangle.seen s v an bn true) x)) := (blk_cell T1.out 1).trans rfl; have hfs := blk_frozen T1.out 1)
                    go_roundg (M - (x + 1))
                    case measure => omega
                    case rel => exact ⟨x + 1, by omega, by omega, by go_num, ⟨blk_far N1.out (by have := hG.out; show _ ≠ G; omega) _⟩, ⟨by rw [B.exN, B.exN, HM0.out, HM0.out, HQ.out]; simp only [beq_self_eq_true, Bool.or_true, show (true == false) = false from rfl, Bool.or_false]; exact blk_put T1.out 1 _ rfl⟩, ⟨below_set NB.out (by have := hG.out; omega)⟩⟩
            · have hltz : ¬ (x : Int) < (M : Int) := by omega
              obtain rfl : x = M := by omega
              have hs0 : wr.cell? ⟨G, 0, none⟩ = some (.bool (B.exN (impl_IsRectangle.seen s v an bn false) x)) := (blk_cell S1.out 0).trans rfl
              have hs1 : wr.cell? ⟨G, 1, none⟩ = some (.bool (B.exN (impl_IsRectangle.seen s v an bn true) x)) := (blk_cell S1.out 1).trans rfl
              have HX' : Aside0 (R = (!B.exN (impl_IsRectangle.seen s v an bn false) x || !B.exN (impl_IsRectangle.seen s v an bn true) x)) := ⟨by rw [HX.out, HM.out]; rfl⟩
              generalize B.exN (impl_IsRectangle.seen s v an bn false) x = p0 at hs0 HX'
              generalize B.exN (impl_IsRectangle.seen s v an bn true) x = p1 at hs1 HX'
              cases p0 with
              | false =>
                go_wp2
                go_ret
                exact ⟨by rw [HX'.out]; rfl, MB.out⟩
              | true =>
                cases p1 with
                | false =>
                  go_wp2
                  go_ret
                  exact ⟨by rw [HX'.out]; rfl, MB.out⟩
                | true =>
                  go_wp2
                  go_ret
                  exact ⟨by rw [HX'.out]; rfl, MB.out⟩
        · have d4 : (yb != 0) = true := bne_iff_ne.mpr c4
          have HX : Aside0 (R = false) := ⟨by rw [HRR.out, HBAD.out.2, d4]; simp⟩
          go_enter Try.func13, Try.ntmps13
          go_wp2_with (go_at_call 34; refine (impl_isSplit.calls n v s true _ H.out).mono ?_; rintro e w' ⟨rfl, hb⟩; have hz0 : w'.cell? ⟨w.heap.size, 0, none⟩ = some (.int .i64 n) := (blk_cell (blk_below BK hb) 0).trans rfl)
          go_ret
          exact ⟨by rw [HX.out]; rfl, below_step HB hb⟩
    · have d2 : (ya != 0) = true := bne_iff_ne.mpr c2
      have HX : Aside0 (R = false) := ⟨by rw [HRR.out, HBAD.out.1, d2]; simp⟩
      clear e5 e7 hyb
      go_enter Try.func13, Try.ntmps13
      go_wp2_with (go_at_call 34; refine (impl_isSplit.calls n v s true _ H.out).mono ?_; rintro e w' ⟨rfl, hb⟩)
      go_ret
      exact ⟨by rw [HX.out]; rfl, below_step HB hb⟩
theorem impl_IsRectangle.calls (a0_0 : Int) (a0_1 : Int) (a1 : Int) (a2 : Int) (a3 : Int) (r : Bool) (w : World) (h : impl_IsRectangle.f a0_0 a0_1 a1 a2 a3 = some r) :
    Calls Try.prog 13 #[.agg #[.int .i64 a0_0, .int .i64 a0_1], .int .i64 a1, .int .i64 a2, .int .i64 a3] w fun e w' => e = .returned (.bool r) ∧ Below w.heap.size w w' := by
  unfold impl_IsRectangle.f at h
  obtain ⟨t, ht, h⟩ := Option.bind_eq_some_iff.mp h
  cases t with
  | false =>
    rw [if_neg (by decide)] at h
    cases h
    exact impl_IsRectangle.no a0_0 a0_1 a1 a2 a3 w ht
  | true =>
    rw [if_pos rfl] at h
    split at h
    next hc =>
      obtain ⟨n, rfl⟩ := Int.eq_ofNat_of_zero_le hc.1.1
      obtain ⟨v, rfl⟩ := Int.eq_ofNat_of_zero_le hc.1.2.2.1
      obtain ⟨s, rfl⟩ := Int.eq_ofNat_of_zero_le hc.2.1.1
      obtain ⟨m, rfl⟩ : ∃ m, n = s + m := ⟨n - s, by omega⟩
      rw [show (((s + m : Nat) : Int) - (s : Int)).toNat = m by omega, Int.toNat_natCast, Int.toNat_natCast, Int.toNat_natCast] at h
      refine impl_IsRectangle.yes (s + m) s m v a2 a3 (by omega) rfl (by omega) w ht hc.2.2.1 hc.2.2.2 r ?_
      split at h
      next h1 => rw [if_pos h1]; cases h; rfl
      next h1 =>
        rw [if_neg h1]
        split at h
        next h2 => rw [if_pos h2]; cases h; rfl
        next h2 => rw [if_neg h2]; cases h; rfl
    next => cases h


end Go.Proofs.Ytcgjlmgfmiacgaa.F
