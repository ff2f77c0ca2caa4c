/- The walk of one Go function: a call of it ends as the Lean function of its name tells; the conditions are those of each theorem. -/
import Derived.Test.YticfnpfagadcoaaF0
import Derived.Test.YticfnpfagadcoaaFimplTablediagram
import Derived.Test.YticfnpfagadcoaaFimplisSmall
import Derived.Test.YticfnpfagadcoaaFimplpermutations
import Derived.Test.YticfnpfagadcoaaBase
namespace Go.Proofs.Yticfnpfagadcoaa.F
open Go.RowKit Go.Proofs.YticfnpfagadcoaaW.PrintWords Go.Proofs.YticfnpfagadcoaaW.PrintLast Go.Proofs.YticfnpfagadcoaaW.PrintMore
attribute [local go_sem] max2_int min2_int max_two min_two max_three min_three max_four min_four   -- for this text's walks alone
set_option linter.unusedVariables false
set_option linter.unusedSimpArgs false

/-! ### impl_LeastOrder: function 75 -/
/-- The first row whose size is least. -/
def lstF (sz : List Int → Nat) : List (List Int) → List Int → Int → List Int × Int
  | [], b, m => (b, m)
  | r :: rs, b, m => if m < 0 ∨ (sz r : Int) < m then lstF sz rs r (sz r) else lstF sz rs b m
def lrd (xs : List (List Int)) (i : Int) : List Int := xs.getD i.toNat ([] : List Int)
theorem lrd_mem {xs : List (List Int)} {x : Nat} (h : x < xs.length) : lrd xs x ∈ xs := by
  unfold lrd
  rw [Int.toNat_natCast, List.getD_eq_getElem?_getD, List.getElem?_eq_getElem h]
  exact List.getElem_mem _
theorem lrd_drop {xs : List (List Int)} {x : Nat} (h : x < xs.length) : xs.drop x = lrd xs x :: xs.drop (x + 1) := by
  unfold lrd
  rw [List.drop_eq_getElem_cons h, Int.toNat_natCast, List.getD_eq_getElem?_getD, List.getElem?_eq_getElem h]
  rfl
def dgN (a b : Int) (r : List Int) : Nat := ((impl_Table_diagram.f a b r).getD []).length
def dgOk (a b : Int) (xs : List (List Int)) : Bool := xs.all fun r => (impl_Table_diagram.f a b r).any fun l => decide (l.length < 1000) && decide (r.length < 1000)
theorem dgOk_at {a b : Int} {xs : List (List Int)} (h : dgOk a b xs = true) (r : List Int) (hr : r ∈ xs) : ∃ l, impl_Table_diagram.f a b r = some l ∧ l.length < 1000 ∧ l.length = dgN a b r := by
  have h1 := List.all_eq_true.mp h r hr
  unfold dgN
  generalize impl_Table_diagram.f a b r = o at h1 ⊢
  cases o with
  | none => cases h1
  | some l =>
    have h2 : (decide (l.length < 1000) && decide (r.length < 1000)) = true := h1
    rw [Bool.and_eq_true, decide_eq_true_eq] at h2
    exact ⟨l, rfl, h2.1, rfl⟩
def impl_LeastOrder.f (a0_0 a0_1 : Int) : Option (List Int × Int × Bool) :=
  (impl_isSmall.f a0_0 a0_1 4).bind fun t => if t = true then (impl_permutations.f a0_0).bind fun xs => (if dgOk a0_0 a0_1 xs = true ∧ xs.length < 1000 then some ((lstF (dgN a0_0 a0_1) xs [] (-1)).1, (lstF (dgN a0_0 a0_1) xs [] (-1)).2, true) else none) else some ([], 0, false)
set_option maxHeartbeats 1000000 in
set_option maxRecDepth 100000 in
theorem impl_LeastOrder.calls (a0_0 a0_1 : Int) (r1 : List Int) (r2 : Int) (r3 : Bool) (w : World) (h : impl_LeastOrder.f a0_0 a0_1 = some (r1, r2, r3)) :
    Calls Try.prog 75 #[.agg #[.int .i64 a0_0, .int .i64 a0_1]] w fun e w' => ∃ v0_ : Value, e = .returned (.tuple #[v0_, .int .i64 r2, .bool r3]) ∧ Kd.R (Kd.int .i64) 3 w' w.heap.size (fun _ => True) v0_ r1 ∧ Below w.heap.size w w' := by
  have hut := Try.underlying25
  unfold impl_LeastOrder.f at h
  obtain ⟨t, ht, h1⟩ := Option.bind_eq_some_iff.mp h
  have HT := Aside0.mk ht
  clear ht h
  have K1 := Aside0.mk (blk_new w (.cells #[.int .i64 a0_0, .int .i64 a0_1] 25 (0, 0)))
  have KB := Aside0.mk (below_alloc (Below.refl w.heap.size w) (.cells #[.int .i64 a0_0, .int .i64 a0_1] 25 (0, 0)))
  have hk0 : (w.alloc (.cells #[.int .i64 a0_0, .int .i64 a0_1] 25 (0, 0))).cell? ⟨w.heap.size, 0, none⟩ = some (.int .i64 a0_0) := (blk_cell K1.out 0).trans rfl
  have hk1 : (w.alloc (.cells #[.int .i64 a0_0, .int .i64 a0_1] 25 (0, 0))).cell? ⟨w.heap.size, 1, none⟩ = some (.int .i64 a0_1) := (blk_cell K1.out 1).trans rfl
  cases t with
  | false =>
    rw [if_neg (by decide)] at h1
    cases h1
    go_enter Try.func75, Try.ntmps75
    go_wp2_with (go_at_call 227; refine (impl_isSmall.calls a0_0 a0_1 4 false _ HT.out).mono ?_; rintro e w1 ⟨rfl, hd⟩; have HB := Aside0.mk (below_step KB.out hd); clear hd)
    go_ret3
    exact ⟨_, rfl, Kd.R_nil _ _ _ _ _, HB.out⟩
  | true =>
    rw [if_pos rfl] at h1
    obtain ⟨xs, hxs, h2⟩ := Option.bind_eq_some_iff.mp h1
    clear h1
    split at h2
    next hd =>
      have HX := Aside0.mk hxs
      have HD : Aside0 (∀ r, r ∈ xs → ∃ l, impl_Table_diagram.f a0_0 a0_1 r = some l ∧ l.length < 1000 ∧ l.length = dgN a0_0 a0_1 r) := ⟨fun r hr => dgOk_at hd.1 r hr⟩
      have HL := Aside0.mk hd.2
      clear hd hxs
      generalize dgN a0_0 a0_1 = sz at h2 HD
      obtain ⟨T, hT⟩ : ∃ T, T = lstF sz xs [] (-1) := ⟨_, rfl⟩
      rw [← hT] at h2
      have HTT := Aside0.mk hT
      clear hT
      cases h2
      go_enter Try.func75, Try.ntmps75
      go_upto_region 3 with (go_at_call 227; refine (impl_isSmall.calls a0_0 a0_1 4 true _ HT.out).mono ?_; rintro e w1 ⟨rfl, hd⟩; have HB := Aside0.mk (below_step KB.out hd); have BK := Aside0.mk (blk_below K1.out hd); clear hd)
      clear hk0 hk1
      have hc0 : w1.cell? ⟨w.heap.size, 0, none⟩ = some (.int .i64 a0_0) := (blk_cell BK.out 0).trans rfl
      go_wp2_with (go_at_call 228; refine (impl_permutations.calls a0_0 xs _ HX.out).mono ?_; rintro e w2 ⟨v0, rfl, hs, hd⟩; have HS := Aside0.mk (Kd.S_lower hs HB.out.size); have HB2 := Aside0.mk (below_step HB.out hd); have BK2 := Aside0.mk (blk_below BK.out hd); obtain ⟨A, c, rfl, _, _⟩ := Kd.S_reads hs; clear hs hd HB BK hc0)
      go_loopg [5, 6, 17] xs.length (fun gg v5 v6 v17 wr => ∃ (x : Nat) (best : List Int) (m : Int), x ≤ xs.length ∧ xs.length - x ≤ gg ∧ v17 = .int .i64 x ∧ v6 = .int .i64 m ∧ Aside0 (Kd.R (Kd.int .i64) 3 wr w.heap.size (fun _ => True) v5 best) ∧ Aside0 (lstF sz (xs.drop x) best m = T) ∧ Aside0 (Kd.S (Kd.slice 3 (Kd.int .i64)) 27 wr w.heap.size (fun _ => True) (.slice A xs.length c) xs) ∧ Aside0 (wr.heap[w.heap.size]? = some (.cells #[.int .i64 a0_0, .int .i64 a0_1] 25 (0, 0))) ∧ Aside0 (Below w.heap.size w wr))
      case atStart => exact ⟨0, [], -1, Nat.zero_le _, by omega, rfl, rfl, ⟨Kd.R_nil _ _ _ _ _⟩, ⟨HTT.out.symm⟩, HS, BK2, HB2⟩
      case round =>
        clear HS BK2 HB2 HTT
        obtain ⟨x, best, m, hx, hg, rfl, rfl, HR, HTT, HS, BK, HB⟩ := hrel
        have HG := Aside0.mk hg
        clear hg
        by_cases hlt : x < xs.length
        · have hltz : (x : Int) < (xs.length : Int) := by omega
          have h0z : (0 : Int) ≤ (x : Int) := by omega
          have HLT := Aside0.mk hlt
          have HSTEP : Aside0 ((if m < 0 ∨ (sz (lrd xs x) : Int) < m then lstF sz (xs.drop (x + 1)) (lrd xs x) (sz (lrd xs x)) else lstF sz (xs.drop (x + 1)) best m) = T) := ⟨by rw [← HTT.out, lrd_drop hlt, lstF]⟩
          obtain ⟨nodes, hnd, hnl, hns⟩ := HD.out _ (lrd_mem hlt)
          have HND := Aside0.mk hnd
          have HNL := Aside0.mk hnl
          rw [← hns] at HSTEP
          obtain ⟨go, co, eo, _, _, _⟩ := Kd.S_form HS.out (by omega)
          have eA : A = some ⟨go, 0, none⟩ := by injection eo
          have eC : c = co := by injection eo
          subst eA eC
          clear eo
          obtain ⟨oki, ce, hcl29, hM29, hcc29, hfr29, _, hH29⟩ := Kd.S_elem HS.out [] (x : Int) h0z hltz
          obtain ⟨ve, rfl, ge29⟩ := hM29
          have hv29 := hcc29 0 _ rfl
          rw [Nat.add_zero, show ((Kd.slice 3 (Kd.int .i64))).sz = 1 from rfl, Nat.mul_one, Int.toNat_natCast] at hv29
          have ge30 : Kd.R (Kd.int .i64) 3 wr w.heap.size oki ve (lrd xs x) := ge29
          obtain ⟨A', c', rfl, hlc', hC'⟩ := Kd.R_reads ge30
          have RR := Aside0.mk (Kd.R_mono (ok' := fun _ => True) ge30 (fun _ _ => trivial))
          have HC := Aside0.mk hC'
          have HCL := Aside0.mk hlc'
          have hk0 : wr.cell? ⟨w.heap.size, 0, none⟩ = some (.int .i64 a0_0) := (blk_cell BK.out 0).trans rfl
          have hk1 : wr.cell? ⟨w.heap.size, 1, none⟩ = some (.int .i64 a0_1) := (blk_cell BK.out 1).trans rfl
          clear hcl29 hcc29 hfr29 hH29 ge29 ge30 hlc' hC' hnd hnl hns HTT hlt hx
          go_upto_region 9 with (go_at_call 229; refine (impl_Table_diagram.calls a0_0 a0_1 A' c' (lrd xs x) nodes _ HC.out HCL.out HND.out).mono ?_; rintro e w3 ⟨v0, rfl, hr0, hd⟩; have RR3 := Aside0.mk (Kd.R_below RR.out hd); have HR3 := Aside0.mk (Kd.R_below HR.out hd); have HS3 := Aside0.mk (Kd.S_below HS.out hd); have BK3 := Aside0.mk (blk_below BK.out hd); have HB3 := Aside0.mk (below_step HB.out hd); obtain ⟨A0, c0, rfl, _, _⟩ := Kd.R_reads hr0; clear hr0 hd hk0 hk1 hv29 RR HR HS BK HB)
          by_cases hm : m < 0
          · have d1 : decide (m < 0) = true := decide_eq_true hm
            go_wp2
            go_roundg (xs.length - (x + 1))
            case measure => have := HLT.out; have := HG.out; omega
            case rel => exact ⟨x + 1, lrd xs x, (nodes.length : Int), by have := HLT.out; omega, by omega, by have := HLT.out; have := HL.out; rw [B.wrap64_of (by omega) (by omega)]; congr 1, rfl, RR3, ⟨by rw [← HSTEP.out, if_pos (.inl hm)]⟩, HS3, BK3, HB3⟩
          · have d1 : decide (m < 0) = false := decide_eq_false hm
            by_cases hs : (nodes.length : Int) < m
            · have d2 : decide ((nodes.length : Int) < m) = true := decide_eq_true hs
              go_wp2
              go_roundg (xs.length - (x + 1))
              case measure => have := HLT.out; have := HG.out; omega
              case rel => exact ⟨x + 1, lrd xs x, (nodes.length : Int), by have := HLT.out; omega, by omega, by have := HLT.out; have := HL.out; rw [B.wrap64_of (by omega) (by omega)]; congr 1, rfl, RR3, ⟨by rw [← HSTEP.out, if_pos (.inr hs)]⟩, HS3, BK3, HB3⟩
            · have d2 : decide ((nodes.length : Int) < m) = false := decide_eq_false hs
              go_wp2
              go_roundg (xs.length - (x + 1))
              case measure => have := HLT.out; have := HG.out; omega
              case rel => exact ⟨x + 1, best, m, by have := HLT.out; omega, by omega, by have := HLT.out; have := HL.out; rw [B.wrap64_of (by omega) (by omega)]; congr 1, rfl, HR3, ⟨by rw [← HSTEP.out, if_neg (by omega)]⟩, HS3, BK3, HB3⟩
        · have hltz : ¬ (x : Int) < (xs.length : Int) := by omega
          obtain rfl : x = xs.length := by omega
          have e : (best, m) = T := by rw [← HTT.out, List.drop_length, lstF]
          subst e
          clear hlt hx
          go_wp2
          go_ret3
          exact ⟨_, rfl, HR.out, HB.out⟩
    next => cases h2


end Go.Proofs.Yticfnpfagadcoaa.F
