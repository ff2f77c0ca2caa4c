/- The walk of one Go function: a call of it ends as the Lean function of its name tells; the conditions are those of each theorem. -/
import Derived.Test.YtgcflignpeencaaF0
import Derived.Test.YtgcflignpeencaaFslicesContainsFuncintint
import Derived.Test.YtgcflignpeencaaFGa
import Derived.Test.YtgcflignpeencaaFGa
import Derived.Test.YtgcflignpeencaaFGa
import Derived.Test.YtgcflignpeencaaFimplisBit
import Derived.Test.YtgcflignpeencaaBase
namespace Go.Proofs.Ytgcflignpeencaa.F
open Go.RowKit Go.Proofs.YtgcflignpeencaaW.PrintWords Go.Proofs.YtgcflignpeencaaW.PrintLast Go.Proofs.YtgcflignpeencaaW.PrintMore
attribute [local go_sem] max2_int min2_int max_two min_two max_three min_three max_four min_four   -- for this text's walks alone
set_option linter.unusedVariables false
set_option linter.unusedSimpArgs false

/-! ### impl_SymmetricTable: function 21 -/
/-- No bit. -/
def impl_SymmetricTable.bad (r : Int) : Bool := !decide (r = 0 ∨ r = 1)
/-- The value at an input. -/
def impl_SymmetricTable.p (l : List Int) (x : Nat) : Bool := (impl_ones.f x).any fun v => rd l v == 1
def impl_SymmetricTable.okx (l : List Int) (x : Nat) : Bool := (impl_ones.f x).any fun v => decide (0 ≤ v ∧ v < (l.length : Int))
theorem impl_SymmetricTable.okx_of {l : List Int} {x : Nat} (h : impl_SymmetricTable.okx l x = true) : ∃ v, impl_ones.f x = some v ∧ 0 ≤ v ∧ v < (l.length : Int) ∧ impl_SymmetricTable.p l x = (rd l v == 1) := by
  unfold impl_SymmetricTable.okx at h
  unfold impl_SymmetricTable.p
  generalize impl_ones.f x = o at h ⊢
  cases o with
  | none => cases h
  | some v => have h := of_decide_eq_true h; exact ⟨v, rfl, h.1, h.2, rfl⟩
def impl_SymmetricTable.f (l0 : List Int) : Option (Int × Int × Bool) :=
  if l0.length < 9223372036854775807 then
    (if 1 ≤ l0.length ∧ l0.length ≤ 6 then (if B.exN (fun i => impl_SymmetricTable.bad (rd l0 i)) l0.length = true then some (0, 0, false)
      else if B.allN (impl_SymmetricTable.okx l0) (2 ^ (l0.length - 1)) = true then some (((l0.length - 1 : Nat) : Int), ((B.tabN (impl_SymmetricTable.p l0) (2 ^ (l0.length - 1)) : Nat) : Int), true) else none) else some (0, 0, false)) else none
set_option maxHeartbeats 400000 in
theorem impl_SymmetricTable_1.any (x : Int) (W : World) : Gives Try.prog 54 #[] #[.int .i64 x] (.bool (impl_SymmetricTable.bad x)) W := by
  show Calls Try.prog 54 #[.int .i64 x] W _
  have hb : impl_isBit.f x = some (!impl_SymmetricTable.bad x) := by
    unfold impl_isBit.f impl_SymmetricTable.bad
    rw [Bool.not_not]
    by_cases h : x = 0
    · rw [if_pos h]; simp [h]
    · rw [if_neg h]; congr 1; rw [Bool.eq_iff_iff]; simp [h]
  have HX := Aside0.mk hb
  clear hb
  go_enter Try.func54, Try.ntmps54
  go_wp2_with (go_at_call 55; refine (impl_isBit.calls x _ _ HX.out).mono ?_; rintro e w' ⟨rfl, hd⟩)
  go_ret
  exact ⟨by simp, hd.below⟩
set_option maxHeartbeats 400000 in
theorem impl_SymmetricTable_2.any (l : List Int) (A : Option Addr) (c : Nat) (x : Nat) (hx : impl_SymmetricTable.okx l x = true) (g1 : Nat) (W : World) (hr : Kd.C (Kd.int .i64) W A l.length l)
    (h1 : W.heap[g1]? = some (.cells #[.slice A l.length c] 22 (0, 0))) :
    Gives Try.prog 56 #[.pointer (some ⟨g1, 0, none⟩)] #[.int .i64 x] (.bool (impl_SymmetricTable.p l x)) W := by
  show Calls Try.prog 56 #[.int .i64 x, .pointer (some ⟨g1, 0, none⟩)] W _
  obtain ⟨v, hv, h0, hl, hE⟩ := impl_SymmetricTable.okx_of hx
  have HE := Aside0.mk hE
  clear hE hx
  obtain ⟨ad, rfl, he⟩ := Kd.at_int hr v h0 hl
  have hc0 : W.cell? ⟨g1, 0, none⟩ = some (.slice (some ad) l.length c) := (blk_cell h1 0).trans rfl
  have HV := Aside0.mk hv
  clear h1 hr hv
  go_enter Try.func56, Try.ntmps56
  go_wp2
  go_quiet ((go_at_call 51; (with_reducible refine (impl_ones.calls x v _ HV.out).mono ?_); rintro e w' ⟨rfl, ⟨nd, rfl⟩⟩; (try first | exact ⟨rfl, _, World.drewN_drewN _ _ _⟩ | exact ⟨rfl, _, Eq.trans (World.drewN_drewN _ _ _) (congrArg (World.drewN _) (Nat.add_assoc _ _ _))⟩)))
  go_wp2
  go_ret
  exact ⟨by rw [HE.out]; rfl, by repeat (first | (with_reducible first | exact Below.refl _ _ | apply below_alloc | apply pw_below_drewN | apply below_drew1) | exact Below.refl _ _)⟩
set_option maxHeartbeats 400000 in
set_option maxRecDepth 100000 in
theorem impl_SymmetricTable.calls (A0 : Option Addr) (c0 : Nat) (l0 : List Int) (r1 : Int) (r2 : Int) (r3 : Bool) (w : World) (hr0 : Kd.C (Kd.int .i64) w A0 l0.length l0) (hc0 : l0.length ≤ c0) (h : impl_SymmetricTable.f l0 = some (r1, r2, r3)) :
    Calls Try.prog 21 #[.slice A0 l0.length c0] w fun e w' => e = .returned (.tuple #[.agg #[.int .i64 r1, .int .i64 r2], .bool r3]) ∧ Below w.heap.size w w' := by
  have hu := Try.underlying24
  have HR := Aside0.mk hr0
  clear hr0 hc0
  have k1 : ((w.alloc (.cells #[.slice A0 l0.length c0] 22 (0, 0))).alloc (.cells #[.int .i64 0, .int .i64 0] 24 (0, 0))).heap[w.heap.size]? = some (.cells #[.slice A0 l0.length c0] 22 (0, 0)) := blk_alloc (blk_new w _) _
  have k3 : ((w.alloc (.cells #[.slice A0 l0.length c0] 22 (0, 0))).alloc (.cells #[.int .i64 0, .int .i64 0] 24 (0, 0))).heap[w.heap.size + 1]? = some (.cells #[.int .i64 0, .int .i64 0] 24 (0, 0)) := by simpa using blk_new (w.alloc (.cells #[.slice A0 l0.length c0] 22 (0, 0))) (.cells #[.int .i64 0, .int .i64 0] 24 (0, 0))
  have kb := below_alloc (below_alloc (Below.refl w.heap.size w) (.cells #[.slice A0 l0.length c0] 22 (0, 0))) (.cells #[.int .i64 0, .int .i64 0] 24 (0, 0))
  have K1 := Aside0.mk k1
  have K3 := Aside0.mk k3
  have KB := Aside0.mk kb
  clear k1 k3 kb
  unfold impl_SymmetricTable.f at h
  split at h
  next hL =>
    have HL := Aside0.mk hL
    have e1 : IntKind.i64.wrap ((l0.length : Int) - 1) = (l0.length : Int) - 1 := B.wrap_of (by omega) (by omega)
    clear hL
    by_cases h5 : 1 ≤ l0.length ∧ l0.length ≤ 6
    · rw [if_pos h5] at h
      have HT : Aside0 (impl_isBits.f ((l0.length : Int) - 1) = some true) := ⟨by unfold impl_isBits.f; rw [if_pos (by omega), decide_eq_true (by omega)]⟩
      have EG := Aside0.mk (enters_of Try.func54 (by kernel_rfl) rfl)
      obtain ⟨q, hq⟩ : ∃ q, q = B.exN (fun i => impl_SymmetricTable.bad (rd l0 i)) l0.length := ⟨_, rfl⟩
      have HCC : Aside0 (∀ w' : World, Below w.heap.size w w' → Calls Try.prog 41 #[.slice A0 l0.length c0, .func (.func 54) #[] #[]] w' fun e w'' => e = .returned (.bool q) ∧ Below w'.heap.size w' w'') := ⟨by
        intro w' hb
        rw [hq]
        exact slices_ContainsFunc_int.any A0 c0 l0 impl_SymmetricTable.bad 54 #[] EG.out w' (Kd.Heap.C (Kd.heap_int .i64) hb.block HR.out) (fun W x _ _ => impl_SymmetricTable_1.any (rd l0 x) W) HL.out⟩
      rw [← hq] at h
      clear hq EG
      cases q with
      | true =>
        rw [if_pos rfl] at h
        cases h
        clear h5
        go_enter Try.func21, Try.ntmps21
        go_wp2_with (first | (go_at_call 53; refine (impl_isBits.calls ((l0.length : Int) - 1) true _ HT.out).mono ?_; rintro e w1 ⟨rfl, hd⟩; have L1 := Aside0.mk (blk_below K1.out hd.below); have L3 := Aside0.mk (blk_below K3.out hd.below); have LB := Aside0.mk (below_step KB.out hd.below); clear hd; have hy0 : w1.cell? ⟨w.heap.size, 0, none⟩ = some (.slice A0 l0.length c0) := (blk_cell L1.out 0).trans rfl) | (go_at_call 41; refine (HCC.out _ LB.out).mono ?_; rintro e w2 ⟨rfl, hd2⟩; have K3' := blk_below L3.out hd2; have HB' := below_step LB.out hd2; have hx0 : w2.cell? ⟨w.heap.size + 1, 0, none⟩ = some (.int .i64 0) := (blk_cell K3' 0).trans rfl; have hx1 : w2.cell? ⟨w.heap.size + 1, 1, none⟩ = some (.int .i64 0) := (blk_cell K3' 1).trans rfl; have hf0 := blk_frozen K3' 0; have hf1 := blk_frozen K3' 1))
        refine bodyPost_ret (results_ct rfl _ _ (w.heap.size + 1) 24 #[.int .i64 0, .int .i64 0] (0, 0) _ rfl (by first | exact K3' | (refine blk_put (cs := #[.int .i64 0, .int .i64 0]) ?_ 1 _ rfl; refine blk_put (cs := #[.int .i64 0, .int .i64 0]) ?_ 0 _ rfl; exact K3')) Try.underlying24 rfl (by kernel_rfl)) rfl ?_
        exact ⟨rfl, below_set (below_set HB' (by omega)) (by omega)⟩
      | false =>
        rw [if_neg (by decide)] at h
        split at h
        next ha =>
          cases h
          have HA := Aside0.mk (B.allN_iff.mp ha)
          clear ha
          have EG := Aside0.mk (enters_of Try.func56 (by kernel_rfl) rfl)
          obtain ⟨n, hn⟩ : ∃ n, l0.length = n + 1 := ⟨l0.length - 1, by omega⟩
          have H5 : Aside0 (n ≤ 5) := ⟨by omega⟩
          have e2 : (l0.length : Int) - 1 = (n : Int) := by omega
          rw [show l0.length - 1 = n by omega] at HA ⊢
          have E1 := Aside0.mk (e1.trans e2)
          rw [e2] at HT
          have HGV : Aside0 (∀ (wr W : World), wr.heap[w.heap.size]? = some (.cells #[.slice A0 l0.length c0] 22 (0, 0)) → Below w.heap.size w wr → ∀ x : Nat, x < 2 ^ n → Below wr.heap.size wr W → Gives Try.prog 56 #[.pointer (some ⟨w.heap.size, 0, none⟩)] #[.int .i64 x] (.bool (impl_SymmetricTable.p l0 x)) W) := ⟨by
            intro wr W j1 jb x hx hb
            exact impl_SymmetricTable_2.any l0 A0 c0 x (HA.out x hx) _ W (Kd.Heap.C (Kd.heap_int .i64) (below_step jb hb).block HR.out) (blk_below j1 hb)⟩
          clear HA h5 hn e1 e2
          have e1 := E1.out
          go_enter Try.func21, Try.ntmps21
          go_wp2_with (first | (go_at_call 53; refine (impl_isBits.calls n true _ HT.out).mono ?_; rintro e w1 ⟨rfl, hd⟩; have L1 := Aside0.mk (blk_below K1.out hd.below); have L3 := Aside0.mk (blk_below K3.out hd.below); have LB := Aside0.mk (below_step KB.out hd.below); clear hd; have hy0 : w1.cell? ⟨w.heap.size, 0, none⟩ = some (.slice A0 l0.length c0) := (blk_cell L1.out 0).trans rfl) | (go_at_call 41; refine (HCC.out _ LB.out).mono ?_; rintro e w2 ⟨rfl, hd2⟩; have M1 := Aside0.mk (blk_below L1.out hd2); have M3 := Aside0.mk (blk_below L3.out hd2); have MB := Aside0.mk (below_step LB.out hd2); clear hd2; have hz0 : w2.cell? ⟨w.heap.size, 0, none⟩ = some (.slice A0 l0.length c0) := (blk_cell M1.out 0).trans rfl) | (go_at_call 43; refine (impl_makeTable.any n H5.out (impl_SymmetricTable.p l0) 56 #[.pointer (some ⟨w.heap.size, 0, none⟩)] EG.out _ (fun W x hx hb => HGV.out _ W M1.out MB.out x hx hb)).mono ?_; rintro e w3 ⟨rfl, hb⟩; have BK := Aside0.mk (blk_below M3.out hb); have HB' := Aside0.mk (below_step MB.out hb); clear hb; have hx0 : w3.cell? ⟨w.heap.size + 1, 0, none⟩ = some (.int .i64 0) := (blk_cell BK.out 0).trans rfl; have hx1 : w3.cell? ⟨w.heap.size + 1, 1, none⟩ = some (.int .i64 0) := (blk_cell BK.out 1).trans rfl; have hf0 := blk_frozen BK.out 0; have hf1 := blk_frozen BK.out 1))
          refine bodyPost_ret (results_ct rfl _ _ (w.heap.size + 1) 24 #[.int .i64 n, .int .i64 (B.tabN (impl_SymmetricTable.p l0) (2 ^ n) : Nat)] (0, 0) _ rfl (by refine blk_put (cs := #[.int .i64 n, .int .i64 0]) ?_ 1 _ rfl; refine blk_put (cs := #[.int .i64 0, .int .i64 0]) ?_ 0 _ rfl; exact BK.out) Try.underlying24 rfl (by kernel_rfl)) rfl ?_
          exact ⟨rfl, below_set (below_set HB'.out (by omega)) (by omega)⟩
        next => cases h
    · rw [if_neg h5] at h
      cases h
      have HT : Aside0 (impl_isBits.f ((l0.length : Int) - 1) = some false) := ⟨by
        unfold impl_isBits.f
        by_cases h : (l0.length : Int) - 1 ≥ 0
        · rw [if_pos h, decide_eq_false (by omega)]
        · rw [if_neg h]⟩
      clear h5
      go_enter Try.func21, Try.ntmps21
      go_wp2_with (go_at_call 53; refine (impl_isBits.calls ((l0.length : Int) - 1) false _ HT.out).mono ?_; rintro e w1 ⟨rfl, hd⟩; have L3 := blk_below K3.out hd.below; have LB := below_step KB.out hd.below; have hx0 : w1.cell? ⟨w.heap.size + 1, 0, none⟩ = some (.int .i64 0) := (blk_cell L3 0).trans rfl; have hx1 : w1.cell? ⟨w.heap.size + 1, 1, none⟩ = some (.int .i64 0) := (blk_cell L3 1).trans rfl; have hf0 := blk_frozen L3 0; have hf1 := blk_frozen L3 1)
      refine bodyPost_ret (results_ct rfl _ _ (w.heap.size + 1) 24 #[.int .i64 0, .int .i64 0] (0, 0) _ rfl (by first | exact L3 | (refine blk_put (cs := #[.int .i64 0, .int .i64 0]) ?_ 1 _ rfl; refine blk_put (cs := #[.int .i64 0, .int .i64 0]) ?_ 0 _ rfl; exact L3)) Try.underlying24 rfl (by kernel_rfl)) rfl ?_
      exact ⟨rfl, below_set (below_set LB (by omega)) (by omega)⟩
  next => cases h


end Go.Proofs.Ytgcflignpeencaa.F
