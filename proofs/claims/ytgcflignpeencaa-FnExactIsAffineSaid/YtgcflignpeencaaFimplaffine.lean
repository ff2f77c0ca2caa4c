/- The walk of one Go function: a call of it ends as the Lean function of its name tells; the conditions are those of each theorem. -/
import Derived.Test.YtgcflignpeencaaF0
import Derived.Test.YtgcflignpeencaaFGa
import Derived.Test.YtgcflignpeencaaFGa
import Derived.Test.YtgcflignpeencaaBase
namespace Go.Proofs.Ytgcflignpeencaa.F
open Go.RowKit Go.Proofs.YtgcflignpeencaaW.PrintWords Go.Proofs.YtgcflignpeencaaW.PrintLast Go.Proofs.YtgcflignpeencaaW.PrintMore
attribute [local go_sem] max2_int min2_int max_two min_two max_three min_three max_four min_four   -- for this text's walks alone
set_option linter.unusedVariables false
set_option linter.unusedSimpArgs false

/-! ### impl_affine: function 52 -/
/-- The value at an input. -/
def impl_affine.p (u b x : Nat) : Bool := (impl_ones.f ((u &&& x : Nat) : Int)).any fun (v : Int) => (v + (b : Int)) % 2 == 1
def impl_affine.okx (u x : Nat) : Bool := (impl_ones.f ((u &&& x : Nat) : Int)).any fun (v : Int) => decide (0 ≤ v ∧ v ≤ 64)
theorem impl_affine.okx_of {u b x : Nat} (h : impl_affine.okx u x = true) : ∃ v, impl_ones.f ((u &&& x : Nat) : Int) = some v ∧ 0 ≤ v ∧ v ≤ 64 ∧ impl_affine.p u b x = ((v + b) % 2 == 1) := by
  unfold impl_affine.okx at h
  unfold impl_affine.p
  generalize impl_ones.f ((u &&& x : Nat) : Int) = o at h ⊢
  cases o with
  | none => cases h
  | some v => have h := of_decide_eq_true h; exact ⟨v, rfl, h.1, h.2, rfl⟩
set_option maxHeartbeats 400000 in
theorem impl_affine_1.any (u b x : Nat) (hu : u < 32) (hb : b ≤ 1) (hx : x < 32) (ho : impl_affine.okx u x = true) (g1 g2 : Nat) (W : World) (h1 : W.heap[g1]? = some (.cells #[.int .i64 u] 3 (0, 0))) (h2 : W.heap[g2]? = some (.cells #[.int .i64 b] 3 (0, 0))) :
    Gives Try.prog 73 #[.pointer (some ⟨g1, 0, none⟩), .pointer (some ⟨g2, 0, none⟩)] #[.int .i64 x] (.bool (impl_affine.p u b x)) W := by
  show Calls Try.prog 73 #[.int .i64 x, .pointer (some ⟨g1, 0, none⟩), .pointer (some ⟨g2, 0, none⟩)] W _
  have hc0 : W.cell? ⟨g1, 0, none⟩ = some (.int .i64 u) := (blk_cell h1 0).trans rfl
  have hd0 : W.cell? ⟨g2, 0, none⟩ = some (.int .i64 b) := (blk_cell h2 0).trans rfl
  obtain ⟨v, hv, h0, h64, hE⟩ := impl_affine.okx_of (b := b) ho
  have e1 : Go.bits .and .i64 (u : Int) (x : Int) = ((u &&& x : Nat) : Int) := B.and_cast (by omega) (by omega)
  generalize u &&& x = y at e1 hv
  have HV := Aside0.mk hv
  have HE := Aside0.mk hE
  have b1 : (b : Int) ≤ 1 := by omega
  clear hv hE ho h1 h2 hu hx hb
  go_enter Try.func73, Try.ntmps73
  go_wp2
  go_quiet ((go_at_call 51; (with_reducible refine (impl_ones.calls y v _ HV.out).mono ?_); rintro e w' ⟨rfl, ⟨nd, rfl⟩⟩; (try first | exact ⟨rfl, _, World.drewN_drewN _ _ _⟩ | exact ⟨rfl, _, Eq.trans (World.drewN_drewN _ _ _) (congrArg (World.drewN _) (Nat.add_assoc _ _ _))⟩)))
  go_wp2
  go_ret
  exact ⟨by rw [HE.out]; rfl, by repeat (first | (with_reducible first | exact Below.refl _ _ | apply below_alloc | apply pw_below_drewN | apply below_drew1) | exact Below.refl _ _)⟩
set_option maxHeartbeats 400000 in
set_option maxRecDepth 100000 in
theorem impl_affine.any (n u b : Nat) (hn : n ≤ 5) (hu0 : u < 32) (hb0 : b ≤ 1) (ho : ∀ x, x < 2 ^ n → impl_affine.okx u x = true) (w : World) :
    Calls Try.prog 52 #[.int .i64 n, .int .i64 u, .int .i64 b] w fun e w' => e = .returned (.agg #[.int .i64 n, .int .i64 (B.tabN (impl_affine.p u b) (2 ^ n) : Nat)]) ∧ Below w.heap.size w w' := by
  have hu := Try.underlying24
  have HN := Aside0.mk hn
  have HU0 := Aside0.mk hu0
  have HB0 := Aside0.mk hb0
  have HO := Aside0.mk ho
  clear hn hu0 hb0 ho
  have EG := Aside0.mk (enters_of Try.func73 (by kernel_rfl) rfl)
  go_enter Try.func52, Try.ntmps52
  go_wp2_with (go_at_call 43; refine (impl_makeTable.any n HN.out (impl_affine.p u b) 73 #[.pointer (some ⟨w.heap.size, 0, none⟩), .pointer (some ⟨w.heap.size + 1, 0, none⟩)] EG.out _ (fun W x hx hb => impl_affine_1.any u b x HU0.out HB0.out (Nat.lt_of_lt_of_le hx (B.pow_le HN.out)) (HO.out x hx) _ _ W (blk_below (blk_alloc (blk_alloc (blk_new w _) _) _) hb) (blk_below (blk_alloc (by simpa using blk_new (w.alloc (.cells #[.int .i64 u] 3)) (.cells #[.int .i64 b] 3)) _) hb))).mono ?_; rintro e w' ⟨rfl, hb⟩; have BK : Aside0 (w'.heap[w.heap.size + 1 + 1]? = some (.cells #[.int .i64 0, .int .i64 0] 24 (0, 0))) := ⟨by have h_ := blk_below (blk_new _ _) hb; simpa using h_⟩; have HB := Aside0.mk (below_step (below_alloc (below_alloc (below_alloc (Below.refl w.heap.size w) _) _) _) hb); clear hb; have hc0 : w'.cell? ⟨w.heap.size + 1 + 1, 0, none⟩ = some (.int .i64 0) := (blk_cell BK.out 0).trans rfl; have hc1 : w'.cell? ⟨w.heap.size + 1 + 1, 1, none⟩ = some (.int .i64 0) := (blk_cell BK.out 1).trans rfl; have hf0 : w'.frozen? ⟨w.heap.size + 1 + 1, 0, none⟩ = false := blk_frozen BK.out 0; have hf1 : w'.frozen? ⟨w.heap.size + 1 + 1, 1, none⟩ = false := blk_frozen BK.out 1)
  refine bodyPost_ret (results_cell_row rfl _ _ (w.heap.size + 1 + 1) 24 #[.int .i64 n, .int .i64 (B.tabN (impl_affine.p u b) (2 ^ n) : Nat)] (0, 0) _ rfl (by refine blk_put (cs := #[.int .i64 n, .int .i64 0]) ?_ 1 _ rfl; refine blk_put (cs := #[.int .i64 0, .int .i64 0]) ?_ 0 _ rfl; exact BK.out) Try.underlying24 rfl (by kernel_rfl)) rfl ?_
  exact ⟨rfl, below_set (below_set HB.out (by omega)) (by omega)⟩
def impl_affine.f (a0 a1 a2 : Int) : Option (Int × Int) := if (0 ≤ a0 ∧ a0 ≤ 5 ∧ 0 ≤ a1 ∧ a1 < 32 ∧ 0 ≤ a2 ∧ a2 ≤ 1) ∧ B.allN (impl_affine.okx a1.toNat) (2 ^ a0.toNat) = true then some (a0, ((B.tabN (impl_affine.p a1.toNat a2.toNat) (2 ^ a0.toNat) : Nat) : Int)) else none
theorem impl_affine.calls (a0 a1 a2 r1 r2 : Int) (w : World) (h : impl_affine.f a0 a1 a2 = some (r1, r2)) :
    Calls Try.prog 52 #[.int .i64 a0, .int .i64 a1, .int .i64 a2] w fun e w' => e = .returned (.agg #[.int .i64 r1, .int .i64 r2]) ∧ Below w.heap.size w w' := by
  unfold impl_affine.f at h
  split at h
  next hc =>
    obtain ⟨n, rfl⟩ := Int.eq_ofNat_of_zero_le hc.1.1
    obtain ⟨u, rfl⟩ := Int.eq_ofNat_of_zero_le hc.1.2.2.1
    obtain ⟨b, rfl⟩ := Int.eq_ofNat_of_zero_le hc.1.2.2.2.2.1
    simp only [Int.toNat_natCast] at h hc
    have h := Option.some.inj h
    obtain ⟨rfl, rfl⟩ := Prod.mk.injEq .. ▸ h
    exact impl_affine.any n u b (by omega) (by omega) (by omega) (B.allN_iff.mp hc.2) w
  next => cases h


end Go.Proofs.Ytgcflignpeencaa.F
