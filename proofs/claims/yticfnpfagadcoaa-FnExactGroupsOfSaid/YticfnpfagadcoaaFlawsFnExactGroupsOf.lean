/- The walk of one Go function: a call of it ends as the Lean function of its name tells; the conditions are those of each theorem. -/
import Derived.Test.YticfnpfagadcoaaF0
import Derived.Test.YticfnpfagadcoaaFGa
import Derived.Test.YticfnpfagadcoaaFspecGroupsOf
import Derived.Test.YticfnpfagadcoaaFimplGroupsOf
import Derived.Test.YticfnpfagadcoaaFlawseqIntSS
import Derived.Test.YticfnpfagadcoaaFlawsmarkIntSS
import Derived.Test.YticfnpfagadcoaaFlawsheldIntSS
namespace Go.Proofs.Yticfnpfagadcoaa.F
open Go.RowKit Go.Proofs.YticfnpfagadcoaaW.PrintWords Go.Proofs.YticfnpfagadcoaaW.PrintLast Go.Proofs.YticfnpfagadcoaaW.PrintMore
attribute [local go_sem] max2_int min2_int max_two min_two max_three min_three max_four min_four   -- for this text's walks alone
set_option linter.unusedVariables false
set_option linter.unusedSimpArgs false

/-! ### laws_FnExactGroupsOf: function 6 -/
def laws_FnExactGroupsOf.f (k : Nat) (a0_0 a0_1 : Int) : Option Bool :=
  (spec_GroupsOf.f k a0_0 a0_1).bind fun r => (impl_GroupsOf.f a0_0 a0_1).bind fun r' => (laws_eqIntSS.f k r' r).bind fun e => (mkLL k 1 r').bind fun q => (laws_heldIntSS.f k q.2 1).bind fun t => if ((e = true ∧ t = q.1) ∧ 0 ≤ t) ∧ r'.length < 9223372036854775807 then some true else none
set_option maxHeartbeats 1000000 in
set_option maxRecDepth 100000 in
theorem laws_FnExactGroupsOf.calls (k : Nat) (a0_0 : Int) (a0_1 : Int) (r : Bool) (w : World) (h : laws_FnExactGroupsOf.f k a0_0 a0_1 = some r) :
    Calls Try.prog 6 #[.agg #[.int .i64 a0_0, .int .i64 a0_1]] w fun e w' => e = .returned (.bool r) ∧ Below w.heap.size w w' := by
  have hut := Try.underlying46
  have hut2 := Try.underlying25
  unfold laws_FnExactGroupsOf.f at h
  obtain ⟨l0, h0, h⟩ := Option.bind_eq_some_iff.mp h
  obtain ⟨l1, h1, h⟩ := Option.bind_eq_some_iff.mp h
  obtain ⟨e1, h2, h⟩ := Option.bind_eq_some_iff.mp h
  obtain ⟨⟨m, zs⟩, h3, h⟩ := Option.bind_eq_some_iff.mp h
  obtain ⟨t, h4, h⟩ := Option.bind_eq_some_iff.mp h
  split at h
  next hh =>
    obtain rfl : true = r := Option.some.inj h
    obtain ⟨⟨⟨rfl, ht⟩, h5⟩, h6⟩ := hh
    obtain rfl : t = m := ht
    have HT : Aside0 (laws_toTable.f a0_0 a0_1 = some (a0_0, a0_1)) := ⟨rfl⟩
    have H0 := Aside0.mk h0
    have H1 := Aside0.mk h1
    have H2 := Aside0.mk h2
    have H3 := Aside0.mk h3
    have H4 := Aside0.mk h4
    have H6 := Aside0.mk h6
    have d1 : decide (t < 0) = false := decide_eq_false (by omega)
    have d2 : (t != t) = false := bne_self_eq_false t
    clear h h0 h1 h2 h3 h4 h6
    have BK := Aside0.mk (blk_new w (.cells #[.int .i64 a0_0, .int .i64 a0_1] 46 (0, 0)))
    have HB := Aside0.mk (below_alloc (Below.refl w.heap.size w) (.cells #[.int .i64 a0_0, .int .i64 a0_1] 46 (0, 0)))
    go_enter Try.func6, Try.ntmps6
    go_wp2_with (fail)
    with_reducible refine (laws_toTable.calls a0_0 a0_1 a0_0 a0_1 _ HT.out).mono ?_
    rintro e Wa ⟨rfl, hb⟩
    have n_ := Aside0.mk (blk_below BK.out hb)
    clear BK
    have BK := n_
    clear n_
    have n_ := Aside0.mk (below_step HB.out hb)
    clear HB
    have HB := n_
    clear n_
    clear hb
    go_wp2_with (fail)
    with_reducible refine (spec_GroupsOf.calls k a0_0 a0_1 l0 _ H0.out).mono ?_
    rintro e Wb ⟨v0, rfl, hs, hb⟩
    have n_ := Aside0.mk (blk_below BK.out hb)
    clear BK
    have BK := n_
    clear n_
    have n_ := Aside0.mk (below_step HB.out hb)
    clear HB
    have HB := n_
    clear n_
    obtain ⟨A0, c0, rfl, hl0, _⟩ := Kd.S_reads hs
    have HS := Aside0.mk hs
    have HL0 := Aside0.mk hl0
    clear hb hs hl0
    have hc0 : Wb.cell? ⟨w.heap.size, 0, none⟩ = some (.int .i64 a0_0) := (blk_cell BK.out 0).trans rfl
    have hc1 : Wb.cell? ⟨w.heap.size, 1, none⟩ = some (.int .i64 a0_1) := (blk_cell BK.out 1).trans rfl
    go_wp2_with (fail)
    with_reducible refine (laws_toTable.calls a0_0 a0_1 a0_0 a0_1 _ HT.out).mono ?_
    rintro e Wc ⟨rfl, hb⟩
    clear hc0 hc1
    have n_ := Aside0.mk (blk_below BK.out hb)
    clear BK
    have BK := n_
    clear n_
    have n_ := Aside0.mk (below_step HB.out hb)
    clear HB
    have HB := n_
    clear n_
    have n_ := Aside0.mk (Kd.S_below HS.out hb)
    clear HS
    have HS := n_
    clear n_
    clear hb
    go_wp2_with (fail)
    with_reducible refine (impl_GroupsOf.calls a0_0 a0_1 l1 _ H1.out).mono ?_
    rintro e Wd ⟨v1, rfl, hs, hb⟩
    obtain ⟨A1, c1, rfl, hl1, _⟩ := Kd.S_reads hs
    have HG := Aside0.mk hs
    have HB1 := Aside0.mk hb
    have HL1 := Aside0.mk hl1
    clear hs hb hl1
    go_wp2_with (fail)
    with_reducible refine (laws_eqIntSS.calls k A1 c1 l1 A0 c0 l0 true _ (Kd.S_reads' HG.out).2.2 HL1.out (Kd.S_reads' (Kd.S_below HS.out HB1.out)).2.2 HL0.out H2.out).mono ?_
    rintro e We ⟨rfl, hb⟩
    have n_ := Aside0.mk (below_step HB1.out hb)
    clear HB1
    have HB1 := n_
    clear n_
    have n_ := Aside0.mk (Kd.S_below HG.out hb)
    clear HG
    have HG := n_
    clear n_
    clear hb
    go_wp2_with (fail)
    with_reducible refine (laws_markIntSS.any k l1 zs t 1 _ Wc _ HB1.out HG.out H3.out H6.out).mono ?_
    rintro e Wf ⟨rfl, hs, hb⟩
    clear HG HB1
    have HLZ : Aside0 (l1.length = zs.length ∧ zs.length ≤ c1) := ⟨by have hh := Kd.S_reads' hs; exact ⟨hh.1, by have := hh.1; have := hh.2.1; omega⟩⟩
    rw [HLZ.out.1] at hs
    have HG := Aside0.mk hs
    have HB1 := Aside0.mk hb
    clear hs hb
    go_wp2_with (fail)
    rw [HLZ.out.1]
    with_reducible refine (laws_heldIntSS.calls k A1 c1 zs 1 t _ (Kd.S_reads' HG.out).2.2 HLZ.out.2 H4.out).mono ?_
    rintro e Wg ⟨rfl, hd⟩
    have hb := hd.below
    have n_ := Aside0.mk (below_step HB1.out hb)
    clear HB1
    have HB1 := n_
    clear n_
    have n_ := Aside0.mk (Kd.S_below HG.out hb)
    clear HG
    have HG := n_
    clear n_
    have BK2 := Aside0.mk (blk_below BK.out HB1.out)
    clear hb hd
    have hc0 : Wg.cell? ⟨w.heap.size, 0, none⟩ = some (.int .i64 a0_0) := (blk_cell BK2.out 0).trans rfl
    have hc1 : Wg.cell? ⟨w.heap.size, 1, none⟩ = some (.int .i64 a0_1) := (blk_cell BK2.out 1).trans rfl
    go_wp2_with (fail)
    with_reducible refine (laws_toTable.calls a0_0 a0_1 a0_0 a0_1 _ HT.out).mono ?_
    rintro e Wh ⟨rfl, hb⟩
    clear hc0 hc1 BK2
    have n_ := Aside0.mk (below_step HB1.out hb)
    clear HB1
    have HB1 := n_
    clear n_
    have n_ := Aside0.mk (Kd.S_below HG.out hb)
    clear HG
    have HG := n_
    clear n_
    clear hb
    go_wp2_with (fail)
    with_reducible refine (impl_GroupsOf.calls a0_0 a0_1 l1 _ H1.out).mono ?_
    rintro e Wi ⟨v2, rfl, hs, hb⟩
    obtain ⟨A2, c2, rfl, hl2, _⟩ := Kd.S_reads hs
    have HG2 := Aside0.mk hs
    have HL2 := Aside0.mk hl2
    have n_ := Aside0.mk (below_step HB1.out hb)
    clear HB1
    have HB1 := n_
    clear n_
    have n_ := Aside0.mk (Kd.S_below HG.out hb)
    clear HG
    have HG := n_
    clear n_
    clear hs hb hl2
    go_wp2_with (fail)
    with_reducible refine (laws_eqIntSS.calls k A2 c2 l1 A0 c0 l0 true _ (Kd.S_reads' HG2.out).2.2 HL2.out (Kd.S_reads' (Kd.S_below HS.out HB1.out)).2.2 HL0.out H2.out).mono ?_
    rintro e Wj ⟨rfl, hb⟩
    have n_ := Aside0.mk (below_step HB1.out hb)
    clear HB1
    have HB1 := n_
    clear n_
    have n_ := Aside0.mk (Kd.S_below HG.out hb)
    clear HG
    have HG := n_
    clear n_
    clear hb HG2
    go_wp2_with (fail)
    (try rw [HLZ.out.1])
    with_reducible refine (laws_heldIntSS.calls k A1 c1 zs 1 t _ (Kd.S_reads' HG.out).2.2 HLZ.out.2 H4.out).mono ?_
    rintro e Wk ⟨rfl, hd⟩
    have hb := hd.below
    have n_ := Aside0.mk (below_step HB1.out hb)
    clear HB1
    have HB1 := n_
    clear n_
    clear hb hd
    go_wp2
    go_ret
    exact ⟨rfl, below_step HB.out HB1.out⟩
  next => cases h


end Go.Proofs.Yticfnpfagadcoaa.F
