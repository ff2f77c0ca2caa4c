/- Walks of Go functions and lemmas on what they compute, for the row of FnLinear (a part of several): each call ends as the Lean function of its name tells; the conditions are those of each theorem. -/
import Derived.Test.YtgojehaneegaeacProg
import Derived.Below
import Derived.Deep.Draws
import Derived.Deep.AppendLies
import Derived.Maps.AppendAt
import Derived.OwnWalk
import Derived.Laws.BytesArg
import Derived.Laws.MakeOwn
import Derived.Laws.OwnMore
import Derived.Deep.OwnRows
import Derived.Tactics
import Derived.Lib.ConvBytes
import Derived.Laws.Slices
import Derived.WalkKit
import Derived.KernelRfl
import Derived.RowKit3
import Derived.Deep.LoopGhost
import Derived.Deep.QuietTactic
import Derived.BigQuiet
import Derived.WideLaws
import Derived.Deep.DeepCutAuto
import Derived.Deep.CutBlock
import Derived.Deep.RegionHeld3
import Derived.Laws.Rows
import Derived.Lib.AppendStr
import Derived.ArgAppend
import Derived.Laws.IdiomCopy
import Derived.OrdersHeld
import Derived.Laws.BitsLemmas
import Derived.RowKit
import Derived.Shelf.Abstract
import Derived.Maps.Own
import Derived.Maps.OwnOps
import Derived.Maps.OwnSet
import Derived.Lib.Hide
import Derived.Test.YtgojehaneegaeacM1FnLinear
import Derived.Test.YtgojehaneegaeacM2FnLinear
namespace Go.Proofs.Ytgojehaneegaeac.F
open Go.RowKit Go.Proofs.YtgojehaneegaeacW.PrintWords Go.Proofs.YtgojehaneegaeacW.PrintLast Go.Proofs.YtgojehaneegaeacW.PrintMore
theorem aZ_ {p : Prop} (h : p) : Aside0 p := ⟨h⟩
theorem pZ_ {P : Program} {ops : Array Oper} {Q : Exit → Act → World → Prop} {md : Region.Mode} {S : World → Prop} {ds : List Nat} {oi : Oper} {v : Value} {fuel : Nat} {l : Array Bool} {a : Act} {w : World} (i : Nat) (N : Option Tmp) (l' : Array Bool) {a' : Act} (h : wpAnyLast P md ops Q S ds fuel l' a' w) (hi : ops[i]? = some oi := by rfl) (hN : oi.dst = N := by rfl) (hc : anyB md ops l l' i = true := by first | exact any_of HT_.out (by kernel_rfl) | kernel_rfl) (hw : Region.wanted oi (yielded ops a.tmps) = true := by rfl) (hy : ∀ w,Sem.run P (execOp a.eval oi) w = Result.ok (Next.value v) w := by (intro w';go_simp;first | done | with_reducible rfl)) (hQ : ∀ (c : List PanicEntry) (a : Act) (w : World),Q (Exit.panic c) (a.put oi.dst v) w → Q (Exit.panic c) a w := by exact fun _ _ _ h => h) (ha : a.put N v = a' := by (simp only [Act.put,List.setIfInBounds_toArray,List.set_cons_zero,List.set_cons_succ,i64_w,i32_w];rfl)) : wpAnyLast P md ops Q S ds (fuel + 1) l a w := pure_ l' hi hN hc hQ (Or.inl ⟨hw,hy⟩) ha h
theorem oZ_ {P : Program} {ops : Array Oper} {Q : Exit → Act → World → Prop} {md : Region.Mode} {S : World → Prop} {ds : List Nat} {oi : Oper} {v : Value} {fuel : Nat} {l : Array Bool} {a : Act} {w : World} (i : Nat) (N : Option Tmp) (l' : Array Bool) {a' : Act} (h : wpAnyLast P md ops Q S ds fuel l' a' w) (hv : v = undef := by rfl) (hi : ops[i]? = some oi := by rfl) (hN : oi.dst = N := by rfl) (hc : anyB md ops l l' i = true := by first | exact any_of HT_.out (by kernel_rfl) | kernel_rfl) (hw : Region.wanted oi (yielded ops a.tmps) = false := by rfl) (hQ : ∀ (c : List PanicEntry) (a : Act) (w : World),Q (Exit.panic c) (a.put oi.dst v) w → Q (Exit.panic c) a w := by exact fun _ _ _ h => h) (ha : a.put N v = a' := by (simp only [Act.put,List.setIfInBounds_toArray,List.set_cons_zero,List.set_cons_succ,i64_w,i32_w];rfl)) : wpAnyLast P md ops Q S ds (fuel + 1) l a w := pure_ l' hi hN hc hQ (Or.inr ⟨hw,hv⟩) ha h
theorem tZ2_ {P : Program} {ops : Array Oper} {Q : Exit → Act → World → Prop} {md : Region.Mode} {S : World → Prop} {ds : List Nat} {oi : Oper} {v : Value} {fuel : Nat} {l : Array Bool} {a : Act} {w : World} (i : Nat) (N : Option Tmp) (l' : Array Bool) (hS : S w) {a' : Act} (h : wpAnyLast P md ops Q S ds fuel l' a' w) (hi : ops[i]? = some oi := by rfl) (hN : oi.dst = N := by rfl) (hc : takeB md ops ds l l' i = true := by first | exact take_ofW HT_.out HW_.out (by kernel_rfl) | kernel_rfl) (hw : Region.wanted oi (yielded ops a.tmps) = true := by rfl) (hy : ∀ w,S w → Sem.run P (execOp a.eval oi) w = Result.ok (Next.value v) w := by (rintro w' ⟨s0,s1⟩;go_simp;first | done | with_reducible rfl)) (hQ : ∀ (c : List PanicEntry) (a : Act) (w : World),Q (Exit.panic c) (a.put oi.dst v) w → Q (Exit.panic c) a w := by exact fun _ _ _ h => h) (ha : a.put N v = a' := by (simp only [Act.put,List.setIfInBounds_toArray,List.set_cons_zero,List.set_cons_succ,i64_w,i32_w];rfl)) : wpAnyLast P md ops Q S ds (fuel + 1) l a w := take_ l' hi hN hc hQ (Or.inl ⟨hw,hy⟩) hS ha h
theorem tZ3_ {P : Program} {ops : Array Oper} {Q : Exit → Act → World → Prop} {md : Region.Mode} {S : World → Prop} {ds : List Nat} {oi : Oper} {v : Value} {fuel : Nat} {l : Array Bool} {a : Act} {w : World} (i : Nat) (N : Option Tmp) (l' : Array Bool) (hS : S w) {a' : Act} (h : wpAnyLast P md ops Q S ds fuel l' a' w) (hi : ops[i]? = some oi := by rfl) (hN : oi.dst = N := by rfl) (hc : takeB md ops ds l l' i = true := by first | exact take_ofW HT_.out HW_.out (by kernel_rfl) | kernel_rfl) (hw : Region.wanted oi (yielded ops a.tmps) = true := by rfl) (hy : ∀ w,S w → Sem.run P (execOp a.eval oi) w = Result.ok (Next.value v) w := by (rintro w' ⟨s0,s1,s2⟩;go_simp;first | done | with_reducible rfl)) (hQ : ∀ (c : List PanicEntry) (a : Act) (w : World),Q (Exit.panic c) (a.put oi.dst v) w → Q (Exit.panic c) a w := by exact fun _ _ _ h => h) (ha : a.put N v = a' := by (simp only [Act.put,List.setIfInBounds_toArray,List.set_cons_zero,List.set_cons_succ,i64_w,i32_w];rfl)) : wpAnyLast P md ops Q S ds (fuel + 1) l a w := take_ l' hi hN hc hQ (Or.inl ⟨hw,hy⟩) hS ha h
theorem tZ4_ {P : Program} {ops : Array Oper} {Q : Exit → Act → World → Prop} {md : Region.Mode} {S : World → Prop} {ds : List Nat} {oi : Oper} {v : Value} {fuel : Nat} {l : Array Bool} {a : Act} {w : World} (i : Nat) (N : Option Tmp) (l' : Array Bool) (hS : S w) {a' : Act} (h : wpAnyLast P md ops Q S ds fuel l' a' w) (hi : ops[i]? = some oi := by rfl) (hN : oi.dst = N := by rfl) (hc : takeB md ops ds l l' i = true := by first | exact take_ofW HT_.out HW_.out (by kernel_rfl) | kernel_rfl) (hw : Region.wanted oi (yielded ops a.tmps) = true := by rfl) (hy : ∀ w,S w → Sem.run P (execOp a.eval oi) w = Result.ok (Next.value v) w := by (rintro w' ⟨s0,s1,s2,s3⟩;go_simp;first | done | with_reducible rfl)) (hQ : ∀ (c : List PanicEntry) (a : Act) (w : World),Q (Exit.panic c) (a.put oi.dst v) w → Q (Exit.panic c) a w := by exact fun _ _ _ h => h) (ha : a.put N v = a' := by (simp only [Act.put,List.setIfInBounds_toArray,List.set_cons_zero,List.set_cons_succ,i64_w,i32_w];rfl)) : wpAnyLast P md ops Q S ds (fuel + 1) l a w := take_ l' hi hN hc hQ (Or.inl ⟨hw,hy⟩) hS ha h
theorem tZ8_ {P : Program} {ops : Array Oper} {Q : Exit → Act → World → Prop} {md : Region.Mode} {S : World → Prop} {ds : List Nat} {oi : Oper} {v : Value} {fuel : Nat} {l : Array Bool} {a : Act} {w : World} (i : Nat) (N : Option Tmp) (l' : Array Bool) (hS : S w) {a' : Act} (h : wpAnyLast P md ops Q S ds fuel l' a' w) (hi : ops[i]? = some oi := by rfl) (hN : oi.dst = N := by rfl) (hc : takeB md ops ds l l' i = true := by first | exact take_ofW HT_.out HW_.out (by kernel_rfl) | kernel_rfl) (hw : Region.wanted oi (yielded ops a.tmps) = true := by rfl) (hy : ∀ w,S w → Sem.run P (execOp a.eval oi) w = Result.ok (Next.value v) w := by (rintro w' ⟨s0,s1,s2,s3,s4,s5,s6,s7⟩;go_simp;first | done | with_reducible rfl)) (hQ : ∀ (c : List PanicEntry) (a : Act) (w : World),Q (Exit.panic c) (a.put oi.dst v) w → Q (Exit.panic c) a w := by exact fun _ _ _ h => h) (ha : a.put N v = a' := by (simp only [Act.put,List.setIfInBounds_toArray,List.set_cons_zero,List.set_cons_succ,i64_w,i32_w];rfl)) : wpAnyLast P md ops Q S ds (fuel + 1) l a w := take_ l' hi hN hc hQ (Or.inl ⟨hw,hy⟩) hS ha h
theorem gZ_ {P : Program} {ops : Array Oper} {Q : Exit → Act → World → Prop} {oi : Oper} {N : Option Tmp} {a : Act} {w : World} {K : Act → World → Prop} {f : FuncId} {fn : Func} {as_ : Array Operand} {ts : Array TypeId} (hf : P.funcs[f]? = some fn) (args : Array Value) (h : Calls P f args w fun e w' => ∃ v,e = Ending.returned v ∧ K (a.put N v) w') (hn : (fn.name == "runtime.NumGoroutine") = false := by kernel_rfl) (hb : fn.body.isSome = true := by rfl) (hw : Region.wanted oi (yielded ops a.tmps) = true := by rfl) (hN : oi.dst = N := by rfl) (hop : oi.op = .call { callee := .value (.func f),args := as_,argTypes := ts } := by rfl) (hargs : as_.map a.eval = args := by (try simp only [List.map_toArray,List.map_cons,List.map_nil]);first | done | rfl | (simp only [List.length_drop,List.length_take];rfl)) : if Region.wanted oi (yielded ops a.tmps) = true then Oper.wp P oi a w K Q else K (a.put N undef) w := goes_ hf hn hb args hw hN hop hargs h
theorem T1_ {p : Prop} (h : p := by (with_reducible repeat (first | refine blk_drewN ?_ _ | refine blk_drew ?_ | refine blk_alloc ?_ _));exact BK101.out) : p := h
theorem T2_ {p : Prop} (h : p := by rw [hg];exact (below_size (by repeat (first | (with_reducible first | exact HB.out | apply below_alloc | apply pw_below_drewN | apply below_drew1) | exact HB.out)))) : p := h
theorem T3_ {p : Prop} (h : p := by repeat (first | (with_reducible first | exact HB.out | apply below_alloc | apply pw_below_drewN | apply below_drew1 | refine below_set ?_ GE101.out) | exact HB.out)) : p := h
theorem T4_ {p : Prop} (h : p := by (try simp only [List.map_toArray,List.map_cons,List.map_nil]);first | done | rfl | (simp only [List.length_drop,List.length_take];rfl)) : p := h
theorem T5_ {p : Prop} (h : p := by repeat (first | (with_reducible first | exact HB.out | apply below_alloc | apply pw_below_drewN | apply below_drew1) | exact HB.out)) : p := h
theorem T6_ {p : Prop} (h : p := by repeat (first | (with_reducible first | exact HK.out | apply KeepBut.set_ | apply keep_drewN | apply keep_drew | apply keep_alloc | refine keep_far ?_ GW101.out _) | exact HK.out)) : p := h
theorem T7_ {p : Prop} (h : p := by first | rfl | (simp;done) | (simp [*];done)) : p := h
theorem T8_ {p : Prop} (h : p := by rw [hg];exact (keep_size (w := w) (g := g) (row := none) (by repeat (first | (with_reducible first | exact HK.out | apply KeepBut.set_ | apply keep_drewN | apply keep_drew | apply keep_alloc) | exact HK.out)))) : p := h
theorem T9_ {p : Prop} (h : p := by (with_reducible repeat (first | refine blk_drewN ?_ _ | refine blk_drew ?_ | refine blk_alloc ?_ _));refine blk_put (cs := #[.int .i64 a1,.int .i64 0]) ?_ 1 _ rfl;(with_reducible repeat (first | refine blk_drewN ?_ _ | refine blk_drew ?_ | refine blk_alloc ?_ _));refine blk_put (cs := #[.int .i64 0,.int .i64 0]) ?_ 0 _ rfl;(with_reducible repeat (first | refine blk_drewN ?_ _ | refine blk_drew ?_ | refine blk_alloc ?_ _));exact BK101.out) : p := h
theorem T10_ {p : Prop} (h : p := by repeat (first | (with_reducible first | exact HI0.out | apply IsS64.alloc | apply IsS64.drewN | apply IsS64.drew | apply IsS64.set_1 | apply IsS64.set_2 | refine IsS64.far ?_ NB0_101.out _) | exact HI0.out)) : p := h
theorem T11_ {p : Prop} (h : p := by repeat (first | (with_reducible first | exact HB.out | apply below_alloc | apply pw_below_drewN | apply below_drew1 | refine below_set ?_ (IsS64.ge HI0.out) | refine below_set ?_ GE101.out) | exact HB.out)) : p := h
theorem T12_ {p : Prop} (h : p := by rw [hg];exact (below_size (by repeat (first | (with_reducible first | exact HB.out | apply below_alloc | apply pw_below_drewN | apply below_drew1 | refine below_set ?_ GE101.out) | exact HB.out)))) : p := h
theorem T13_ {p : Prop} (h : p := by rw [hg];exact Nat.ne_of_lt (IsS64.lt (show IsS64 w0 _ g s0_0 s0_1 s0_2 from by repeat (first | (with_reducible first | exact HI0.out | apply IsS64.alloc | apply IsS64.drewN | apply IsS64.drew | apply IsS64.set_1 | apply IsS64.set_2) | exact HI0.out)))) : p := h
theorem T14_ {p : Prop} (h : p := by rw [hg];exact Nat.ne_of_gt (IsS64.lt (show IsS64 w0 _ g s0_0 s0_1 s0_2 from by repeat (first | (with_reducible first | exact HI0.out | apply IsS64.alloc | apply IsS64.drewN | apply IsS64.drew | apply IsS64.set_1 | apply IsS64.set_2) | exact HI0.out)))) : p := h
theorem T15_ {p : Prop} (h : p := by repeat (first | (with_reducible first | exact HK.out | apply KeepBut.set_ | apply keep_drewN | apply keep_drew | apply keep_alloc) | exact HK.out)) : p := h
theorem T16_ {p : Prop} (h : p := by (with_reducible repeat (first | refine blk_drewN ?_ _ | refine blk_drew ?_ | refine blk_alloc ?_ _));refine blk_put (cs := #[.int .i64 0,.int .i64 0]) ?_ 1 _ rfl;(with_reducible repeat (first | refine blk_drewN ?_ _ | refine blk_drew ?_ | refine blk_alloc ?_ _));refine blk_put (cs := #[.int .i64 0,.int .i64 0]) ?_ 0 _ rfl;(with_reducible repeat (first | refine blk_drewN ?_ _ | refine blk_drew ?_ | refine blk_alloc ?_ _));exact BK101.out) : p := h
theorem T17_ {p : Prop} (h : p := by kernel_rfl) : p := h
theorem T18_ {p : Prop} (h : p := by repeat (first | (with_reducible first | exact HB.out | apply below_alloc | apply pw_below_drewN | apply below_drew1 | refine below_set ?_ (IsS64.ge HI0.out)) | exact HB.out)) : p := h
theorem T19_ {p : Prop} (h : p := by repeat (first | (with_reducible first | exact HI0.out | apply IsS64.alloc | apply IsS64.drewN | apply IsS64.drew | apply IsS64.set_1 | apply IsS64.set_2) | exact HI0.out)) : p := h
theorem T20_ {p : Prop} (h : p := by first | (with_reducible assumption) | assumption) : p := h
theorem T21_ {p : Prop} (h : p := by repeat (first | (with_reducible first | exact HK.out | apply KeepBut.set_ | apply keep_drewN | apply keep_drew | apply keep_alloc | refine keep_far ?_ GW101.out _ | refine keep_far ?_ GW109.out _) | exact HK.out)) : p := h
theorem T22_ {p : Prop} (h : p := by (with_reducible repeat (first | refine blk_drewN ?_ _ | refine blk_drew ?_ | refine blk_alloc ?_ _));refine blk_put (cs := #[.int .i64 t106,.int .i64 0]) ?_ 1 _ rfl;(with_reducible repeat (first | refine blk_drewN ?_ _ | refine blk_drew ?_ | refine blk_alloc ?_ _));refine blk_put (cs := #[.int .i64 0,.int .i64 0]) ?_ 0 _ rfl;(with_reducible repeat (first | refine blk_drewN ?_ _ | refine blk_drew ?_ | refine blk_alloc ?_ _));exact BK101.out) : p := h
theorem T23_ {p : Prop} (h : p := by rw [hg];exact Nat.ne_of_lt (blk_lt (g := gb101) (o := .cells #[.int .i64 a0_0,.int .i64 a0_1] 25 (0,0)) (by (with_reducible repeat (first | refine blk_drewN ?_ _ | refine blk_drew ?_ | refine blk_alloc ?_ _));exact BK101.out))) : p := h
theorem T24_ {p : Prop} (h : p := by rw [hg];exact Nat.ne_of_gt (blk_lt (g := gb101) (o := .cells #[.int .i64 a0_0,.int .i64 a0_1] 25 (0,0)) (by (with_reducible repeat (first | refine blk_drewN ?_ _ | refine blk_drew ?_ | refine blk_alloc ?_ _));exact BK101.out))) : p := h
theorem T25_ {p : Prop} (h : p := by rw [hg];exact (keep_size (w := w) (g := g) (row := none) (by repeat (first | (with_reducible first | exact HK.out | apply KeepBut.set_ | apply keep_drewN | apply keep_drew | apply keep_alloc | refine keep_far ?_ GW101.out _) | exact HK.out)))) : p := h
theorem T26_ {p : Prop} (h : p := by (with_reducible repeat (first | apply Kd.R_alloc | apply Kd.R_drewN | apply Kd.R_drew));exact HO_3.out) : p := h
theorem T27_ {p : Prop} (h : p := by repeat (first | (with_reducible first | exact HB.out | apply below_alloc | apply pw_below_drewN | apply below_drew1 | refine below_set ?_ GE101.out | refine below_set ?_ GE102.out) | exact HB.out)) : p := h
theorem T28_ {p : Prop} (h : p := by (with_reducible repeat (first | refine blk_drewN ?_ _ | refine blk_drew ?_ | refine blk_alloc ?_ _));refine blk_put (cs := #[.int .i64 t105,.int .i64 0]) ?_ 1 _ rfl;(with_reducible repeat (first | refine blk_drewN ?_ _ | refine blk_drew ?_ | refine blk_alloc ?_ _));refine blk_put (cs := #[.int .i64 0,.int .i64 0]) ?_ 0 _ rfl;(with_reducible repeat (first | refine blk_drewN ?_ _ | refine blk_drew ?_ | refine blk_alloc ?_ _));exact BK109.out) : p := h
theorem T29_ {p : Prop} (h : p := by (with_reducible repeat (first | refine blk_drewN ?_ _ | refine blk_drew ?_ | refine blk_alloc ?_ _));refine blk_put (cs := #[.int .i64 t105,.int .i64 0]) ?_ 1 _ rfl;(with_reducible repeat (first | refine blk_drewN ?_ _ | refine blk_drew ?_ | refine blk_alloc ?_ _));refine blk_put (cs := #[.int .i64 0,.int .i64 0]) ?_ 0 _ rfl;(with_reducible repeat (first | refine blk_drewN ?_ _ | refine blk_drew ?_ | refine blk_alloc ?_ _));exact BK101.out) : p := h
theorem T30_ {p : Prop} (h : p := by rw [hg];exact Nat.ne_of_lt (blk_lt (g := gb101) (o := .cells #[.int .i64 0,.int .i64 0] 25 (0,0)) (by (with_reducible repeat (first | refine blk_drewN ?_ _ | refine blk_drew ?_ | refine blk_alloc ?_ _));exact BK101.out))) : p := h
theorem T31_ {p : Prop} (h : p := by rw [hg];exact Nat.ne_of_gt (blk_lt (g := gb101) (o := .cells #[.int .i64 0,.int .i64 0] 25 (0,0)) (by (with_reducible repeat (first | refine blk_drewN ?_ _ | refine blk_drew ?_ | refine blk_alloc ?_ _));exact BK101.out))) : p := h
theorem T32_ {p : Prop} (h : p := by (with_reducible repeat (first | refine blk_drewN ?_ _ | refine blk_drew ?_ | refine blk_alloc ?_ _));refine blk_far ?_ NB101_109.out _;(with_reducible repeat (first | refine blk_drewN ?_ _ | refine blk_drew ?_ | refine blk_alloc ?_ _));refine blk_far ?_ NB101_109.out _;(with_reducible repeat (first | refine blk_drewN ?_ _ | refine blk_drew ?_ | refine blk_alloc ?_ _));exact BK101.out) : p := h
theorem T33_ {p : Prop} (h : p := by rw [hg];exact (below_size (by repeat (first | (with_reducible first | exact HB.out | apply below_alloc | apply pw_below_drewN | apply below_drew1 | refine below_set ?_ (IsS64.ge HI105.out) | refine below_set ?_ GE101.out) | exact HB.out)))) : p := h
theorem T34_ {p : Prop} (h : p := by rw [hg];exact Nat.ne_of_lt (IsS64.lt (show IsS64 w0 _ g s0_0 t107 t108 from by repeat (first | (with_reducible first | exact HI0.out | apply IsS64.alloc | apply IsS64.drewN | apply IsS64.drew | apply IsS64.set_1 | apply IsS64.set_2 | refine IsS64.far ?_ NB0_101.out _) | exact HI0.out)))) : p := h
theorem T35_ {p : Prop} (h : p := by rw [hg];exact Nat.ne_of_gt (IsS64.lt (show IsS64 w0 _ g s0_0 t107 t108 from by repeat (first | (with_reducible first | exact HI0.out | apply IsS64.alloc | apply IsS64.drewN | apply IsS64.drew | apply IsS64.set_1 | apply IsS64.set_2 | refine IsS64.far ?_ NB0_101.out _) | exact HI0.out)))) : p := h
theorem T36_ {p : Prop} (h : p := by (with_reducible repeat (first | refine blk_drewN ?_ _ | refine blk_drew ?_ | refine blk_alloc ?_ _));exact BK102.out) : p := h
theorem T37_ {p : Prop} (h : p := by (with_reducible repeat (first | apply Kd.R_alloc | apply Kd.R_drewN | apply Kd.R_drew));exact HO_4.out) : p := h
theorem T38_ {p : Prop} (h : p := by rw [hg];exact (below_size (by repeat (first | (with_reducible first | exact HBW.out | apply below_alloc | apply pw_below_drewN | apply below_drew1) | exact HBW.out)))) : p := h
theorem T39_ {p : Prop} (h : p := by repeat (first | (with_reducible first | exact HI105.out | apply IsS64.alloc | apply IsS64.drewN | apply IsS64.drew | apply IsS64.set_1 | apply IsS64.set_2 | refine IsS64.far ?_ NB105_101.out _) | exact HI105.out)) : p := h
theorem T40_ {p : Prop} (h : p := by repeat (first | (with_reducible first | exact HB.out | apply below_alloc | apply pw_below_drewN | apply below_drew1 | refine below_set ?_ (IsS64.ge HI105.out) | refine below_set ?_ GE101.out) | exact HB.out)) : p := h
theorem T41_ {p : Prop} (h : p := by (with_reducible repeat (first | apply Kd.R_alloc | apply Kd.R_drewN | apply Kd.R_drew));exact HO_11.out) : p := h
theorem T42_ {p : Prop} (h : p := by repeat (first | (with_reducible first | exact HI0.out | apply IsS64.alloc | apply IsS64.drewN | apply IsS64.drew | apply IsS64.set_1 | apply IsS64.set_2 | refine IsS64.far ?_ NB0_101.out _ | refine IsS64.far ?_ NB0_109.out _) | exact HI0.out)) : p := h
theorem T43_ {p : Prop} (h : p := by repeat (first | (with_reducible first | exact HB.out | apply below_alloc | apply pw_below_drewN | apply below_drew1 | refine below_set ?_ (IsS64.ge HI0.out) | refine below_set ?_ GE101.out | refine below_set ?_ GE109.out) | exact HB.out)) : p := h
theorem T44_ {p : Prop} (h : p := by simp) : p := h
theorem T45_ {p : Prop} (h : p := by (with_reducible repeat (first | refine blk_drewN ?_ _ | refine blk_drew ?_ | refine blk_alloc ?_ _));exact BK109.out) : p := h
theorem T46_ {p : Prop} (h : p := by decide) : p := h
theorem T47_ {p : Prop} (h : p := by (try simp only [List.map_toArray,List.map_cons,List.map_nil]);first | done | (simp only [hji5];rfl) | rfl | (simp only [List.length_drop,List.length_take];rfl)) : p := h
theorem T48_ {p : Prop} (h : p := by (with_reducible repeat (first | apply Kd.R_alloc | apply Kd.R_drewN | apply Kd.R_drew));exact Kd.R_mono HO_5.out (fun _ hk => ⟨trivial,hk⟩)) : p := h
theorem T49_ {p : Prop} (h : p := by refine blk_put (cs := #[.int .i64 n,.int .i64 0]) ?_ 1 _ rfl;refine blk_put (cs := #[.int .i64 0,.int .i64 0]) ?_ 0 _ rfl;exact BK.out) : p := h
end Go.Proofs.Ytgojehaneegaeac.F
namespace Go.Proofs.Ytgojehaneegaeac.F
open Go.RowKit Go.Proofs.YtgojehaneegaeacW.PrintWords Go.Proofs.YtgojehaneegaeacW.PrintLast Go.Proofs.YtgojehaneegaeacW.PrintMore
attribute [local go_sem] max2_int min2_int max_two min_two max_three min_three max_four min_four 
set_option linter.unusedVariables false
set_option linter.unusedSimpArgs false
def errW : Option Int → Value
 | none => .nilIface
 | some c => .iface 0 (.int .i64 c)
theorem errW_none : errW none = .nilIface := rfl
theorem errW_some (c : Int) : errW (some c) = .iface 0 (.int .i64 c) := rfl
theorem info3 : (Try.prog.info? 3).map (fun i => (i.zero,i.size,i.bytes)) = some (some (.int .i64 0),1,8) := by kernel_rfl
def laws_big.f (l0 : List Int) : Option (Bool) := some (decide ((l0.length : Int) > 1048576))
set_option maxHeartbeats 8000000 in
set_option maxRecDepth 100000 in
theorem laws_big.calls (A0 : Option Addr) (c0 : Nat) (l0 : List Int) (r : Bool) (w : World) (hr0 : Kd.C (Kd.int .u8) w A0 l0.length l0) (hc0 : l0.length ≤ c0) (h : laws_big.f l0 = some r) :
  Calls Try.prog 4 #[.slice A0 l0.length c0] w fun e w' => e = .returned (.bool r) ∧ Drawn0 w w' := by
 have HR0 := aZ_ hr0
 have HC0 := aZ_ hc0
 clear hr0 hc0
 have H : (some (decide ((l0.length : Int) > 1048576))) = some r := h
 clear h
 obtain rfl := Option.some.inj H
 go_enter Try.func4,Try.ntmps4
 go_wp2
 go_ret
 exact ⟨by first | rfl | (simp;done) | (simp [*];done),by repeat (first | exact Drawn0.refl _ | apply Drawn0.step)⟩
end Go.Proofs.Ytgojehaneegaeac.F
namespace Go.Proofs.Ytgojehaneegaeac.F
open Go.RowKit Go.Proofs.YtgojehaneegaeacW.PrintWords Go.Proofs.YtgojehaneegaeacW.PrintLast Go.Proofs.YtgojehaneegaeacW.PrintMore
attribute [local go_sem] max2_int min2_int max_two min_two max_three min_three max_four min_four 
set_option linter.unusedVariables false
set_option linter.unusedSimpArgs false
def laws_sameInts.l0 : Nat → List Int → List Int → Int → Option (Bool)
 | 0,_,_,_ => none
 | k + 1,x0,x1,x5 => if x5 < (x0.length : Int) then (if 0 ≤ x5 then (if x5 < (x1.length : Int) then (if (rd x0 x5) = (rd x1 x5) then (laws_sameInts.l0 k x0 x1 (wrap64 (x5 + 1))) else (some false)) else (none)) else (none)) else (some true)
def laws_sameInts.f (k : Nat) (l0 : List Int) (l1 : List Int) : Option (Bool) := if (l0.length : Int) = (l1.length : Int) then (laws_sameInts.l0 k l0 l1 0) else (some false)
set_option maxHeartbeats 8000000 in
set_option maxRecDepth 100000 in
theorem laws_sameInts.calls (k : Nat) (A0 : Option Addr) (c0 : Nat) (l0 : List Int) (A1 : Option Addr) (c1 : Nat) (l1 : List Int) (r : Bool) (w : World) (hr0 : Kd.C (Kd.int .i64) w A0 l0.length l0) (hc0 : l0.length ≤ c0) (hr1 : Kd.C (Kd.int .i64) w A1 l1.length l1) (hc1 : l1.length ≤ c1) (h : laws_sameInts.f k l0 l1 = some r) :
  Calls Try.prog 20 #[.slice A0 l0.length c0,.slice A1 l1.length c1] w fun e w' => e = .returned (.bool r) ∧ Drawn0 w w' := by
 have HR0 := aZ_ hr0
 have HC0 := aZ_ hc0
 clear hr0 hc0
 have HR1 := aZ_ hr1
 have HC1 := aZ_ hc1
 clear hr1 hc1
 have H : (if (l0.length : Int) = (l1.length : Int) then (laws_sameInts.l0 k l0 l1 0) else (some false)) = some r := h
 clear h
 by_cases c3 : (l0.length : Int) = (l1.length : Int)
 ·rw [if_pos c3] at H
  have c3b0 : ((l0.length : Int) == (l1.length : Int)) = true := beq_iff_eq.mpr c3
  have c3b1 : ((l0.length : Int) != (l1.length : Int)) = false := bne_eq_false_iff_eq.mpr c3
  have c3b2 : (l0.length == l1.length) = true := by first | simpa using c3 | (simp at c3 ⊢;omega)
  clear c3
  have H' := aZ_ H
  clear H
  go_enter Try.func20,Try.ntmps20
  go_wp2
  repeat (go_quiet (fail);try go_wp2)
  go_loopg [5] k (fun kq v5 w' => ∃ (x5_1 : Int),v5 = .int .i64 x5_1 ∧ Aside0 (laws_sameInts.l0 kq l0 l1 x5_1 = some r) ∧ Aside0 (kq ≤ k) ∧ Drawn0 w w')
  case atStart => exact ⟨(0),T7_,H',⟨Nat.le_refl _⟩,by repeat (first | exact Drawn0.refl _ | apply Drawn0.step)⟩
  case round =>
   clear H'
   try clear c1
   try clear c2
   try clear p2
   try clear c3
   try clear c3b0
   try clear c3b1
   try clear c3b2
   obtain ⟨x5_1,rfl,HA,HK1,⟨m1,rfl⟩⟩ := hrel
   cases gk with
   | zero => exact absurd HA.out (by simp [laws_sameInts.l0])
   | succ k1 =>
    have H := HA.out
    clear HA
    simp only [laws_sameInts.l0] at H
    by_cases c4 : x5_1 < (l0.length : Int)
    ·rw [if_pos c4] at H
     have c4b0 : decide (x5_1 < (l0.length : Int)) = true := decide_eq_true c4
     clear c4
     by_cases c5 : 0 ≤ x5_1
     ·rw [if_pos c5] at H
      have c5b0 : decide (0 ≤ x5_1) = true := decide_eq_true c5
      clear c5
      by_cases c6 : x5_1 < (l1.length : Int)
      ·rw [if_pos c6] at H
       have c6b0 : decide (x5_1 < (l1.length : Int)) = true := decide_eq_true c6
       clear c6
       by_cases c7 : (rd l0 x5_1) = (rd l1 x5_1)
       ·rw [if_pos c7] at H
        have c7b0 : ((rd l0 x5_1) == (rd l1 x5_1)) = true := beq_iff_eq.mpr c7
        have c7b1 : ((rd l0 x5_1) != (rd l1 x5_1)) = false := bne_eq_false_iff_eq.mpr c7
        clear c7
        have H' := aZ_ H
        clear H
        have p101 : 0 ≤ (x5_1 : Int) := of_decide_eq_true T20_
        have q101 : x5_1 < (l0.length : Int) := of_decide_eq_true T20_
        obtain ⟨ad101,e101,hx101_0⟩ := Kd.at_int HR0.out x5_1 p101 q101
        cases e101
        replace p101 := eq_true p101
        replace q101 := eq_true q101
        have p102 : 0 ≤ (x5_1 : Int) := of_decide_eq_true T20_
        have q102 : x5_1 < (l1.length : Int) := of_decide_eq_true T20_
        obtain ⟨ad102,e102,hx102_0⟩ := Kd.at_int HR1.out x5_1 p102 q102
        cases e102
        replace p102 := eq_true p102
        replace q102 := eq_true q102
        go_wp2
        repeat (go_quiet (fail);try go_wp2)
        go_roundg k1
        case measure => have := HK1.out;omega
        case rel => exact ⟨(wrap64 (x5_1 + 1)),T7_,H',⟨by have := HK1.out;omega⟩,by repeat (first | exact Drawn0.refl _ | apply Drawn0.step)⟩
       ·rw [if_neg c7] at H
        have c7b0 : ((rd l0 x5_1) == (rd l1 x5_1)) = false := beq_eq_false_iff_ne.mpr c7
        have c7b1 : ((rd l0 x5_1) != (rd l1 x5_1)) = true := bne_iff_ne.mpr c7
        obtain rfl := Option.some.inj H
        have p101 : 0 ≤ (x5_1 : Int) := of_decide_eq_true T20_
        have q101 : x5_1 < (l0.length : Int) := of_decide_eq_true T20_
        obtain ⟨ad101,e101,hx101_0⟩ := Kd.at_int HR0.out x5_1 p101 q101
        cases e101
        replace p101 := eq_true p101
        replace q101 := eq_true q101
        have p102 : 0 ≤ (x5_1 : Int) := of_decide_eq_true T20_
        have q102 : x5_1 < (l1.length : Int) := of_decide_eq_true T20_
        obtain ⟨ad102,e102,hx102_0⟩ := Kd.at_int HR1.out x5_1 p102 q102
        cases e102
        replace p102 := eq_true p102
        replace q102 := eq_true q102
        go_wp2
        repeat (go_quiet (fail);try go_wp2)
        go_ret
        exact ⟨by first | rfl | (simp;done) | (simp [*];done),by repeat (first | exact Drawn0.refl _ | apply Drawn0.step)⟩
      ·rw [if_neg c6] at H
       exact absurd H T44_
     ·rw [if_neg c5] at H
      exact absurd H T44_
    ·rw [if_neg c4] at H
     have c4b0 : decide (x5_1 < (l0.length : Int)) = false := decide_eq_false c4
     clear c4
     obtain rfl := Option.some.inj H
     go_wp2
     repeat (go_quiet (fail);try go_wp2)
     go_ret
     exact ⟨by first | rfl | (simp;done) | (simp [*];done),by repeat (first | exact Drawn0.refl _ | apply Drawn0.step)⟩
 ·rw [if_neg c3] at H
  have c3b0 : ((l0.length : Int) == (l1.length : Int)) = false := beq_eq_false_iff_ne.mpr c3
  have c3b1 : ((l0.length : Int) != (l1.length : Int)) = true := bne_iff_ne.mpr c3
  have c3b2 : (l0.length == l1.length) = false := by first | simpa using c3 | (simp at c3 ⊢;omega)
  obtain rfl := Option.some.inj H
  go_enter Try.func20,Try.ntmps20
  go_wp2
  repeat (go_quiet (fail);try go_wp2)
  go_ret
  exact ⟨by first | rfl | (simp;done) | (simp [*];done),by repeat (first | exact Drawn0.refl _ | apply Drawn0.step)⟩
end Go.Proofs.Ytgojehaneegaeac.F
namespace Go.Proofs.Ytgojehaneegaeac.F
open Go.RowKit Go.Proofs.YtgojehaneegaeacW.PrintWords Go.Proofs.YtgojehaneegaeacW.PrintLast Go.Proofs.YtgojehaneegaeacW.PrintMore
attribute [local go_sem] max2_int min2_int max_two min_two max_three min_three max_four min_four 
set_option linter.unusedVariables false
set_option linter.unusedSimpArgs false
def laws_has.l0 : Nat → List Int → Int → Int → Option (Bool)
 | 0,_,_,_ => none
 | k + 1,x0,x1,x5 => if x5 < (x0.length : Int) then (if 0 ≤ x5 then (if (rd x0 x5) = x1 then (some true) else (laws_has.l0 k x0 x1 (wrap64 (x5 + 1)))) else (none)) else (some false)
def laws_has.f (k : Nat) (l0 : List Int) (a1 : Int) : Option (Bool) := laws_has.l0 k l0 a1 0
set_option maxHeartbeats 8000000 in
set_option maxRecDepth 100000 in
theorem laws_has.calls (k : Nat) (A0 : Option Addr) (c0 : Nat) (l0 : List Int) (a1 : Int) (r : Bool) (w : World) (hr0 : Kd.C (Kd.int .i64) w A0 l0.length l0) (hc0 : l0.length ≤ c0) (h : laws_has.f k l0 a1 = some r) :
  Calls Try.prog 21 #[.slice A0 l0.length c0,.int .i64 a1] w fun e w' => e = .returned (.bool r) ∧ Drawn0 w w' := by
 have HR0 := aZ_ hr0
 have HC0 := aZ_ hc0
 clear hr0 hc0
 have H : (laws_has.l0 k l0 a1 0) = some r := h
 clear h
 have H' := aZ_ H
 clear H
 go_enter Try.func21,Try.ntmps21
 go_wp2
 go_loopg [5] k (fun kq v5 w' => ∃ (x5_1 : Int),v5 = .int .i64 x5_1 ∧ Aside0 (laws_has.l0 kq l0 a1 x5_1 = some r) ∧ Aside0 (kq ≤ k) ∧ Drawn0 w w')
 case atStart => exact ⟨(0),T7_,H',⟨Nat.le_refl _⟩,by repeat (first | exact Drawn0.refl _ | apply Drawn0.step)⟩
 case round =>
  clear H'
  try clear c2
  try clear p2
  obtain ⟨x5_1,rfl,HA,HK1,⟨m1,rfl⟩⟩ := hrel
  cases gk with
  | zero => exact absurd HA.out (by simp [laws_has.l0])
  | succ k1 =>
   have H := HA.out
   clear HA
   simp only [laws_has.l0] at H
   by_cases c3 : x5_1 < (l0.length : Int)
   ·rw [if_pos c3] at H
    have c3b0 : decide (x5_1 < (l0.length : Int)) = true := decide_eq_true c3
    clear c3
    by_cases c4 : 0 ≤ x5_1
    ·rw [if_pos c4] at H
     have c4b0 : decide (0 ≤ x5_1) = true := decide_eq_true c4
     clear c4
     by_cases c5 : (rd l0 x5_1) = a1
     ·rw [if_pos c5] at H
      have c5b0 : ((rd l0 x5_1) == a1) = true := beq_iff_eq.mpr c5
      have c5b1 : ((rd l0 x5_1) != a1) = false := bne_eq_false_iff_eq.mpr c5
      clear c5
      obtain rfl := Option.some.inj H
      have p101 : 0 ≤ (x5_1 : Int) := of_decide_eq_true T20_
      have q101 : x5_1 < (l0.length : Int) := of_decide_eq_true T20_
      obtain ⟨ad101,e101,hx101_0⟩ := Kd.at_int HR0.out x5_1 p101 q101
      cases e101
      replace p101 := eq_true p101
      replace q101 := eq_true q101
      go_wp2
      go_ret
      exact ⟨by first | rfl | (simp;done) | (simp [*];done),by repeat (first | exact Drawn0.refl _ | apply Drawn0.step)⟩
     ·rw [if_neg c5] at H
      have c5b0 : ((rd l0 x5_1) == a1) = false := beq_eq_false_iff_ne.mpr c5
      have c5b1 : ((rd l0 x5_1) != a1) = true := bne_iff_ne.mpr c5
      have H' := aZ_ H
      clear H
      have p101 : 0 ≤ (x5_1 : Int) := of_decide_eq_true T20_
      have q101 : x5_1 < (l0.length : Int) := of_decide_eq_true T20_
      obtain ⟨ad101,e101,hx101_0⟩ := Kd.at_int HR0.out x5_1 p101 q101
      cases e101
      replace p101 := eq_true p101
      replace q101 := eq_true q101
      go_wp2
      go_roundg k1
      case measure => have := HK1.out;omega
      case rel => exact ⟨(wrap64 (x5_1 + 1)),T7_,H',⟨by have := HK1.out;omega⟩,by repeat (first | exact Drawn0.refl _ | apply Drawn0.step)⟩
    ·rw [if_neg c4] at H
     exact absurd H T44_
   ·rw [if_neg c3] at H
    have c3b0 : decide (x5_1 < (l0.length : Int)) = false := decide_eq_false c3
    clear c3
    obtain rfl := Option.some.inj H
    go_wp2
    go_ret
    exact ⟨by first | rfl | (simp;done) | (simp [*];done),by repeat (first | exact Drawn0.refl _ | apply Drawn0.step)⟩
end Go.Proofs.Ytgojehaneegaeac.F
namespace Go.Proofs.Ytgojehaneegaeac.B
open Go.RowKit Go.Proofs.YtgojehaneegaeacW.PrintWords Go.Proofs.YtgojehaneegaeacW.PrintLast Go.Proofs.YtgojehaneegaeacW.PrintMore
set_option linter.unusedVariables false
set_option linter.unusedSimpArgs false
theorem wrap64_of {n : Int} (h0 : -9223372036854775808 ≤ n) (h1 : n ≤ 9223372036854775807) : wrap64 n = n := by unfold wrap64;omega
theorem wrap_of {n : Int} (h0 : -9223372036854775808 ≤ n) (h1 : n ≤ 9223372036854775807) : IntKind.i64.wrap n = n := by rw [i64_w];exact wrap64_of h0 h1
theorem wrapu_of {n : Int} (h0 : 0 ≤ n) (h1 : n ≤ 18446744073709551615) : IntKind.u64.wrap n = n := by
  simp [IntKind.wrap,IntKind.bits,IntKind.signed];omega
theorem wrap64_cast {n : Nat} (h : n < 9223372036854775808) : wrap64 (n : Int) = n := wrap64_of (by omega) (by omega)
theorem wrap64_succ {n : Nat} (h : n < 9223372036854775807) : wrap64 ((n : Int) + 1) = ((n + 1 : Nat) : Int) := by rw [wrap64_of (by omega) (by omega)];omega
theorem lt63 {a : Nat} (h : a < 9223372036854775808) : a < 2 ^ 63 := h
theorem mod64 {a : Nat} (h : a < 9223372036854775808) : a % 2 ^ 64 = a := Nat.mod_eq_of_lt (by omega)
theorem and_cast {a b : Nat} (ha : a < 9223372036854775808) (hb : b < 9223372036854775808) : Go.bits .and .i64 (a : Int) (b : Int) = ((a &&& b : Nat) : Int) := by
  have h := Nat.and_lt_two_pow a (lt63 hb)
  have e : (BitVec.ofNat 64 a &&& BitVec.ofNat 64 b).toNat = a &&& b := by rw [BitVec.toNat_and,BitVec.toNat_ofNat,BitVec.toNat_ofNat,mod64 ha,mod64 hb]
  simp only [Go.bits,IntKind.bits,BitVec.ofInt_natCast]
  exact (congrArg (fun m : Nat => IntKind.i64.wrap (m : Int)) e).trans (wrap_of (n := ((a &&& b : Nat) : Int)) (by omega) (by omega))
theorem or_cast {a b : Nat} (ha : a < 9223372036854775808) (hb : b < 9223372036854775808) : Go.bits .or .i64 (a : Int) (b : Int) = ((a ||| b : Nat) : Int) := by
  have h := Nat.or_lt_two_pow (lt63 ha) (lt63 hb)
  have e : (BitVec.ofNat 64 a ||| BitVec.ofNat 64 b).toNat = a ||| b := by rw [BitVec.toNat_or,BitVec.toNat_ofNat,BitVec.toNat_ofNat,mod64 ha,mod64 hb]
  simp only [Go.bits,IntKind.bits,BitVec.ofInt_natCast]
  exact (congrArg (fun m : Nat => IntKind.i64.wrap (m : Int)) e).trans (wrap_of (n := ((a ||| b : Nat) : Int)) (by omega) (by omega))
theorem xor_cast {a b : Nat} (ha : a < 9223372036854775808) (hb : b < 9223372036854775808) : Go.bits .xor .i64 (a : Int) (b : Int) = ((a ^^^ b : Nat) : Int) := by
  have h := Nat.xor_lt_two_pow (lt63 ha) (lt63 hb)
  have e : (BitVec.ofNat 64 a ^^^ BitVec.ofNat 64 b).toNat = a ^^^ b := by rw [BitVec.toNat_xor,BitVec.toNat_ofNat,BitVec.toNat_ofNat,mod64 ha,mod64 hb]
  simp only [Go.bits,IntKind.bits,BitVec.ofInt_natCast]
  exact (congrArg (fun m : Nat => IntKind.i64.wrap (m : Int)) e).trans (wrap_of (n := ((a ^^^ b : Nat) : Int)) (by omega) (by omega))
def ldiff (a b : Nat) : Nat := a ^^^ (a &&& b)
theorem testBit_ldiff (a b i : Nat) : (ldiff a b).testBit i = (a.testBit i && !b.testBit i) := by
  unfold ldiff
  rw [Nat.testBit_xor,Nat.testBit_and]
  cases a.testBit i <;> cases b.testBit i <;> rfl
theorem ldiff_lt {a b n : Nat} (ha : a < 2 ^ n) : ldiff a b < 2 ^ n := by
  apply Nat.lt_pow_two_of_testBit
  intro i hi
  rw [testBit_ldiff,Nat.testBit_lt_two_pow (Nat.lt_of_lt_of_le ha (Nat.pow_le_pow_right (by decide) hi))]
  rfl
theorem andNot_cast {a b : Nat} (ha : a < 9223372036854775808) (hb : b < 9223372036854775808) : Go.bits .andNot .i64 (a : Int) (b : Int) = ((ldiff a b : Nat) : Int) := by
  have h := ldiff_lt (b := b) (lt63 ha)
  have e : (BitVec.ofNat 64 a &&& ~~~(BitVec.ofNat 64 b)).toNat = ldiff a b := by
    apply Nat.eq_of_testBit_eq
    intro i
    rw [testBit_ldiff,← BitVec.getLsbD,BitVec.getLsbD_and,BitVec.getLsbD_not]
    simp only [BitVec.getLsbD_ofNat]
    by_cases hi : i < 64
    · simp [hi]
    · have : a.testBit i = false := Nat.testBit_lt_two_pow (Nat.lt_of_lt_of_le (lt63 ha) (Nat.pow_le_pow_right (by decide) (by omega)))
      simp [hi,this]
  simp only [Go.bits,IntKind.bits,BitVec.ofInt_natCast]
  exact (congrArg (fun m : Nat => IntKind.i64.wrap (m : Int)) e).trans (wrap_of (n := ((ldiff a b : Nat) : Int)) (by omega) (by omega))
theorem shr_cast (a n : Nat) (hn : n ≤ 64) : shr .i64 (a : Int) (n : Int) = ((a >>> n : Nat) : Int) := by
  unfold shr
  rw [Nat.shiftRight_eq_div_pow]
  simp only [IntKind.bits,Int.toNat_natCast,Nat.min_eq_left hn]
  simp
theorem shl_cast {a n : Nat} (h : a <<< n < 9223372036854775808) (hn : n ≤ 64) : shl .i64 (a : Int) (n : Int) = ((a <<< n : Nat) : Int) := by
  unfold shl
  simp only [IntKind.bits,Int.toNat_natCast,Nat.min_eq_left hn]
  have e : ((a : Int) * 2 ^ n) = ((a <<< n : Nat) : Int) := by rw [Nat.shiftLeft_eq];simp
  exact (congrArg IntKind.i64.wrap e).trans (by generalize a <<< n = c at h;exact wrap_of (n := (c : Int)) (by omega) (by omega))
theorem one_shl (n : Nat) : 1 <<< n = 2 ^ n := by rw [Nat.shiftLeft_eq,Nat.one_mul]
theorem pow_le {n : Nat} (h : n ≤ 5) : 2 ^ n ≤ 32 := Nat.pow_le_pow_right (n := 2) (by decide) h
theorem pow_lt {n m : Nat} (h : n < m) : 2 ^ n < 2 ^ m := Nat.pow_lt_pow_right (by decide) h
theorem pow_le_pow {n m : Nat} (h : n ≤ m) : 2 ^ n ≤ 2 ^ m := Nat.pow_le_pow_right (by decide) h
theorem pow_pos (n : Nat) : 0 < 2 ^ n := Nat.two_pow_pos n
theorem full_le {n : Nat} (h : n ≤ 5) : 2 ^ 2 ^ n ≤ 4294967296 := Nat.pow_le_pow_right (n := 2) (by decide) (pow_le h)
theorem shl1_of {n : Nat} (h : n ≤ 62) : shl .i64 1 (n : Int) = ((2 ^ n : Nat) : Int) := by
  have h1 : (1 : Nat) <<< n < 9223372036854775808 := by
    rw [one_shl];have := pow_le_pow h;omega
  have := shl_cast h1 (by omega)
  rw [one_shl] at this
  exact this
def bitN (w x : Nat) : Nat := (w.testBit x).toNat
theorem bitN_le (w x : Nat) : bitN w x ≤ 1 := by unfold bitN;cases w.testBit x <;> decide
theorem bitN_eq_one {w x : Nat} : bitN w x = 1 ↔ w.testBit x = true := by unfold bitN;cases w.testBit x <;> decide
theorem shr_and_one (w x : Nat) : w >>> x &&& 1 = bitN w x := by
  unfold bitN
  rw [Nat.testBit,Nat.and_comm 1,Nat.and_one_is_mod]
  rcases Nat.mod_two_eq_zero_or_one (w >>> x) with h | h <;> rw [h] <;> rfl
theorem shr_lt {w x n : Nat} (h : w < n) : w >>> x < n := Nat.lt_of_le_of_lt (by rw [Nat.shiftRight_eq_div_pow];exact Nat.div_le_self _ _) h
theorem bit_cast {w x : Nat} (hw : w < 9223372036854775808) (hx : x ≤ 64) : Go.bits .and .i64 (shr .i64 (w : Int) (x : Int)) 1 = ((bitN w x : Nat) : Int) := by
  rw [shr_cast w x hx]
  have := and_cast (b := 1) (shr_lt (x := x) hw) (by decide)
  rw [shr_and_one] at this
  exact this
def tabN (p : Nat → Bool) : Nat → Nat
  | 0 => 0
  | m + 1 => tabN p m ||| (p m).toNat <<< m
theorem testBit_toNat_shl (b : Bool) (m i : Nat) : (b.toNat <<< m).testBit i = (decide (i = m) && b) := by
  cases b
  · simp
  · simp only [Bool.toNat_true,one_shl,Nat.testBit_two_pow,Bool.and_true]
    by_cases h : i = m
    · subst h;simp
    · simp [h,Ne.symm h]
theorem testBit_tabN (p : Nat → Bool) (m i : Nat) : (tabN p m).testBit i = (decide (i < m) && p i) := by
  induction m with
  | zero => simp [tabN]
  | succ m ih =>
    rw [tabN,Nat.testBit_or,ih,testBit_toNat_shl]
    by_cases h : i = m
    · subst h;simp
    · by_cases h2 : i < m
      · simp [h,h2,Nat.lt_succ_of_lt h2]
      · have : ¬ i < m + 1 := by omega
        simp [h,h2,this]
theorem lt_pow_of_testBit {x n : Nat} (h : ∀ i,n ≤ i → x.testBit i = false) : x < 2 ^ n := Nat.lt_pow_two_of_testBit x h
theorem tabN_lt (p : Nat → Bool) (m : Nat) : tabN p m < 2 ^ m :=
  lt_pow_of_testBit fun i hi => by rw [testBit_tabN];have : ¬ i < m := by omega
                                   simp [this]
theorem testBit_ge {w m i : Nat} (hw : w < 2 ^ m) (hi : m ≤ i) : w.testBit i = false := Nat.testBit_lt_two_pow (Nat.lt_of_lt_of_le hw (pow_le_pow hi))
theorem word_ext {a b m : Nat} (ha : a < 2 ^ m) (hb : b < 2 ^ m) (h : ∀ i,i < m → a.testBit i = b.testBit i) : a = b := by
  apply Nat.eq_of_testBit_eq
  intro i
  by_cases hi : i < m
  · exact h i hi
  · rw [testBit_ge ha (by omega),testBit_ge hb (by omega)]
theorem tabN_congr {p q : Nat → Bool} {m : Nat} (h : ∀ i,i < m → p i = q i) : tabN p m = tabN q m :=
  word_ext (tabN_lt _ _) (tabN_lt _ _) fun i hi => by rw [testBit_tabN,testBit_tabN,h i hi]
theorem wrap64_pow {x : Nat} (h : x ≤ 62) : wrap64 (2 ^ x) = ((2 ^ x : Nat) : Int) := by
  have e : ((2 : Int) ^ x) = ((2 ^ x : Nat) : Int) := by simp
  have := pow_le_pow h
  rw [e]
  exact wrap64_cast (by omega)
theorem or_bit {w x : Nat} (hw : w < 9223372036854775808) (hx : x ≤ 62) : Go.bits .or .i64 (w : Int) (wrap64 (2 ^ x)) = ((w ||| 2 ^ x : Nat) : Int) := by
  rw [wrap64_pow hx]
  exact or_cast hw (by have := pow_le_pow hx;omega)
theorem tabN_true {p : Nat → Bool} {m : Nat} (h : p m = true) : tabN p (m + 1) = tabN p m ||| 2 ^ m := by rw [tabN,h,Bool.toNat_true,one_shl]
theorem tabN_false {p : Nat → Bool} {m : Nat} (h : p m = false) : tabN p (m + 1) = tabN p m := by rw [tabN,h];simp
theorem tabN_lt63 (p : Nat → Bool) {m : Nat} (h : m ≤ 32) : tabN p m < 9223372036854775808 := Nat.lt_of_lt_of_le (tabN_lt p m) (Nat.le_trans (pow_le_pow h) (by decide))
def orN (q : Nat → Nat) : Nat → Nat
  | 0 => 0
  | m + 1 => orN q m ||| q m
theorem orN_lt {q : Nat → Nat} {m n : Nat} (h : ∀ i,i < m → q i < 2 ^ n) : orN q m < 2 ^ n := by
  induction m with
  | zero => exact pow_pos n
  | succ m ih => exact Nat.or_lt_two_pow (ih fun i hi => h i (by omega)) (h m (by omega))
theorem bitN_shl_lt {w i j n : Nat} (hj : j < n) : bitN w i <<< j < 2 ^ n := by
  rw [Nat.shiftLeft_eq]
  have h1 := bitN_le w i
  have h2 := pow_le_pow (n := j + 1) (m := n) hj
  rw [Nat.pow_succ] at h2
  have h3 : bitN w i * 2 ^ j ≤ 1 * 2 ^ j := Nat.mul_le_mul_right _ h1
  have := pow_pos j
  omega
theorem testBit_bitN_shl (w i j y : Nat) : (bitN w i <<< j).testBit y = (decide (y = j) && w.testBit i) := testBit_toNat_shl _ _ _
def exN (p : Nat → Bool) : Nat → Bool
  | 0 => false
  | m + 1 => exN p m || p m
theorem exN_iff {p : Nat → Bool} {m : Nat} : exN p m = true ↔ ∃ i,i < m ∧ p i = true := by
  induction m with
  | zero => simp [exN]
  | succ m ih =>
    rw [exN,Bool.or_eq_true,ih]
    constructor
    · rintro (⟨i,hi,h⟩ | h)
      · exact ⟨i,by omega,h⟩
      · exact ⟨m,by omega,h⟩
    · rintro ⟨i,hi,h⟩
      by_cases e : i = m
      · subst e;exact .inr h
      · exact .inl ⟨i,by omega,h⟩
theorem testBit_orN (q : Nat → Nat) (m y : Nat) : (orN q m).testBit y = exN (fun i => (q i).testBit y) m := by
  induction m with
  | zero => simp [orN,exN]
  | succ m ih => rw [orN,exN,Nat.testBit_or,ih]
def allN (p : Nat → Bool) : Nat → Bool
  | 0 => true
  | m + 1 => allN p m && p m
theorem allN_iff {p : Nat → Bool} {m : Nat} : allN p m = true ↔ ∀ i,i < m → p i = true := by
  induction m with
  | zero => simp [allN]
  | succ m ih =>
    rw [allN,Bool.and_eq_true,ih]
    constructor
    · rintro ⟨h,k⟩ i hi
      by_cases e : i = m
      · subst e;exact k
      · exact h i (by omega)
    · exact fun h => ⟨fun i hi => h i (by omega),h m (by omega)⟩
def cntN (p : Nat → Bool) : Nat → Nat
  | 0 => 0
  | m + 1 => cntN p m + (p m).toNat
theorem cntN_le (p : Nat → Bool) (m : Nat) : cntN p m ≤ m := by
  induction m with
  | zero => exact Nat.le_refl _
  | succ m ih => rw [cntN];have : (p m).toNat ≤ 1 := by cases p m <;> decide
                 omega
theorem cntN_congr {p q : Nat → Bool} {m : Nat} (h : ∀ i,i < m → p i = q i) : cntN p m = cntN q m := by
  induction m with
  | zero => rfl
  | succ m ih => rw [cntN,cntN,ih fun i hi => h i (by omega),h m (by omega)]
theorem orN_tab (w : Nat) (f : Nat → Nat) (m : Nat) : orN (fun i => bitN w (f i) <<< i) m = tabN (fun i => w.testBit (f i)) m := by
  induction m with
  | zero => rfl
  | succ m ih => rw [orN,tabN,ih];rfl
theorem orN_perm (w m : Nat) (f g : Nat → Nat) (hf : ∀ i,i < m → f i < m) (hg : ∀ i,i < m → g i < m) (hfg : ∀ i,i < m → f (g i) = i) (hgf : ∀ i,i < m → g (f i) = i) :
    orN (fun i => bitN w i <<< f i) m = tabN (fun y => w.testBit (g y)) m := by
  apply word_ext (m := m) (orN_lt fun i hi => bitN_shl_lt (hf i hi)) (tabN_lt _ _)
  intro y hy
  rw [testBit_tabN,testBit_orN]
  simp only [testBit_bitN_shl,hy,decide_true,Bool.true_and]
  apply Bool.eq_iff_iff.mpr
  rw [exN_iff]
  constructor
  · rintro ⟨i,hi,h⟩
    simp only [Bool.and_eq_true,decide_eq_true_eq] at h
    obtain ⟨rfl,h⟩ := h
    rw [hgf i hi];exact h
  · exact fun h => ⟨g y,hg y hy,by simp [hfg y hy,h]⟩
def ins (x i b : Nat) : Nat := x % 2 ^ i + b * 2 ^ i + x / 2 ^ i * 2 ^ (i + 1)
theorem ins_lt {x i b : Nat} (hx : x < 16) (hi : i < 5) (hb : b ≤ 1) : ins x i b < 32 := by
  have h : ∀ x : Fin 16,∀ i : Fin 5,∀ b : Fin 2,ins x i b < 32 := by decide +kernel
  exact h ⟨x,hx⟩ ⟨i,hi⟩ ⟨b,by omega⟩
def Tab (n w : Nat) : Prop := n ≤ 5 ∧ w < 2 ^ 2 ^ n
theorem Tab.lt {n w : Nat} (h : Tab n w) : w < 4294967296 := Nat.lt_of_lt_of_le h.2 (full_le h.1)
theorem Tab.lt63 {n w : Nat} (h : Tab n w) : w < 9223372036854775808 := Nat.lt_trans h.lt (by decide)
end Go.Proofs.Ytgojehaneegaeac.B
