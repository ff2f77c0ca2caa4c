/- Walks of Go functions and lemmas on what they compute, for the row of FnDiagrams (a part of several): each call ends as the Lean function of its name tells; the conditions are those of each theorem. -/
import Derived.Test.YtflacbjpeecjcabGreatDoorProg
import Derived.Below
import Derived.Deep.Draws
import Derived.Deep.AppendLies
import Derived.Maps.AppendAt
import Derived.OwnWalk
import Derived.Laws.BytesArg
import Derived.Laws.MakeOwn
import Derived.Laws.OwnMore
import Derived.Deep.OwnRows
import Derived.Tactics
import Derived.Lib.ConvBytes
import Derived.Laws.Slices
import Derived.WalkKit
import Derived.KernelRfl
import Derived.RowKit3
import Derived.Deep.LoopGhost
import Derived.Deep.QuietTactic
import Derived.BigQuiet
import Derived.WideLaws
import Derived.Deep.DeepCutAuto
import Derived.Deep.CutBlock
import Derived.Deep.RegionHeld3
import Derived.Laws.Rows
import Derived.Lib.AppendStr
import Derived.ArgAppend
import Derived.Laws.IdiomCopy
import Derived.OrdersHeld
import Derived.Laws.BitsLemmas
import Derived.RowKit
import Derived.Shelf.Abstract
import Derived.Maps.Own
import Derived.Maps.OwnOps
import Derived.Maps.OwnSet
import Derived.Lib.Hide
import Derived.Test.YtflacbjpeecjcabGreatDoorM2FnDiagrams
set_option linter.unusedVariables false
set_option linter.unusedSimpArgs false
set_option maxHeartbeats 16000000
set_option maxRecDepth 100000
open Go.RowKit Go.Proofs.YtflacbjpeecjcabGreatDoorW.PrintWords Go.Proofs.YtflacbjpeecjcabGreatDoorW.PrintLast Go.Proofs.YtflacbjpeecjcabGreatDoorW.PrintMore
namespace Go.Proofs.YtflacbjpeecjcabGreatDoor.F
theorem aZ_ {p:Prop} (h:p):Aside0 p:=⟨h⟩
theorem pZ_ {P:Program} {ops:Array Oper} {Q:Exit → Act → World → Prop} {md:Region.Mode} {S:World → Prop} {ds:List Nat} {oi:Oper} {v:Value} {fuel:Nat} {l:Array Bool} {a:Act} {w:World} (i:Nat) (N:Option Tmp) (l':Array Bool) {a':Act} (h:wpAnyLast P md ops Q S ds fuel l' a' w) (hi:ops[i]? = some oi:=by rfl) (hN:oi.dst = N:=by rfl) (hc:anyB md ops l l' i = true:=by first | exact any_of HT_.out (by kernel_rfl) | kernel_rfl) (hw:Region.wanted oi (yielded ops a.tmps) = true:=by rfl) (hy:∀ w,Sem.run P (execOp a.eval oi) w = Result.ok (Next.value v) w:=by (intro w';go_simp;first | done | with_reducible rfl)) (hQ:∀ (c:List PanicEntry) (a:Act) (w:World),Q (Exit.panic c) (a.put oi.dst v) w → Q (Exit.panic c) a w:=by exact fun _ _ _ h=>h) (ha:a.put N v = a':=by (simp only [Act.put,List.setIfInBounds_toArray,List.set_cons_zero,List.set_cons_succ,i64_w,i32_w];rfl)):wpAnyLast P md ops Q S ds (fuel + 1) l a w:=pure_ l' hi hN hc hQ (Or.inl ⟨hw,hy⟩) ha h
theorem oZ_ {P:Program} {ops:Array Oper} {Q:Exit → Act → World → Prop} {md:Region.Mode} {S:World → Prop} {ds:List Nat} {oi:Oper} {v:Value} {fuel:Nat} {l:Array Bool} {a:Act} {w:World} (i:Nat) (N:Option Tmp) (l':Array Bool) {a':Act} (h:wpAnyLast P md ops Q S ds fuel l' a' w) (hv:v = undef:=by rfl) (hi:ops[i]? = some oi:=by rfl) (hN:oi.dst = N:=by rfl) (hc:anyB md ops l l' i = true:=by first | exact any_of HT_.out (by kernel_rfl) | kernel_rfl) (hw:Region.wanted oi (yielded ops a.tmps) = false:=by rfl) (hQ:∀ (c:List PanicEntry) (a:Act) (w:World),Q (Exit.panic c) (a.put oi.dst v) w → Q (Exit.panic c) a w:=by exact fun _ _ _ h=>h) (ha:a.put N v = a':=by (simp only [Act.put,List.setIfInBounds_toArray,List.set_cons_zero,List.set_cons_succ,i64_w,i32_w];rfl)):wpAnyLast P md ops Q S ds (fuel + 1) l a w:=pure_ l' hi hN hc hQ (Or.inr ⟨hw,hv⟩) ha h
theorem tZ2_ {P:Program} {ops:Array Oper} {Q:Exit → Act → World → Prop} {md:Region.Mode} {S:World → Prop} {ds:List Nat} {oi:Oper} {v:Value} {fuel:Nat} {l:Array Bool} {a:Act} {w:World} (i:Nat) (N:Option Tmp) (l':Array Bool) (hS:S w) {a':Act} (h:wpAnyLast P md ops Q S ds fuel l' a' w) (hi:ops[i]? = some oi:=by rfl) (hN:oi.dst = N:=by rfl) (hc:takeB md ops ds l l' i = true:=by first | exact take_ofW HT_.out HW_.out (by kernel_rfl) | kernel_rfl) (hw:Region.wanted oi (yielded ops a.tmps) = true:=by rfl) (hy:∀ w,S w → Sem.run P (execOp a.eval oi) w = Result.ok (Next.value v) w:=by (rintro w' ⟨s0,s1⟩;go_simp;first | done | with_reducible rfl)) (hQ:∀ (c:List PanicEntry) (a:Act) (w:World),Q (Exit.panic c) (a.put oi.dst v) w → Q (Exit.panic c) a w:=by exact fun _ _ _ h=>h) (ha:a.put N v = a':=by (simp only [Act.put,List.setIfInBounds_toArray,List.set_cons_zero,List.set_cons_succ,i64_w,i32_w];rfl)):wpAnyLast P md ops Q S ds (fuel + 1) l a w:=take_ l' hi hN hc hQ (Or.inl ⟨hw,hy⟩) hS ha h
theorem tZ3_ {P:Program} {ops:Array Oper} {Q:Exit → Act → World → Prop} {md:Region.Mode} {S:World → Prop} {ds:List Nat} {oi:Oper} {v:Value} {fuel:Nat} {l:Array Bool} {a:Act} {w:World} (i:Nat) (N:Option Tmp) (l':Array Bool) (hS:S w) {a':Act} (h:wpAnyLast P md ops Q S ds fuel l' a' w) (hi:ops[i]? = some oi:=by rfl) (hN:oi.dst = N:=by rfl) (hc:takeB md ops ds l l' i = true:=by first | exact take_ofW HT_.out HW_.out (by kernel_rfl) | kernel_rfl) (hw:Region.wanted oi (yielded ops a.tmps) = true:=by rfl) (hy:∀ w,S w → Sem.run P (execOp a.eval oi) w = Result.ok (Next.value v) w:=by (rintro w' ⟨s0,s1,s2⟩;go_simp;first | done | with_reducible rfl)) (hQ:∀ (c:List PanicEntry) (a:Act) (w:World),Q (Exit.panic c) (a.put oi.dst v) w → Q (Exit.panic c) a w:=by exact fun _ _ _ h=>h) (ha:a.put N v = a':=by (simp only [Act.put,List.setIfInBounds_toArray,List.set_cons_zero,List.set_cons_succ,i64_w,i32_w];rfl)):wpAnyLast P md ops Q S ds (fuel + 1) l a w:=take_ l' hi hN hc hQ (Or.inl ⟨hw,hy⟩) hS ha h
theorem tZ4_ {P:Program} {ops:Array Oper} {Q:Exit → Act → World → Prop} {md:Region.Mode} {S:World → Prop} {ds:List Nat} {oi:Oper} {v:Value} {fuel:Nat} {l:Array Bool} {a:Act} {w:World} (i:Nat) (N:Option Tmp) (l':Array Bool) (hS:S w) {a':Act} (h:wpAnyLast P md ops Q S ds fuel l' a' w) (hi:ops[i]? = some oi:=by rfl) (hN:oi.dst = N:=by rfl) (hc:takeB md ops ds l l' i = true:=by first | exact take_ofW HT_.out HW_.out (by kernel_rfl) | kernel_rfl) (hw:Region.wanted oi (yielded ops a.tmps) = true:=by rfl) (hy:∀ w,S w → Sem.run P (execOp a.eval oi) w = Result.ok (Next.value v) w:=by (rintro w' ⟨s0,s1,s2,s3⟩;go_simp;first | done | with_reducible rfl)) (hQ:∀ (c:List PanicEntry) (a:Act) (w:World),Q (Exit.panic c) (a.put oi.dst v) w → Q (Exit.panic c) a w:=by exact fun _ _ _ h=>h) (ha:a.put N v = a':=by (simp only [Act.put,List.setIfInBounds_toArray,List.set_cons_zero,List.set_cons_succ,i64_w,i32_w];rfl)):wpAnyLast P md ops Q S ds (fuel + 1) l a w:=take_ l' hi hN hc hQ (Or.inl ⟨hw,hy⟩) hS ha h
theorem tZ5_ {P:Program} {ops:Array Oper} {Q:Exit → Act → World → Prop} {md:Region.Mode} {S:World → Prop} {ds:List Nat} {oi:Oper} {v:Value} {fuel:Nat} {l:Array Bool} {a:Act} {w:World} (i:Nat) (N:Option Tmp) (l':Array Bool) (hS:S w) {a':Act} (h:wpAnyLast P md ops Q S ds fuel l' a' w) (hi:ops[i]? = some oi:=by rfl) (hN:oi.dst = N:=by rfl) (hc:takeB md ops ds l l' i = true:=by first | exact take_ofW HT_.out HW_.out (by kernel_rfl) | kernel_rfl) (hw:Region.wanted oi (yielded ops a.tmps) = true:=by rfl) (hy:∀ w,S w → Sem.run P (execOp a.eval oi) w = Result.ok (Next.value v) w:=by (rintro w' ⟨s0,s1,s2,s3,s4⟩;go_simp;first | done | with_reducible rfl)) (hQ:∀ (c:List PanicEntry) (a:Act) (w:World),Q (Exit.panic c) (a.put oi.dst v) w → Q (Exit.panic c) a w:=by exact fun _ _ _ h=>h) (ha:a.put N v = a':=by (simp only [Act.put,List.setIfInBounds_toArray,List.set_cons_zero,List.set_cons_succ,i64_w,i32_w];rfl)):wpAnyLast P md ops Q S ds (fuel + 1) l a w:=take_ l' hi hN hc hQ (Or.inl ⟨hw,hy⟩) hS ha h
theorem tZ6_ {P:Program} {ops:Array Oper} {Q:Exit → Act → World → Prop} {md:Region.Mode} {S:World → Prop} {ds:List Nat} {oi:Oper} {v:Value} {fuel:Nat} {l:Array Bool} {a:Act} {w:World} (i:Nat) (N:Option Tmp) (l':Array Bool) (hS:S w) {a':Act} (h:wpAnyLast P md ops Q S ds fuel l' a' w) (hi:ops[i]? = some oi:=by rfl) (hN:oi.dst = N:=by rfl) (hc:takeB md ops ds l l' i = true:=by first | exact take_ofW HT_.out HW_.out (by kernel_rfl) | kernel_rfl) (hw:Region.wanted oi (yielded ops a.tmps) = true:=by rfl) (hy:∀ w,S w → Sem.run P (execOp a.eval oi) w = Result.ok (Next.value v) w:=by (rintro w' ⟨s0,s1,s2,s3,s4,s5⟩;go_simp;first | done | with_reducible rfl)) (hQ:∀ (c:List PanicEntry) (a:Act) (w:World),Q (Exit.panic c) (a.put oi.dst v) w → Q (Exit.panic c) a w:=by exact fun _ _ _ h=>h) (ha:a.put N v = a':=by (simp only [Act.put,List.setIfInBounds_toArray,List.set_cons_zero,List.set_cons_succ,i64_w,i32_w];rfl)):wpAnyLast P md ops Q S ds (fuel + 1) l a w:=take_ l' hi hN hc hQ (Or.inl ⟨hw,hy⟩) hS ha h
theorem gZ_ {P:Program} {ops:Array Oper} {Q:Exit → Act → World → Prop} {oi:Oper} {N:Option Tmp} {a:Act} {w:World} {K:Act → World → Prop} {f:FuncId} {fn:Func} {as_:Array Operand} {ts:Array TypeId} (hf:P.funcs[f]? = some fn) (args:Array Value) (h:Calls P f args w fun e w'=>∃ v,e = Ending.returned v ∧ K (a.put N v) w') (hn:(fn.name == "runtime.NumGoroutine") = false:=by kernel_rfl) (hb:fn.body.isSome = true:=by rfl) (hw:Region.wanted oi (yielded ops a.tmps) = true:=by rfl) (hN:oi.dst = N:=by rfl) (hop:oi.op = .call { callee:=.value (.func f),args:=as_,argTypes:=ts }:=by rfl) (hargs:as_.map a.eval = args:=by (try simp only [List.map_toArray,List.map_cons,List.map_nil]);first | done | rfl | (simp only [List.length_drop,List.length_take];rfl)):if Region.wanted oi (yielded ops a.tmps) = true then Oper.wp P oi a w K Q else K (a.put N undef) w:=goes_ hf hn hb args hw hN hop hargs h
theorem bc2_ {w:World} {g:Nat} {t:TypeId} {a b:Value} (h:w.heap[g]? = some (.cells #[a,b] t (0,0))):(w.cell? ⟨g,0,none⟩ = some a ∧ w.cell? ⟨g,1,none⟩ = some b) ∧ w.frozen? ⟨g,0,none⟩ = false ∧ w.frozen? ⟨g,1,none⟩ = false:=⟨⟨(blk_cell h 0).trans rfl,(blk_cell h 1).trans rfl⟩,blk_frozen h 0,blk_frozen h 1⟩
theorem bc3_ {w:World} {g:Nat} {t:TypeId} {a b c:Value} (h:w.heap[g]? = some (.cells #[a,b,c] t (0,0))):(w.cell? ⟨g,0,none⟩ = some a ∧ w.cell? ⟨g,1,none⟩ = some b ∧ w.cell? ⟨g,2,none⟩ = some c) ∧ w.frozen? ⟨g,0,none⟩ = false ∧ w.frozen? ⟨g,1,none⟩ = false ∧ w.frozen? ⟨g,2,none⟩ = false:=⟨⟨(blk_cell h 0).trans rfl,(blk_cell h 1).trans rfl,(blk_cell h 2).trans rfl⟩,blk_frozen h 0,blk_frozen h 1,blk_frozen h 2⟩
def bL:Nat → Nat → List Bool
 | 0,_=>[]
 | n + 1,v=>(v % 2 == 1) :: bL n (v / 2)
def bA (n v:Nat):Array Bool:=⟨bL n v⟩
theorem nZ_ {P:Program} {ops:Array Oper} {Q:Exit → Act → World → Prop} {md:Region.Mode} {S:World → Prop} {ds:List Nat} {v:Value} {fuel:Nat} {l:Array Bool} {a a':Act} {w:World} (N:Option Tmp) (h:wpAnyLast P md ops Q S ds fuel l a' w) (ha:a.put N v = a':=by (simp only [Act.put,List.setIfInBounds_toArray,List.set_cons_zero,List.set_cons_succ,i64_w,i32_w];rfl)):wpAnyLast P md ops Q S ds fuel l (a.put N v) w:=norm_ ha h
theorem T1_ {p:Prop} (h:p:=by repeat (first | (with_reducible first | exact HB.out | apply below_alloc | apply pw_below_drewN | apply below_drew1 | refine below_set ?_ GE101.out) | exact HB.out)):p:=h
theorem T2_ {p:Prop} (h:p:=by repeat (first | (with_reducible first | exact HB.out | apply below_alloc | apply pw_below_drewN | apply below_drew1) | exact HB.out)):p:=h
theorem T3_ {p:Prop} (h:p:=by rw [hg];exact (below_size (by repeat (first | (with_reducible first | exact HB.out | apply below_alloc | apply pw_below_drewN | apply below_drew1) | exact HB.out)))):p:=h
theorem T4_ {p:Prop} (h:p:=by (try simp only [List.map_toArray,List.map_cons,List.map_nil]);first | done | rfl | (simp only [List.length_drop,List.length_take];rfl)):p:=h
theorem T5_ {p:Prop} (h:p:=by (with_reducible repeat (first | refine blk_drewN ?_ _ | refine blk_drew ?_ | refine blk_alloc ?_ _));exact BK101.out):p:=h
theorem T6_ {p:Prop} (h:p:=by first | with_reducible rfl | (rw [if_neg (by have z1_:(⟨#[32]⟩:ByteArray).size = 1:=rfl;have z2_:(⟨#[44]⟩:ByteArray).size = 1:=rfl;have z3_:(⟨#[97,98,99,100,101]⟩:ByteArray).size = 5:=rfl;simp only [decide_eq_true_eq,ByteArray.size_extract,ByteArray.size_append] at *;omega)])):p:=h
theorem T7_ {p:Prop} (h:p:=by first | exact ⟨rfl,_,World.drewN_drewN _ _ _⟩ | exact ⟨rfl,_,Eq.trans (World.drewN_drewN _ _ _) (congrArg (World.drewN _) (Nat.add_assoc _ _ _))⟩):p:=h
theorem T8_ {p:Prop} (h:p:=by repeat (first | (with_reducible first | exact HI110.out | apply IsS93.alloc | apply IsS93.drewN | apply IsS93.drew | apply IsS93.set_1 | apply IsS93.set_2 | refine IsS93.far ?_ NB110_106.out _) | exact HI110.out)):p:=h
theorem T9_ {p:Prop} (h:p:=by repeat (first | (with_reducible first | exact HI0.out | apply IsS93.alloc | apply IsS93.drewN | apply IsS93.drew | apply IsS93.set_1 | apply IsS93.set_2 | refine IsS93.far ?_ NB0_101.out _) | exact HI0.out)):p:=h
theorem T10_ {p:Prop} (h:p:=by repeat (first | (with_reducible first | exact HB.out | apply below_alloc | apply pw_below_drewN | apply below_drew1 | refine below_set ?_ (IsS93.ge HI0.out) | refine below_set ?_ GE101.out) | exact HB.out)):p:=h
theorem T11_ {p:Prop} (h:p:=by first | rfl | (simp;done) | (simp [*];done)):p:=h
theorem T12_ {p:Prop} (h:p:=by repeat (first | (with_reducible first | exact HK.out | apply KeepBut.set_ | apply keep_drewN | apply keep_drew | apply keep_alloc | refine keep_far ?_ GW101.out _) | exact HK.out)):p:=h
theorem T13_ {p:Prop} (h:p:=by first | rfl | (simp [errW_none,errW_some] <;> rfl) | (simp [*,errW_none,errW_some] <;> rfl)):p:=h
theorem T14_ {p:Prop} (h:p:=by first | (with_reducible assumption) | assumption):p:=h
theorem T15_ {p:Prop} (h:p:=by repeat (first | exact (Kd.C_below HR1.out HB.out) | (with_reducible refine Kd.C_alloc ?_ _) | (with_reducible refine Kd.C_drewN ?_ _) | (with_reducible refine Kd.C_drew ?_))):p:=h
theorem T16_ {p:Prop} (h:p:=by repeat (first | (with_reducible first | exact HB.out | apply below_alloc | apply pw_below_drewN | apply below_drew1 | refine below_set ?_ (IsS93.ge HI110.out) | refine below_set ?_ GE106.out) | exact HB.out)):p:=h
theorem T17_ {p:Prop} (h:p:=by (with_reducible repeat (first | refine blk_drewN ?_ _ | refine blk_drew ?_ | refine blk_alloc ?_ _));refine blk_put (cs:=#[.int .i64 a1,.int .i64 0]) ?_ 1 _ rfl;(with_reducible repeat (first | refine blk_drewN ?_ _ | refine blk_drew ?_ | refine blk_alloc ?_ _));refine blk_put (cs:=#[.int .i64 0,.int .i64 0]) ?_ 0 _ rfl;(with_reducible repeat (first | refine blk_drewN ?_ _ | refine blk_drew ?_ | refine blk_alloc ?_ _));exact BK101.out):p:=h
theorem T18_ {p:Prop} (h:p:=by repeat (first | (with_reducible first | exact HB.out | apply below_alloc | apply pw_below_drewN | apply below_drew1 | refine below_set ?_ (IsS93.ge HI0.out)) | exact HB.out)):p:=h
theorem T19_ {p:Prop} (h:p:=by first | (go_simp;done) | (go_simp;rfl)):p:=h
theorem T20_ {p:Prop} (h:p:=by repeat (first | (with_reducible first | exact HI0.out | apply IsS93.alloc | apply IsS93.drewN | apply IsS93.drew | apply IsS93.set_1 | apply IsS93.set_2) | exact HI0.out)):p:=h
theorem T21_ {p:Prop} (h:p:=by rw [hg];exact (keep_size (w:=w) (g:=g) (row:=none) (by repeat (first | (with_reducible first | exact HK.out | apply KeepBut.set_ | apply keep_drewN | apply keep_drew | apply keep_alloc) | exact HK.out)))):p:=h
theorem T22_ {p:Prop} (h:p:=by kernel_rfl):p:=h
theorem T23_ {p:Prop} (h:p:=by repeat (first | (with_reducible first | exact HK.out | apply Kept.alloc | apply Kept.drewN | apply Kept.drew | refine Kept.setCell ?_ (.inr GW101.out) _) | exact HK.out)):p:=h
theorem T24_ {p:Prop} (h:p:=by repeat (first | (with_reducible first | exact HK.out | apply KeepBut.set_ | apply keep_drewN | apply keep_drew | apply keep_alloc) | exact HK.out)):p:=h
theorem T25_ {p:Prop} (h:p:=by repeat (first | (with_reducible first | exact HB.out | apply below_alloc | apply pw_below_drewN | apply below_drew1 | refine below_set ?_ GE104.out) | exact HB.out)):p:=h
theorem T26_ {p:Prop} (h:p:=by repeat (first | (with_reducible first | exact HI0.out | apply IsS93.alloc | apply IsS93.drewN | apply IsS93.drew | apply IsS93.set_1 | apply IsS93.set_2 | refine IsS93.far ?_ NB0_101.out _ | refine IsS93.far ?_ NB0_109.out _) | exact HI0.out)):p:=h
theorem T27_ {p:Prop} (h:p:=by rw [← hq_];exact (by repeat (first | (with_reducible first | exact HI0.out | apply IsS93.alloc | apply IsS93.drewN | apply IsS93.drew | apply IsS93.set_1 | apply IsS93.set_2 | refine IsS93.far ?_ NB0_101.out _) | exact HI0.out))):p:=h
theorem T28_ {p:Prop} (h:p:=by rw [← hq_];exact (by repeat (first | (with_reducible first | exact HB.out | apply below_alloc | apply pw_below_drewN | apply below_drew1 | refine below_set ?_ (IsS93.ge HI0.out) | refine below_set ?_ GE101.out) | exact HB.out))):p:=h
theorem T29_ {p:Prop} (h:p:=by repeat (first | exact Drawn0.refl _ | apply Drawn0.step)):p:=h
theorem T30_ {p:Prop} (h:p:=by repeat (first | (with_reducible first | exact HB.out | apply below_alloc | apply pw_below_drewN | apply below_drew1 | refine below_set ?_ (IsS93.ge HI105.out) | refine below_set ?_ GE101.out | refine below_set ?_ GE110.out) | exact HB.out)):p:=h
theorem T31_ {p:Prop} (h:p:=by repeat (first | (with_reducible first | exact HB.out | apply below_alloc | apply pw_below_drewN | apply below_drew1 | refine below_set ?_ GE103.out) | exact HB.out)):p:=h
theorem T32_ {p:Prop} (h:p:=by repeat (first | (with_reducible first | exact HK.out | apply KeepBut.set_ | apply keep_drewN | apply keep_drew | apply keep_alloc | refine keep_far ?_ GW101.out _ | refine keep_far ?_ GW109.out _) | exact HK.out)):p:=h
theorem T33_ {p:Prop} (h:p:=by rw [← hq_];exact (by repeat (first | (with_reducible first | exact HK.out | apply KeepBut.set_ | apply keep_drewN | apply keep_drew | apply keep_alloc | refine keep_far ?_ GW101.out _) | exact HK.out))):p:=h
theorem T34_ {p:Prop} (h:p:=by repeat (first | (with_reducible first | exact HB.out | apply below_alloc | apply pw_below_drewN | apply below_drew1 | refine below_set ?_ (IsS93.ge HI0.out) | refine below_set ?_ GE101.out | refine below_set ?_ GE109.out) | exact HB.out)):p:=h
theorem T35_ {p:Prop} (h:p:=by rw [hg];exact Nat.ne_of_lt (IsS93.lt (show IsS93 w0 _ g s0_0 s0_1 s0_2 from (by repeat (first | (with_reducible first | exact HI0.out | apply IsS93.alloc | apply IsS93.drewN | apply IsS93.drew | apply IsS93.set_1 | apply IsS93.set_2) | exact HI0.out))))):p:=h
theorem T36_ {p:Prop} (h:p:=by rw [hg];exact Nat.ne_of_gt (IsS93.lt (show IsS93 w0 _ g s0_0 s0_1 s0_2 from (by repeat (first | (with_reducible first | exact HI0.out | apply IsS93.alloc | apply IsS93.drewN | apply IsS93.drew | apply IsS93.set_1 | apply IsS93.set_2) | exact HI0.out))))):p:=h
theorem T37_ {p:Prop} (h:p:=by (with_reducible repeat (first | apply Kd.R_alloc | apply Kd.R_drewN | apply Kd.R_drew));exact HO_5.out):p:=h
theorem T38_ {p:Prop} (h:p:=by first | exact HK.out.1 | exact (show Kept w _ (fun k_=>P5_ k_ ∨ P6_ k_) from (by repeat (first | (with_reducible first | exact HK.out | apply Kept.alloc | apply Kept.drewN | apply Kept.drew | refine Kept.setCell ?_ (.inr GW101.out) _) | exact HK.out))).1):p:=h
theorem T39_ {p:Prop} (h:p:=by repeat (first | (with_reducible first | exact HI105.out | apply IsS93.alloc | apply IsS93.drewN | apply IsS93.drew | apply IsS93.set_1 | apply IsS93.set_2 | refine IsS93.far ?_ NB105_101.out _ | refine IsS93.far ?_ NB105_110.out _) | exact HI105.out)):p:=h
theorem T40_ {p:Prop} (h:p:=by (with_reducible repeat (first | refine blk_drewN ?_ _ | refine blk_drew ?_ | refine blk_alloc ?_ _));exact BK106.out):p:=h
theorem T41_ {p:Prop} (h:p:=by repeat (first | (with_reducible first | exact HB.out | apply below_alloc | apply pw_below_drewN | apply below_drew1 | refine below_set ?_ GE102.out) | exact HB.out)):p:=h
theorem T42_ {p:Prop} (h:p:=by repeat (first | exact HR0.out | (with_reducible refine Kd.C_alloc ?_ _) | (with_reducible refine Kd.C_drewN ?_ _) | (with_reducible refine Kd.C_drew ?_))):p:=h
theorem T43_ {p:Prop} (h:p:=by (with_reducible repeat (first | refine blk_drewN ?_ _ | refine blk_drew ?_ | refine blk_alloc ?_ _));refine blk_put (cs:=#[.int .i64 t106,.int .i64 0]) ?_ 1 _ rfl;(with_reducible repeat (first | refine blk_drewN ?_ _ | refine blk_drew ?_ | refine blk_alloc ?_ _));refine blk_put (cs:=#[.int .i64 0,.int .i64 0]) ?_ 0 _ rfl;(with_reducible repeat (first | refine blk_drewN ?_ _ | refine blk_drew ?_ | refine blk_alloc ?_ _));exact BK101.out):p:=h
theorem T44_ {p:Prop} (h:p:=by rw [← hq_];exact (by (with_reducible repeat (first | refine blk_drewN ?_ _ | refine blk_drew ?_ | refine blk_alloc ?_ _));exact BK101.out)):p:=h
theorem T45_ {p:Prop} (h:p:=by repeat (first | (with_reducible first | exact HB.out | apply below_alloc | apply pw_below_drewN | apply below_drew1 | refine below_set ?_ (IsS93.ge HI105.out) | refine below_set ?_ GE101.out) | exact HB.out)):p:=h
theorem T46_ {p:Prop} (h:p:=by rw [hg];exact Nat.ne_of_lt (blk_lt (g:=gb101) (o:=.cells #[.int .i64 0,.int .i64 0] 25 (0,0)) (by (with_reducible repeat (first | refine blk_drewN ?_ _ | refine blk_drew ?_ | refine blk_alloc ?_ _));exact BK101.out))):p:=h
theorem T47_ {p:Prop} (h:p:=by rw [hg];exact Nat.ne_of_gt (blk_lt (g:=gb101) (o:=.cells #[.int .i64 0,.int .i64 0] 25 (0,0)) (by (with_reducible repeat (first | refine blk_drewN ?_ _ | refine blk_drew ?_ | refine blk_alloc ?_ _));exact BK101.out))):p:=h
theorem T48_ {p:Prop} (h:p:=by (with_reducible repeat (first | apply Kd.R_alloc | apply Kd.R_drewN | apply Kd.R_drew));exact HO_7.out):p:=h
theorem T49_ {p:Prop} (h:p:=by repeat (first | (with_reducible first | exact HI105.out | apply IsS93.alloc | apply IsS93.drewN | apply IsS93.drew | apply IsS93.set_1 | apply IsS93.set_2 | refine IsS93.far ?_ NB105_101.out _) | exact HI105.out)):p:=h
theorem T50_ {p:Prop} (h:p:=by rw [hg];exact (keep_size (w:=w) (g:=g) (row:=none) (by repeat (first | (with_reducible first | exact HK.out | apply KeepBut.set_ | apply keep_drewN | apply keep_drew | apply keep_alloc | refine keep_far ?_ GW101.out _) | exact HK.out)))):p:=h
theorem T51_ {p:Prop} (h:p:=by rw [hg];exact (below_size (by repeat (first | (with_reducible first | exact HB.out | apply below_alloc | apply pw_below_drewN | apply below_drew1 | refine below_set ?_ (IsS93.ge HI105.out) | refine below_set ?_ GE101.out) | exact HB.out)))):p:=h
theorem T52_ {p:Prop} (h:p:=by (with_reducible repeat (first | refine blk_drewN ?_ _ | refine blk_drew ?_ | refine blk_alloc ?_ _));refine blk_put (cs:=#[.int .i64 t105,.int .i64 0]) ?_ 1 _ rfl;(with_reducible repeat (first | refine blk_drewN ?_ _ | refine blk_drew ?_ | refine blk_alloc ?_ _));refine blk_put (cs:=#[.int .i64 0,.int .i64 0]) ?_ 0 _ rfl;(with_reducible repeat (first | refine blk_drewN ?_ _ | refine blk_drew ?_ | refine blk_alloc ?_ _));exact BK109.out):p:=h
theorem T53_ {p:Prop} (h:p:=by (with_reducible repeat (first | refine blk_drewN ?_ _ | refine blk_drew ?_ | refine blk_alloc ?_ _));refine blk_put (cs:=#[.int .i64 t106,.int .i64 0]) ?_ 1 _ rfl;(with_reducible repeat (first | refine blk_drewN ?_ _ | refine blk_drew ?_ | refine blk_alloc ?_ _));refine blk_put (cs:=#[.int .i64 0,.int .i64 0]) ?_ 0 _ rfl;(with_reducible repeat (first | refine blk_drewN ?_ _ | refine blk_drew ?_ | refine blk_alloc ?_ _));exact BK110.out):p:=h
theorem T54_ {p:Prop} (h:p:=by (with_reducible repeat (first | refine blk_drewN ?_ _ | refine blk_drew ?_ | refine blk_alloc ?_ _));refine blk_put (cs:=#[.int .i64 t101,.int .i64 0]) ?_ 1 _ rfl;(with_reducible repeat (first | refine blk_drewN ?_ _ | refine blk_drew ?_ | refine blk_alloc ?_ _));refine blk_put (cs:=#[.int .i64 0,.int .i64 0]) ?_ 0 _ rfl;(with_reducible repeat (first | refine blk_drewN ?_ _ | refine blk_drew ?_ | refine blk_alloc ?_ _));exact BK106.out):p:=h
theorem T55_ {p:Prop} (h:p:=by decide):p:=h
theorem T56_ {p:Prop} (h:p:=by (with_reducible repeat (first | refine blk_drewN ?_ _ | refine blk_drew ?_ | refine blk_alloc ?_ _));refine blk_far ?_ NB101_109.out _;(with_reducible repeat (first | refine blk_drewN ?_ _ | refine blk_drew ?_ | refine blk_alloc ?_ _));refine blk_far ?_ NB101_109.out _;(with_reducible repeat (first | refine blk_drewN ?_ _ | refine blk_drew ?_ | refine blk_alloc ?_ _));exact BK101.out):p:=h
theorem T57_ {p:Prop} (h:p:=by (with_reducible repeat (first | refine blk_drewN ?_ _ | refine blk_drew ?_ | refine blk_alloc ?_ _));refine blk_far ?_ NB101_110.out _;(with_reducible repeat (first | refine blk_drewN ?_ _ | refine blk_drew ?_ | refine blk_alloc ?_ _));refine blk_far ?_ NB101_110.out _;(with_reducible repeat (first | refine blk_drewN ?_ _ | refine blk_drew ?_ | refine blk_alloc ?_ _));exact BK101.out):p:=h
theorem T58_ {p:Prop} (h:p:=by repeat (first | (with_reducible exact HR112_0.out) | (with_reducible refine Kd.C_alloc ?_ _) | (with_reducible refine Kd.C_drewN ?_ _) | (with_reducible refine Kd.C_drew ?_) | exact HR112_0.out)):p:=h
theorem T59_ {p:Prop} (h:p:=by (try simp only [List.map_toArray,List.map_cons,List.map_nil]);first | done | (simp only [hji16];rfl) | rfl | (simp only [List.length_drop,List.length_take];rfl)):p:=h
theorem T60_ {p:Prop} (h:p:=by (with_reducible repeat (first | apply Kd.R_alloc | apply Kd.R_drewN | apply Kd.R_drew));exact HO5.out):p:=h
theorem T61_ {p:Prop} (h:p:=by (with_reducible repeat (first | apply Kd.R_alloc | apply Kd.R_drewN | apply Kd.R_drew));exact HO6.out):p:=h
theorem T62_ {p:Prop} (h:p:=by repeat (first | (with_reducible first | exact Below.refl _ _ | apply below_alloc | apply pw_below_drewN | apply below_drew1) | exact Below.refl _ _)):p:=h
theorem T63_ {p:Prop} (h:p:=by repeat (first | exact (Kd.C_below HR1.out (by repeat (first | (with_reducible first | exact HB.out | apply below_alloc | apply pw_below_drewN | apply below_drew1 | refine below_set ?_ GE104.out) | exact HB.out))) | (with_reducible refine Kd.C_alloc ?_ _) | (with_reducible refine Kd.C_drewN ?_ _) | (with_reducible refine Kd.C_drew ?_))):p:=h
theorem T64_ {p:Prop} (h:p:=by simp):p:=h
theorem T65_ {p:Prop} (h:p:=by rw [hg];exact Nat.ne_of_lt (IsS93.lt (show IsS93 w _ g105 t102 t108 t109 from (by repeat (first | (with_reducible first | exact HI105.out | apply IsS93.alloc | apply IsS93.drewN | apply IsS93.drew | apply IsS93.set_1 | apply IsS93.set_2 | refine IsS93.far ?_ NB105_101.out _) | exact HI105.out))))):p:=h
theorem T66_ {p:Prop} (h:p:=by rw [hg];exact Nat.ne_of_gt (IsS93.lt (show IsS93 w _ g105 t102 t108 t109 from (by repeat (first | (with_reducible first | exact HI105.out | apply IsS93.alloc | apply IsS93.drewN | apply IsS93.drew | apply IsS93.set_1 | apply IsS93.set_2 | refine IsS93.far ?_ NB105_101.out _) | exact HI105.out))))):p:=h
theorem T67_ {p:Prop} (h:p:=by rw [hg];exact Nat.ne_of_lt (IsS93.lt (show IsS93 w0 _ g s0_0 t107 t108 from (by repeat (first | (with_reducible first | exact HI0.out | apply IsS93.alloc | apply IsS93.drewN | apply IsS93.drew | apply IsS93.set_1 | apply IsS93.set_2 | refine IsS93.far ?_ NB0_101.out _) | exact HI0.out))))):p:=h
theorem T68_ {p:Prop} (h:p:=by rw [hg];exact Nat.ne_of_gt (IsS93.lt (show IsS93 w0 _ g s0_0 t107 t108 from (by repeat (first | (with_reducible first | exact HI0.out | apply IsS93.alloc | apply IsS93.drewN | apply IsS93.drew | apply IsS93.set_1 | apply IsS93.set_2 | refine IsS93.far ?_ NB0_101.out _) | exact HI0.out))))):p:=h
theorem T69_ {p:Prop} (h:p:=by simp only [putAll,Act.put,List.setIfInBounds_toArray,List.set_cons_zero,List.set_cons_succ]):p:=h
theorem T70_ {p:Prop} (h:p:=by have:=HKN.out;have:=HPL.out;have:=HX.out;have:=HN.out;(try simp only [List.length_nil,List.length_append,List.length_take,List.length_singleton]);omega):p:=h
theorem T71_ {p:Prop} (h:p:=by (try simp only [List.map_toArray,List.map_cons,List.map_nil]);first | done | (simp only [hji5];rfl) | rfl | (simp only [List.length_drop,List.length_take];rfl)):p:=h
theorem T72_ {p:Prop} (h:p:=by (with_reducible repeat (first | apply Kd.N_alloc | apply Kd.N_drewN | apply Kd.N_drew));exact HO_5.out):p:=h
theorem T73_ {p:Prop} (h:p:=by omega):p:=h
theorem T74_ {p:Prop} (h:p:=by rw [hg];exact (below_size (by repeat (first | (with_reducible first | exact HB.out | apply below_alloc | apply pw_below_drewN | apply below_drew1 | refine below_set ?_ GE101.out) | exact HB.out)))):p:=h
theorem T75_ {p:Prop} (h:p:=by (try simp only [List.map_toArray,List.map_cons,List.map_nil]);first | done | rfl):p:=h
theorem T76_ {p:Prop} (h:p:=by rw [hg];exact (by first | exact HK.out.1 | exact (show Kept w _ (fun k_=>P5_ k_ ∨ P6_ k_) from (by repeat (first | (with_reducible first | exact HK.out | apply Kept.alloc | apply Kept.drewN | apply Kept.drew) | exact HK.out))).1)):p:=h
theorem T77_ {p:Prop} (h:p:=by repeat (first | exact (by repeat (first | (with_reducible exact HR114_0.out) | (with_reducible refine Kd.C_alloc ?_ _) | (with_reducible refine Kd.C_drewN ?_ _) | (with_reducible refine Kd.C_drew ?_) | exact HR114_0.out)) | (with_reducible refine Kd.C_alloc ?_ _) | (with_reducible refine Kd.C_drewN ?_ _) | (with_reducible refine Kd.C_drew ?_))):p:=h
theorem T78_ {p:Prop} (h:p:=by first | rfl | (simp [errW_none,errW_some] <;> rfl) | (simp only [← hji19];first | rfl | (simp [errW_none,errW_some] <;> rfl)) | (simp [*,errW_none,errW_some] <;> rfl)):p:=h
theorem T79_ {p:Prop} (h:p:=by rw [hg];exact (below_size (by repeat (first | (with_reducible first | exact HBW.out | apply below_alloc | apply pw_below_drewN | apply below_drew1) | exact HBW.out)))):p:=h
theorem T80_ {p:Prop} (h:p:=by repeat (first | exact HR1.out | (with_reducible refine Kd.C_alloc ?_ _) | (with_reducible refine Kd.C_drewN ?_ _) | (with_reducible refine Kd.C_drew ?_))):p:=h
theorem T81_ {p:Prop} (h:p:=by have he_:=enters_ Tryz.func40 (by kernel_rfl) rfl #[.agg #[.int .i64 m0,.int .i64 m1,.int .i64 m2],.pointer (some ⟨w.heap.size,0,none⟩)] W0_;unfold execOp;first | (simp [resolve,Deferred.ofValue,invoke,Act.eval];done) | (simp [resolve,Deferred.ofValue,invoke,Act.eval,he_];done)):p:=h
theorem T82_ {p:Prop} (h:p:=by (with_reducible repeat (first | refine blk_drewN ?_ _ | refine blk_drew ?_ | refine blk_alloc ?_ _));exact BK102.out):p:=h
theorem T83_ {p:Prop} (h:p:=by first | exact Kd.R_nil _ _ _ _ _ | exact Kd.N_nil _ _ _ _ _ | exact Kd.V_nil _ _ _ _ _ | exact Kd.Q_nil _ _ _ _ _ | exact Kd.S_nil _ _ _ _ _):p:=h
theorem T84_ {p:Prop} (h:p:=by have:=HJ2.out;have:=HK2.out;first | omega | exact Nat.le_refl _):p:=h
theorem T85_ {p:Prop} (h:p:=by first | rfl | (simp [errW_none,errW_some] <;> rfl) | (simp only [← hji4,← hji5];first | rfl | (simp [errW_none,errW_some] <;> rfl)) | (simp [*,errW_none,errW_some] <;> rfl)):p:=h
theorem T86_ {p:Prop} (h:p:=by (with_reducible repeat (first | apply Kd.R_alloc | apply Kd.R_drewN | apply Kd.R_drew));exact HO113.out):p:=h
theorem T87_ {p:Prop} (h:p:=by first | rfl | (simp [errW_none,errW_some] <;> rfl) | (simp only [← hji16];first | rfl | (simp [errW_none,errW_some] <;> rfl)) | (simp [*,errW_none,errW_some] <;> rfl)):p:=h
theorem T88_ {p:Prop} (h:p:=by first | rfl | (simp [errW_none,errW_some] <;> rfl) | (simp only [← hji5];first | rfl | (simp [errW_none,errW_some] <;> rfl)) | (simp [*,errW_none,errW_some] <;> rfl)):p:=h
theorem T89_ {p:Prop} (h:p:=by first | omega | exact Nat.le_refl _):p:=h
theorem T90_ {p:Prop} (h:p:=by (with_reducible repeat (first | refine blk_drewN ?_ _ | refine blk_drew ?_ | refine blk_alloc ?_ _));exact BK109.out):p:=h
theorem T91_ {p:Prop} (h:p:=by have:=HJ2.out;have:=HK2.out;have:=HJ11.out;first | omega | exact Nat.le_refl _):p:=h
theorem T92_ {p:Prop} (h:p:=by have:=HK1.out;have:=HK2.out;omega):p:=h
theorem T93_ {p:Prop} (h:p:=by (with_reducible repeat (first | apply Kd.V_alloc | apply Kd.V_drewN | apply Kd.V_drew));exact HO_1.out):p:=h
theorem T94_ {p:Prop} (h:p:=by repeat (first | (with_reducible first | exact HB.out | apply below_alloc | apply pw_below_drewN | apply below_drew1 | refine below_set ?_ GE101.out | refine below_set ?_ GE102.out) | exact HB.out)):p:=h
theorem T95_ {p:Prop} (h:p:=by repeat (first | (with_reducible exact HR114_0.out) | (with_reducible refine Kd.C_alloc ?_ _) | (with_reducible refine Kd.C_drewN ?_ _) | (with_reducible refine Kd.C_drew ?_) | exact HR114_0.out)):p:=h
theorem T96_ {p:Prop} (h:p:=by repeat (first | (with_reducible first | exact HK.out | apply Kept.alloc | apply Kept.drewN | apply Kept.drew) | exact HK.out)):p:=h
theorem T97_ {p:Prop} (h:p:=by first | rfl | (simp [errW_none,errW_some] <;> rfl) | (simp only [← hji57,← hji63];first | rfl | (simp [errW_none,errW_some] <;> rfl)) | (simp [*,errW_none,errW_some] <;> rfl)):p:=h
theorem T98_ {p:Prop} (h:p:=by (with_reducible repeat (first | refine blk_drewN ?_ _ | refine blk_drew ?_ | refine blk_alloc ?_ _));exact BK110.out):p:=h
theorem T99_ {p:Prop} (h:p:=by repeat (first | exact (Kd.C_below HR0.out HB.out) | (with_reducible refine Kd.C_alloc ?_ _) | (with_reducible refine Kd.C_drewN ?_ _) | (with_reducible refine Kd.C_drew ?_))):p:=h
theorem T100_ {p:Prop} (h:p:=by first | rfl | (simp [errW_none,errW_some] <;> rfl) | (simp only [← hji25];first | rfl | (simp [errW_none,errW_some] <;> rfl)) | (simp [*,errW_none,errW_some] <;> rfl)):p:=h
theorem T101_ {p:Prop} (h:p:=by first | rfl | (simp [errW_none,errW_some] <;> rfl) | (simp only [← hji42];first | rfl | (simp [errW_none,errW_some] <;> rfl)) | (simp [*,errW_none,errW_some] <;> rfl)):p:=h
theorem T102_ {p:Prop} (h:p:=by first | rfl | (simp [errW_none,errW_some] <;> rfl) | (simp only [← hji78];first | rfl | (simp [errW_none,errW_some] <;> rfl)) | (simp [*,errW_none,errW_some] <;> rfl)):p:=h
theorem T103_ {p:Prop} (h:p:=by first | rfl | (simp [errW_none,errW_some] <;> rfl) | (simp only [← hji13];first | rfl | (simp [errW_none,errW_some] <;> rfl)) | (simp [*,errW_none,errW_some] <;> rfl)):p:=h
theorem T104_ {p:Prop} (h:p:=by first | rfl | (simp [errW_none,errW_some] <;> rfl) | (simp only [← hji4];first | rfl | (simp [errW_none,errW_some] <;> rfl)) | (simp [*,errW_none,errW_some] <;> rfl)):p:=h
theorem T105_ {p:Prop} (h:p:=by first | rfl | (simp [errW_none,errW_some] <;> rfl) | (simp only [← hji6];first | rfl | (simp [errW_none,errW_some] <;> rfl)) | (simp [*,errW_none,errW_some] <;> rfl)):p:=h
theorem T106_ {p:Prop} (h:p:=by (with_reducible repeat (first | apply Kd.R_alloc | apply Kd.R_drewN | apply Kd.R_drew));exact HO128.out):p:=h
theorem T107_ {p:Prop} (h:p:=by (with_reducible repeat (first | apply Kd.R_alloc | apply Kd.R_drewN | apply Kd.R_drew));exact HO105.out):p:=h
theorem T108_ {p:Prop} (h:p:=by (with_reducible repeat (first | apply Kd.R_alloc | apply Kd.R_drewN | apply Kd.R_drew));exact HO_3.out):p:=h
theorem T109_ {p:Prop} (h:p:=by first | exact q114 | exact of_decide_eq_true (by first | (with_reducible assumption) | assumption) | (have e_:=(Kd.N_reads' HO_5.out).1;omega)):p:=h
theorem T110_ {p:Prop} (h:p:=by first | rfl | (simp;done) | (simp only [← hji10] <;> (first | rfl | simp)) | (simp [*];done)):p:=h
theorem T111_ {p:Prop} (h:p:=by have:=HLT.out;have:=HL.out;rw [B.wrap64_of (by omega) (by omega)];congr 1):p:=h
theorem T112_ {p:Prop} (h:p:=by have:=HX.out;have:=HN.out;rw [B.wrap64_of (by omega) (by omega)];congr 1):p:=h
theorem T113_ {p:Prop} (h:p:=by have:=HK1.out;first | omega | exact Nat.le_refl _):p:=h
end Go.Proofs.YtflacbjpeecjcabGreatDoor.F
namespace Go.Proofs.YtflacbjpeecjcabGreatDoor.F
attribute [local go_sem] max2_int min2_int max_two min_two max_three min_three max_four min_four 
def errW:Option Int → Value
 | none=>.nilIface
 | some c=>.iface 0 (.int .i64 c)
theorem errW_none:errW none = .nilIface:=rfl
theorem errW_some (c:Int):errW (some c) = .iface 0 (.int .i64 c):=rfl
theorem info3:(Tryz.prog.info? 3).map (fun i=>(i.zero,i.size,i.bytes)) = some (some (.int .i64 0),1,8):=by kernel_rfl
theorem info26:(Tryz.prog.info? 26).map (fun i=>(i.zero,i.size,i.bytes)) = some (some (.slice none 0 0),1,24):=by kernel_rfl
theorem info56:(Tryz.prog.info? 56).map (fun i=>(i.zero,i.size,i.bytes)) = some (some (.agg #[(.int .i64 0),(.int .i64 0),(.int .i64 0)]),3,24):=by kernel_rfl
structure S56 where
 f0:Int
 f1:Int
 f2:Int
def z56:S56:=⟨(0:Int),(0:Int),(0:Int)⟩
def k56:Kd S56:=Kd.iso (Kd.pair (Kd.int .i64) (Kd.pair (Kd.int .i64) (Kd.int .i64))) (fun x:S56=>(x.f0,x.f1,x.f2))
theorem k56_open {w:World} {x:S56} {cs:List Value} (h:k56.K w x cs):cs = [.int .i64 x.f0,.int .i64 x.f1,.int .i64 x.f2]:=by
 obtain ⟨_,_,rfl,rfl,⟨_,_,rfl,rfl,rfl⟩⟩:=h;exact rfl
theorem k56_openM {w:World} {base:Nat} {ok:Nat → Prop} {x:S56} {cs:List Value} (h:k56.M w base ok x cs):cs = [.int .i64 x.f0,.int .i64 x.f1,.int .i64 x.f2]:=by
 obtain ⟨_,_,rfl,rfl,⟨_,_,rfl,rfl,rfl⟩⟩:=h;exact rfl
theorem k56_mkM (w:World) (base:Nat) (ok:Nat → Prop) (x:S56) :k56.M w base ok x [.int .i64 x.f0,.int .i64 x.f1,.int .i64 x.f2]:=⟨[.int .i64 x.f0],[.int .i64 x.f1,.int .i64 x.f2],rfl,rfl,⟨[.int .i64 x.f1],[.int .i64 x.f2],rfl,rfl,rfl⟩⟩
def rd_T56 (xs:List S56) (i:Int):S56:=xs.getD i.toNat z56
theorem at_T56 {w:World} {A:Option Addr} {n:Nat} {xs:List S56} (h:Kd.C k56 w A n xs) (i:Int) (h0:0 ≤ i) (h1:i < n):∃ ad ,A = some ad ∧ w.cell? (ad.add (i.toNat * 3)) = some (.int .i64 (rd_T56 xs i).f0) ∧ w.cell? ⟨(ad.add (i.toNat * 3)).block,(ad.add (i.toNat * 3)).off + 1,none⟩ = some (.int .i64 (rd_T56 xs i).f1) ∧ w.cell? ⟨(ad.add (i.toNat * 3)).block,(ad.add (i.toNat * 3)).off + 2,none⟩ = some (.int .i64 (rd_T56 xs i).f2):=by
 obtain ⟨ad,c,e,_,hK,hc0⟩:=Kd.C_get h z56 i h0 h1;have hc:∀ j u,c[j]? = some u → w.cell? (ad.add (i.toNat * 3 + j)) = some u:=hc0;obtain rfl:=k56_open hK;exact ⟨ad,e,hc 0 _ rfl,(by rw [← add_field _ _ 1 T73_];exact hc 1 _ rfl),(by rw [← add_field _ _ 2 T73_];exact hc 2 _ rfl)⟩
def rd_L3 (xs:List (List Int)) (i:Int):(List Int):=xs.getD i.toNat ([]:List Int)
theorem at_L3 {w:World} {A:Option Addr} {n:Nat} {xs:List (List Int)} (h:Kd.C (Kd.slice 3 (Kd.int .i64)) w A n xs) (i:Int) (h0:0 ≤ i) (h1:i < n):∃ ad A0 c0,A = some ad ∧ w.cell? (ad.add i.toNat) = some (.slice A0 (rd_L3 xs i).length c0) ∧ (rd_L3 xs i).length ≤ c0 ∧ (Kd.int .i64).C w A0 (rd_L3 xs i).length (rd_L3 xs i):=by
 obtain ⟨ad,c,e,_,hK,hc0⟩:=Kd.C_get h ([]:List Int) i h0 h1;have hc:∀ j u,c[j]? = some u → w.cell? (ad.add (i.toNat * 1 + j)) = some u:=hc0;obtain ⟨A0,c0,rfl,l0,g0⟩:=hK;exact ⟨ad,A0,c0,e,(by have hq:=hc 0 _ rfl;rwa [Nat.mul_one,Nat.add_zero] at hq),l0,g0⟩
def laws_big.f (l0:List Int):Option (Bool):=some (decide ((l0.length:Int) > 1048576))
theorem laws_big.calls (A0:Option Addr) (c0:Nat) (l0:List Int) (r:Bool) (w:World) (hr0:Kd.C (Kd.int .u8) w A0 l0.length l0) (hc0:l0.length ≤ c0) (h:laws_big.f l0 = some r) :
  Calls Tryz.prog 4 #[.slice A0 l0.length c0] w fun e w'=>e = .returned (.bool r) ∧ Drawn0 w w':=by
 have HR0:=aZ_ hr0;have HC0:=aZ_ hc0;clear hr0 hc0;have H:(some (decide ((l0.length:Int) > 1048576))) = some r:=h;clear h;obtain rfl:=Option.some.inj H;go_enter Tryz.func4,Tryz.ntmps4;go_wp2;go_ret;exact ⟨T11_,T29_⟩
end Go.Proofs.YtflacbjpeecjcabGreatDoor.F
namespace Go.Proofs.YtflacbjpeecjcabGreatDoor.F
attribute [local go_sem] max2_int min2_int max_two min_two max_three min_three max_four min_four 
def laws_sameInts.l0:Nat → List Int → List Int → Int → Option (Bool)
 | 0,_,_,_=>none
 | k + 1,x0,x1,x5=>if x5 < (x0.length:Int) then (if 0 ≤ x5 then (if x5 < (x1.length:Int) then (if (rd x0 x5) = (rd x1 x5) then (laws_sameInts.l0 k x0 x1 (wrap64 (x5 + 1))) else (some false)) else (none)) else (none)) else (some true)
def laws_sameInts.f (k:Nat) (l0:List Int) (l1:List Int):Option (Bool):=if (l0.length:Int) = (l1.length:Int) then (laws_sameInts.l0 k l0 l1 0) else (some false)
theorem laws_sameInts.calls (k:Nat) (A0:Option Addr) (c0:Nat) (l0:List Int) (A1:Option Addr) (c1:Nat) (l1:List Int) (r:Bool) (w:World) (hr0:Kd.C (Kd.int .i64) w A0 l0.length l0) (hc0:l0.length ≤ c0) (hr1:Kd.C (Kd.int .i64) w A1 l1.length l1) (hc1:l1.length ≤ c1) (h:laws_sameInts.f k l0 l1 = some r) :
  Calls Tryz.prog 25 #[.slice A0 l0.length c0,.slice A1 l1.length c1] w fun e w'=>e = .returned (.bool r) ∧ Drawn0 w w':=by
 have HR0:=aZ_ hr0;have HC0:=aZ_ hc0;clear hr0 hc0;have HR1:=aZ_ hr1;have HC1:=aZ_ hc1;clear hr1 hc1;have H:(if (l0.length:Int) = (l1.length:Int) then (laws_sameInts.l0 k l0 l1 0) else (some false)) = some r:=h;clear h
 by_cases c3:(l0.length:Int) = (l1.length:Int)
 ·rw [if_pos c3] at H
  have c3b0:((l0.length:Int) == (l1.length:Int)) = true:=beq_iff_eq.mpr c3;have c3b1:((l0.length:Int) != (l1.length:Int)) = false:=bne_eq_false_iff_eq.mpr c3;have c3b2:(l0.length == l1.length) = true:=by first | simpa using c3 | (simp at c3 ⊢;omega)
  clear c3;have H':=aZ_ H;clear H;go_enter Tryz.func25,Tryz.ntmps25;go_wp2
  repeat (go_quiet (fail);try go_wp2)
  go_loopg [5] k (fun kq v5 w'=>∃ (x5_1:Int),v5 = .int .i64 x5_1 ∧ Aside0 (laws_sameInts.l0 kq l0 l1 x5_1 = some r) ∧ Aside0 (kq ≤ k) ∧ Drawn0 w w')
  case atStart=>exact ⟨(0),T11_,H',⟨Nat.le_refl _⟩,T29_⟩
  case round =>
   clear H'
   repeat (first | clear c1 | clear c2 | clear p2 | clear c3 | clear c3b0 | clear c3b1 | clear c3b2)
   obtain ⟨x5_1,rfl,HA,HK1,⟨m1,rfl⟩⟩:=hrel
   cases gk with
   | zero=>exact absurd HA.out (by simp [laws_sameInts.l0])
   | succ k1 =>
    have H:=HA.out;clear HA;simp only [laws_sameInts.l0] at H
    by_cases c4:x5_1 < (l0.length:Int)
    ·rw [if_pos c4] at H
     have c4b0:decide (x5_1 < (l0.length:Int)) = true:=decide_eq_true c4;clear c4
     by_cases c5:0 ≤ x5_1
     ·rw [if_pos c5] at H
      have c5b0:decide (0 ≤ x5_1) = true:=decide_eq_true c5;clear c5
      by_cases c6:x5_1 < (l1.length:Int)
      ·rw [if_pos c6] at H
       have c6b0:decide (x5_1 < (l1.length:Int)) = true:=decide_eq_true c6;clear c6
       by_cases c7:(rd l0 x5_1) = (rd l1 x5_1)
       ·rw [if_pos c7] at H
        have c7b0:((rd l0 x5_1) == (rd l1 x5_1)) = true:=beq_iff_eq.mpr c7;have c7b1:((rd l0 x5_1) != (rd l1 x5_1)) = false:=bne_eq_false_iff_eq.mpr c7;clear c7;have H':=aZ_ H;clear H;have p101:0 ≤ (x5_1:Int):=of_decide_eq_true T14_;have q101:x5_1 < (l0.length:Int):=of_decide_eq_true T14_;obtain ⟨ad101,e101,hx101_0⟩:=Kd.at_int HR0.out x5_1 p101 q101
        cases e101
        replace p101:=eq_true p101;replace q101:=eq_true q101;have p102:0 ≤ (x5_1:Int):=of_decide_eq_true T14_;have q102:x5_1 < (l1.length:Int):=of_decide_eq_true T14_;obtain ⟨ad102,e102,hx102_0⟩:=Kd.at_int HR1.out x5_1 p102 q102
        cases e102
        replace p102:=eq_true p102;replace q102:=eq_true q102;go_wp2
        repeat (go_quiet (fail);try go_wp2)
        go_roundg k1
        case measure=>have:=HK1.out;omega
        case rel=>exact ⟨(wrap64 (x5_1 + 1)),T11_,H',⟨by have:=HK1.out;omega⟩,T29_⟩
       ·rw [if_neg c7] at H
        have c7b0:((rd l0 x5_1) == (rd l1 x5_1)) = false:=beq_eq_false_iff_ne.mpr c7;have c7b1:((rd l0 x5_1) != (rd l1 x5_1)) = true:=bne_iff_ne.mpr c7;obtain rfl:=Option.some.inj H;have p101:0 ≤ (x5_1:Int):=of_decide_eq_true T14_;have q101:x5_1 < (l0.length:Int):=of_decide_eq_true T14_;obtain ⟨ad101,e101,hx101_0⟩:=Kd.at_int HR0.out x5_1 p101 q101
        cases e101
        replace p101:=eq_true p101;replace q101:=eq_true q101;have p102:0 ≤ (x5_1:Int):=of_decide_eq_true T14_;have q102:x5_1 < (l1.length:Int):=of_decide_eq_true T14_;obtain ⟨ad102,e102,hx102_0⟩:=Kd.at_int HR1.out x5_1 p102 q102
        cases e102
        replace p102:=eq_true p102;replace q102:=eq_true q102;go_wp2
        repeat (go_quiet (fail);try go_wp2)
        go_ret;exact ⟨T11_,T29_⟩
      ·rw [if_neg c6] at H
       exact absurd H T64_
     ·rw [if_neg c5] at H
      exact absurd H T64_
    ·rw [if_neg c4] at H
     have c4b0:decide (x5_1 < (l0.length:Int)) = false:=decide_eq_false c4;clear c4;obtain rfl:=Option.some.inj H;go_wp2
     repeat (go_quiet (fail);try go_wp2)
     go_ret;exact ⟨T11_,T29_⟩
 ·rw [if_neg c3] at H
  have c3b0:((l0.length:Int) == (l1.length:Int)) = false:=beq_eq_false_iff_ne.mpr c3;have c3b1:((l0.length:Int) != (l1.length:Int)) = true:=bne_iff_ne.mpr c3;have c3b2:(l0.length == l1.length) = false:=by first | simpa using c3 | (simp at c3 ⊢;omega)
  obtain rfl:=Option.some.inj H;go_enter Tryz.func25,Tryz.ntmps25;go_wp2
  repeat (go_quiet (fail);try go_wp2)
  go_ret;exact ⟨T11_,T29_⟩
def IsS93 (w0 W:World) (g:Nat) (f0:List Int) (f1:Int) (f2:Int):Prop:=∃ A0 c0,W.heap[g]? = some (.cells #[.slice A0 f0.length c0,.int .i64 f1,.int .i64 f2] 93 (0,0)) ∧ w0.heap.size ≤ g ∧ Kd.C (Kd.int .u8) w0 A0 f0.length f0
theorem IsS93.grown {w0 W:World} {g:Nat} {f0:List Int} {f1:Int} {f2:Int} {W1:World} {row:Option Nat} (h:IsS93 w0 W g f0 f1 f2) (hw:W.grownBy W1 row) (hne:some g ≠ row):IsS93 w0 W1 g f0 f1 f2:=by
 obtain ⟨A0,c0,hb,hg,hr0⟩:=h;exact ⟨A0,c0,blk_grown hb hw hne,hg,hr0⟩
theorem IsS93.kept {w0 W:World} {g:Nat} {f0:List Int} {f1:Int} {f2:Int} {W1:World} {S:Nat → Prop} (h:IsS93 w0 W g f0 f1 f2) (hk:Kept W W1 S) (hne:¬ S g):IsS93 w0 W1 g f0 f1 f2:=by
 obtain ⟨A0,c0,hb,hg,hr0⟩:=h;exact ⟨A0,c0,blk_kept hb hk hne,hg,hr0⟩
theorem IsS93.below {w0 W:World} {g:Nat} {f0:List Int} {f1:Int} {f2:Int} {W1:World} (h:IsS93 w0 W g f0 f1 f2) (hw:Below W.heap.size W W1):IsS93 w0 W1 g f0 f1 f2:=h.grown (grown_of_below hw none) T64_
theorem IsS93.alloc {w0 W:World} {g:Nat} {f0:List Int} {f1:Int} {f2:Int} (h:IsS93 w0 W g f0 f1 f2) (o:Obj):IsS93 w0 (W.alloc o) g f0 f1 f2:=h.below (below_alloc (Below.refl _ _) o)
theorem IsS93.drewN {w0 W:World} {g:Nat} {f0:List Int} {f1:Int} {f2:Int} (h:IsS93 w0 W g f0 f1 f2) (m:Nat):IsS93 w0 (W.drewN m) g f0 f1 f2:=h
theorem IsS93.drew {w0 W:World} {g:Nat} {f0:List Int} {f1:Int} {f2:Int} (h:IsS93 w0 W g f0 f1 f2):IsS93 w0 W.drew g f0 f1 f2:=h
theorem IsS93.at_ {w0 W:World} {g:Nat} {f0:List Int} {f1:Int} {f2:Int} {w':World} {m:Nat} (hq:W.drewN m = w') (h:IsS93 w0 W g f0 f1 f2):IsS93 w0 w' g f0 f1 f2:=by subst hq;exact IsS93.drewN h m
theorem IsS93.apart {w0 W:World} {g:Nat} {f0:List Int} {f1:Int} {f2:Int} {α:Type} {d:Kd α} {e:Nat} {base:Nat} {ok:Nat → Prop} {v:Value} {xs:List α} (h:IsS93 w0 W g f0 f1 f2) (ho:d.R e W base ok v xs) (ht:∀ q,q ∈ e :: d.E → q ≠ 93):d.R e W base (fun k=>ok k ∧ k ≠ g) v xs:=by
 obtain ⟨A0,c0,hb,hg,hr0⟩:=h;exact Kd.R_types ho hb ht
theorem IsS93.own_ne {w0 W:World} {g:Nat} {f0:List Int} {f1:Int} {f2:Int} {α:Type} {d:Kd α} {e:Nat} {base:Nat} {ok:Nat → Prop} {v:Value} {xs:List α} (h:IsS93 w0 W g f0 f1 f2) (ho:d.R e W base ok v xs) (ht:e ≠ 93):some g ≠ v.ownBlock:=by
 obtain ⟨A0,c0,hb,hg,hr0⟩:=h;exact Kd.R_ne ho hb ht
theorem IsS93.lt {w0 W:World} {g:Nat} {f0:List Int} {f1:Int} {f2:Int} (h:IsS93 w0 W g f0 f1 f2):g < W.heap.size:=by
 obtain ⟨A0,c0,hb,hg,hr0⟩:=h;exact blk_lt hb
theorem IsS93.ge {w0 W:World} {g:Nat} {f0:List Int} {f1:Int} {f2:Int} (h:IsS93 w0 W g f0 f1 f2):w0.heap.size ≤ g:=by
 obtain ⟨A0,c0,hb,hg,hr0⟩:=h;exact hg
theorem IsS93.ne_blk {w0 W:World} {g:Nat} {f0:List Int} {f1:Int} {f2:Int} {a:Nat} {cs:Array Value} {t:TypeId} {fr:Nat × Nat} (h:IsS93 w0 W g f0 f1 f2) (hb2:W.heap[a]? = some (.cells cs t fr)) (ht:t ≠ 93):g ≠ a:=by
 obtain ⟨A0,c0,hb,hg,hr0⟩:=h;rintro rfl;rw [hb] at hb2;injection hb2 with hb2;injection hb2 with _ ht2;exact ht ht2.symm
theorem IsS93.far {w0 W:World} {g:Nat} {f0:List Int} {f1:Int} {f2:Int} {p:Addr} (h:IsS93 w0 W g f0 f1 f2) (hne:g ≠ p.block) (u:Value):IsS93 w0 (W.setCell p u) g f0 f1 f2:=by
 obtain ⟨A0,c0,hb,hg,hr0⟩:=h;exact ⟨A0,c0,blk_far hb hne u,hg,hr0⟩
theorem cellS93_0 {W:World} {g:Nat} {A0:Option Addr} {c0:Nat} {f0:List Int} {f1:Int} {f2:Int} (h:W.heap[g]? = some (.cells #[.slice A0 f0.length c0,.int .i64 f1,.int .i64 f2] 93 (0,0))):W.cell? ⟨g,0,none⟩ = some (.slice A0 f0.length c0):=(blk_cell h 0).trans rfl
theorem cellS93_1 {W:World} {g:Nat} {A0:Option Addr} {c0:Nat} {f0:List Int} {f1:Int} {f2:Int} (h:W.heap[g]? = some (.cells #[.slice A0 f0.length c0,.int .i64 f1,.int .i64 f2] 93 (0,0))):W.cell? ⟨g,1,none⟩ = some (.int .i64 f1):=(blk_cell h 1).trans rfl
theorem IsS93.set_1 {w0 W:World} {g:Nat} {f0:List Int} {f1:Int} {f2:Int} (h:IsS93 w0 W g f0 f1 f2) (x:Int):IsS93 w0 (W.setCell ⟨g,1,none⟩ (.int .i64 x)) g f0 x f2:=by
 obtain ⟨A0,c0,hb,hg,hr0⟩:=h;exact ⟨A0,c0,(by simpa using blk_set hb 1 (.int .i64 x)),hg,hr0⟩
theorem cellS93_2 {W:World} {g:Nat} {A0:Option Addr} {c0:Nat} {f0:List Int} {f1:Int} {f2:Int} (h:W.heap[g]? = some (.cells #[.slice A0 f0.length c0,.int .i64 f1,.int .i64 f2] 93 (0,0))):W.cell? ⟨g,2,none⟩ = some (.int .i64 f2):=(blk_cell h 2).trans rfl
theorem IsS93.set_2 {w0 W:World} {g:Nat} {f0:List Int} {f1:Int} {f2:Int} (h:IsS93 w0 W g f0 f1 f2) (x:Int):IsS93 w0 (W.setCell ⟨g,2,none⟩ (.int .i64 x)) g f0 f1 x:=by
 obtain ⟨A0,c0,hb,hg,hr0⟩:=h;exact ⟨A0,c0,(by simpa using blk_set hb 2 (.int .i64 x)),hg,hr0⟩
def spec_l1Byte.f (s0_0:List Int) (s0_1:Int) (s0_2:Int):Option (Int × Int × Int):=if s0_1 < (s0_0.length:Int) then (if 0 ≤ s0_1 then (some (Go.bits .and .i64 (wrap64 ((Go.bits .and .i64 (Go.bits .xor .i64 ((wrap64 ((wrap64 (s0_2 * 6364136223846793005)) + 1442695040888963407)) / 8589934592) ((wrap64 ((wrap64 (s0_2 * 6364136223846793005)) + 1442695040888963407)) / 35184372088832)) 255) + (wrap64 (rd s0_0 s0_1)))) 255,wrap64 (s0_1 + 1),wrap64 ((wrap64 (s0_2 * 6364136223846793005)) + 1442695040888963407))) else (none)) else (some (Go.bits .and .i64 (Go.bits .xor .i64 ((wrap64 ((wrap64 (s0_2 * 6364136223846793005)) + 1442695040888963407)) / 8589934592) ((wrap64 ((wrap64 (s0_2 * 6364136223846793005)) + 1442695040888963407)) / 35184372088832)) 255,s0_1,wrap64 ((wrap64 (s0_2 * 6364136223846793005)) + 1442695040888963407)))
theorem spec_l1Byte.calls (g:Nat) (s0_0:List Int) (s0_1:Int) (s0_2:Int) (r1:Int) (r2:Int) (r3:Int) (w0 w:World) (hI:IsS93 w0 w g s0_0 s0_1 s0_2) (hB:Below w0.heap.size w0 w) (h:spec_l1Byte.f s0_0 s0_1 s0_2 = some (r1,r2,r3)) :
  Calls Tryz.prog 87 #[.pointer (some ⟨g,0,none⟩)] w fun e w'=>e = .returned (.int .i64 r1) ∧ IsS93 w0 w' g s0_0 r2 r3 ∧ Below w0.heap.size w0 w' ∧ KeepBut w w' g none:=by
 have HI0:=aZ_ hI;have HK:=aZ_ (KeepBut.refl w g none);have HL:=aZ_ hB.size;clear hI;have HW0:=aZ_ hB.size;have HB:=aZ_ hB;clear hB;have H:(if s0_1 < (s0_0.length:Int) then (if 0 ≤ s0_1 then (some (Go.bits .and .i64 (wrap64 ((Go.bits .and .i64 (Go.bits .xor .i64 ((wrap64 ((wrap64 (s0_2 * 6364136223846793005)) + 1442695040888963407)) / 8589934592) ((wrap64 ((wrap64 (s0_2 * 6364136223846793005)) + 1442695040888963407)) / 35184372088832)) 255) + (wrap64 (rd s0_0 s0_1)))) 255,wrap64 (s0_1 + 1),wrap64 ((wrap64 (s0_2 * 6364136223846793005)) + 1442695040888963407))) else (none)) else (some (Go.bits .and .i64 (Go.bits .xor .i64 ((wrap64 ((wrap64 (s0_2 * 6364136223846793005)) + 1442695040888963407)) / 8589934592) ((wrap64 ((wrap64 (s0_2 * 6364136223846793005)) + 1442695040888963407)) / 35184372088832)) 255,s0_1,wrap64 ((wrap64 (s0_2 * 6364136223846793005)) + 1442695040888963407)))) = some (r1,r2,r3):=h;clear h
 by_cases c2:s0_1 < (s0_0.length:Int)
 ·rw [if_pos c2] at H
  have c2b0:decide (s0_1 < (s0_0.length:Int)) = true:=decide_eq_true c2;clear c2
  by_cases c3:0 ≤ s0_1
  ·rw [if_pos c3] at H
   have c3b0:decide (0 ≤ s0_1) = true:=decide_eq_true c3;clear c3;simp only [Option.some.injEq,Prod.mk.injEq] at H;obtain ⟨rfl,rfl,rfl⟩:=H;obtain ⟨ASz4_0,cSz4_0,HGz4,hgz4,HSz4_0⟩:=HI0.out;have hcz4_0:=cellS93_0 HGz4;have hcz4_1:=cellS93_1 HGz4;have hcz4_2:=cellS93_2 HGz4;have hfz4_1:=blk_frozen HGz4 1;have hfz4_2:=blk_frozen HGz4 2;clear HGz4 hgz4;have p101:0 ≤ (s0_1:Int):=of_decide_eq_true T14_;have q101:s0_1 < (s0_0.length:Int):=of_decide_eq_true T14_;obtain ⟨ad101,e101,hx101_0⟩:=Kd.at_int HSz4_0 s0_1 p101 q101
   cases e101
   have hn101_0:ad101.block ≠ g:=Nat.ne_of_lt (Nat.lt_of_lt_of_le (by have:=World.block_lt_of_cell? _ _ hx101_0;first | rwa [add_block] at this | exact this) (IsS93.ge HI0.out));replace hx101_0:=pw_cell_below HB.out hx101_0;replace hx101_0:=(cell_far (p:=⟨g,2,none⟩) (by first | (rw [add_block];exact hn101_0) | (show (Addr.add _ _).block ≠ _;rw [add_block];exact hn101_0) | exact hn101_0) (.int .i64 (wrap64 ((wrap64 (s0_2 * 6364136223846793005)) + 1442695040888963407)))).trans hx101_0
   (try have hy101_0:=fun (n_:Nat)=>(show (((w.drewN n_).setCell ⟨g,2,none⟩ (.int .i64 (wrap64 ((wrap64 (s0_2 * 6364136223846793005)) + 1442695040888963407))))).cell? _ = some _ from hx101_0))
   clear hn101_0;replace p101:=eq_true p101;replace q101:=eq_true q101;go_enter Tryz.func87,Tryz.ntmps87;go_wp2
   repeat (go_quiet (fail);try go_wp2)
   go_ret;exact ⟨T13_,T20_,T18_,T24_⟩
  ·rw [if_neg c3] at H
   exact absurd H T64_
 ·rw [if_neg c2] at H
  have c2b0:decide (s0_1 < (s0_0.length:Int)) = false:=decide_eq_false c2;clear c2;simp only [Option.some.injEq,Prod.mk.injEq] at H;obtain ⟨rfl,rfl,rfl⟩:=H;obtain ⟨ASz5_0,cSz5_0,HGz5,hgz5,HSz5_0⟩:=HI0.out;have hcz5_0:=cellS93_0 HGz5;have hcz5_1:=cellS93_1 HGz5;have hcz5_2:=cellS93_2 HGz5;have hfz5_1:=blk_frozen HGz5 1;have hfz5_2:=blk_frozen HGz5 2;clear HGz5 hgz5;go_enter Tryz.func87,Tryz.ntmps87;go_wp2
  repeat (go_quiet (fail);try go_wp2)
  go_ret;exact ⟨T13_,T20_,T18_,T24_⟩
def spec_l1Below.f (s0_0:List Int) (s0_1:Int) (s0_2:Int) (a1:Int):Option (Int × Int × Int):=if a1 ≤ 0 then (some (0,s0_1,s0_2)) else (if a1 ≤ 256 then ((spec_l1Byte.f s0_0 s0_1 s0_2).bind fun bt101=>(if a1 = 0 then (none) else (some (Int.tmod bt101.1 a1,bt101.2.1,bt101.2.2)))) else ((spec_l1Byte.f s0_0 s0_1 s0_2).bind fun bt104=>((spec_l1Byte.f s0_0 bt104.2.1 bt104.2.2).bind fun bt107=>((spec_l1Byte.f s0_0 bt107.2.1 bt107.2.2).bind fun bt110=>((spec_l1Byte.f s0_0 bt110.2.1 bt110.2.2).bind fun bt113=>(if a1 = 0 then (none) else (some (Int.tmod (wrap64 ((wrap64 ((wrap64 ((wrap64 (bt104.1 * 16777216)) + (wrap64 (bt107.1 * 65536)))) + (wrap64 (bt110.1 * 256)))) + bt113.1)) a1,bt113.2.1,bt113.2.2))))))))
theorem spec_l1Below.calls (g:Nat) (s0_0:List Int) (s0_1:Int) (s0_2:Int) (a1:Int) (r1:Int) (r2:Int) (r3:Int) (w0 w:World) (hI:IsS93 w0 w g s0_0 s0_1 s0_2) (hB:Below w0.heap.size w0 w) (h:spec_l1Below.f s0_0 s0_1 s0_2 a1 = some (r1,r2,r3)) :
  Calls Tryz.prog 74 #[.pointer (some ⟨g,0,none⟩),.int .i64 a1] w fun e w'=>e = .returned (.int .i64 r1) ∧ IsS93 w0 w' g s0_0 r2 r3 ∧ Below w0.heap.size w0 w' ∧ KeepBut w w' g none:=by
 have HI0:=aZ_ hI;have HK:=aZ_ (KeepBut.refl w g none);have HL:=aZ_ hB.size;clear hI;have HW0:=aZ_ hB.size;have HB:=aZ_ hB;clear hB;have H:(if a1 ≤ 0 then (some (0,s0_1,s0_2)) else (if a1 ≤ 256 then ((spec_l1Byte.f s0_0 s0_1 s0_2).bind fun bt101=>(if a1 = 0 then (none) else (some (Int.tmod bt101.1 a1,bt101.2.1,bt101.2.2)))) else ((spec_l1Byte.f s0_0 s0_1 s0_2).bind fun bt104=>((spec_l1Byte.f s0_0 bt104.2.1 bt104.2.2).bind fun bt107=>((spec_l1Byte.f s0_0 bt107.2.1 bt107.2.2).bind fun bt110=>((spec_l1Byte.f s0_0 bt110.2.1 bt110.2.2).bind fun bt113=>(if a1 = 0 then (none) else (some (Int.tmod (wrap64 ((wrap64 ((wrap64 ((wrap64 (bt104.1 * 16777216)) + (wrap64 (bt107.1 * 65536)))) + (wrap64 (bt110.1 * 256)))) + bt113.1)) a1,bt113.2.1,bt113.2.2))))))))) = some (r1,r2,r3):=h;clear h
 by_cases c3:a1 ≤ 0
 ·rw [if_pos c3] at H
  have c3b0:decide (a1 ≤ 0) = true:=decide_eq_true c3;clear c3;simp only [Option.some.injEq,Prod.mk.injEq] at H;obtain ⟨rfl,rfl,rfl⟩:=H;go_enter Tryz.func74,Tryz.ntmps74;go_wp2;go_ret;exact ⟨T13_,T20_,T18_,T24_⟩
 ·rw [if_neg c3] at H
  have c3b0:decide (a1 ≤ 0) = false:=decide_eq_false c3;clear c3
  by_cases c4:a1 ≤ 256
  ·rw [if_pos c4] at H
   have c4b0:decide (a1 ≤ 256) = true:=decide_eq_true c4;clear c4;replace H:=Option.bind_eq_some_iff.mp H;obtain ⟨⟨t101,t102,t103⟩,A50,H⟩:=H;replace H:(if a1 = 0 then (none) else (some (Int.tmod t101 a1,t102,t103))) = some (r1,r2,r3):=H;have A5:=aZ_ A50;clear A50
   by_cases c6:a1 = 0
   ·rw [if_pos c6] at H
    exact absurd H T64_
   ·rw [if_neg c6] at H
    have c6b0:(a1 == 0) = false:=beq_eq_false_iff_ne.mpr c6;have c6b1:(a1 != 0) = true:=bne_iff_ne.mpr c6;simp only [Option.some.injEq,Prod.mk.injEq] at H;obtain ⟨rfl,rfl,rfl⟩:=H;go_enter Tryz.func74,Tryz.ntmps74
    go_wp2_with (first | ((with_reducible refine gate_callee (f:=87) rfl ?_);refine goesL_ (some 14) rfl rfl Tryz.func87 T22_ rfl #[.pointer (some ⟨g,0,none⟩)] rfl T4_ ?_;(with_reducible refine (spec_l1Byte.calls g s0_0 s0_1 s0_2 t101 t102 t103 w0 _ ?side1 ?side2 A5.out).mono ?_);(case side1=>exact T20_);(case side2=>exact T18_);rintro e w7 ⟨rfl,hi,hb,hk⟩;refine ⟨_,rfl,?_⟩;replace HK:=aZ_ (KeepBut.trans T24_ hk (.inl rfl));replace HB:=aZ_ (hb);replace HI0:=aZ_ (hi);(try clear hb);(try clear hk);(try clear hi)))
    go_ret;exact ⟨T13_,T20_,T18_,T24_⟩
  ·rw [if_neg c4] at H
   have c4b0:decide (a1 ≤ 256) = false:=decide_eq_false c4;clear c4;replace H:=Option.bind_eq_some_iff.mp H;obtain ⟨⟨t104,t105,t106⟩,A80,H⟩:=H;replace H:((spec_l1Byte.f s0_0 t105 t106).bind fun bt107=>((spec_l1Byte.f s0_0 bt107.2.1 bt107.2.2).bind fun bt110=>((spec_l1Byte.f s0_0 bt110.2.1 bt110.2.2).bind fun bt113=>(if a1 = 0 then (none) else (some (Int.tmod (wrap64 ((wrap64 ((wrap64 ((wrap64 (t104 * 16777216)) + (wrap64 (bt107.1 * 65536)))) + (wrap64 (bt110.1 * 256)))) + bt113.1)) a1,bt113.2.1,bt113.2.2)))))) = some (r1,r2,r3):=H;have A8:=aZ_ A80;clear A80;replace H:=Option.bind_eq_some_iff.mp H;obtain ⟨⟨t107,t108,t109⟩,A90,H⟩:=H;replace H:((spec_l1Byte.f s0_0 t108 t109).bind fun bt110=>((spec_l1Byte.f s0_0 bt110.2.1 bt110.2.2).bind fun bt113=>(if a1 = 0 then (none) else (some (Int.tmod (wrap64 ((wrap64 ((wrap64 ((wrap64 (t104 * 16777216)) + (wrap64 (t107 * 65536)))) + (wrap64 (bt110.1 * 256)))) + bt113.1)) a1,bt113.2.1,bt113.2.2))))) = some (r1,r2,r3):=H;have A9:=aZ_ A90;clear A90;replace H:=Option.bind_eq_some_iff.mp H;obtain ⟨⟨t110,t111,t112⟩,A100,H⟩:=H;replace H:((spec_l1Byte.f s0_0 t111 t112).bind fun bt113=>(if a1 = 0 then (none) else (some (Int.tmod (wrap64 ((wrap64 ((wrap64 ((wrap64 (t104 * 16777216)) + (wrap64 (t107 * 65536)))) + (wrap64 (t110 * 256)))) + bt113.1)) a1,bt113.2.1,bt113.2.2)))) = some (r1,r2,r3):=H;have A10:=aZ_ A100;clear A100;replace H:=Option.bind_eq_some_iff.mp H;obtain ⟨⟨t113,t114,t115⟩,A110,H⟩:=H;replace H:(if a1 = 0 then (none) else (some (Int.tmod (wrap64 ((wrap64 ((wrap64 ((wrap64 (t104 * 16777216)) + (wrap64 (t107 * 65536)))) + (wrap64 (t110 * 256)))) + t113)) a1,t114,t115))) = some (r1,r2,r3):=H;have A11:=aZ_ A110;clear A110
   by_cases c12:a1 = 0
   ·rw [if_pos c12] at H
    exact absurd H T64_
   ·rw [if_neg c12] at H
    have c12b0:(a1 == 0) = false:=beq_eq_false_iff_ne.mpr c12;have c12b1:(a1 != 0) = true:=bne_iff_ne.mpr c12;simp only [Option.some.injEq,Prod.mk.injEq] at H;obtain ⟨rfl,rfl,rfl⟩:=H;go_enter Tryz.func74,Tryz.ntmps74
    go_wp2_with (first | ((with_reducible refine gate_callee (f:=87) rfl ?_);refine goesL_ (some 18) rfl rfl Tryz.func87 T22_ rfl #[.pointer (some ⟨g,0,none⟩)] rfl T4_ ?_;(with_reducible refine (spec_l1Byte.calls g s0_0 s0_1 s0_2 t104 t105 t106 w0 _ ?side1 ?side2 A8.out).mono ?_);(case side1=>exact T20_);(case side2=>exact T18_);rintro e w13 ⟨rfl,hi,hb,hk⟩;refine ⟨_,rfl,?_⟩;replace HK:=aZ_ (KeepBut.trans T24_ hk (.inl rfl));replace HB:=aZ_ (hb);replace HI0:=aZ_ (hi);(try clear hb);(try clear hk);(try clear hi)) | ((with_reducible refine gate_callee (f:=87) rfl ?_);refine goesL_ (some 20) rfl rfl Tryz.func87 T22_ rfl #[.pointer (some ⟨g,0,none⟩)] rfl T4_ ?_;(with_reducible refine (spec_l1Byte.calls g s0_0 t105 t106 t107 t108 t109 w0 _ ?side1 ?side2 A9.out).mono ?_);(case side1=>exact T20_);(case side2=>exact T18_);rintro e w14 ⟨rfl,hi,hb,hk⟩;refine ⟨_,rfl,?_⟩;replace HK:=aZ_ (KeepBut.trans T24_ hk (.inl rfl));replace HB:=aZ_ (hb);replace HI0:=aZ_ (hi);(try clear hb);(try clear hk);(try clear hi)) | ((with_reducible refine gate_callee (f:=87) rfl ?_);refine goesL_ (some 22) rfl rfl Tryz.func87 T22_ rfl #[.pointer (some ⟨g,0,none⟩)] rfl T4_ ?_;(with_reducible refine (spec_l1Byte.calls g s0_0 t108 t109 t110 t111 t112 w0 _ ?side1 ?side2 A10.out).mono ?_);(case side1=>exact T20_);(case side2=>exact T18_);rintro e w15 ⟨rfl,hi,hb,hk⟩;refine ⟨_,rfl,?_⟩;replace HK:=aZ_ (KeepBut.trans T24_ hk (.inl rfl));replace HB:=aZ_ (hb);replace HI0:=aZ_ (hi);(try clear hb);(try clear hk);(try clear hi)) | ((with_reducible refine gate_callee (f:=87) rfl ?_);refine goesL_ (some 24) rfl rfl Tryz.func87 T22_ rfl #[.pointer (some ⟨g,0,none⟩)] rfl T4_ ?_;(with_reducible refine (spec_l1Byte.calls g s0_0 t111 t112 t113 t114 t115 w0 _ ?side1 ?side2 A11.out).mono ?_);(case side1=>exact T20_);(case side2=>exact T18_);rintro e w16 ⟨rfl,hi,hb,hk⟩;refine ⟨_,rfl,?_⟩;replace HK:=aZ_ (KeepBut.trans T24_ hk (.inl rfl));replace HB:=aZ_ (hb);replace HI0:=aZ_ (hi);(try clear hb);(try clear hk);(try clear hi)))
    go_ret;exact ⟨T13_,T20_,T18_,T24_⟩
end Go.Proofs.YtflacbjpeecjcabGreatDoor.F
namespace Go.Proofs.YtflacbjpeecjcabGreatDoor.B
theorem wrap64_of {n:Int} (h0:-9223372036854775808 ≤ n) (h1:n ≤ 9223372036854775807):wrap64 n = n:=by unfold wrap64;omega
theorem wrap_of {n:Int} (h0:-9223372036854775808 ≤ n) (h1:n ≤ 9223372036854775807):IntKind.i64.wrap n = n:=by rw [i64_w];exact wrap64_of h0 h1
theorem wrapu_of {n:Int} (h0:0 ≤ n) (h1:n ≤ 18446744073709551615):IntKind.u64.wrap n = n:=by
  simp [IntKind.wrap,IntKind.bits,IntKind.signed];omega
theorem wrap64_cast {n:Nat} (h:n < 9223372036854775808):wrap64 (n:Int) = n:=wrap64_of (by omega) (by omega)
theorem wrap64_succ {n:Nat} (h:n < 9223372036854775807):wrap64 ((n:Int) + 1) = ((n + 1:Nat):Int):=by rw [wrap64_of (by omega) (by omega)];omega
theorem lt63 {a:Nat} (h:a < 9223372036854775808):a < 2 ^ 63:=h
theorem mod64 {a:Nat} (h:a < 9223372036854775808):a % 2 ^ 64 = a:=Nat.mod_eq_of_lt (by omega)
theorem and_cast {a b:Nat} (ha:a < 9223372036854775808) (hb:b < 9223372036854775808):Go.bits .and .i64 (a:Int) (b:Int) = ((a &&& b:Nat):Int):=by
  have h:=Nat.and_lt_two_pow a (lt63 hb)
  have e:(BitVec.ofNat 64 a &&& BitVec.ofNat 64 b).toNat = a &&& b:=by rw [BitVec.toNat_and,BitVec.toNat_ofNat,BitVec.toNat_ofNat,mod64 ha,mod64 hb]
  simp only [Go.bits,IntKind.bits,BitVec.ofInt_natCast]
  exact (congrArg (fun m:Nat=>IntKind.i64.wrap (m:Int)) e).trans (wrap_of (n:=((a &&& b:Nat):Int)) (by omega) (by omega))
theorem or_cast {a b:Nat} (ha:a < 9223372036854775808) (hb:b < 9223372036854775808):Go.bits .or .i64 (a:Int) (b:Int) = ((a ||| b:Nat):Int):=by
  have h:=Nat.or_lt_two_pow (lt63 ha) (lt63 hb)
  have e:(BitVec.ofNat 64 a ||| BitVec.ofNat 64 b).toNat = a ||| b:=by rw [BitVec.toNat_or,BitVec.toNat_ofNat,BitVec.toNat_ofNat,mod64 ha,mod64 hb]
  simp only [Go.bits,IntKind.bits,BitVec.ofInt_natCast]
  exact (congrArg (fun m:Nat=>IntKind.i64.wrap (m:Int)) e).trans (wrap_of (n:=((a ||| b:Nat):Int)) (by omega) (by omega))
theorem xor_cast {a b:Nat} (ha:a < 9223372036854775808) (hb:b < 9223372036854775808):Go.bits .xor .i64 (a:Int) (b:Int) = ((a ^^^ b:Nat):Int):=by
  have h:=Nat.xor_lt_two_pow (lt63 ha) (lt63 hb)
  have e:(BitVec.ofNat 64 a ^^^ BitVec.ofNat 64 b).toNat = a ^^^ b:=by rw [BitVec.toNat_xor,BitVec.toNat_ofNat,BitVec.toNat_ofNat,mod64 ha,mod64 hb]
  simp only [Go.bits,IntKind.bits,BitVec.ofInt_natCast]
  exact (congrArg (fun m:Nat=>IntKind.i64.wrap (m:Int)) e).trans (wrap_of (n:=((a ^^^ b:Nat):Int)) (by omega) (by omega))
def ldiff (a b:Nat):Nat:=a ^^^ (a &&& b)
theorem testBit_ldiff (a b i:Nat):(ldiff a b).testBit i = (a.testBit i && !b.testBit i):=by
  unfold ldiff
  rw [Nat.testBit_xor,Nat.testBit_and]
  cases a.testBit i <;> cases b.testBit i <;> rfl
theorem ldiff_lt {a b n:Nat} (ha:a < 2 ^ n):ldiff a b < 2 ^ n:=by
  apply Nat.lt_pow_two_of_testBit
  intro i hi
  rw [testBit_ldiff,Nat.testBit_lt_two_pow (Nat.lt_of_lt_of_le ha (Nat.pow_le_pow_right (by decide) hi))]
  rfl
theorem andNot_cast {a b:Nat} (ha:a < 9223372036854775808) (hb:b < 9223372036854775808):Go.bits .andNot .i64 (a:Int) (b:Int) = ((ldiff a b:Nat):Int):=by
  have h:=ldiff_lt (b:=b) (lt63 ha)
  have e:(BitVec.ofNat 64 a &&& ~~~(BitVec.ofNat 64 b)).toNat = ldiff a b:=by
    apply Nat.eq_of_testBit_eq
    intro i
    rw [testBit_ldiff,← BitVec.getLsbD,BitVec.getLsbD_and,BitVec.getLsbD_not]
    simp only [BitVec.getLsbD_ofNat]
    by_cases hi:i < 64
    · simp [hi]
    · have:a.testBit i = false:=Nat.testBit_lt_two_pow (Nat.lt_of_lt_of_le (lt63 ha) (Nat.pow_le_pow_right (by decide) (by omega)))
      simp [hi,this]
  simp only [Go.bits,IntKind.bits,BitVec.ofInt_natCast]
  exact (congrArg (fun m:Nat=>IntKind.i64.wrap (m:Int)) e).trans (wrap_of (n:=((ldiff a b:Nat):Int)) (by omega) (by omega))
theorem shr_cast (a n:Nat) (hn:n ≤ 64):shr .i64 (a:Int) (n:Int) = ((a >>> n:Nat):Int):=by
  unfold shr
  rw [Nat.shiftRight_eq_div_pow]
  simp only [IntKind.bits,Int.toNat_natCast,Nat.min_eq_left hn]
  simp
theorem shl_cast {a n:Nat} (h:a <<< n < 9223372036854775808) (hn:n ≤ 64):shl .i64 (a:Int) (n:Int) = ((a <<< n:Nat):Int):=by
  unfold shl
  simp only [IntKind.bits,Int.toNat_natCast,Nat.min_eq_left hn]
  have e:((a:Int) * 2 ^ n) = ((a <<< n:Nat):Int):=by rw [Nat.shiftLeft_eq];simp
  exact (congrArg IntKind.i64.wrap e).trans (by generalize a <<< n = c at h;exact wrap_of (n:=(c:Int)) (by omega) (by omega))
theorem one_shl (n:Nat):1 <<< n = 2 ^ n:=by rw [Nat.shiftLeft_eq,Nat.one_mul]
theorem pow_le {n:Nat} (h:n ≤ 5):2 ^ n ≤ 32:=Nat.pow_le_pow_right (n:=2) (by decide) h
theorem pow_lt {n m:Nat} (h:n < m):2 ^ n < 2 ^ m:=Nat.pow_lt_pow_right (by decide) h
theorem pow_le_pow {n m:Nat} (h:n ≤ m):2 ^ n ≤ 2 ^ m:=Nat.pow_le_pow_right (by decide) h
theorem pow_pos (n:Nat):0 < 2 ^ n:=Nat.two_pow_pos n
theorem full_le {n:Nat} (h:n ≤ 5):2 ^ 2 ^ n ≤ 4294967296:=Nat.pow_le_pow_right (n:=2) (by decide) (pow_le h)
theorem shl1_of {n:Nat} (h:n ≤ 62):shl .i64 1 (n:Int) = ((2 ^ n:Nat):Int):=by
  have h1:(1:Nat) <<< n < 9223372036854775808:=by
    rw [one_shl];have:=pow_le_pow h;omega
  have:=shl_cast h1 (by omega)
  rw [one_shl] at this
  exact this
def bitN (w x:Nat):Nat:=(w.testBit x).toNat
theorem bitN_le (w x:Nat):bitN w x ≤ 1:=by unfold bitN;cases w.testBit x <;> decide
theorem bitN_eq_one {w x:Nat}:bitN w x = 1 ↔ w.testBit x = true:=by unfold bitN;cases w.testBit x <;> decide
theorem shr_and_one (w x:Nat):w >>> x &&& 1 = bitN w x:=by
  unfold bitN
  rw [Nat.testBit,Nat.and_comm 1,Nat.and_one_is_mod]
  rcases Nat.mod_two_eq_zero_or_one (w >>> x) with h | h <;> rw [h] <;> rfl
theorem shr_lt {w x n:Nat} (h:w < n):w >>> x < n:=Nat.lt_of_le_of_lt (by rw [Nat.shiftRight_eq_div_pow];exact Nat.div_le_self _ _) h
theorem bit_cast {w x:Nat} (hw:w < 9223372036854775808) (hx:x ≤ 64):Go.bits .and .i64 (shr .i64 (w:Int) (x:Int)) 1 = ((bitN w x:Nat):Int):=by
  rw [shr_cast w x hx]
  have:=and_cast (b:=1) (shr_lt (x:=x) hw) (by decide)
  rw [shr_and_one] at this
  exact this
def tabN (p:Nat → Bool):Nat → Nat
  | 0=>0
  | m + 1=>tabN p m ||| (p m).toNat <<< m
theorem testBit_toNat_shl (b:Bool) (m i:Nat):(b.toNat <<< m).testBit i = (decide (i = m) && b):=by
  cases b
  · simp
  · simp only [Bool.toNat_true,one_shl,Nat.testBit_two_pow,Bool.and_true]
    by_cases h:i = m
    · subst h;simp
    · simp [h,Ne.symm h]
theorem testBit_tabN (p:Nat → Bool) (m i:Nat):(tabN p m).testBit i = (decide (i < m) && p i):=by
  induction m with
  | zero=>simp [tabN]
  | succ m ih =>
    rw [tabN,Nat.testBit_or,ih,testBit_toNat_shl]
    by_cases h:i = m
    · subst h;simp
    · by_cases h2:i < m
      · simp [h,h2,Nat.lt_succ_of_lt h2]
      · have:¬ i < m + 1:=by omega
        simp [h,h2,this]
theorem lt_pow_of_testBit {x n:Nat} (h:∀ i,n ≤ i → x.testBit i = false):x < 2 ^ n:=Nat.lt_pow_two_of_testBit x h
theorem tabN_lt (p:Nat → Bool) (m:Nat):tabN p m < 2 ^ m :=
  lt_pow_of_testBit fun i hi=>by rw [testBit_tabN];have:¬ i < m:=by omega
                                 simp [this]
theorem testBit_ge {w m i:Nat} (hw:w < 2 ^ m) (hi:m ≤ i):w.testBit i = false:=Nat.testBit_lt_two_pow (Nat.lt_of_lt_of_le hw (pow_le_pow hi))
theorem word_ext {a b m:Nat} (ha:a < 2 ^ m) (hb:b < 2 ^ m) (h:∀ i,i < m → a.testBit i = b.testBit i):a = b:=by
  apply Nat.eq_of_testBit_eq
  intro i
  by_cases hi:i < m
  · exact h i hi
  · rw [testBit_ge ha (by omega),testBit_ge hb (by omega)]
theorem wrap64_pow {x:Nat} (h:x ≤ 62):wrap64 (2 ^ x) = ((2 ^ x:Nat):Int):=by
  have e:((2:Int) ^ x) = ((2 ^ x:Nat):Int):=by simp
  have:=pow_le_pow h
  rw [e]
  exact wrap64_cast (by omega)
theorem or_bit {w x:Nat} (hw:w < 9223372036854775808) (hx:x ≤ 62):Go.bits .or .i64 (w:Int) (wrap64 (2 ^ x)) = ((w ||| 2 ^ x:Nat):Int):=by
  rw [wrap64_pow hx]
  exact or_cast hw (by have:=pow_le_pow hx;omega)
theorem tabN_true {p:Nat → Bool} {m:Nat} (h:p m = true):tabN p (m + 1) = tabN p m ||| 2 ^ m:=by rw [tabN,h,Bool.toNat_true,one_shl]
theorem tabN_false {p:Nat → Bool} {m:Nat} (h:p m = false):tabN p (m + 1) = tabN p m:=by rw [tabN,h];simp
theorem tabN_lt63 (p:Nat → Bool) {m:Nat} (h:m ≤ 32):tabN p m < 9223372036854775808:=Nat.lt_of_lt_of_le (tabN_lt p m) (Nat.le_trans (pow_le_pow h) (by decide))
theorem bitN_shl_lt {w i j n:Nat} (hj:j < n):bitN w i <<< j < 2 ^ n:=by
  rw [Nat.shiftLeft_eq]
  have h1:=bitN_le w i
  have h2:=pow_le_pow (n:=j + 1) (m:=n) hj
  rw [Nat.pow_succ] at h2
  have h3:bitN w i * 2 ^ j ≤ 1 * 2 ^ j:=Nat.mul_le_mul_right _ h1
  have:=pow_pos j
  omega
def allN (p:Nat → Bool):Nat → Bool
  | 0=>true
  | m + 1=>allN p m && p m
theorem allN_iff {p:Nat → Bool} {m:Nat}:allN p m = true ↔ ∀ i,i < m → p i = true:=by
  induction m with
  | zero=>simp [allN]
  | succ m ih =>
    rw [allN,Bool.and_eq_true,ih]
    constructor
    · rintro ⟨h,k⟩ i hi
      by_cases e:i = m
      · subst e;exact k
      · exact h i (by omega)
    · exact fun h=>⟨fun i hi=>h i (by omega),h m (by omega)⟩
theorem allN_miss {p:Nat → Bool} {m i:Nat} (hi:i < m) (h:p i = false):allN p m = false:=by
  apply Bool.eq_false_iff.mpr
  intro k
  have:=allN_iff.mp k i hi
  rw [h] at this
  cases this
theorem allN_next {p:Nat → Bool} {m:Nat} (h:allN p m = true) (k:p m = true):allN p (m + 1) = true:=by rw [allN,h,k];rfl
def cntN (p:Nat → Bool):Nat → Nat
  | 0=>0
  | m + 1=>cntN p m + (p m).toNat
theorem cntN_congr {p q:Nat → Bool} {m:Nat} (h:∀ i,i < m → p i = q i):cntN p m = cntN q m:=by
  induction m with
  | zero=>rfl
  | succ m ih=>rw [cntN,cntN,ih fun i hi=>h i (by omega),h m (by omega)]
def ins (x i b:Nat):Nat:=x % 2 ^ i + b * 2 ^ i + x / 2 ^ i * 2 ^ (i + 1)
theorem ins_lt {x i b:Nat} (hx:x < 16) (hi:i < 5) (hb:b ≤ 1):ins x i b < 32:=by
  have h:∀ x:Fin 16,∀ i:Fin 5,∀ b:Fin 2,ins x i b < 32:=by decide +kernel
  exact h ⟨x,hx⟩ ⟨i,hi⟩ ⟨b,by omega⟩
def Tab (n w:Nat):Prop:=n ≤ 5 ∧ w < 2 ^ 2 ^ n
theorem Tab.lt {n w:Nat} (h:Tab n w):w < 4294967296:=Nat.lt_of_lt_of_le h.2 (full_le h.1)
theorem Tab.lt63 {n w:Nat} (h:Tab n w):w < 9223372036854775808:=Nat.lt_trans h.lt (by decide)
end Go.Proofs.YtflacbjpeecjcabGreatDoor.B
