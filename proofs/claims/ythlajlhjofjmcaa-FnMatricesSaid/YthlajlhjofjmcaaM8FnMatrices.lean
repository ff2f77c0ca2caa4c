/- Walks of Go functions and lemmas on what they compute, for the row of FnMatrices (a part of several): each call ends as the Lean function of its name tells; the conditions are those of each theorem. -/
import Derived.Test.YthlajlhjofjmcaaM1FnMatrices
import Derived.Test.YthlajlhjofjmcaaM2FnMatrices
import Derived.Test.YthlajlhjofjmcaaM3FnMatrices
import Derived.Test.YthlajlhjofjmcaaM4FnMatrices
import Derived.Test.YthlajlhjofjmcaaM6FnMatrices
import Derived.Test.YthlajlhjofjmcaaM7FnMatrices
namespace Go.Proofs.Ythlajlhjofjmcaa.F
open Go.RowKit Go.Proofs.YthlajlhjofjmcaaW.PrintWords Go.Proofs.YthlajlhjofjmcaaW.PrintLast Go.Proofs.YthlajlhjofjmcaaW.PrintMore
attribute [local go_sem] max2_int min2_int max_two min_two max_three min_three max_four min_four 
set_option linter.unusedVariables false
set_option linter.unusedSimpArgs false
def impl_RankMod2.len (x : Nat) : Nat := if x = 0 then 0 else Nat.log2 x + 1
def impl_RankMod2.look : List (Nat × Nat) → Nat → Option Nat
 | [],_ => none
 | p :: ps,t => if p.1 = t then some p.2 else impl_RankMod2.look ps t
def impl_RankMod2.red : Nat → List (Nat × Nat) → Nat → List (Nat × Nat)
 | 0,ps,_ => ps
 | k + 1,ps,r => if r = 0 then ps else match impl_RankMod2.look ps (impl_RankMod2.len r) with
  | none => (impl_RankMod2.len r,r) :: ps
  | some v => impl_RankMod2.red k ps (r ^^^ v)
def impl_RankMod2.all (l : List Int) : Nat → List (Nat × Nat)
 | 0 => []
 | i + 1 => impl_RankMod2.red 33 (impl_RankMod2.all l i) (rd l i).toNat
def impl_RankMod2.bad (r : Int) : Bool := decide (r < 0) || (r / 4294967296 != 0)
def impl_RankMod2.f (l0 : List Int) : Option Int :=
 if l0.length < 9223372036854775807 then
  (if l0.length ≤ 32 then (if B.exN (fun i => impl_RankMod2.bad (rd l0 i)) l0.length = true then some (-1) else some (((impl_RankMod2.all l0 l0.length).length : Nat) : Int)) else some (-1)) else none
def impl_RankMod2.D : List (Nat × Nat) → DataW Unit
 | [] => .map []
 | p :: ps => (impl_RankMod2.D ps).put (.int .i64 (p.1 : Int)) (.lit (.int .i64 (p.2 : Int)))
theorem impl_RankMod2.tidy : ∀ ps,Go.Maps.Tidy (impl_RankMod2.D ps)
 | [] => Go.Maps.tidy_empty
 | p :: ps => (impl_RankMod2.tidy ps).put (show WideAt.IsKeyLit (.int .i64 (p.1 : Int)) from trivial) _
theorem impl_RankMod2.D_look (t : Nat) (z : DataW Unit) : ∀ ps,Go.Maps.has (impl_RankMod2.D ps) (.int .i64 (t : Int)) = (impl_RankMod2.look ps t).isSome ∧ ∀ v,impl_RankMod2.look ps t = some v → (impl_RankMod2.D ps).atKey (.int .i64 (t : Int)) z = .lit (.int .i64 (v : Int))
 | [] => ⟨rfl,fun v h => by cases h⟩
 | p :: ps => by
  have ih := impl_RankMod2.D_look t z ps
  by_cases h : p.1 = t
  ·subst h
   refine ⟨?_,fun v hv => ?_⟩
   ·rw [impl_RankMod2.look,if_pos rfl]
    exact Go.Maps.has_put_same (impl_RankMod2.tidy ps).isMap (show WideAt.IsKeyLit (.int .i64 (p.1 : Int)) from trivial) _
   ·rw [impl_RankMod2.look,if_pos rfl] at hv
    cases hv
    exact Go.Maps.atKey_put_same (impl_RankMod2.tidy ps).isMap (show WideAt.IsKeyLit (.int .i64 (p.1 : Int)) from trivial) _ _
  ·have hne : (Lit.int .i64 (t : Int)) ≠ Lit.int .i64 (p.1 : Int) := fun q => h (by injection q with _ q;omega)
   refine ⟨?_,fun v hv => ?_⟩
   ·rw [impl_RankMod2.look,if_neg h,← ih.1]
    exact Go.Maps.has_put_other hne _
   ·rw [impl_RankMod2.look,if_neg h] at hv
    rw [← ih.2 v hv]
    exact Go.Maps.atKey_put_other hne _ _
theorem impl_RankMod2.D_size : ∀ ps,(∀ p ps',(p :: ps') <:+ ps → impl_RankMod2.look ps' p.1 = none) → Go.Maps.size (impl_RankMod2.D ps) = ps.length
 | [],_ => rfl
 | p :: ps,h => by
  have e := Go.Maps.size_put (k := .int .i64 (p.1 : Int)) (impl_RankMod2.tidy ps) (.lit (.int .i64 (p.2 : Int)))
  rw [(impl_RankMod2.D_look p.1 (.lit (.int .i64 0)) ps).1,h p ps (List.suffix_refl _)] at e
  rw [impl_RankMod2.D,List.length_cons,← impl_RankMod2.D_size ps fun q qs hq => h q qs (hq.trans (List.suffix_cons p ps))]
  exact e
def impl_RankMod2.Ok (ps : List (Nat × Nat)) : Prop := (∀ t v,impl_RankMod2.look ps t = some v → impl_RankMod2.len v = t ∧ v < 4294967296) ∧ (∀ p ps',(p :: ps') <:+ ps → impl_RankMod2.look ps' p.1 = none) ∧ ps.length ≤ 1000000000
theorem impl_RankMod2.len_lt {x : Nat} (h : x < 4294967296) : impl_RankMod2.len x ≤ 32 := by
 unfold impl_RankMod2.len
 split
 ·omega
 ·have : Nat.log2 x < 32 := (Nat.log2_lt T44_).mpr h
  omega
theorem impl_RankMod2.len_pos {x : Nat} (h : x ≠ 0) : 2 ^ (impl_RankMod2.len x - 1) ≤ x ∧ x < 2 ^ impl_RankMod2.len x ∧ 0 < impl_RankMod2.len x := by
 unfold impl_RankMod2.len
 rw [if_neg h]
 exact ⟨by rw [Nat.add_sub_cancel];exact Nat.log2_self_le h,Nat.lt_log2_self,by omega⟩
theorem impl_RankMod2.top {x : Nat} (h : x ≠ 0) : x.testBit (impl_RankMod2.len x - 1) = true := by
 obtain ⟨h1,h2,h3⟩ := impl_RankMod2.len_pos h
 obtain ⟨n,hn⟩ : ∃ n,impl_RankMod2.len x = n + 1 := ⟨impl_RankMod2.len x - 1,by omega⟩
 rw [hn] at h1 h2 ⊢
 rw [Nat.add_sub_cancel] at h1 ⊢
 rw [Nat.testBit_eq_decide_div_mod_eq]
 rw [Nat.pow_succ] at h2
 have : x / 2 ^ n = 1 := by
  apply Nat.div_eq_of_lt_le
  ·omega
  ·omega
 rw [this]
 rfl
theorem impl_RankMod2.len_of {x n : Nat} (h : x < 2 ^ n) : impl_RankMod2.len x ≤ n := by
 by_cases h0 : x = 0
 ·unfold impl_RankMod2.len;rw [if_pos h0];omega
 ·unfold impl_RankMod2.len
  rw [if_neg h0]
  have := (Nat.log2_lt (n := x) (k := n) h0).mpr h
  omega
theorem impl_RankMod2.xor_len {x y : Nat} (hx : x ≠ 0) (h : impl_RankMod2.len y = impl_RankMod2.len x) : impl_RankMod2.len (x ^^^ y) < impl_RankMod2.len x := by
 obtain ⟨h1,h2,h3⟩ := impl_RankMod2.len_pos hx
 have hy : y ≠ 0 := fun q => by rw [q] at h;unfold impl_RankMod2.len at h;rw [if_pos rfl,if_neg hx] at h;omega
 obtain ⟨g1,g2,g3⟩ := impl_RankMod2.len_pos hy
 obtain ⟨n,hn⟩ : ∃ n,impl_RankMod2.len x = n + 1 := ⟨impl_RankMod2.len x - 1,by omega⟩
 have tx := impl_RankMod2.top hx
 have ty := impl_RankMod2.top hy
 rw [h,hn,Nat.add_sub_cancel] at ty
 rw [hn,Nat.add_sub_cancel] at tx
 rw [hn] at h2 ⊢
 rw [h,hn] at g2
 have : x ^^^ y < 2 ^ n := by
  apply Nat.lt_pow_two_of_testBit
  intro i hi
  rw [Nat.testBit_xor]
  by_cases e : i = n
  ·subst e;rw [tx,ty];rfl
  ·rw [B.testBit_ge h2 T44_,B.testBit_ge g2 T44_];rfl
 have := impl_RankMod2.len_of this
 omega
theorem impl_RankMod2.ok_cons {ps : List (Nat × Nat)} {r : Nat} (h : impl_RankMod2.Ok ps) (hr : r < 4294967296) (hn : impl_RankMod2.look ps (impl_RankMod2.len r) = none) (hl : ps.length < 1000000000) : impl_RankMod2.Ok ((impl_RankMod2.len r,r) :: ps) := by
 refine ⟨fun t v hv => ?_,fun p qs hq => ?_,by rw [List.length_cons];omega⟩
 ·rw [impl_RankMod2.look] at hv
  split at hv
  next e => cases hv;exact ⟨e,hr⟩
  next e => exact h.1 t v hv
 ·rcases List.suffix_cons_iff.mp hq with e | e
  ·cases e;exact hn
  ·exact h.2.1 p qs e
theorem impl_RankMod2.red_ok : ∀ (k : Nat) (ps : List (Nat × Nat)) (r : Nat),impl_RankMod2.Ok ps → r < 4294967296 → ps.length < 1000000000 → impl_RankMod2.Ok (impl_RankMod2.red k ps r) ∧ (impl_RankMod2.red k ps r).length ≤ ps.length + 1
 | 0,ps,r,h,_,_ => ⟨h,by simp [impl_RankMod2.red]⟩
 | k + 1,ps,r,h,hr,hl => by
  rw [impl_RankMod2.red]
  split
  ·exact ⟨h,by omega⟩
  ·split
   next hn => exact ⟨impl_RankMod2.ok_cons h hr hn hl,by simp⟩
   next v hv => exact impl_RankMod2.red_ok k ps (r ^^^ v) h (Nat.xor_lt_two_pow (n := 32) hr (h.1 _ _ hv).2) hl
theorem impl_RankMod2.all_ok (l : List Int) (hl : ∀ i : Nat,i < l.length → 0 ≤ rd l i ∧ rd l i < 4294967296) : ∀ i,i ≤ l.length → i ≤ 32 → impl_RankMod2.Ok (impl_RankMod2.all l i) ∧ (impl_RankMod2.all l i).length ≤ i
 | 0,_,_ => ⟨⟨(fun t v h => by cases h),(fun p ps h => by simp [impl_RankMod2.all] at h),(by simp [impl_RankMod2.all])⟩,(by simp [impl_RankMod2.all])⟩
 | i + 1,h,h2 => by
  have ih := impl_RankMod2.all_ok l hl i T44_ T44_
  have := hl i T44_
  have h1 := impl_RankMod2.red_ok 33 (impl_RankMod2.all l i) (rd l i).toNat ih.1 T44_ T44_
  exact ⟨h1.1,by rw [impl_RankMod2.all];omega⟩
def impl_RankMod2.tab : ByteArray := ⟨#[0,1,2,2,3,3,3,3,4,4,4,4,4,4,4,4,5,5,5,5,5,5,5,5,5,5,5,5,5,5,5,5,6,6,6,6,6,6,6,6,6,6,6,6,6,6,6,6,6,6,6,6,6,6,6,6,6,6,6,6,6,6,6,6,7,7,7,7,7,7,7,7,7,7,7,7,7,7,7,7,7,7,7,7,7,7,7,7,7,7,7,7,7,7,7,7,7,7,7,7,7,7,7,7,7,7,7,7,7,7,7,7,7,7,7,7,7,7,7,7,7,7,7,7,7,7,7,7,8,8,8,8,8,8,8,8,8,8,8,8,8,8,8,8,8,8,8,8,8,8,8,8,8,8,8,8,8,8,8,8,8,8,8,8,8,8,8,8,8,8,8,8,8,8,8,8,8,8,8,8,8,8,8,8,8,8,8,8,8,8,8,8,8,8,8,8,8,8,8,8,8,8,8,8,8,8,8,8,8,8,8,8,8,8,8,8,8,8,8,8,8,8,8,8,8,8,8,8,8,8,8,8,8,8,8,8,8,8,8,8,8,8,8,8,8,8,8,8,8,8,8,8,8,8,8,8]⟩
theorem impl_RankMod2.tab_at {y : Nat} (h : y < 256) : bt impl_RankMod2.tab ((y : Nat) : Int) = ((impl_RankMod2.len y : Nat) : Int) := by
 have hh : ∀ y : Fin 256,bt impl_RankMod2.tab ((y.val : Nat) : Int) = ((impl_RankMod2.len y.val : Nat) : Int) := by decide +kernel
 exact hh ⟨y,h⟩
theorem impl_RankMod2.len_eq {x n : Nat} (h1 : 2 ^ n ≤ x) (h2 : x < 2 ^ (n + 1)) : impl_RankMod2.len x = n + 1 := by
 have h := impl_RankMod2.len_of h2
 have hx : x ≠ 0 := by have := Nat.two_pow_pos n;omega
 obtain ⟨_,g2,g3⟩ := impl_RankMod2.len_pos hx
 by_cases e : impl_RankMod2.len x ≤ n
 ·have := Nat.pow_le_pow_right (n := 2) T48_ e
  omega
 ·omega
theorem impl_RankMod2.len_up (m : Nat) {x y : Nat} (h1 : y * 2 ^ m ≤ x) (h2 : x < (y + 1) * 2 ^ m) (hy : y ≠ 0) : impl_RankMod2.len x = m + impl_RankMod2.len y := by
 obtain ⟨g1,g2,g3⟩ := impl_RankMod2.len_pos hy
 generalize impl_RankMod2.len y = L at g1 g2 g3
 obtain ⟨n,rfl⟩ : ∃ n,L = n + 1 := ⟨L - 1,by omega⟩
 rw [Nat.add_sub_cancel] at g1
 rw [← Nat.add_assoc]
 refine impl_RankMod2.len_eq ?_ ?_
 ·rw [Nat.pow_add,Nat.mul_comm]
  exact Nat.le_trans (Nat.mul_le_mul_right _ g1) h1
 ·rw [Nat.add_assoc,Nat.pow_add,Nat.mul_comm]
  exact Nat.lt_of_lt_of_le h2 (Nat.mul_le_mul_right _ g2)
theorem impl_RankMod2.len24 {x y : Nat} (h1 : y * 16777216 ≤ x) (h2 : x < (y + 1) * 16777216) (hy : y ≠ 0) : impl_RankMod2.len x = 24 + impl_RankMod2.len y := impl_RankMod2.len_up 24 h1 h2 hy
theorem impl_RankMod2.len16 {x y : Nat} (h1 : y * 65536 ≤ x) (h2 : x < (y + 1) * 65536) (hy : y ≠ 0) : impl_RankMod2.len x = 16 + impl_RankMod2.len y := impl_RankMod2.len_up 16 h1 h2 hy
theorem impl_RankMod2.len8 {x y : Nat} (h1 : y * 256 ≤ x) (h2 : x < (y + 1) * 256) (hy : y ≠ 0) : impl_RankMod2.len x = 8 + impl_RankMod2.len y := impl_RankMod2.len_up 8 h1 h2 hy
theorem impl_RankMod2.wrap3 {L : Nat} (h : L ≤ 8) : wrap64 ((wrap64 ((wrap64 ((0 : Int) + 16)) + 8)) + (wrap64 (L : Int))) = ((24 + L : Nat) : Int) ∧ wrap64 ((wrap64 ((0 : Int) + 16)) + (wrap64 (L : Int))) = ((16 + L : Nat) : Int) ∧ wrap64 ((wrap64 ((0 : Int) + 8)) + (wrap64 (L : Int))) = ((8 + L : Nat) : Int) ∧ wrap64 ((0 : Int) + (wrap64 (L : Int))) = (L : Int) := by
 unfold wrap64
 omega
theorem impl_RankMod2.len_j0 (k : Nat) (x0 x2 : Int) : bits_Len64.j0 (k + 1) x0 x2 = if x0 ≥ 65536 then (if (x0 / 65536) ≥ 256 then (if 0 ≤ (((x0 / 65536) / 256) % 256) then (if (((x0 / 65536) / 256) % 256) < 256 then (some (wrap64 ((wrap64 ((wrap64 (x2 + 16)) + 8)) + (wrap64 (bt impl_RankMod2.tab (((x0 / 65536) / 256) % 256)))))) else (none)) else (none)) else (if 0 ≤ ((x0 / 65536) % 256) then (if ((x0 / 65536) % 256) < 256 then (some (wrap64 ((wrap64 (x2 + 16)) + (wrap64 (bt impl_RankMod2.tab ((x0 / 65536) % 256)))))) else (none)) else (none))) else (if x0 ≥ 256 then (if 0 ≤ ((x0 / 256) % 256) then (if ((x0 / 256) % 256) < 256 then (some (wrap64 ((wrap64 (x2 + 8)) + (wrap64 (bt impl_RankMod2.tab ((x0 / 256) % 256)))))) else (none)) else (none)) else (if 0 ≤ ((x0) % 256) then (if ((x0) % 256) < 256 then (some (wrap64 (x2 + (wrap64 (bt impl_RankMod2.tab ((x0) % 256)))))) else (none)) else (none))) := rfl
theorem impl_RankMod2.len64 {x : Nat} (h : x < 4294967296) : bits_Len64.f 3 (x : Int) = some ((impl_RankMod2.len x : Nat) : Int) := by
 have hl : ∀ y : Nat,y < 256 → impl_RankMod2.len y ≤ 8 := fun y hy => impl_RankMod2.len_of (n := 8) hy
 unfold bits_Len64.f
 rw [if_neg T44_]
 show bits_Len64.j0 (2 + 1) (x : Int) 0 = _
 rw [impl_RankMod2.len_j0]
 by_cases h1 : x ≥ 65536
 ·rw [if_pos T44_]
  by_cases h2 : x / 65536 ≥ 256
  ·obtain ⟨y,hy⟩ : ∃ y,y = x / 16777216 := ⟨_,rfl⟩
   have hy8 : y < 256 := by omega
   have e2 : ((((x : Int) / 65536) / 256) % 256) = (y : Int) := by omega
   rw [if_pos T44_,e2,if_pos T44_,if_pos T44_,impl_RankMod2.tab_at hy8,(impl_RankMod2.wrap3 (hl y hy8)).1,impl_RankMod2.len24 (x := x) (y := y) T44_ T44_ T44_]
  ·obtain ⟨y,hy⟩ : ∃ y,y = x / 65536 := ⟨_,rfl⟩
   have hy8 : y < 256 := by omega
   have e2 : (((x : Int) / 65536) % 256) = (y : Int) := by omega
   rw [if_neg T44_,e2,if_pos T44_,if_pos T44_,impl_RankMod2.tab_at hy8,(impl_RankMod2.wrap3 (hl y hy8)).2.1,impl_RankMod2.len16 (x := x) (y := y) T44_ T44_ T44_]
 ·rw [if_neg T44_]
  by_cases h2 : x ≥ 256
  ·obtain ⟨y,hy⟩ : ∃ y,y = x / 256 := ⟨_,rfl⟩
   have hy8 : y < 256 := by omega
   have e2 : (((x : Int) / 256) % 256) = (y : Int) := by omega
   rw [if_pos T44_,e2,if_pos T44_,if_pos T44_,impl_RankMod2.tab_at hy8,(impl_RankMod2.wrap3 (hl y hy8)).2.2.1,impl_RankMod2.len8 (x := x) (y := y) T44_ T44_ T44_]
  ·have hy8 : x < 256 := by omega
   have e2 : ((x : Int) % 256) = (x : Int) := by omega
   rw [if_neg T44_,e2,if_pos T44_,if_pos T44_,impl_RankMod2.tab_at hy8,(impl_RankMod2.wrap3 (hl x hy8)).2.2.2]
set_option maxHeartbeats 400000 in
theorem impl_RankMod2_1.any (x : Int) (W : World) : Gives Try.prog 72 #[] #[.int .i64 x] (.bool (impl_RankMod2.bad x)) W := by
 show Calls Try.prog 72 #[.int .i64 x] W _
 by_cases h : x < 0
 ·have d1 : decide (x < 0) = true := decide_eq_true h
  have HE : Aside0 (impl_RankMod2.bad x = true) := ⟨by unfold impl_RankMod2.bad;rw [d1];rfl⟩
  go_enter Try.func72,Try.ntmps72
  go_wp2
  go_ret
  exact ⟨by rw [HE.out];rfl,Below.refl _ _⟩
 ·have d1 : decide (x < 0) = false := decide_eq_false h
  have HE : Aside0 (impl_RankMod2.bad x = (x / 4294967296 != 0)) := ⟨by unfold impl_RankMod2.bad;rw [d1];rfl⟩
  go_enter Try.func72,Try.ntmps72
  go_wp2
  go_ret
  exact ⟨by rw [HE.out];rfl,Below.refl _ _⟩
theorem impl_RankMod2.wf {x : Nat} (h : x < 9223372036854775808) : (Lit.int .i64 (x : Int)).wf = true := by
 simp [Lit.wf,IntKind.min,IntKind.max,IntKind.bits,IntKind.signed]
 omega
set_option maxHeartbeats 1000000 in
set_option maxRecDepth 100000 in
theorem impl_RankMod2.calls (A0 : Option Addr) (c0 : Nat) (l0 : List Int) (r : Int) (w : World) (hr0 : Kd.C (Kd.int .i64) w A0 l0.length l0) (hc0 : l0.length ≤ c0) (h : impl_RankMod2.f l0 = some r) :
  Calls Try.prog 29 #[.slice A0 l0.length c0] w fun e w' => e = .returned (.int .i64 r) ∧ Below w.heap.size w w' := by
 have HR := aZ_ hr0
 clear hr0 hc0
 unfold impl_RankMod2.f at h
 split at h
 next hL =>
  have HL := aZ_ hL
  clear hL
  by_cases h5 : l0.length ≤ 32
  ·rw [if_pos h5] at h
   have d1 : decide (32 < l0.length) = false := decide_eq_false T44_
   have d2 : decide ((32 : Int) < (l0.length : Int)) = false := decide_eq_false T44_
   have EG := aZ_ (enters_of Try.func72 T15_ rfl)
   obtain ⟨q,hq⟩ : ∃ q,q = B.exN (fun i => impl_RankMod2.bad (rd l0 i)) l0.length := ⟨_,rfl⟩
   have HCC : Aside0 (∀ w' : World,Below w.heap.size w w' → Calls Try.prog 53 #[.slice A0 l0.length c0,.func (.func 72) #[] #[]] w' fun e w'' => e = .returned (.bool q) ∧ Below w'.heap.size w' w'') := ⟨by
    intro w' hb
    rw [hq]
    exact slices_ContainsFunc_int.any A0 c0 l0 impl_RankMod2.bad 72 #[] EG.out w' (Kd.Heap.C (Kd.heap_int .i64) hb.block HR.out) (fun W x _ _ => impl_RankMod2_1.any (rd l0 x) W) HL.out⟩
   rw [← hq] at h
   cases q with
   | true =>
    rw [if_pos rfl] at h
    cases h
    clear hq
    go_enter Try.func29,Try.ntmps29
    go_wp2_with (go_at_call 53;refine (HCC.out _ (Below.refl _ _)).mono ?_;rintro e w2 ⟨rfl,hd2⟩)
    go_ret
    exact ⟨rfl,hd2⟩
   | false =>
    rw [if_neg T48_] at h
    cases h
    have hgood : ∀ i : Nat,i < l0.length → 0 ≤ rd l0 i ∧ rd l0 i < 4294967296 := by
     intro i hi
     cases hc : impl_RankMod2.bad (rd l0 i) with
     | true => rw [B.exN_hit (p := fun i => impl_RankMod2.bad (rd l0 i)) hi hc] at hq;cases hq
     | false =>
      unfold impl_RankMod2.bad at hc
      rw [Bool.or_eq_false_iff,decide_eq_false_iff_not,bne_eq_false_iff_eq] at hc
      omega
    have HALL : Aside0 (∀ i,i ≤ l0.length → impl_RankMod2.Ok (impl_RankMod2.all l0 i) ∧ (impl_RankMod2.all l0 i).length ≤ i) := ⟨fun i hi => impl_RankMod2.all_ok l0 hgood i hi T44_⟩
    have HGOOD := aZ_ hgood
    clear hq hgood
    have law3 : Go.Maps.Keyed Try.prog 3 := Go.Maps.int_keyed Try.underlying3
    have hmm := @run_makeMap Try.prog
    go_enter Try.func29,Try.ntmps29
    go_wp2_with (go_at_call 53;refine (HCC.out _ (Below.refl _ _)).mono ?_;rintro e w2 ⟨rfl,hd2⟩;have HB2 := aZ_ hd2;clear hd2)
    go_loopg [19] l0.length (fun gg v19 wr => ∃ x : Nat,x ≤ l0.length ∧ l0.length - x ≤ gg ∧ v19 = .int .i64 x ∧ Aside0 (wr.ownsMap Try.prog 3 (plainElem Try.prog 3) w2.heap.size (impl_RankMod2.all l0 x).length (impl_RankMod2.D (impl_RankMod2.all l0 x))) ∧ Aside0 (Below w.heap.size w wr))
    case atStart => exact ⟨0,Nat.zero_le _,by omega,rfl,⟨World.ownsMap_made _ _ _ _⟩,⟨HB2.out.alloc HB2.out.size _⟩⟩
    case round =>
     obtain ⟨x,hx,hg,rfl,HO,HB⟩ := hrel
     by_cases hlt : x < l0.length
     ·have hltz : (x : Int) < (l0.length : Int) := by omega
      have h0z : (0 : Int) ≤ (x : Int) := by omega
      obtain ⟨ad,rfl,hc⟩ := Kd.at_int HR.out (x : Int) h0z hltz
      have hc' := (HB.out.cell (World.block_lt_of_cell? w _ hc)).trans hc
      rw [Int.toNat_natCast] at hc'
      clear hc
      obtain ⟨r0,hr0⟩ := Int.eq_ofNat_of_zero_le (HGOOD.out x hlt).1
      rw [hr0] at hc'
      have HR0 : Aside0 (r0 < 4294967296 ∧ impl_RankMod2.all l0 (x + 1) = impl_RankMod2.red 33 (impl_RankMod2.all l0 x) r0) := ⟨by have := (HGOOD.out x hlt).2;omega,by rw [impl_RankMod2.all,hr0,Int.toNat_natCast]⟩
      have HOK := aZ_ (HALL.out x T44_)
      clear hr0
      go_upto_block 1 with (fail)
      go_cut [5] (fun v5 wx => Aside0 (wx.ownsMap Try.prog 3 (plainElem Try.prog 3) w2.heap.size (impl_RankMod2.all l0 (x + 1)).length (impl_RankMod2.D (impl_RankMod2.all l0 (x + 1)))) ∧ Aside0 (Below w.heap.size w wx))
      case first =>
       go_wp2_with (fail)
       go_loopg [5] 33 (fun gg v5 wr => ∃ fuel y : Nat,v5 = .int .i64 y ∧ fuel ≤ gg ∧ Aside0 (y < 4294967296 ∧ impl_RankMod2.len y < fuel ∧ impl_RankMod2.red fuel (impl_RankMod2.all l0 x) y = impl_RankMod2.all l0 (x + 1)) ∧ Aside0 (wr.ownsMap Try.prog 3 (plainElem Try.prog 3) w2.heap.size (impl_RankMod2.all l0 x).length (impl_RankMod2.D (impl_RankMod2.all l0 x))) ∧ Aside0 (Below w.heap.size w wr))
       case atStart => exact ⟨33,r0,rfl,Nat.le_refl _,⟨HR0.out.1,by have := impl_RankMod2.len_lt HR0.out.1;omega,HR0.out.2.symm⟩,HO,HB⟩
       case round =>
        clear HO HB hc'
        obtain ⟨fuel,y,rfl,hfg,HY,HO,HB⟩ := hrel
        obtain ⟨fuel,rfl⟩ : ∃ f,fuel = f + 1 := ⟨fuel - 1,by have := HY.out.2.1;omega⟩
        by_cases hy : y = 0
        ·subst hy
         have HE : Aside0 (impl_RankMod2.all l0 (x + 1) = impl_RankMod2.all l0 x) := ⟨by rw [← HY.out.2.2,impl_RankMod2.red,if_pos rfl]⟩
         go_wp2
         go_meet
         exact ⟨⟨by rw [HE.out];exact HO.out⟩,HB⟩
        ·have hyz : ((y : Int) != 0) = true := bne_iff_ne.mpr T44_
         have hyn : ¬ (y : Int) = 0 := by omega
         have HU : Aside0 (IntKind.u64.wrap (y : Int) = (y : Int)) := ⟨B.wrapu_of T44_ (by have := HY.out.1;omega)⟩
         have hu := HU.out
         have H64 := aZ_ (impl_RankMod2.len64 HY.out.1)
         have HLB : Aside0 (impl_RankMod2.len y ≤ 32) := ⟨impl_RankMod2.len_lt HY.out.1⟩
         have hkey := Go.Maps.keyOf_int_mk (P := Try.prog) Try.underlying3 (impl_RankMod2.wf (x := impl_RankMod2.len y) (by have := HLB.out;omega))
         have HKEY := aZ_ hkey
         clear hkey
         have HDL := aZ_ (impl_RankMod2.D_look (impl_RankMod2.len y) (.lit (.int .i64 0)) (impl_RankMod2.all l0 x))
         have HXL : Aside0 (∀ v,impl_RankMod2.look (impl_RankMod2.all l0 x) (impl_RankMod2.len y) = some v → impl_RankMod2.len (y ^^^ v) < fuel ∧ y ^^^ v < 4294967296 ∧ v < 4294967296) := ⟨fun v hv => by
          have h1 := HOK.out.1.1 _ _ hv
          have h2 := impl_RankMod2.xor_len hy h1.1
          exact ⟨by have := HY.out.2.1;omega,Nat.xor_lt_two_pow (n := 32) HY.out.1 h1.2,h1.2⟩⟩
         cases hl : impl_RankMod2.look (impl_RankMod2.all l0 x) (impl_RankMod2.len y) with
         | none =>
          have HE : Aside0 (impl_RankMod2.all l0 (x + 1) = (impl_RankMod2.len y,y) :: impl_RankMod2.all l0 x) := ⟨by rw [← HY.out.2.2,impl_RankMod2.red,if_neg hy,hl]⟩
          have hhas : Go.Maps.has (impl_RankMod2.D (impl_RankMod2.all l0 x)) (.int .i64 ((impl_RankMod2.len y : Nat) : Int)) = false := by rw [HDL.out.1,hl];rfl
          have HYW : Aside0 ((Lit.int .i64 (y : Int)).wf = true) := ⟨impl_RankMod2.wf (by have := HY.out.1;omega)⟩
          clear hl
          generalize impl_RankMod2.len y = t at H64 HKEY HE hhas
          go_wp2_with (first | (go_at_call 73;refine (bits_Len64.calls 3 y t _ H64.out).mono ?_;rintro e w3 ⟨rfl,hd⟩;have HB3 := aZ_ (below_step HB.out hd.below);have HO3 : Aside0 (w3.ownsMap Try.prog 3 (plainElem Try.prog 3) w2.heap.size (impl_RankMod2.all l0 x).length (impl_RankMod2.D (impl_RankMod2.all l0 x))) := ⟨by obtain ⟨nd,rfl⟩ := hd;exact HO.out⟩;clear hd) | (at_lookup;refine wpList_lookup_own_ok_int _ rfl _ _ 75 rfl 3 3 .i64 law3 Try.underlying75 Try.underlying3 T15_ w2.heap.size _ _ rfl HO3.out _ _ rfl HKEY.out ?_;intro c hat hwc;clear hat hwc) | (at_mapUpdate;refine wpList_mapUpdate_own _ rfl _ _ _ 75 rfl 3 3 law3 Try.underlying75 (plainElem (H := Unit) Try.prog 3) w2.heap.size _ _ rfl HO3.out (by have := HOK.out.2;unfold maxLen;omega) _ _ _ rfl rfl HKEY.out _ [] (plainElem_int Try.underlying3 HYW.out) ?_;intro w1 hown1 hgrow1))
          go_meet
          exact ⟨⟨by rw [HE.out];exact hown1⟩,⟨HB3.out.grown hgrow1 HB3.out.size (fun j hj => by cases hj;exact HB2.out.size)⟩⟩
         | some v =>
          have HE : Aside0 (impl_RankMod2.red fuel (impl_RankMod2.all l0 x) (y ^^^ v) = impl_RankMod2.all l0 (x + 1)) := ⟨by rw [← HY.out.2.2,impl_RankMod2.red,if_neg hy,hl]⟩
          have hhas : Go.Maps.has (impl_RankMod2.D (impl_RankMod2.all l0 x)) (.int .i64 ((impl_RankMod2.len y : Nat) : Int)) = true := by rw [HDL.out.1,hl];rfl
          have HAT := aZ_ (HDL.out.2 v hl)
          have HX := aZ_ (HXL.out v hl)
          have hxr : Go.bits .xor .i64 (y : Int) (v : Int) = ((y ^^^ v : Nat) : Int) := B.xor_cast (by have := HY.out.1;omega) (by have := HX.out.2.2;omega)
          have HXR := aZ_ hxr
          clear hl hxr
          generalize impl_RankMod2.len y = t at H64 HKEY hhas HAT
          go_wp2_with (first | (go_at_call 73;refine (bits_Len64.calls 3 y t _ H64.out).mono ?_;rintro e w3 ⟨rfl,hd⟩;have HB3 := aZ_ (below_step HB.out hd.below);have HO3 : Aside0 (w3.ownsMap Try.prog 3 (plainElem Try.prog 3) w2.heap.size (impl_RankMod2.all l0 x).length (impl_RankMod2.D (impl_RankMod2.all l0 x))) := ⟨by obtain ⟨nd,rfl⟩ := hd;exact HO.out⟩;clear hd) | (at_lookup;refine wpList_lookup_own_ok_int _ rfl _ _ 75 rfl 3 3 .i64 law3 Try.underlying75 Try.underlying3 T15_ w2.heap.size _ _ rfl HO3.out _ _ rfl HKEY.out ?_;intro c hat hwc;have hxc : Go.bits .xor .i64 (y : Int) c = ((y ^^^ v : Nat) : Int) := (by rw [HAT.out] at hat;injection hat with h1;injection h1 with _ h2;rw [← h2];exact HXR.out);clear hat hwc))
          go_roundg fuel
          case measure => omega
          case rel => exact ⟨fuel,y ^^^ v,rfl,Nat.le_refl _,⟨HX.out.2.1,HX.out.1,HE.out⟩,HO3,HB3⟩
      case rest =>
       clear HO HB hc'
       obtain ⟨HO,HB⟩ := hcut
       go_wp2
       go_roundg (l0.length - (x + 1))
       case measure => omega
       case rel => exact ⟨x + 1,by omega,by omega,by have := HL.out;go_num,HO,HB⟩
     ·have hltz : ¬ (x : Int) < (l0.length : Int) := by omega
      obtain rfl : x = l0.length := by omega
      have HSZ := aZ_ (impl_RankMod2.D_size (impl_RankMod2.all l0 l0.length) (HALL.out l0.length (Nat.le_refl _)).1.2.1)
      go_wp2_with (first | (at_len;refine wpList_len_own _ rfl _ 75 rfl 3 3 Try.underlying75 _ w2.heap.size _ _ rfl HO.out ?_))
      go_ret
      exact ⟨by rw [← HSZ.out];rfl,HB.out⟩
  ·rw [if_neg h5] at h
   cases h
   have d1 : decide (32 < l0.length) = true := decide_eq_true T44_
   have d2 : decide ((32 : Int) < (l0.length : Int)) = true := decide_eq_true T44_
   go_enter Try.func29,Try.ntmps29
   go_wp2
   go_ret
   exact ⟨rfl,Below.refl _ _⟩
 next => cases h
def impl_DifferentRows.S (l : List Int) (k : Nat) : DataW Unit := Go.Maps.setOf (.lit (.bool true)) ((l.take k).map (Lit.int .i64))
theorem impl_DifferentRows.S_zero (l : List Int) : impl_DifferentRows.S l 0 = .map [] := by simp [impl_DifferentRows.S,Go.Maps.setOf]
theorem impl_DifferentRows.S_succ (l : List Int) (k : Nat) (hk : k < l.length) : impl_DifferentRows.S l (k + 1) = (impl_DifferentRows.S l k).put (.int .i64 (rd l k)) (.lit (.bool true)) := by
 unfold impl_DifferentRows.S rd
 rw [List.take_add_one,List.map_append,Int.toNat_natCast]
 simp [List.getD,List.getElem?_eq_getElem hk,Go.Maps.setOf_snoc]
def impl_DifferentRows.f (l0 : List Int) : Option Int := if l0.all (fun x => (Lit.int .i64 x).wf) = true ∧ l0.length < 1099511627776 then some ((Go.Maps.size (impl_DifferentRows.S l0 l0.length) : Nat) : Int) else none
set_option maxHeartbeats 400000 in
set_option maxRecDepth 100000 in
theorem impl_DifferentRows.calls (A0 : Option Addr) (c0 : Nat) (l0 : List Int) (r : Int) (w : World) (hr0 : Kd.C (Kd.int .i64) w A0 l0.length l0) (hc0 : l0.length ≤ c0) (h : impl_DifferentRows.f l0 = some r) :
  Calls Try.prog 30 #[.slice A0 l0.length c0] w fun e w' => e = .returned (.int .i64 r) ∧ Below w.heap.size w w' := by
 unfold impl_DifferentRows.f at h
 split at h
 next hh =>
  cases h
  have law3 : Go.Maps.Keyed Try.prog 3 := Go.Maps.int_keyed Try.underlying3
  have HL := aZ_ hh.2
  have HW := aZ_ (List.all_eq_true.mp hh.1)
  have HR := aZ_ hr0
  clear hh hr0
  have hmm := @run_makeMap Try.prog
  go_enter Try.func30,Try.ntmps30
  go_wp2
  go_loopg [9] l0.length (fun gg v9 wr => ∃ x : Nat,x ≤ l0.length ∧ l0.length - x ≤ gg ∧ v9 = .int .i64 x ∧ Aside0 (wr.ownsMap Try.prog 3 (plainElem Try.prog 4) w.heap.size x (impl_DifferentRows.S l0 x)) ∧ Aside0 (Below w.heap.size w wr))
  case atStart => exact ⟨0,Nat.zero_le _,by omega,rfl,⟨by rw [impl_DifferentRows.S_zero];exact World.ownsMap_made _ _ _ _⟩,⟨(Below.refl _ _).alloc (Nat.le_refl _) _⟩⟩
  case round =>
   obtain ⟨x,hx,hg,rfl,HO,HB⟩ := hrel
   by_cases hlt : x < l0.length
   ·have hltz : (x : Int) < (l0.length : Int) := by omega
    have h0z : (0 : Int) ≤ (x : Int) := by omega
    obtain ⟨ad,rfl,hc⟩ := Kd.at_int HR.out (x : Int) h0z hltz
    have hc' := (HB.out.cell (World.block_lt_of_cell? w _ hc)).trans hc
    rw [Int.toNat_natCast] at hc'
    have hwf : (Lit.int .i64 (rd l0 (x : Int))).wf = true := by
     refine HW.out _ ?_
     unfold rd
     rw [Int.toNat_natCast,List.getD_eq_getElem?_getD,List.getElem?_eq_getElem hlt]
     exact List.getElem_mem hlt
    have hkey := Go.Maps.keyOf_int_mk (P := Try.prog) Try.underlying3 hwf
    go_wp2_with (first | (at_mapUpdate;refine wpList_mapUpdate_own _ rfl _ _ _ 79 rfl 3 4 law3 Try.underlying79 (plainElem (H := Unit) Try.prog 4) w.heap.size x _ rfl HO.out (by have := HL.out;unfold maxLen;omega) _ _ _ rfl rfl hkey _ [] (plainElem_bool Try.underlying4 true) ?_;intro w1 hown1 hgrow1))
    go_roundg (l0.length - (x + 1))
    case measure => omega
    case rel => exact ⟨x + 1,by omega,by omega,by rw [B.wrap64_succ (by have := HL.out;omega)],⟨(impl_DifferentRows.S_succ l0 x hlt).symm ▸ hown1⟩,⟨HB.out.grown hgrow1 HB.out.size (fun j hj => by cases hj;exact Nat.le_refl _)⟩⟩
   ·have hltz : ¬ (x : Int) < (l0.length : Int) := by omega
    obtain rfl : x = l0.length := by omega
    go_wp2_with (first | (at_len;refine wpList_len_own _ rfl _ 79 rfl 3 4 Try.underlying79 _ w.heap.size l0.length _ rfl HO.out ?_))
    go_ret
    exact ⟨rfl,HB.out⟩
 next => cases h
def spec_l20Three.f (k : Nat) (l0 : List Int) : Option (Int × Int × Int × Int) := (spec_l20Both.f k l0).bind fun bt102 => ((some (([0,1,0,1,2,(-1)] : List Int) : List Int)).bind fun y106 => (if 0 ≤ ((l0.length : Int) % 6) then (if ((l0.length : Int) % 6) < (y106.length : Int) then (some (bt102.1,bt102.2.1,bt102.2.2,rd y106 ((l0.length : Int) % 6))) else (none)) else (none)))
def spec_l20Three.T2 : Bool × List (List Nat × List Nat) := (true,[([],[]),([],[]),([],[]),([],[]),([3],[3]),([4],[4]),([2,5],[2,5]),([6],[6]),([0,0],[0]),([1,8,0,1,8],[1]),([7,9,0,1,2,3,4,5,6,7,8,9],[7])])
def spec_l20Three.B2 : List Nat := [0,0,0,0,8,24,60,124,1,259,1023]
theorem spec_l20Three.tab2 : rtab .any (opsOf Try.f74 2) = spec_l20Three.T2 := by kernel_rfl
theorem spec_l20Three.bits2 : waitsOk spec_l20Three.T2.2 spec_l20Three.B2 = true := by kernel_rfl
set_option maxHeartbeats 8000000 in
set_option maxRecDepth 100000 in
theorem spec_l20Three.calls (k : Nat) (A0 : Option Addr) (c0 : Nat) (l0 : List Int) (r1 : Int) (r2 : Int) (r3 : Int) (r4 : Int) (w : World) (hr0 : Kd.C (Kd.int .u8) w A0 l0.length l0) (hc0 : l0.length ≤ c0) (h : spec_l20Three.f k l0 = some (r1,r2,r3,r4)) :
  Calls Try.prog 74 #[.slice A0 l0.length c0] w fun e w' => e = .returned (.tuple #[.agg #[.int .i64 r1,.int .i64 r2],.int .i64 r3,.int .i64 r4]) ∧ Below w.heap.size w w' := by
 have hu25 := Try.underlying25
 have HR0 := aZ_ hr0
 have HC0 := aZ_ hc0
 clear hr0 hc0
 have HB := aZ_ (Below.refl w.heap.size w)
 have H : ((spec_l20Both.f k l0).bind fun bt102 => ((some (([0,1,0,1,2,(-1)] : List Int) : List Int)).bind fun y106 => (if 0 ≤ ((l0.length : Int) % 6) then (if ((l0.length : Int) % 6) < (y106.length : Int) then (some (bt102.1,bt102.2.1,bt102.2.2,rd y106 ((l0.length : Int) % 6))) else (none)) else (none)))) = some (r1,r2,r3,r4) := h
 clear h
 replace H := Option.bind_eq_some_iff.mp H
 obtain ⟨⟨t102,t103,t104⟩,A20,H⟩ := H
 replace H : ((some (([0,1,0,1,2,(-1)] : List Int) : List Int)).bind fun y106 => (if 0 ≤ ((l0.length : Int) % 6) then (if ((l0.length : Int) % 6) < (y106.length : Int) then (some (t102,t103,t104,rd y106 ((l0.length : Int) % 6))) else (none)) else (none))) = some (r1,r2,r3,r4) := H
 have A2 := aZ_ A20
 clear A20
 obtain ⟨y106,hy106⟩ : ∃ y_ : List Int,y_ = (([0,1,0,1,2,(-1)] : List Int)) := ⟨_,rfl⟩
 replace H : (if 0 ≤ ((l0.length : Int) % 6) then (if ((l0.length : Int) % 6) < (y106.length : Int) then (some (t102,t103,t104,rd y106 ((l0.length : Int) % 6))) else (none)) else (none)) = some (r1,r2,r3,r4) := by first | (rw [hy106];with_reducible exact H) | (have H2_ := (Option.bind_some _ _).symm.trans H;rw [hy106];with_reducible exact H2_) | (have H2_ := (Option.bind_some _ _).symm.trans H;with_reducible exact H2_) | with_reducible exact H | (rw [hy106];exact H) | exact H
 have Ny106 := aZ_ hy106
 clear hy106
 obtain ⟨ji3,hji3⟩ : ∃ j_ : Int,((l0.length : Int) % 6) = j_ := ⟨_,rfl⟩
 replace H : (if 0 ≤ (ji3) then (if (ji3) < (y106.length : Int) then (some (t102,t103,t104,rd y106 (ji3))) else (none)) else (none)) = some (r1,r2,r3,r4) := by first | (rw [hji3] at H;exact H) | (simp only [hji3] at H ⊢;exact H)
 (try rw [hji3] at A2)
 by_cases c4 : 0 ≤ (ji3)
 ·rw [if_pos c4] at H
  have c4b0 : decide (0 ≤ (ji3)) = true := decide_eq_true c4
  clear c4
  by_cases c5 : (ji3) < (y106.length : Int)
  ·rw [if_pos c5] at H
   have c5b0 : decide ((ji3) < (y106.length : Int)) = true := decide_eq_true c5
   clear c5
   simp only [Option.some.injEq,Prod.mk.injEq] at H
   obtain ⟨rfl,rfl,rfl,rfl⟩ := H
   go_enter Try.func74,Try.ntmps74
   try go_wp2_with (first | ((with_reducible refine gate_dst (N := 2) rfl ?_);refine box_event ?hg (N := 2) ?hd (cs := #[.int .i64 0,.int .i64 0]) (t := 25) ?hr ?_;(case hd => rfl);(case hg => rfl);(case hr => first | (go_simp;done) | (go_simp;rfl));intro gb101 hg w6 hbox hb;have n0_ := aZ_ (below_step T5_ hb);have n1_ := aZ_ (hbox);have n2_ := aZ_ ((T2_ : w.heap.size ≤ gb101));have n3_ := aZ_ ((T2_ : w.heap.size ≤ gb101));clear HB;have HB := n0_;have BK101 := n1_;have GW101 := n2_;have GE101 := n3_;clear n0_ n1_ n2_ n3_;clear hb hbox hg) | ((with_reducible refine gate_callee (f := 68) rfl ?_);refine goesL_ (some 9) rfl rfl Try.func68 T15_ rfl #[.slice A0 l0.length c0] rfl T4_ ?_;(with_reducible refine (spec_l20Both.calls k _ _ l0 t102 t103 t104 _ ?side1 ?side2 A2.out).mono ?_);(case side1 => repeat (first | exact (Kd.C_below HR0.out HB.out) | (with_reducible refine Kd.C_alloc ?_ _) | (with_reducible refine Kd.C_drewN ?_ _) | (with_reducible refine Kd.C_drew ?_)));(case side2 => exact HC0.out);rintro e w7 ⟨rfl,hb⟩;refine ⟨_,rfl,?_⟩;have n0_ := aZ_ (blk_below (g := gb101) (o := .cells #[.int .i64 0,.int .i64 0] 25 (0,0)) T3_ hb);have n1_ := aZ_ (below_step T1_ hb);clear BK101;clear HB;have BK101 := n0_;have HB := n1_;clear n0_ n1_;(try clear hb);(try clear hb2);(try clear hk);(try clear hi)) | ((with_reducible refine gate_dst (N := 5) rfl ?_);refine box_event ?hg (N := 5) ?hd (cs := #[.int .i64 0,.int .i64 0]) (t := 25) ?hr ?_;(case hd => rfl);(case hg => rfl);(case hr => first | (go_simp;done) | (go_simp;rfl));intro gb105 hg w8 hbox hb;have n0_ := aZ_ (blk_below (g := gb101) (o := .cells #[.int .i64 0,.int .i64 0] 25 (0,0)) T3_ hb);have n1_ := aZ_ (below_step T1_ hb);have n2_ := aZ_ (hbox);have n3_ := aZ_ ((T17_ : w.heap.size ≤ gb105));have n4_ := aZ_ ((T17_ : w.heap.size ≤ gb105));have n5_ := aZ_ ((T19_ : gb101 ≠ gb105));have n6_ := aZ_ ((T20_ : gb105 ≠ gb101));clear BK101;clear HB;have BK101 := n0_;have HB := n1_;have BK105 := n2_;have GW105 := n3_;have GE105 := n4_;have NB101_105 := n5_;have NB105_101 := n6_;clear n0_ n1_ n2_ n3_ n4_ n5_ n6_;clear hb hbox hg;have hnb9 := NB105_101.out;have hnc9 := NB101_105.out;have hcz10_0 : w8.cell? ⟨gb105,0,none⟩ = some (.int .i64 0) := (blk_cell BK105.out 0).trans rfl;have hcz10_1 : w8.cell? ⟨gb105,1,none⟩ = some (.int .i64 0) := (blk_cell BK105.out 1).trans rfl;have hfz10_0 := blk_frozen BK105.out 0;have hfz10_1 := blk_frozen BK105.out 1))
   have pi109 : (0 ≤ ((ji3) : Int)) = True := eq_true (of_decide_eq_true T6_)
   have qi109 : ((ji3) < (y106.length : Int)) = True := eq_true (of_decide_eq_true T6_)
   have n0_ : Aside0 (((w8.setCell ⟨gb105,0,none⟩ (.int .i64 t102)).setCell ⟨gb105,1,none⟩ (.int .i64 t103)).heap[gb101]? = some (.cells #[.int .i64 0,.int .i64 0] 25 (0,0))) := ⟨by (with_reducible repeat (first | refine blk_drewN ?_ _ | refine blk_drew ?_ | refine blk_alloc ?_ _));refine blk_far ?_ NB101_105.out _;(with_reducible repeat (first | refine blk_drewN ?_ _ | refine blk_drew ?_ | refine blk_alloc ?_ _));refine blk_far ?_ NB101_105.out _;(with_reducible repeat (first | refine blk_drewN ?_ _ | refine blk_drew ?_ | refine blk_alloc ?_ _));exact BK101.out⟩
   have n1_ : Aside0 (((w8.setCell ⟨gb105,0,none⟩ (.int .i64 t102)).setCell ⟨gb105,1,none⟩ (.int .i64 t103)).heap[gb105]? = some (.cells #[.int .i64 t102,.int .i64 t103] 25 (0,0))) := ⟨by (with_reducible repeat (first | refine blk_drewN ?_ _ | refine blk_drew ?_ | refine blk_alloc ?_ _));refine blk_put (cs := #[.int .i64 t102,.int .i64 0]) ?_ 1 _ rfl;(with_reducible repeat (first | refine blk_drewN ?_ _ | refine blk_drew ?_ | refine blk_alloc ?_ _));refine blk_put (cs := #[.int .i64 0,.int .i64 0]) ?_ 0 _ rfl;(with_reducible repeat (first | refine blk_drewN ?_ _ | refine blk_drew ?_ | refine blk_alloc ?_ _));exact BK105.out⟩
   have n2_ : Aside0 (Below w.heap.size w ((w8.setCell ⟨gb105,0,none⟩ (.int .i64 t102)).setCell ⟨gb105,1,none⟩ (.int .i64 t103))) := ⟨by repeat (first | (with_reducible first | exact HB.out | apply below_alloc | apply pw_below_drewN | apply below_drew1 | refine below_set ?_ GE101.out | refine below_set ?_ GE105.out) | exact HB.out)⟩
   (try clear BK101)
   (try clear BK105)
   (try clear HB)
   generalize ((w8.setCell ⟨gb105,0,none⟩ (.int .i64 t102)).setCell ⟨gb105,1,none⟩ (.int .i64 t103)) = w11 at n0_ n1_ n2_ ⊢
   have BK101 := n0_
   have BK105 := n1_
   have HB := n2_
   clear n0_ n1_ n2_
   have n0_ := aZ_ (blk_drew BK101.out)
   have n1_ := aZ_ (blk_drew BK105.out)
   have n2_ := aZ_ (below_drew1 HB.out)
   clear BK101
   clear BK105
   clear HB
   have BK101 := n0_
   have BK105 := n1_
   have HB := n2_
   clear n0_ n1_ n2_
   refine start_ (n := 11) (S := fun w' => True) (ds := []) #[false,false,false,false,false,false,false,false,false,false,false] T15_ rfl rfl trivial (fun hHeld => ?_);refine with_tabW spec_l20Three.tab2 spec_l20Three.bits2 (fun HT_ HW_ => ?_)
   generalize w11.drew = w12 at BK101 BK105 HB hHeld ⊢
   refine pZ_ 1 (some 13) #[false,true,false,false,false,false,false,false,false,false,false] ?_
   refine pZ_ 3 (some 15) #[false,true,false,true,false,false,false,false,false,false,false] ?_
   refine inv_at [0,2,4,5,6,7,8,9,10] (fun a0_ b a w' => ∃ (v107 : Value) (adz_v107 : Addr) (m6_ : Value),a = putSel a0_ b [(0,12,.agg #[.int .i64 t102,.int .i64 t103]),(2,14,v107),(4,16,.int .i64 (l0.length : Int)),(5,17,.int .i64 ji3),(6,18,m6_),(7,19,.int .i64 (rd y106 (ji3))),(9,3,.int .i64 t104),(10,4,.int .i64 (rd y106 (ji3)))] ∧ (b 8 = false → w'.heap[gb101]? = some (.cells #[.int .i64 0,.int .i64 0] 25 (0,0))) ∧ (w'.heap[gb105]? = some (.cells #[.int .i64 t102,.int .i64 t103] 25 (0,0))) ∧ (Below w.heap.size w w') ∧ (b 2 = true → Kd.R (Kd.int .i64) 3 w' w.heap.size (fun _ => True) v107 y106) ∧ (b 2 = true → ∃ c_,(v107 : Value) = .slice (some adz_v107) y106.length c_) ∧ (b 8 = true → w'.heap[gb101]? = some (.cells #[.int .i64 t102,.int .i64 t103] 25 (0,0))) ∧ (b 6 = true → (m6_ : Value) = .pointer (some (adz_v107.add ((ji3)).toNat)))) HT_.out HW_.out T15_ T15_ ?_ ?_ ?_
   ·exact ⟨.bool false,⟨0,0,none⟩,.bool false,by simp only [putSel,Bool.false_eq_true,if_false],fun _ => BK101.out,BK105.out,HB.out,fun h_ => absurd h_ T48_,fun h_ => absurd h_ T48_,fun h_ => absurd h_ T48_,fun h_ => absurd h_ T48_⟩
   ·skip
    clear BK101 BK105 HB
    refine steps_cons ?_ ?_
    ·rintro b a w' ⟨v107,adz_v107,m6_,ha,Q_BK101,Q_BK105,Q_HB,Q_HO108,Q_HA_HO108,Q_BK101_e8,Q_X6_⟩ hb_ hon hoff
     refine ⟨_,rfl,fun K hK => ?_⟩
     have e5 : a.tmps[5]? = some (.pointer (some ⟨gb105,0,none⟩)) := by rw [ha];exact (putSel_off rfl).trans rfl
     replace ha := aZ_ ha
     have BK101 := aZ_ (Q_BK101 (hoff 8 T15_))
     have BK105 := aZ_ Q_BK105
     have HB := aZ_ Q_HB
     have hc0_ : w'.cell? ⟨gb105,0,none⟩ = some (.int .i64 t102) := (blk_cell BK105.out 0).trans rfl
     have hc1_ : w'.cell? ⟨gb105,1,none⟩ = some (.int .i64 t103) := (blk_cell BK105.out 1).trans rfl
     refine value_ (w1 := w') (v := .agg #[.int .i64 t102,.int .i64 t103]) (by rfl) rfl ?_ ?_
     ·go_simp
      (try simp only [i64_w])
      try rfl
     refine hK.out _ _ ⟨v107,adz_v107,m6_,(by rw [ha.out];exact putSel_upk 0 hb_ rfl rfl rfl),Q_BK101,Q_BK105,Q_HB,Q_HO108,Q_HA_HO108,fun h0_ => absurd ((hoff 8 T15_).symm.trans h0_) T48_,Q_X6_⟩
    refine steps_cons ?_ ?_
    ·rintro b a w' ⟨v107,adz_v107,m6_,ha,Q_BK101,Q_BK105,Q_HB,Q_HO108,Q_HA_HO108,Q_BK101_e8,Q_X6_⟩ hb_ hon hoff
     refine ⟨_,rfl,fun K hK => ?_⟩
     replace ha := aZ_ ha
     have BK105 := aZ_ Q_BK105
     have HB := aZ_ Q_HB
     refine Kd.R_lit_step (Kd.int .i64) _ 3 ?hg (N := 14) ?hd (xs := ([0,1,0,1,2,(-1)] : List Int)) (inner := [.int .i64 0,.int .i64 1,.int .i64 0,.int .i64 1,.int .i64 2,.int .i64 (-1)]) (ok := fun _ => True) (okp := fun _ => True) ?hr ?hp (fun _ hk => hk) trivial (Below.refl _ _) (Nat.le_refl _) T49_ ?_;(case hd => rfl);(case hg => rfl);(case hr => first | (go_simp;done) | (go_simp;rfl));(case hp => exact (Reps.one (show Kd.M (Kd.int .i64) _ _ _ 0 [.int .i64 0] from rfl) (Reps.one (show Kd.M (Kd.int .i64) _ _ _ 1 [.int .i64 1] from rfl) (Reps.one (show Kd.M (Kd.int .i64) _ _ _ 0 [.int .i64 0] from rfl) (Reps.one (show Kd.M (Kd.int .i64) _ _ _ 1 [.int .i64 1] from rfl) (Reps.one (show Kd.M (Kd.int .i64) _ _ _ 2 [.int .i64 2] from rfl) (Reps.one (show Kd.M (Kd.int .i64) _ _ _ (-1) [.int .i64 (-1)] from rfl) (Reps.none _ _))))))))
     intro v107 w13 ho14 hb hg_ hnew_
     clear hg_ hnew_
     (first | rw [← Ny106.out] at ho14 | (simp only [Int.reduceToNat] at ho14;rw [← Ny106.out] at ho14))
     have n0_ := aZ_ (Kd.R_lower ho14 (below_size T45_))
     have n2_ := aZ_ (blk_below (g := gb105) (o := .cells #[.int .i64 t102,.int .i64 t103] 25 (0,0)) T59_ hb)
     have n3_ := aZ_ (below_step T45_ hb)
     have z_BK101 := fun (h0_ : b 8 = false) => (show w13.heap[gb101]? = some (.cells #[.int .i64 0,.int .i64 0] 25 (0,0)) from by first | exact (blk_below (g := gb101) (o := .cells #[.int .i64 0,.int .i64 0] 25 (0,0)) (by (with_reducible repeat (first | refine blk_drewN ?_ _ | refine blk_drew ?_ | refine blk_alloc ?_ _));exact (Q_BK101 h0_)) hb))
     have z_BK101_e8 := fun (h0_ : b 8 = true) => (show w13.heap[gb101]? = some (.cells #[.int .i64 t102,.int .i64 t103] 25 (0,0)) from by first | exact (blk_below (g := gb101) (o := .cells #[.int .i64 t102,.int .i64 t103] 25 (0,0)) (by (with_reducible repeat (first | refine blk_drewN ?_ _ | refine blk_drew ?_ | refine blk_alloc ?_ _));exact (Q_BK101_e8 h0_)) hb))
     clear BK105
     clear HB
     have HO108 := n0_
     have BK105 := n2_
     have HB := n3_
     clear n0_ n2_ n3_
     clear hb ho14
     obtain ⟨Ao15,co15,eo15⟩ := Kd.R_slice HO108.out
     subst eo15
     obtain ⟨ado15,fo15,_⟩ := Kd.at_int (Kd.R_reads' HO108.out).2.2 0 T48_ (by rw [Ny106.out];simp)
     cases fo15
     refine hK.out _ _ ⟨.slice (some ado15) y106.length co15,ado15,m6_,(by rw [ha.out];exact putSel_upk 1 hb_ rfl rfl rfl),z_BK101,T59_,T45_,fun _ => (by (with_reducible repeat (first | apply Kd.R_alloc | apply Kd.R_drewN | apply Kd.R_drew));exact HO108.out),fun _ => ⟨_,rfl⟩,z_BK101_e8,fun h0_ => absurd ((hoff 6 T15_).symm.trans h0_) T48_⟩
    refine steps_cons ?_ ?_
    ·rintro b a w' ⟨v107,adz_v107,m6_,ha,Q_BK101,Q_BK105,Q_HB,Q_HO108,Q_HA_HO108,Q_BK101_e8,Q_X6_⟩ hb_ hon hoff
     refine ⟨_,rfl,fun K hK => ?_⟩
     have e15 : a.tmps[15]? = some (.slice A0 l0.length c0) := by rw [ha];exact (putSel_off rfl).trans rfl
     replace ha := aZ_ ha
     have BK105 := aZ_ Q_BK105
     have HB := aZ_ Q_HB
     refine value_ (w1 := w') (v := .int .i64 (l0.length : Int)) (by rfl) rfl ?_ ?_
     ·go_simp
      (try simp only [i64_w])
      try rfl
     refine hK.out _ _ ⟨v107,adz_v107,m6_,(by rw [ha.out];exact putSel_upk 2 hb_ rfl rfl rfl),Q_BK101,Q_BK105,Q_HB,Q_HO108,Q_HA_HO108,Q_BK101_e8,fun h0_ => absurd ((hoff 6 T15_).symm.trans h0_) T48_⟩
    refine steps_cons ?_ ?_
    ·rintro b a w' ⟨v107,adz_v107,m6_,ha,Q_BK101,Q_BK105,Q_HB,Q_HO108,Q_HA_HO108,Q_BK101_e8,Q_X6_⟩ hb_ hon hoff
     refine ⟨_,rfl,fun K hK => ?_⟩
     have e16 : a.tmps[16]? = some (.int .i64 (l0.length : Int)) := by rw [ha];exact putSel_on (e := (4,16,.int .i64 (l0.length : Int))) 2 rfl rfl (hon 4 T15_) rfl
     replace ha := aZ_ ha
     have BK105 := aZ_ Q_BK105
     have HB := aZ_ Q_HB
     refine value_ (w1 := w') (v := .int .i64 ji3) (by rfl) rfl ?_ ?_
     ·go_simp
      (try simp only [i64_w])
      try rfl
      first | done | exact (Int.tmod_eq_emod_of_nonneg (Int.natCast_nonneg _)).trans hji3
     refine hK.out _ _ ⟨v107,adz_v107,m6_,(by rw [ha.out];exact putSel_upk 3 hb_ rfl rfl rfl),Q_BK101,Q_BK105,Q_HB,Q_HO108,Q_HA_HO108,Q_BK101_e8,fun h0_ => absurd ((hoff 6 T15_).symm.trans h0_) T48_⟩
    refine steps_cons ?_ ?_
    ·rintro b a w' ⟨v107,adz_v107,m6_,ha,Q_BK101,Q_BK105,Q_HB,Q_HO108,Q_HA_HO108,Q_BK101_e8,Q_X6_⟩ hb_ hon hoff
     refine ⟨_,rfl,fun K hK => ?_⟩
     have e14 : a.tmps[14]? = some (v107) := by rw [ha];exact putSel_on (e := (2,14,v107)) 1 rfl rfl (hon 2 T15_) rfl
     have e17 : a.tmps[17]? = some (.int .i64 ji3) := by rw [ha];exact putSel_on (e := (5,17,.int .i64 ji3)) 3 rfl rfl (hon 5 T15_) rfl
     replace ha := aZ_ ha
     have BK105 := aZ_ Q_BK105
     have HB := aZ_ Q_HB
     have HO108 := aZ_ (Q_HO108 (hon 2 T15_))
     have HA_HO108 := aZ_ (Q_HA_HO108 (hon 2 T15_))
     obtain ⟨c_,hv_⟩ := HA_HO108.out
     rw [hv_] at e14
     refine value_ (w1 := w') (v := .pointer (some (adz_v107.add ((ji3)).toNat))) (by rfl) rfl ?_ ?_
     ·go_simp
      (try simp only [i64_w])
      try rfl
     refine hK.out _ _ ⟨v107,adz_v107,(.pointer (some (adz_v107.add ((ji3)).toNat))),(by rw [ha.out];exact putSel_upk 4 hb_ rfl rfl rfl),Q_BK101,Q_BK105,Q_HB,Q_HO108,Q_HA_HO108,Q_BK101_e8,fun _ => rfl⟩
    refine steps_cons ?_ ?_
    ·rintro b a w' ⟨v107,adz_v107,m6_,ha,Q_BK101,Q_BK105,Q_HB,Q_HO108,Q_HA_HO108,Q_BK101_e8,Q_X6_⟩ hb_ hon hoff
     refine ⟨_,rfl,fun K hK => ?_⟩
     have e18 : a.tmps[18]? = some (m6_) := by rw [ha];exact putSel_on (e := (6,18,m6_)) 4 rfl rfl (hon 6 T15_) rfl
     rw [Q_X6_ (hon 6 T15_)] at e18
     replace ha := aZ_ ha
     have BK105 := aZ_ Q_BK105
     have HB := aZ_ Q_HB
     have HO108 := aZ_ (Q_HO108 (hon 2 T15_))
     have HA_HO108 := aZ_ (Q_HA_HO108 (hon 2 T15_))
     obtain ⟨c_,hv_⟩ := HA_HO108.out
     have hF_ := HO108.out
     rw [hv_] at hF_
     obtain ⟨ad_,ea_,hx_⟩ := Kd.at_int (Kd.R_reads' hF_).2.2 (ji3) (of_eq_true pi109) (of_eq_true qi109)
     cases ea_
     refine value_ (w1 := w') (v := .int .i64 (rd y106 (ji3))) (by rfl) rfl ?_ ?_
     ·go_simp
      (try simp only [i64_w])
      try rfl
     refine hK.out _ _ ⟨v107,adz_v107,m6_,(by rw [ha.out];exact putSel_upk 5 hb_ rfl rfl rfl),Q_BK101,Q_BK105,Q_HB,Q_HO108,Q_HA_HO108,Q_BK101_e8,Q_X6_⟩
    refine steps_cons ?_ ?_
    ·rintro b a w' ⟨v107,adz_v107,m6_,ha,Q_BK101,Q_BK105,Q_HB,Q_HO108,Q_HA_HO108,Q_BK101_e8,Q_X6_⟩ hb_ hon hoff
     refine ⟨_,rfl,fun K hK => ?_⟩
     have e2 : a.tmps[2]? = some (.pointer (some ⟨gb101,0,none⟩)) := by rw [ha];exact (putSel_off rfl).trans rfl
     have e12 : a.tmps[12]? = some (.agg #[.int .i64 t102,.int .i64 t103]) := by rw [ha];exact putSel_on (e := (0,12,.agg #[.int .i64 t102,.int .i64 t103])) 0 rfl rfl (hon 0 T15_) rfl
     replace ha := aZ_ ha
     have BK101 := aZ_ (Q_BK101 hb_)
     have BK105 := aZ_ Q_BK105
     have HB := aZ_ Q_HB
     have hs13 : w'.cell? ⟨gb101,0,none⟩ = some (.int .i64 0) := (blk_cell BK101.out 0).trans rfl
     have hfs13 := blk_frozen BK101.out 0
     have hns13_1 := NB105_101.out
     have hms13_1 := NB101_105.out
     have hs14 : w'.cell? ⟨gb101,1,none⟩ = some (.int .i64 0) := (blk_cell BK101.out 1).trans rfl
     have hfs14 := blk_frozen BK101.out 1
     have hns14_1 := NB105_101.out
     have hms14_1 := NB101_105.out
     refine skip_ (w1 := ?_) (by rfl) rfl ?_ ?_
     rotate_left
     ·go_simp
      rfl
     refine hK.out _ _ ⟨v107,adz_v107,m6_,(by rw [ha.out];exact putSel_none (v := undef) rfl),fun h0_ => absurd ((up_self b 8).symm.trans h0_) T48_,(by (with_reducible repeat (first | refine blk_drewN ?_ _ | refine blk_drew ?_ | refine blk_alloc ?_ _));refine blk_far ?_ NB105_101.out _;(with_reducible repeat (first | refine blk_drewN ?_ _ | refine blk_drew ?_ | refine blk_alloc ?_ _));refine blk_far ?_ NB105_101.out _;(with_reducible repeat (first | refine blk_drewN ?_ _ | refine blk_drew ?_ | refine blk_alloc ?_ _));exact BK105.out),T45_,fun h0_ => (by (with_reducible repeat (first | apply Kd.R_alloc | apply Kd.R_drewN | apply Kd.R_drew));exact Kd.R_mono (Kd.R_far (p := ⟨gb101,1,none⟩) (Kd.R_far (p := ⟨gb101,0,none⟩) (Kd.R_types (Q_HO108 h0_) BK101.out T48_) (fun _ hk => hk.2) (.int .i64 t102)) (fun _ hk => hk.2) (.int .i64 t103)) (fun _ hk => trivial)),Q_HA_HO108,fun _ => T25_,Q_X6_⟩
    refine steps_cons ?_ ?_
    ·rintro b a w' ⟨v107,adz_v107,m6_,ha,Q_BK101,Q_BK105,Q_HB,Q_HO108,Q_HA_HO108,Q_BK101_e8,Q_X6_⟩ hb_ hon hoff
     refine ⟨_,rfl,fun K hK => ?_⟩
     have e13 : a.tmps[13]? = some (.int .i64 t104) := by rw [ha];exact (putSel_off rfl).trans rfl
     replace ha := aZ_ ha
     have BK105 := aZ_ Q_BK105
     have HB := aZ_ Q_HB
     have BK101 := aZ_ (Q_BK101_e8 (hon 8 T15_))
     refine value_ (w1 := w') (v := .int .i64 t104) (by rfl) rfl ?_ ?_
     ·go_simp
      (try simp only [i64_w])
      try rfl
     refine hK.out _ _ ⟨v107,adz_v107,m6_,(by rw [ha.out];exact putSel_upk 6 hb_ rfl rfl rfl),fun h0_ => absurd ((hon 8 T15_).symm.trans h0_) T48_,Q_BK105,Q_HB,Q_HO108,Q_HA_HO108,Q_BK101_e8,Q_X6_⟩
    refine steps_cons ?_ ?_
    ·rintro b a w' ⟨v107,adz_v107,m6_,ha,Q_BK101,Q_BK105,Q_HB,Q_HO108,Q_HA_HO108,Q_BK101_e8,Q_X6_⟩ hb_ hon hoff
     refine ⟨_,rfl,fun K hK => ?_⟩
     have e19 : a.tmps[19]? = some (.int .i64 (rd y106 (ji3))) := by rw [ha];exact putSel_on (e := (7,19,.int .i64 (rd y106 (ji3)))) 5 rfl rfl (hon 7 T15_) rfl
     replace ha := aZ_ ha
     have BK105 := aZ_ Q_BK105
     have HB := aZ_ Q_HB
     have HO108 := aZ_ (Q_HO108 (hon 2 T15_))
     have HA_HO108 := aZ_ (Q_HA_HO108 (hon 2 T15_))
     have BK101 := aZ_ (Q_BK101_e8 (hon 8 T15_))
     refine value_ (w1 := w') (v := .int .i64 (rd y106 (ji3))) (by rfl) rfl ?_ ?_
     ·go_simp
      (try simp only [i64_w])
      try rfl
     refine hK.out _ _ ⟨v107,adz_v107,m6_,(by rw [ha.out];exact putSel_upk 7 hb_ rfl rfl rfl),fun h0_ => absurd ((hon 8 T15_).symm.trans h0_) T48_,Q_BK105,Q_HB,Q_HO108,Q_HA_HO108,Q_BK101_e8,Q_X6_⟩
    exact steps_nil
   rintro b a w18 hall ⟨v107,adz_v107,m6_,ha,Q_BK101,Q_BK105,Q_HB,Q_HO108,Q_HA_HO108,Q_BK101_e8,Q_X6_⟩
   clear BK101 BK105 HB
   have hb0_ := hall 0 T15_
   have hb2_ := hall 2 T15_
   have hb4_ := hall 4 T15_
   have hb5_ := hall 5 T15_
   have hb6_ := hall 6 T15_
   have hb7_ := hall 7 T15_
   have hb8_ := hall 8 T15_
   have hb9_ := hall 9 T15_
   have hb10_ := hall 10 T15_
   subst ha
   obtain rfl := Q_X6_ hb6_
   simp only [putSel,hb0_,hb2_,hb4_,hb5_,hb6_,hb7_,hb8_,hb9_,hb10_,if_true,Act.put,List.setIfInBounds_toArray,List.set_cons_zero,List.set_cons_succ]
   clear Q_BK101
   have BK105 := aZ_ Q_BK105
   clear Q_BK105
   have HB := aZ_ Q_HB
   clear Q_HB
   have HO108 := aZ_ (Q_HO108 hb2_)
   clear Q_HO108
   have HA_HO108 := aZ_ (Q_HA_HO108 hb2_)
   clear Q_HA_HO108
   have BK101 := aZ_ (Q_BK101_e8 hb8_)
   clear Q_BK101_e8
   clear hall hb0_ hb2_ hb4_ hb5_ hb6_ hb7_ hb8_ hb9_ hb10_
   obtain ⟨co19,eo19⟩ := HA_HO108.out
   clear HA_HO108
   subst eo19
   try go_wp2
   refine bodyPost_ret (results_ctt rfl _ _ gb101 25 #[.int .i64 t102,.int .i64 t103] (0,0) _ rfl T3_ Try.underlying25 rfl T15_) rfl ?_
   exact ⟨by first | rfl | (simp [errW_none,errW_some] <;> rfl) | (simp only [← hji3];first | rfl | (simp [errW_none,errW_some] <;> rfl)) | (simp [*,errW_none,errW_some] <;> rfl),by repeat (first | (with_reducible first | exact HB.out | apply below_alloc | apply pw_below_drewN | apply below_drew1 | refine below_set ?_ GE101.out | refine below_set ?_ GE105.out) | exact HB.out)⟩
  ·rw [if_neg c5] at H
   exact absurd H T49_
 ·rw [if_neg c4] at H
  exact absurd H T49_
def spec_DrawLargestFooling.f (k : Nat) (l0 : List Int) : Option (Int × Int × Int × Int) := (spec_l20Three.f k l0).bind fun bt102 => (some (bt102.1,bt102.2.1,bt102.2.2.1,bt102.2.2.2))
set_option maxHeartbeats 8000000 in
set_option maxRecDepth 100000 in
theorem spec_DrawLargestFooling.calls (k : Nat) (A0 : Option Addr) (c0 : Nat) (l0 : List Int) (r1 : Int) (r2 : Int) (r3 : Int) (r4 : Int) (w : World) (hr0 : Kd.C (Kd.int .u8) w A0 l0.length l0) (hc0 : l0.length ≤ c0) (h : spec_DrawLargestFooling.f k l0 = some (r1,r2,r3,r4)) :
  Calls Try.prog 31 #[.slice A0 l0.length c0] w fun e w' => e = .returned (.tuple #[.agg #[.int .i64 r1,.int .i64 r2],.int .i64 r3,.int .i64 r4]) ∧ Below w.heap.size w w' := by
 have hu25 := Try.underlying25
 have HR0 := aZ_ hr0
 have HC0 := aZ_ hc0
 clear hr0 hc0
 have HB := aZ_ (Below.refl w.heap.size w)
 have H : ((spec_l20Three.f k l0).bind fun bt102 => (some (bt102.1,bt102.2.1,bt102.2.2.1,bt102.2.2.2))) = some (r1,r2,r3,r4) := h
 clear h
 replace H := Option.bind_eq_some_iff.mp H
 obtain ⟨⟨t102,t103,t104,t105⟩,A20,H⟩ := H
 replace H : (some (t102,t103,t104,t105)) = some (r1,r2,r3,r4) := H
 have A2 := aZ_ A20
 clear A20
 simp only [Option.some.injEq,Prod.mk.injEq] at H
 obtain ⟨rfl,rfl,rfl,rfl⟩ := H
 go_enter Try.func31,Try.ntmps31
 go_wp2_with (first | ((with_reducible refine gate_dst (N := 2) rfl ?_);refine box_event ?hg (N := 2) ?hd (cs := #[.int .i64 0,.int .i64 0]) (t := 25) ?hr ?_;(case hd => rfl);(case hg => rfl);(case hr => first | (go_simp;done) | (go_simp;rfl));intro gb101 hg w3 hbox hb;have n0_ := aZ_ (below_step T5_ hb);have n1_ := aZ_ (hbox);have n2_ := aZ_ ((T2_ : w.heap.size ≤ gb101));have n3_ := aZ_ ((T2_ : w.heap.size ≤ gb101));clear HB;have HB := n0_;have BK101 := n1_;have GW101 := n2_;have GE101 := n3_;clear n0_ n1_ n2_ n3_;clear hb hbox hg) | ((with_reducible refine gate_callee (f := 74) rfl ?_);refine goesL_ (some 10) rfl rfl Try.func74 T15_ rfl #[.slice A0 l0.length c0] rfl T4_ ?_;(with_reducible refine (spec_l20Three.calls k _ _ l0 t102 t103 t104 t105 _ ?side1 ?side2 A2.out).mono ?_);(case side1 => repeat (first | exact (Kd.C_below HR0.out HB.out) | (with_reducible refine Kd.C_alloc ?_ _) | (with_reducible refine Kd.C_drewN ?_ _) | (with_reducible refine Kd.C_drew ?_)));(case side2 => exact HC0.out);rintro e w4 ⟨rfl,hb⟩;refine ⟨_,rfl,?_⟩;have n0_ := aZ_ (blk_below (g := gb101) (o := .cells #[.int .i64 0,.int .i64 0] 25 (0,0)) T3_ hb);have n1_ := aZ_ (below_step T1_ hb);clear BK101;clear HB;have BK101 := n0_;have HB := n1_;clear n0_ n1_;(try clear hb);(try clear hb2);(try clear hk);(try clear hi)) | ((with_reducible refine gate_dst (N := 5) rfl ?_);refine box_event ?hg (N := 5) ?hd (cs := #[.int .i64 0,.int .i64 0]) (t := 25) ?hr ?_;(case hd => rfl);(case hg => rfl);(case hr => first | (go_simp;done) | (go_simp;rfl));intro gb106 hg w5 hbox hb;have n0_ := aZ_ (blk_below (g := gb101) (o := .cells #[.int .i64 0,.int .i64 0] 25 (0,0)) T3_ hb);have n1_ := aZ_ (below_step T1_ hb);have n2_ := aZ_ (hbox);have n3_ := aZ_ ((T17_ : w.heap.size ≤ gb106));have n4_ := aZ_ ((T17_ : w.heap.size ≤ gb106));have n5_ := aZ_ ((T19_ : gb101 ≠ gb106));have n6_ := aZ_ ((T20_ : gb106 ≠ gb101));clear BK101;clear HB;have BK101 := n0_;have HB := n1_;have BK106 := n2_;have GW106 := n3_;have GE106 := n4_;have NB101_106 := n5_;have NB106_101 := n6_;clear n0_ n1_ n2_ n3_ n4_ n5_ n6_;clear hb hbox hg;have hnb6 := NB106_101.out;have hnc6 := NB101_106.out;have hcz7_0 : w5.cell? ⟨gb106,0,none⟩ = some (.int .i64 0) := (blk_cell BK106.out 0).trans rfl;have hcz7_1 : w5.cell? ⟨gb106,1,none⟩ = some (.int .i64 0) := (blk_cell BK106.out 1).trans rfl;have hfz7_0 := blk_frozen BK106.out 0;have hfz7_1 := blk_frozen BK106.out 1;have hcz8_0 : w5.cell? ⟨gb101,0,none⟩ = some (.int .i64 0) := (blk_cell BK101.out 0).trans rfl;have hcz8_1 : w5.cell? ⟨gb101,1,none⟩ = some (.int .i64 0) := (blk_cell BK101.out 1).trans rfl;have hfz8_0 := blk_frozen BK101.out 0;have hfz8_1 := blk_frozen BK101.out 1))
 refine bodyPost_ret (results_ctt rfl _ _ gb101 25 #[.int .i64 t102,.int .i64 t103] (0,0) _ rfl (by (with_reducible repeat (first | refine blk_drewN ?_ _ | refine blk_drew ?_ | refine blk_alloc ?_ _));refine blk_put (cs := #[.int .i64 t102,.int .i64 0]) ?_ 1 _ rfl;(with_reducible repeat (first | refine blk_drewN ?_ _ | refine blk_drew ?_ | refine blk_alloc ?_ _));refine blk_put (cs := #[.int .i64 0,.int .i64 0]) ?_ 0 _ rfl;(with_reducible repeat (first | refine blk_drewN ?_ _ | refine blk_drew ?_ | refine blk_alloc ?_ _));refine blk_far ?_ NB101_106.out _;(with_reducible repeat (first | refine blk_drewN ?_ _ | refine blk_drew ?_ | refine blk_alloc ?_ _));refine blk_far ?_ NB101_106.out _;(with_reducible repeat (first | refine blk_drewN ?_ _ | refine blk_drew ?_ | refine blk_alloc ?_ _));exact BK101.out) Try.underlying25 rfl T15_) rfl ?_
 exact ⟨by first | rfl | (simp [errW_none,errW_some] <;> rfl) | (simp [*,errW_none,errW_some] <;> rfl),by repeat (first | (with_reducible first | exact HB.out | apply below_alloc | apply pw_below_drewN | apply below_drew1 | refine below_set ?_ GE101.out | refine below_set ?_ GE106.out) | exact HB.out)⟩
def impl_isBit.f (a0 : Int) : Option (Bool) := if a0 = 0 then (some true) else (some (a0 == 1))
set_option maxHeartbeats 8000000 in
set_option maxRecDepth 100000 in
theorem impl_isBit.calls (a0 : Int) (r : Bool) (w : World) (h : impl_isBit.f a0 = some r) :
  Calls Try.prog 55 #[.int .i64 a0] w fun e w' => e = .returned (.bool r) ∧ Drawn0 w w' := by
 have H : (if a0 = 0 then (some true) else (some (a0 == 1))) = some r := h
 clear h
 by_cases c2 : a0 = 0
 ·rw [if_pos c2] at H
  have c2b0 : (a0 == 0) = true := beq_iff_eq.mpr c2
  have c2b1 : (a0 != 0) = false := bne_eq_false_iff_eq.mpr c2
  clear c2
  obtain rfl := Option.some.inj H
  go_enter Try.func55,Try.ntmps55
  go_wp2
  go_ret
  exact ⟨by first | rfl | (simp;done) | (simp [*];done),by repeat (first | exact Drawn0.refl _ | apply Drawn0.step)⟩
 ·rw [if_neg c2] at H
  have c2b0 : (a0 == 0) = false := beq_eq_false_iff_ne.mpr c2
  have c2b1 : (a0 != 0) = true := bne_iff_ne.mpr c2
  obtain rfl := Option.some.inj H
  go_enter Try.func55,Try.ntmps55
  go_wp2
  go_ret
  exact ⟨by first | rfl | (simp;done) | (simp [*];done),by repeat (first | exact Drawn0.refl _ | apply Drawn0.step)⟩
def impl_Table_apartBy.f (a0_0 : Int) (a0_1 : Int) (a1 : Int) (a2 : Int) (a3 : Int) (a4 : Int) : Option (Bool) := if 0 ≤ a1 then ((impl_Table_at.f a0_0 a0_1 (Go.bits .or .i64 (Go.bits .and .i64 a3 (wrap64 ((shl .i64 1 a1) - 1))) (Go.bits .andNot .i64 a4 (wrap64 ((shl .i64 1 a1) - 1))))).bind fun t102 => (if t102 = a2 then ((impl_Table_at.f a0_0 a0_1 (Go.bits .or .i64 (Go.bits .and .i64 a4 (wrap64 ((shl .i64 1 a1) - 1))) (Go.bits .andNot .i64 a3 (wrap64 ((shl .i64 1 a1) - 1))))).bind fun t103 => (some (t103 != a2))) else (some true))) else (none)
set_option maxHeartbeats 8000000 in
set_option maxRecDepth 100000 in
theorem impl_Table_apartBy.calls (a0_0 : Int) (a0_1 : Int) (a1 : Int) (a2 : Int) (a3 : Int) (a4 : Int) (r : Bool) (w : World) (h : impl_Table_apartBy.f a0_0 a0_1 a1 a2 a3 a4 = some r) :
  Calls Try.prog 79 #[.agg #[.int .i64 a0_0,.int .i64 a0_1],.int .i64 a1,.int .i64 a2,.int .i64 a3,.int .i64 a4] w fun e w' => e = .returned (.bool r) ∧ Below w.heap.size w w' := by
 have hu25 := Try.underlying25
 have HB := aZ_ (Below.refl w.heap.size w)
 have H : (if 0 ≤ a1 then ((impl_Table_at.f a0_0 a0_1 (Go.bits .or .i64 (Go.bits .and .i64 a3 (wrap64 ((shl .i64 1 a1) - 1))) (Go.bits .andNot .i64 a4 (wrap64 ((shl .i64 1 a1) - 1))))).bind fun t102 => (if t102 = a2 then ((impl_Table_at.f a0_0 a0_1 (Go.bits .or .i64 (Go.bits .and .i64 a4 (wrap64 ((shl .i64 1 a1) - 1))) (Go.bits .andNot .i64 a3 (wrap64 ((shl .i64 1 a1) - 1))))).bind fun t103 => (some (t103 != a2))) else (some true))) else (none)) = some r := h
 clear h
 by_cases c6 : 0 ≤ a1
 ·rw [if_pos c6] at H
  have c6b0 := eq_true c6
  have c6b1 : decide (0 ≤ a1) = true := decide_eq_true c6
  clear c6
  obtain ⟨ji7,hji7⟩ : ∃ j_ : Int,(shl .i64 1 a1) = j_ := ⟨_,rfl⟩
  replace H : ((impl_Table_at.f a0_0 a0_1 (Go.bits .or .i64 (Go.bits .and .i64 a3 (wrap64 ((ji7) - 1))) (Go.bits .andNot .i64 a4 (wrap64 ((ji7) - 1))))).bind fun t102 => (if t102 = a2 then ((impl_Table_at.f a0_0 a0_1 (Go.bits .or .i64 (Go.bits .and .i64 a4 (wrap64 ((ji7) - 1))) (Go.bits .andNot .i64 a3 (wrap64 ((ji7) - 1))))).bind fun t103 => (some (t103 != a2))) else (some true))) = some r := by first | (rw [hji7] at H;exact H) | (simp only [hji7] at H ⊢;exact H)
  have hji7_ : (IntKind.i64.wrap (1 * 2 ^ min a1.toNat 64)) = ji7 := hji7
  have hji7z : a1 ≤ 64 → (IntKind.i64.wrap (1 * 2 ^ a1.toNat)) = ji7 := shl_small hji7
  have hji7u : (IntKind.i64.wrap (2 ^ min a1.toNat 64)) = ji7 := by have h_ := hji7_;rw [Int.one_mul] at h_;exact h_
  have hji7v : a1 ≤ 64 → (IntKind.i64.wrap (2 ^ a1.toNat)) = ji7 := fun hle_ => by have h_ := hji7z hle_;rw [Int.one_mul] at h_;exact h_
  have hji7y : (wrap64 (1 * 2 ^ min a1.toNat 64)) = ji7 := (i64_w _).symm.trans hji7_
  have hji7x : a1 ≤ 64 → (wrap64 (1 * 2 ^ a1.toNat)) = ji7 := fun h_ => (i64_w _).symm.trans (hji7z h_)
  replace H := Option.bind_eq_some_iff.mp H
  obtain ⟨t102,A80,H⟩ := H
  replace H : (if t102 = a2 then ((impl_Table_at.f a0_0 a0_1 (Go.bits .or .i64 (Go.bits .and .i64 a4 (wrap64 ((ji7) - 1))) (Go.bits .andNot .i64 a3 (wrap64 ((ji7) - 1))))).bind fun t103 => (some (t103 != a2))) else (some true)) = some r := H
  have A8 := aZ_ A80
  clear A80
  by_cases c9 : t102 = a2
  ·rw [if_pos c9] at H
   have c9b0 : (t102 == a2) = true := beq_iff_eq.mpr c9
   have c9b1 : (t102 != a2) = false := bne_eq_false_iff_eq.mpr c9
   clear c9
   replace H := Option.bind_eq_some_iff.mp H
   obtain ⟨t103,A100,H⟩ := H
   replace H : (some (t103 != a2)) = some r := H
   have A10 := aZ_ A100
   clear A100
   obtain rfl := Option.some.inj H
   go_enter Try.func79,Try.ntmps79
   go_wp2_with (first | ((with_reducible refine gate_dst (N := 5) rfl ?_);refine box_event ?hg (N := 5) ?hd (cs := #[.int .i64 a0_0,.int .i64 a0_1]) (t := 25) ?hr ?_;(case hd => rfl);(case hg => rfl);(case hr => first | (go_simp;done) | (go_simp;rfl));intro gb101 hg w11 hbox hb;have n0_ := aZ_ (below_step T5_ hb);have n1_ := aZ_ (hbox);have n2_ := aZ_ ((T2_ : w.heap.size ≤ gb101));have n3_ := aZ_ ((T2_ : w.heap.size ≤ gb101));clear HB;have HB := n0_;have BK101 := n1_;have GW101 := n2_;have GE101 := n3_;clear n0_ n1_ n2_ n3_;clear hb hbox hg;have hcz12_0 : w11.cell? ⟨gb101,0,none⟩ = some (.int .i64 a0_0) := (blk_cell BK101.out 0).trans rfl;have hcz12_1 : w11.cell? ⟨gb101,1,none⟩ = some (.int .i64 a0_1) := (blk_cell BK101.out 1).trans rfl;have hfz12_0 := blk_frozen BK101.out 0;have hfz12_1 := blk_frozen BK101.out 1) | ((with_reducible refine gate_callee (f := 78) rfl ?_);refine goesL_ (some 23) rfl rfl Try.func78 T15_ rfl #[.agg #[.int .i64 a0_0,.int .i64 a0_1],.int .i64 (Go.bits .or .i64 (Go.bits .and .i64 a3 (wrap64 ((ji7) - 1))) (Go.bits .andNot .i64 a4 (wrap64 ((ji7) - 1))))] rfl T66_ ?_;(with_reducible refine (impl_Table_at.calls a0_0 a0_1 (Go.bits .or .i64 (Go.bits .and .i64 a3 (wrap64 ((ji7) - 1))) (Go.bits .andNot .i64 a4 (wrap64 ((ji7) - 1)))) t102 _ A8.out).mono ?_);rintro e w13 ⟨rfl,hb⟩;refine ⟨_,rfl,?_⟩;have n0_ := aZ_ (blk_below (g := gb101) (o := .cells #[.int .i64 a0_0,.int .i64 a0_1] 25 (0,0)) T3_ hb);have n1_ := aZ_ (below_step T1_ hb);clear BK101;clear HB;have BK101 := n0_;have HB := n1_;clear n0_ n1_;(try clear hb);(try clear hb2);(try clear hk);(try clear hi);have hcz14_0 : w13.cell? ⟨gb101,0,none⟩ = some (.int .i64 a0_0) := (blk_cell BK101.out 0).trans rfl;have hcz14_1 : w13.cell? ⟨gb101,1,none⟩ = some (.int .i64 a0_1) := (blk_cell BK101.out 1).trans rfl;have hfz14_0 := blk_frozen BK101.out 0;have hfz14_1 := blk_frozen BK101.out 1) | (go_at_call 78;(with_reducible refine (impl_Table_at.calls a0_0 a0_1 (Go.bits .or .i64 (Go.bits .and .i64 a4 (wrap64 ((ji7) - 1))) (Go.bits .andNot .i64 a3 (wrap64 ((ji7) - 1)))) t103 _ A10.out).mono ?_);rintro e w15 ⟨rfl,hb⟩;have n0_ := aZ_ (blk_below (g := gb101) (o := .cells #[.int .i64 a0_0,.int .i64 a0_1] 25 (0,0)) T3_ hb);have n1_ := aZ_ (below_step T1_ hb);clear BK101;clear HB;have BK101 := n0_;have HB := n1_;clear n0_ n1_;(try clear hb);(try clear hb2);(try clear hk);(try clear hi)))
   go_ret
   exact ⟨by first | rfl | (simp [errW_none,errW_some] <;> rfl) | (simp only [← hji7];first | rfl | (simp [errW_none,errW_some] <;> rfl)) | (simp [*,errW_none,errW_some] <;> rfl),by repeat (first | (with_reducible first | exact HB.out | apply below_alloc | apply pw_below_drewN | apply below_drew1 | refine below_set ?_ GE101.out) | exact HB.out)⟩
  ·rw [if_neg c9] at H
   have c9b0 : (t102 == a2) = false := beq_eq_false_iff_ne.mpr c9
   have c9b1 : (t102 != a2) = true := bne_iff_ne.mpr c9
   obtain rfl := Option.some.inj H
   go_enter Try.func79,Try.ntmps79
   go_wp2_with (first | ((with_reducible refine gate_dst (N := 5) rfl ?_);refine box_event ?hg (N := 5) ?hd (cs := #[.int .i64 a0_0,.int .i64 a0_1]) (t := 25) ?hr ?_;(case hd => rfl);(case hg => rfl);(case hr => first | (go_simp;done) | (go_simp;rfl));intro gb101 hg w16 hbox hb;have n0_ := aZ_ (below_step T5_ hb);have n1_ := aZ_ (hbox);have n2_ := aZ_ ((T2_ : w.heap.size ≤ gb101));have n3_ := aZ_ ((T2_ : w.heap.size ≤ gb101));clear HB;have HB := n0_;have BK101 := n1_;have GW101 := n2_;have GE101 := n3_;clear n0_ n1_ n2_ n3_;clear hb hbox hg;have hcz17_0 : w16.cell? ⟨gb101,0,none⟩ = some (.int .i64 a0_0) := (blk_cell BK101.out 0).trans rfl;have hcz17_1 : w16.cell? ⟨gb101,1,none⟩ = some (.int .i64 a0_1) := (blk_cell BK101.out 1).trans rfl;have hfz17_0 := blk_frozen BK101.out 0;have hfz17_1 := blk_frozen BK101.out 1) | ((with_reducible refine gate_callee (f := 78) rfl ?_);refine goesL_ (some 23) rfl rfl Try.func78 T15_ rfl #[.agg #[.int .i64 a0_0,.int .i64 a0_1],.int .i64 (Go.bits .or .i64 (Go.bits .and .i64 a3 (wrap64 ((ji7) - 1))) (Go.bits .andNot .i64 a4 (wrap64 ((ji7) - 1))))] rfl T66_ ?_;(with_reducible refine (impl_Table_at.calls a0_0 a0_1 (Go.bits .or .i64 (Go.bits .and .i64 a3 (wrap64 ((ji7) - 1))) (Go.bits .andNot .i64 a4 (wrap64 ((ji7) - 1)))) t102 _ A8.out).mono ?_);rintro e w18 ⟨rfl,hb⟩;refine ⟨_,rfl,?_⟩;have n0_ := aZ_ (blk_below (g := gb101) (o := .cells #[.int .i64 a0_0,.int .i64 a0_1] 25 (0,0)) T3_ hb);have n1_ := aZ_ (below_step T1_ hb);clear BK101;clear HB;have BK101 := n0_;have HB := n1_;clear n0_ n1_;(try clear hb);(try clear hb2);(try clear hk);(try clear hi)))
   go_ret
   exact ⟨by first | rfl | (simp [errW_none,errW_some] <;> rfl) | (simp only [← hji7];first | rfl | (simp [errW_none,errW_some] <;> rfl)) | (simp [*,errW_none,errW_some] <;> rfl),by repeat (first | (with_reducible first | exact HB.out | apply below_alloc | apply pw_below_drewN | apply below_drew1 | refine below_set ?_ GE101.out) | exact HB.out)⟩
 ·rw [if_neg c6] at H
  exact absurd H T49_
def slices_Clone_int_int.f (l0 : List Int) : Option (List Int) := if l0.length < 17592186044416 then some l0 else none
set_option maxHeartbeats 8000000 in
set_option maxRecDepth 100000 in
theorem slices_Clone_int_int.calls (A0 : Option Addr) (c0 : Nat) (l0 : List Int) (r : List Int) (w : World) (hr0 : Kd.C (Kd.int .i64) w A0 l0.length l0) (hc0 : l0.length ≤ c0) (h : slices_Clone_int_int.f l0 = some r) :
  Calls Try.prog 88 #[.slice A0 l0.length c0] w fun e w' => ∃ v0_ : Value,e = .returned (v0_) ∧ Kd.R (Kd.int .i64) 3 w' w.heap.size (fun _ => True) v0_ r ∧ Below w.heap.size w w' := by
 cases A0 with
 | none =>
  obtain rfl : l0 = [] := by
   by_cases hl : 0 < l0.length
   ·obtain ⟨ad,e,_⟩ := Kd.at_int hr0 0 T44_ T44_
    cases e
   ·exact List.eq_nil_of_length_eq_zero T44_
  obtain rfl : [] = r := Option.some.inj h
  clear h hr0
  have he : ∀ W : World,(Sem.run Try.prog (binOp BinOp.eql 27 (Value.slice none 0 c0) (Value.slice none 0 0)) W) = Result.ok (Value.bool true) W := fun W => by first | rfl | kernel_rfl
  have HB := Below.refl w.heap.size w
  go_enter Try.func88,Try.ntmps88
  go_wp2
  go_ret
  exact ⟨_,rfl,Kd.R_nil _ _ _ _ _,HB⟩
 | some ad =>
  have HR0 := aZ_ hr0
  have HC0 := aZ_ hc0
  clear hr0 hc0
  have HB := aZ_ (Below.refl w.heap.size w)
  unfold slices_Clone_int_int.f at h
  by_cases c3 : l0.length < 17592186044416
  ·rw [if_pos c3] at h
   have LMc3' := c3
   clear c3
   obtain ⟨y101,hy101⟩ : ∃ y_ : List Int,y_ = ([] : List Int) := ⟨_,rfl⟩
   have LMc3 : Aside0 (y101.length + l0.length < 17592186044416) := ⟨by rw [hy101];simpa using LMc3'⟩
   clear LMc3'
   obtain ⟨y104,hy104⟩ : ∃ y_ : List Int,y_ = (y101 ++ l0) := ⟨_,rfl⟩
   obtain rfl : y104 = r := by rw [hy104,hy101];exact Option.some.inj h
   have Ny101 := aZ_ hy101
   have Ny104 := aZ_ hy104
   clear h hy101 hy104
   have he : ∀ W : World,(Sem.run Try.prog (binOp BinOp.eql 27 (Value.slice (some ad) l0.length c0) (Value.slice none 0 0)) W) = Result.ok (Value.bool false) W := fun W => by first | rfl | kernel_rfl
   go_enter Try.func88,Try.ntmps88
   go_wp2_with (first | ((with_reducible refine gate_dst (N := 5) rfl ?_);refine Kd.R_lit (Kd.int .i64) _ 3 ?hg (N := 5) ?hd (xs := ([] : List Int)) (inner := []) (ok := fun _ => True) (okp := fun _ => True) ?hr ?hp (fun _ hk => hk) trivial (Below.refl _ _) (Nat.le_refl _) T49_ ?_;(case hd => rfl);(case hg => rfl);(case hr => first | (go_simp;done) | (go_simp;rfl));(case hp => exact (Reps.none _ _));intro v102 w4 ho5 hb hg_ hnew_;clear hg_ hnew_;(first | rw [← Ny101.out] at ho5 | (simp only [Int.reduceToNat] at ho5;rw [← Ny101.out] at ho5));have n0_ := aZ_ (Kd.R_lower ho5 (below_size T5_));have n1_ := aZ_ (below_step T5_ hb);clear HB;have HO103 := n0_;have HB := n1_;clear n0_ n1_;clear hb ho5) | ((with_reducible refine gate_builtin (b := .append) (xs := #[.tmp 5,.tmp 6]) rfl ?_);at_builtin;refine Kd.R_append_rows (Kd.int .i64) (w0 := w) w.heap.size rfl (.tmp 5) (.tmp 6) 27 3 (.int .i64 0) 8 rfl Try.underlying27 info3 rfl T48_ T44_ v102 y101 l0 _ _ _ (fun _ => True) (fun _ => False) rfl rfl ?aO ?aR (fun _ _ h => h) (fun _ h => h.elim) ?aF ?aB ?aS ?aL ?_;(case aR => repeat (first | exact (Kd.C_below HR0.out HB.out) | (with_reducible refine Kd.C_alloc ?_ _) | (with_reducible refine Kd.C_drewN ?_ _) | (with_reducible refine Kd.C_drew ?_)));(case aB => exact T5_);(case aF => exact (fun _ _ => trivial));(case aO => exact (by (with_reducible repeat (first | apply Kd.R_alloc | apply Kd.R_drewN | apply Kd.R_drew));exact HO103.out));(case aS => exact (below_size T5_));(case aL => have := LMc3.out;omega);intro v105 w6 ho hb hg hat;rw [← Ny104.out] at ho;have n0_ := aZ_ (hb);have n1_ := aZ_ (ho);clear HB;clear HO103;have HB := n0_;have HO106 := n1_;clear n0_ n1_;clear ho hb hg hat))
   go_ret
   exact ⟨_,by first | rfl | (simp [errW_none,errW_some] <;> rfl) | (simp [*,errW_none,errW_some] <;> rfl),by (with_reducible repeat (first | apply Kd.R_alloc | apply Kd.R_drewN | apply Kd.R_drew));exact HO106.out,by repeat (first | (with_reducible first | exact HB.out | apply below_alloc | apply pw_below_drewN | apply below_drew1) | exact HB.out)⟩
  ·rw [if_neg c3] at h
   cases h
end Go.Proofs.Ythlajlhjofjmcaa.F
namespace Go.Proofs.Ythlajlhjofjmcaa.U
open Go.RowKit Go.Proofs.Ythlajlhjofjmcaa.B
set_option linter.unusedVariables false
def pick (y acc : List Int) : List Int := if acc.length < y.length then y else acc
theorem pick_assoc (a b c : List Int) : pick a (pick b c) = pick (pick a b) c := by
  unfold pick
  by_cases h1 : c.length < b.length
  · rw [if_pos h1]
    by_cases h2 : b.length < a.length
    · rw [if_pos h2,if_pos (by omega)]
    · rw [if_neg h2,if_pos h1]
  · rw [if_neg h1]
    by_cases h2 : b.length < a.length
    · rw [if_pos h2]
    · rw [if_neg h2,if_neg h1,if_neg (by omega)]
theorem pick_nil (c : List Int) : pick c [] = c := by
  unfold pick
  cases c with
  | nil => rfl
  | cons a c => exact if_pos (Nat.succ_pos c.length)
def allF (ok : List Int → Nat → Bool) : Nat → Nat → List Int → List Int → List Int
  | 0,_,_,acc => acc
  | d + 1,x,l,acc => if ok l x = true then allF ok d (x + 1) l (pick (allF ok d (x + 1) (l ++ [(x : Int)]) (l ++ [(x : Int)])) acc) else allF ok d (x + 1) l acc
def cutF (ok : List Int → Nat → Bool) : Nat → Nat → List Int → List Int → List Int
  | 0,_,_,best => best
  | d + 1,x,l,best => if best.length < l.length + (d + 1) then (if ok l x = true then cutF ok d (x + 1) l (cutF ok d (x + 1) (l ++ [(x : Int)]) (pick (l ++ [(x : Int)]) best)) else cutF ok d (x + 1) l best) else best
theorem allF_pick (ok : List Int → Nat → Bool) : ∀ (d x : Nat) (l acc : List Int),allF ok d x l acc = pick (allF ok d x l []) acc := by
  intro d
  induction d with
  | zero => intro x l acc;rw [allF,allF];unfold pick;rw [if_neg (show ¬ acc.length < ([] : List Int).length from Nat.not_lt_zero _)]
  | succ d ih =>
    intro x l acc
    rw [allF,allF]
    cases ok l x with
    | false => rw [if_neg (by decide),if_neg (by decide)];exact ih _ _ _
    | true =>
      rw [if_pos rfl,if_pos rfl,ih (x + 1) l (pick _ acc),ih (x + 1) l (pick _ []),pick_nil,pick_assoc]
theorem allF_le (ok : List Int → Nat → Bool) : ∀ (d x : Nat) (l acc : List Int),(allF ok d x l acc).length ≤ max acc.length (l.length + d) := by
  intro d
  induction d with
  | zero => intro x l acc;rw [allF];omega
  | succ d ih =>
    intro x l acc
    rw [allF]
    split
    next =>
      have h1 := ih (x + 1) l (pick (allF ok d (x + 1) (l ++ [(x : Int)]) (l ++ [(x : Int)])) acc)
      have h2 := ih (x + 1) (l ++ [(x : Int)]) (l ++ [(x : Int)])
      rw [List.length_append] at h2
      simp only [List.length_singleton] at h2
      have h3 : (pick (allF ok d (x + 1) (l ++ [(x : Int)]) (l ++ [(x : Int)])) acc).length ≤ max acc.length (l.length + (d + 1)) := by
        unfold pick
        split <;> omega
      omega
    next =>
      have h1 := ih (x + 1) l acc
      omega
theorem cutF_eq (ok : List Int → Nat → Bool) : ∀ (d x : Nat) (l best : List Int),cutF ok d x l best = allF ok d x l best := by
  intro d
  induction d with
  | zero => intro x l best;rfl
  | succ d ih =>
    intro x l best
    rw [cutF]
    by_cases h : best.length < l.length + (d + 1)
    · rw [if_pos h,allF]
      cases ok l x with
      | false => rw [if_neg (by decide),if_neg (by decide)];exact ih _ _ _
      | true =>
        rw [if_pos rfl,if_pos rfl,ih (x + 1) l,ih (x + 1) (l ++ [(x : Int)]),allF_pick ok d (x + 1) (l ++ [(x : Int)]) (pick _ best),pick_assoc,← allF_pick]
    · rw [if_neg h,allF_pick]
      unfold pick
      rw [if_neg]
      have h1 := allF_le ok (d + 1) x l []
      simp only [List.length_nil] at h1
      omega
theorem cutF_nil (ok : List Int → Nat → Bool) (d : Nat) : cutF ok d 0 [] [] = allF ok d 0 [] [] := cutF_eq ok d 0 [] []
end Go.Proofs.Ythlajlhjofjmcaa.U
