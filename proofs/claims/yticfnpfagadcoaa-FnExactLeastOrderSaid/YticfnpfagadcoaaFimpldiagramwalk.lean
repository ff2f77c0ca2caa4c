/- The walk of one Go function: a call of it ends as the Lean function of its name tells; the conditions are those of each theorem. -/
import Derived.Test.YticfnpfagadcoaaF0
import Derived.Test.YticfnpfagadcoaaFGa
import Derived.Test.YticfnpfagadcoaaFGc
import Derived.Test.YticfnpfagadcoaaFimplTableisSame
import Derived.Test.YticfnpfagadcoaaFimplTablestuck
import Derived.Test.YticfnpfagadcoaaBase
import Derived.Maps.OwnSet
import Derived.DeepKeys4
import Derived.Maps.Views
namespace Go.Proofs.Yticfnpfagadcoaa.F
open Go.RowKit Go.Proofs.YticfnpfagadcoaaW.PrintWords Go.Proofs.YticfnpfagadcoaaW.PrintLast Go.Proofs.YticfnpfagadcoaaW.PrintMore
attribute [local go_sem] max2_int min2_int max_two min_two max_three min_three max_four min_four   -- for this text's walks alone
set_option linter.unusedVariables false
set_option linter.unusedSimpArgs false

/-! ### impl_diagram_walk: function 287 -/
/-- Which place a search gives. -/
def firstIs (q : Int → Bool) (l : List Int) (r : Int) : Prop :=
  (∃ j : Nat, r = j ∧ j < l.length ∧ q (rd l j) = true ∧ ∀ i : Nat, i < j → q (rd l i) = false) ∨ (r = -1 ∧ ∀ i : Nat, i < l.length → q (rd l i) = false)
set_option maxHeartbeats 400000 in
set_option maxRecDepth 100000 in
theorem slices_IndexFunc_dep.any (A : Option Addr) (c : Nat) (l : List Int) (n v : Int) (q : Int → Bool) (w : World) (hr : Kd.C (Kd.int .i64) w A l.length l)
    (hq : ∀ x : Nat, x < l.length → impl_Table_depends.f n v (rd l x) = some (q (rd l x))) (hl : l.length < 9223372036854775807) :
    Calls Try.prog 283 #[.slice A l.length c, .func (.func 189) #[.agg #[.int .i64 n, .int .i64 v]] #[]] w fun e w' => ∃ r : Int, e = .returned (.int .i64 r) ∧ firstIs q l r ∧ Below w.heap.size w w' := by
  have HQ := Aside0.mk hq
  have HR := Aside0.mk hr
  have HL := Aside0.mk hl
  clear hq hr
  go_enter Try.func283, Try.ntmps283
  go_wp2
  go_loopg [8] l.length (fun gg v8 wr => ∃ x : Nat, x ≤ l.length ∧ l.length - x ≤ gg ∧ v8 = .int .i64 x ∧ Aside0 (∀ i : Nat, i < x → q (rd l i) = false) ∧ Aside0 (Below w.heap.size w wr))
  case atStart => exact ⟨0, Nat.zero_le _, by omega, rfl, ⟨fun i hi => absurd hi (Nat.not_lt_zero _)⟩, ⟨Below.refl _ _⟩⟩
  case round =>
    obtain ⟨x, hx, hg, rfl, HZ, HB⟩ := hrel
    by_cases hlt : x < l.length
    · have hltz : (x : Int) < (l.length : Int) := by omega
      have h0z : (0 : Int) ≤ (x : Int) := by omega
      have HC := Aside0.mk (HQ.out x hlt)
      obtain ⟨ad, rfl, hc⟩ := Kd.at_int HR.out (x : Int) h0z hltz
      have hc' := (HB.out.cell (World.block_lt_of_cell? w _ hc)).trans hc
      rw [Int.toNat_natCast] at hc'
      cases hqx : q (rd l x) with
      | true =>
        rw [hqx] at HC
        have HX := Aside0.mk hqx
        clear hqx
        go_wp2_with (with_reducible refine (impl_Table_depends.calls n v (rd l x) true _ HC.out).mono ?_; rintro e w' ⟨rfl, hb'⟩; have HB' := Aside0.mk (below_step HB.out hb'); clear hb')
        go_ret
        exact ⟨_, rfl, .inl ⟨x, rfl, hlt, HX.out, HZ.out⟩, HB'.out⟩
      | false =>
        rw [hqx] at HC
        have HX := Aside0.mk hqx
        clear hqx
        go_wp2_with (with_reducible refine (impl_Table_depends.calls n v (rd l x) false _ HC.out).mono ?_; rintro e w' ⟨rfl, hb'⟩; have HB' := Aside0.mk (below_step HB.out hb'); clear hb')
        go_roundg (l.length - (x + 1))
        case measure => omega
        case rel => exact ⟨x + 1, by omega, by omega, by have := HL.out; go_num, ⟨fun i hi => by
          by_cases e : i = x
          · rw [e]; exact HX.out
          · exact HZ.out i (by omega)⟩, HB'⟩
    · have hltz : ¬ (x : Int) < (l.length : Int) := by omega
      obtain rfl : x = l.length := by omega
      go_wp2
      go_ret
      exact ⟨-1, rfl, .inr ⟨rfl, HZ.out⟩, HB.out⟩
theorem laid_out : laidOutB Try.prog = true := by kernel_rfl
set_option maxRecDepth 100000 in
theorem tab_law : Go.Maps.Keyed Try.prog 25 := Go.Maps.Keyed.of_law (deep_law_laid laid_out (m := 3) (by omega) (of_decide_eq_true (by kernel_rfl)) (by kernel_rfl) (by kernel_rfl))
/-- A table as a key. -/
def tlit (n v : Int) : Lit := .string (keyBytes [.int .i64 n, .int .i64 v])
set_option maxRecDepth 100000 in
theorem tab_key {n v : Int} (wn : (Lit.int .i64 n).wf = true) (wv : (Lit.int .i64 v).wf = true) : keyOf Try.prog 25 (.agg #[.int .i64 n, .int .i64 v]) = some (tlit n v) := by
  have hu := Try.underlying25
  have hi := Try.underlying3
  have hk : Try.prog.keyType 25 = true := by kernel_rfl
  have hc : Try.prog.cellsOf 25 = 2 := by kernel_rfl
  have hc1 : Try.prog.cellsOf 3 = 1 := by kernel_rfl
  obtain ⟨m, hm⟩ : ∃ m, Try.prog.types.size = m + 1 := ⟨Try.prog.types.size - 1, by have : 1 ≤ Try.prog.types.size := of_decide_eq_true (by kernel_rfl); omega⟩
  have hf : Value.formed Try.prog 25 (.agg #[.int .i64 n, .int .i64 v]) = true := by
    simp [Value.formed, hu, hc]
  unfold keyOf
  simp only [hu]
  rw [if_pos (by rw [hk, hf]; rfl), hm]
  unfold Program.keyLits
  simp only [hu, Value.cells]
  rw [if_pos ⟨by rw [hc]; rfl, by kernel_rfl⟩]
  simp [hc1, Program.keyLits, hi, wn, wv, tlit]
/-- The first place of a word. -/
def idxOf : List Int → Int → Option Nat
  | [], _ => none
  | x :: xs, v => if x = v then some 0 else (idxOf xs v).map (· + 1)
theorem idxOf_snoc_none {xs : List Int} {v : Int} (h : idxOf xs v = none) : idxOf (xs ++ [v]) v = some xs.length := by
  induction xs with
  | nil => simp [idxOf]
  | cons x xs ih =>
    rw [idxOf] at h
    split at h
    · cases h
    · next hx =>
      rw [Option.map_eq_none_iff] at h
      show (if x = v then some 0 else (idxOf (xs ++ [v]) v).map (· + 1)) = _
      rw [if_neg hx, ih h]
      rfl
theorem idxOf_snoc_other {xs : List Int} {v u : Int} (h : u ≠ v) : idxOf (xs ++ [v]) u = idxOf xs u := by
  induction xs with
  | nil =>
    show (if v = u then some 0 else (idxOf [] u).map (· + 1)) = idxOf [] u
    rw [if_neg (fun e => h e.symm)]
    rfl
  | cons x xs ih =>
    show (if x = u then some 0 else (idxOf (xs ++ [v]) u).map (· + 1)) = (if x = u then some 0 else (idxOf xs u).map (· + 1))
    rw [ih]
theorem idxOf_lt {xs : List Int} {v : Int} {i : Nat} (h : idxOf xs v = some i) : i < xs.length := by
  induction xs generalizing i with
  | nil => cases h
  | cons x xs ih =>
    rw [idxOf] at h
    split at h
    · cases h; exact Nat.succ_pos _
    · obtain ⟨j, hj, rfl⟩ := Option.map_eq_some_iff.mp h
      exact Nat.succ_lt_succ (ih hj)
/-- What the map of found tables tells. -/
structure FoundAt (n : Int) (names : List Int) (D : DataW Unit) : Prop where
  tidy : Go.Maps.Tidy D
  yes : ∀ v i, (Lit.int .i64 v).wf = true → idxOf names v = some i → Go.Maps.has D (tlit n v) = true ∧ ∀ z, D.atKey (tlit n v) z = .lit (.int .i64 (i : Int))
  no : ∀ v, (Lit.int .i64 v).wf = true → idxOf names v = none → Go.Maps.has D (tlit n v) = false
theorem FoundAt.nil (n : Int) : FoundAt n [] (.map []) := ⟨Go.Maps.tidy_empty, fun _ _ _ h => (by cases h), fun _ _ _ => rfl⟩
set_option maxRecDepth 100000 in
theorem tlit_inj {n u v : Int} (wn : (Lit.int .i64 n).wf = true) (wu : (Lit.int .i64 u).wf = true) (wv : (Lit.int .i64 v).wf = true) (h : tlit n u = tlit n v) : u = v := by
  have h1 := tab_key wn wu
  have h2 := tab_key wn wv
  rw [h] at h1
  have := tab_law.inj h1 h2
  injection this with e
  have e2 := congrArg Array.toList e
  injection e2 with _ e3
  injection e3 with e4
  injection e4
theorem FoundAt.put {n : Int} {names : List Int} {D : DataW Unit} (h : FoundAt n names D) (wn : (Lit.int .i64 n).wf = true) {v : Int} (wv : (Lit.int .i64 v).wf = true) (hv : idxOf names v = none) : FoundAt n (names ++ [v]) (D.put (tlit n v) (.lit (.int .i64 (names.length : Int)))) := by
  have hk : WideAt.IsKeyLit (tlit n v) := trivial
  refine ⟨h.tidy.put hk _, fun u i wu hi => ?_, fun u wu hi => ?_⟩
  · by_cases e : u = v
    · subst e
      rw [idxOf_snoc_none hv] at hi
      cases hi
      exact ⟨Go.Maps.has_put_same h.tidy.isMap hk _, fun z => Go.Maps.atKey_put_same h.tidy.isMap hk _ _⟩
    · rw [idxOf_snoc_other e] at hi
      have hne : tlit n u ≠ tlit n v := fun q => e (tlit_inj wn wu wv q)
      obtain ⟨h1, h2⟩ := h.yes u i wu hi
      exact ⟨(Go.Maps.has_put_other hne _).trans h1, fun z => (Go.Maps.atKey_put_other hne _ _).trans (h2 z)⟩
  · by_cases e : u = v
    · subst e
      rw [idxOf_snoc_none hv] at hi
      cases hi
    · rw [idxOf_snoc_other e] at hi
      have hne : tlit n u ≠ tlit n v := fun q => e (tlit_inj wn wu wv q)
      exact (Go.Maps.has_put_other hne _).trans (h.no u wu hi)
set_option maxRecDepth 100000 in
theorem found_yes {n v : Int} {names : List Int} {D : DataW Unit} {W : World} {gm k i : Nat} (h : W.ownsMap Try.prog 25 (plainElem Try.prog 3) gm k D) (hf : FoundAt n names D) (wn : (Lit.int .i64 n).wf = true) (wv : (Lit.int .i64 v).wf = true) (hi : idxOf names v = some i) :
    (Instr.lookup 168 (.map (some gm)) (.agg #[.int .i64 n, .int .i64 v]) true).run Try.prog W = .ok (.tuple #[.int .i64 (i : Int), .bool true]) W := by
  obtain ⟨u, ps, hrun, hv⟩ := h.look_ok tab_law Try.underlying168 (z := .int .i64 0) (by kernel_rfl) (plainElem_int Try.underlying3 (by decide)) (tab_key wn wv)
  obtain ⟨c, rfl, hc, _⟩ := plainElem_int_inv Try.underlying3 hv
  obtain ⟨h1, h2⟩ := hf.yes v i wv hi
  rw [h2] at hc
  injection hc with hc1
  injection hc1 with hc2
  injection hc2 with _ hc3
  rw [hrun, h1, hc3]
set_option maxRecDepth 100000 in
theorem found_no {n v : Int} {names : List Int} {D : DataW Unit} {W : World} {gm k : Nat} (h : W.ownsMap Try.prog 25 (plainElem Try.prog 3) gm k D) (hf : FoundAt n names D) (wn : (Lit.int .i64 n).wf = true) (wv : (Lit.int .i64 v).wf = true) (hi : idxOf names v = none) :
    ∃ c : Int, (Instr.lookup 168 (.map (some gm)) (.agg #[.int .i64 n, .int .i64 v]) true).run Try.prog W = .ok (.tuple #[.int .i64 c, .bool false]) W := by
  obtain ⟨u, ps, hrun, hv⟩ := h.look_ok tab_law Try.underlying168 (z := .int .i64 0) (by kernel_rfl) (plainElem_int Try.underlying3 (by decide)) (tab_key wn wv)
  obtain ⟨c, rfl, hc, _⟩ := plainElem_int_inv Try.underlying3 hv
  exact ⟨c, by rw [hrun, hf.no v wv hi]⟩
/-- The first place from x on at which p holds. -/
def firstN (p : Nat → Bool) : Nat → Nat → Option Nat
  | 0, _ => none
  | d + 1, x => if p x = true then some x else firstN p d (x + 1)
theorem firstN_some {p : Nat → Bool} : ∀ (d x j : Nat), firstN p d x = some j → x ≤ j ∧ j < x + d ∧ p j = true ∧ ∀ i, x ≤ i → i < j → p i = false := by
  intro d
  induction d with
  | zero => intro x j h; cases h
  | succ d ih =>
    intro x j h
    rw [firstN] at h
    split at h
    next hp => cases h; exact ⟨Nat.le_refl _, by omega, hp, fun i h1 h2 => by omega⟩
    next hp =>
      obtain ⟨h1, h2, h3, h4⟩ := ih (x + 1) j h
      refine ⟨by omega, by omega, h3, fun i hi hij => ?_⟩
      by_cases e : i = x
      · rw [e]; exact Bool.eq_false_iff.mpr hp
      · exact h4 i (by omega) hij
def depB (n v : Int) (ord : List Int) (x : Nat) : Bool := impl_Table_depends.f n v (rd ord x) == some true
def depAll (n v : Int) (ord : List Int) : Bool := B.allN (fun x => (impl_Table_depends.f n v (rd ord (x : Int))).isSome) ord.length
/-- What walk does, over the words of the tables found and the nodes made. -/
def walkS (n : Int) (ord : List Int) : Nat → Int → List Int → List S139 → Option (Int × List Int × List S139)
  | 0, _, _, _ => none
  | k + 1, v, names, nodes => (impl_Table_isSame.f n v).bind fun s => if s = true then (impl_Table_at.f n v 0).bind fun b => (if 0 ≤ b ∧ b ≤ 1 then some (b - 2, names, nodes) else none)
    else if (Lit.int .i64 v).wf = true then (match idxOf names v with
      | some i => some ((i : Int), names, nodes)
      | none => if depAll n v ord = true then (match firstN (depB n v ord) ord.length 0 with
        | none => none
        | some j => (impl_Table_stuck.f n v (rd ord j) 0).bind fun t0 => (walkS n ord k t0.2 names nodes).bind fun p => (impl_Table_stuck.f n v (rd ord j) 1).bind fun t1 => (walkS n ord k t1.2 p.2.1 p.2.2).bind fun q =>
            if q.2.2.length < 1000 ∧ idxOf q.2.1 v = none then some ((q.2.2.length : Int), q.2.1 ++ [v], q.2.2 ++ [⟨rd ord j, p.1, q.1⟩]) else none) else none) else none
/-- The state of the walk in a world. -/
structure WalkAt (n : Int) (gd gm : Nat) (w0 : World) (Ao : Option Addr) (oc : Nat) (ord : List Int) (nv : Value) (names : List Int) (nodes : List S139) (W : World) : Prop where
  blk : W.heap[gd]? = some (.cells #[.slice Ao ord.length oc, nv, .map (some gm)] 170 (0, 0))
  own : Kd.R k139 139 W w0.heap.size (fun _ => True) nv nodes
  map : ∃ D, W.ownsMap Try.prog 25 (plainElem Try.prog 3) gm names.length D ∧ FoundAt n names D
  len : names.length = nodes.length
  below : Below w0.heap.size w0 W
  ord : Kd.C (Kd.int .i64) w0 Ao ord.length ord
  gdge : w0.heap.size ≤ gd
  gmge : w0.heap.size ≤ gm
theorem WalkAt.step {n : Int} {gd gm : Nat} {w0 : World} {Ao : Option Addr} {oc : Nat} {ord : List Int} {nv : Value} {names : List Int} {nodes : List S139} {W W' : World} (h : WalkAt n gd gm w0 Ao oc ord nv names nodes W) (hb : Below W.heap.size W W') : WalkAt n gd gm w0 Ao oc ord nv names nodes W' := by
  obtain ⟨D, h1, h2⟩ := h.map
  exact ⟨blk_below h.blk hb, Kd.R_below h.own hb, ⟨D, h1.kept (grown_of_below hb none) (by simp), h2⟩, h.len, below_then h.below h.below.size hb, h.ord, h.gdge, h.gmge⟩
theorem WalkAt.ordC {n : Int} {gd gm : Nat} {w0 : World} {Ao : Option Addr} {oc : Nat} {ord : List Int} {nv : Value} {names : List Int} {nodes : List S139} {W : World} (h : WalkAt n gd gm w0 Ao oc ord nv names nodes W) : Kd.C (Kd.int .i64) W Ao ord.length ord :=
  Kd.Heap.C (Kd.heap_int .i64) h.below.block h.ord
def Wr (gd gm : Nat) (nv : Value) (k : Nat) : Prop := (k = gd ∨ k = gm) ∨ some k = nv.ownBlock
def SameOrNew (W : World) (nv nv' : Value) : Prop := nv'.ownBlock = nv.ownBlock ∨ ∃ b, nv'.ownBlock = some b ∧ W.heap.size ≤ b
/-- What a call of walk leaves. -/
def WalkPost (n : Int) (gd gm : Nat) (w0 : World) (Ao : Option Addr) (oc : Nat) (ord : List Int) (nv : Value) (W : World) (r : Int) (names : List Int) (nodes : List S139) (e : Ending) (W' : World) : Prop :=
  e = .returned (.int .i64 r) ∧ ∃ nv', WalkAt n gd gm w0 Ao oc ord nv' names nodes W' ∧ Kept W W' (Wr gd gm nv) ∧ SameOrNew W nv nv'
theorem Wr_chain {gd gm : Nat} {nv nv1 : Value} {W : World} (h : SameOrNew W nv nv1) (k : Nat) (hk : Wr gd gm nv1 k) : Wr gd gm nv k ∨ W.heap.size ≤ k := by
  rcases hk with hk | hk
  · exact .inl (.inl hk)
  · rcases h with h | ⟨b, hb, hle⟩
    · exact .inl (.inr (hk.trans h))
    · rw [hb] at hk
      cases hk
      exact .inr hle
theorem SameOrNew.trans {W W1 : World} {nv nv1 nv2 : Value} (h : SameOrNew W nv nv1) (k : SameOrNew W1 nv1 nv2) (hs : W.heap.size ≤ W1.heap.size) : SameOrNew W nv nv2 := by
  rcases k with k | ⟨b, hb, hle⟩
  · rcases h with h | ⟨b, hb, hle⟩
    · exact .inl (k.trans h)
    · exact .inr ⟨b, k.trans hb, hle⟩
  · exact .inr ⟨b, hb, by omega⟩
theorem box_not {gd gm gf : Nat} {nv : Value} {n : Int} {w0 : World} {Ao : Option Addr} {oc : Nat} {ord : List Int} {names : List Int} {nodes : List S139} {W : World} {a b : Int} (h : WalkAt n gd gm w0 Ao oc ord nv names nodes W) (hf : W.heap[gf]? = some (.cells #[.int .i64 a, .int .i64 b] 25 (0, 0))) : ¬ Wr gd gm nv gf := by
  rintro ((rfl | rfl) | hk)
  · have := hf.symm.trans h.blk
    injection this with e
    injection e with _ e2
    exact absurd e2 (by decide)
  · obtain ⟨D, ⟨es, cl, hm, _⟩, _⟩ := h.map
    rw [hm] at hf
    cases hf
  · exact (Kd.R_ne h.own hf (by decide)) hk
set_option maxHeartbeats 400000 in
set_option maxRecDepth 100000 in
theorem walk_same {n : Int} {gd gm : Nat} {w0 : World} {Ao : Option Addr} {oc : Nat} {ord : List Int} {nv : Value} {names : List Int} {nodes : List S139} {w : World} {v b : Int} (h : WalkAt n gd gm w0 Ao oc ord nv names nodes w) (hs : impl_Table_isSame.f n v = some true) (hb : impl_Table_at.f n v 0 = some b) (hb0 : 0 ≤ b) (hb1 : b ≤ 1) :
    Calls Try.prog 287 #[.pointer (some ⟨gd, 0, none⟩), .agg #[.int .i64 n, .int .i64 v]] w (WalkPost n gd gm w0 Ao oc ord nv w (b - 2) names nodes) := by
  have hud := Try.underlying170
  have hut := Try.underlying25
  have KB := Aside0.mk (below_alloc (Below.refl w.heap.size w) (.cells #[.int .i64 n, .int .i64 v] 25 (0, 0)))
  have BF := Aside0.mk (blk_new w (.cells #[.int .i64 n, .int .i64 v] 25 (0, 0)))
  have HW := Aside0.mk (h.step KB.out)
  have H1 := Aside0.mk hs
  have H2 := Aside0.mk hb
  have E1 : IntKind.i64.wrap (-2 + b) = b - 2 := by rw [B.wrap_of (by omega) (by omega)]; omega
  have E2 : wrap64 (-2 + b) = b - 2 := by rw [← i64_w]; exact E1
  clear h hs hb
  go_enter Try.func287, Try.ntmps287
  go_wp2_with (first | (go_at_call 244; refine (impl_Table_isSame.calls n v true _ H1.out).mono ?_; rintro e w1 ⟨rfl, hb⟩; have n_ := Aside0.mk (HW.out.step hb); clear HW; have HW := n_; clear n_; have n_ := Aside0.mk (blk_below BF.out hb); clear BF; have BF := n_; clear n_; have KB1 := Aside0.mk (below_step KB.out hb); clear hb; have hc0 : w1.cell? ⟨w.heap.size, 0, none⟩ = some (.int .i64 n) := (blk_cell BF.out 0).trans rfl; have hc1 : w1.cell? ⟨w.heap.size, 1, none⟩ = some (.int .i64 v) := (blk_cell BF.out 1).trans rfl) | (go_at_call 190; refine (impl_Table_at.calls n v 0 b _ H2.out).mono ?_; rintro e w2 ⟨rfl, hb⟩; clear hc0 hc1; have n_ := Aside0.mk (HW.out.step hb); clear HW; have HW := n_; clear n_; have KB2 := Aside0.mk (below_step KB1.out hb); clear hb))
  go_ret
  exact ⟨rfl, nv, HW.out, Kept.of_below KB2.out _, .inl rfl⟩
set_option maxHeartbeats 400000 in
set_option maxRecDepth 100000 in
theorem walk_found {n : Int} {gd gm : Nat} {w0 : World} {Ao : Option Addr} {oc : Nat} {ord : List Int} {nv : Value} {names : List Int} {nodes : List S139} {w : World} {v : Int} {i : Nat} (h : WalkAt n gd gm w0 Ao oc ord nv names nodes w) (hs : impl_Table_isSame.f n v = some false) (wn : (Lit.int .i64 n).wf = true) (wv : (Lit.int .i64 v).wf = true) (hi : idxOf names v = some i) :
    Calls Try.prog 287 #[.pointer (some ⟨gd, 0, none⟩), .agg #[.int .i64 n, .int .i64 v]] w (WalkPost n gd gm w0 Ao oc ord nv w i names nodes) := by
  have hud := Try.underlying170
  have hut := Try.underlying25
  have KB := Aside0.mk (below_alloc (Below.refl w.heap.size w) (.cells #[.int .i64 n, .int .i64 v] 25 (0, 0)))
  have BF := Aside0.mk (blk_new w (.cells #[.int .i64 n, .int .i64 v] 25 (0, 0)))
  have HW := Aside0.mk (h.step KB.out)
  have H1 := Aside0.mk hs
  have HI := Aside0.mk hi
  have WN := Aside0.mk wn
  have WV := Aside0.mk wv
  clear h hs hi wn wv
  go_enter Try.func287, Try.ntmps287
  go_upto_region 3 with (go_at_call 244; refine (impl_Table_isSame.calls n v false _ H1.out).mono ?_; rintro e w1 ⟨rfl, hb⟩; have n_ := Aside0.mk (HW.out.step hb); clear HW; have HW := n_; clear n_; have n_ := Aside0.mk (blk_below BF.out hb); clear BF; have BF := n_; clear n_; have n_ := Aside0.mk (below_step KB.out hb); clear hb KB; have KB := n_; clear n_)
  have C0 : Aside0 (w1.cell? ⟨gd, 0, none⟩ = some (.slice Ao ord.length oc)) := ⟨(blk_cell HW.out.blk 0).trans rfl⟩
  have C1 : Aside0 (w1.cell? ⟨gd, 2, none⟩ = some (.map (some gm))) := ⟨(blk_cell HW.out.blk 2).trans rfl⟩
  have C2 : Aside0 (w1.cell? ⟨w.heap.size, 0, none⟩ = some (.int .i64 n)) := ⟨(blk_cell BF.out 0).trans rfl⟩
  have C3 : Aside0 (w1.cell? ⟨w.heap.size, 1, none⟩ = some (.int .i64 v)) := ⟨(blk_cell BF.out 1).trans rfl⟩
  have hb := below_drew (Below.refl w1.heap.size w1)
  have n_ : Aside0 (w1.drew.cell? ⟨gd, 0, none⟩ = some (.slice Ao ord.length oc)) := ⟨pw_cell_below hb C0.out⟩
  clear C0
  have C0 := n_
  clear n_
  have n_ : Aside0 (w1.drew.cell? ⟨gd, 2, none⟩ = some (.map (some gm))) := ⟨pw_cell_below hb C1.out⟩
  clear C1
  have C1 := n_
  clear n_
  have n_ : Aside0 (w1.drew.cell? ⟨w.heap.size, 0, none⟩ = some (.int .i64 n)) := ⟨pw_cell_below hb C2.out⟩
  clear C2
  have C2 := n_
  clear n_
  have n_ : Aside0 (w1.drew.cell? ⟨w.heap.size, 1, none⟩ = some (.int .i64 v)) := ⟨pw_cell_below hb C3.out⟩
  clear C3
  have C3 := n_
  clear n_
  have n_ := Aside0.mk (HW.out.step hb)
  clear HW
  have HW := n_
  clear n_
  have n_ := Aside0.mk (blk_below BF.out hb)
  clear BF
  have BF := n_
  clear n_
  have n_ := Aside0.mk (below_step KB.out hb)
  clear KB
  have KB := n_
  clear n_
  clear hb
  have L0 : Aside0 ((Instr.lookup 168 (.map (some gm)) (.agg #[.int .i64 n, .int .i64 v]) true).run Try.prog w1.drew = .ok (.tuple #[.int .i64 (i : Int), .bool true]) w1.drew) := by
    obtain ⟨D, h1, h2⟩ := HW.out.map
    exact ⟨found_yes h1 h2 WN.out WV.out HI.out⟩
  refine start_ (n := 11) (S := (fun w_ => w_.cell? ⟨gd, 0, none⟩ = some (.slice Ao ord.length oc) ∧ w_.cell? ⟨gd, 2, none⟩ = some (.map (some gm)) ∧ w_.cell? ⟨w.heap.size, 0, none⟩ = some (.int .i64 n) ∧ w_.cell? ⟨w.heap.size, 1, none⟩ = some (.int .i64 v) ∧ (Instr.lookup 168 (.map (some gm)) (.agg #[.int .i64 n, .int .i64 v]) true).run Try.prog w_ = .ok (.tuple #[.int .i64 (i : Int), .bool true]) w_)) (ds := []) #[false, false, false, false, false, false, false, false, false, false, false] (by kernel_rfl) rfl rfl ⟨C0.out, C1.out, C2.out, C3.out, L0.out⟩ (fun hHeld => ?_)
  generalize w1.drew = W0_ at C0 C1 C2 C3 L0 HW BF KB hHeld ⊢
  refine pure_ (i := 0) (N := some 16) (v := ?_) (a' := ?_) #[true, false, false, false, false, false, false, false, false, false, false] rfl rfl (by kernel_rfl) (fun _ _ _ h => h) (Or.inl ⟨by rfl, ?_⟩) ?_ ?_
  rotate_left
  · intro w'
    go_simp
    with_reducible rfl
  rotate_left
  · simp only [Act.put, List.setIfInBounds_toArray, List.set_cons_zero, List.set_cons_succ, i64_w, i32_w]
    rfl
  refine pure_ (i := 1) (N := some 17) (v := ?_) (a' := ?_) #[true, true, false, false, false, false, false, false, false, false, false] rfl rfl (by kernel_rfl) (fun _ _ _ h => h) (Or.inl ⟨by rfl, ?_⟩) ?_ ?_
  rotate_left
  · intro w'
    go_simp
    with_reducible rfl
  rotate_left
  · simp only [Act.put, List.setIfInBounds_toArray, List.set_cons_zero, List.set_cons_succ, i64_w, i32_w]
    rfl
  refine pure_ (i := 2) (N := some 18) (v := ?_) (a' := ?_) #[true, true, true, false, false, false, false, false, false, false, false] rfl rfl (by kernel_rfl) (fun _ _ _ h => h) (Or.inl ⟨by rfl, ?_⟩) ?_ ?_
  rotate_left
  · intro w'
    go_simp
    with_reducible rfl
  rotate_left
  · simp only [Act.put, List.setIfInBounds_toArray, List.set_cons_zero, List.set_cons_succ, i64_w, i32_w]
    rfl
  refine take_ (i := 3) (N := some 19) (v := ?_) (a' := ?_) #[true, true, true, true, false, false, false, false, false, false, false] rfl rfl (by kernel_rfl) (fun _ _ _ h => h) (Or.inl ⟨by rfl, ?_⟩) hHeld ?_ ?_
  rotate_left
  · rintro w' ⟨s0, s1, s2, s3, s4⟩
    go_simp
    with_reducible rfl
  rotate_left
  · simp only [Act.put, List.setIfInBounds_toArray, List.set_cons_zero, List.set_cons_succ, i64_w, i32_w]
    rfl
  refine take_ (i := 4) (N := some 20) (v := ?_) (a' := ?_) #[true, true, true, true, true, false, false, false, false, false, false] rfl rfl (by kernel_rfl) (fun _ _ _ h => h) (Or.inl ⟨by rfl, ?_⟩) hHeld ?_ ?_
  rotate_left
  · rintro w' ⟨s0, s1, s2, s3, s4⟩
    go_simp
    with_reducible rfl
  rotate_left
  · simp only [Act.put, List.setIfInBounds_toArray, List.set_cons_zero, List.set_cons_succ, i64_w, i32_w]
    rfl
  refine take_ (i := 5) (N := some 21) (v := ?_) (a' := ?_) #[true, true, true, true, true, true, false, false, false, false, false] rfl rfl (by kernel_rfl) (fun _ _ _ h => h) (Or.inl ⟨by rfl, ?_⟩) hHeld ?_ ?_
  rotate_left
  · rintro w' ⟨s0, s1, s2, s3, s4⟩
    go_simp
    with_reducible rfl
  rotate_left
  · simp only [Act.put, List.setIfInBounds_toArray, List.set_cons_zero, List.set_cons_succ, i64_w, i32_w]
    rfl
  refine pure_ (i := 6) (N := some 15) (v := ?_) (a' := ?_) #[true, true, true, true, true, true, true, false, false, false, false] rfl rfl (by kernel_rfl) (fun _ _ _ h => h) (Or.inl ⟨by rfl, ?_⟩) ?_ ?_
  rotate_left
  · intro w'
    go_simp
    with_reducible rfl
  rotate_left
  · simp only [Act.put, List.setIfInBounds_toArray, List.set_cons_zero, List.set_cons_succ, i64_w, i32_w]
    rfl
  refine pure_ (i := 7) (N := some 22) (v := ?_) (a' := ?_) #[true, true, true, true, true, true, true, true, false, false, false] rfl rfl (by kernel_rfl) (fun _ _ _ h => h) (Or.inl ⟨by rfl, ?_⟩) ?_ ?_
  rotate_left
  · intro w'
    go_simp
    with_reducible rfl
  rotate_left
  · simp only [Act.put, List.setIfInBounds_toArray, List.set_cons_zero, List.set_cons_succ, i64_w, i32_w]
    rfl
  refine pure_ (i := 8) (N := some 23) (v := ?_) (a' := ?_) #[true, true, true, true, true, true, true, true, true, false, false] rfl rfl (by kernel_rfl) (fun _ _ _ h => h) (Or.inl ⟨by rfl, ?_⟩) ?_ ?_
  rotate_left
  · intro w'
    go_simp
    with_reducible rfl
  rotate_left
  · simp only [Act.put, List.setIfInBounds_toArray, List.set_cons_zero, List.set_cons_succ, i64_w, i32_w]
    rfl
  refine pure_ (i := 9) (N := some 5) (v := ?_) (a' := ?_) #[true, true, true, true, true, true, true, true, true, true, false] rfl rfl (by kernel_rfl) (fun _ _ _ h => h) (Or.inl ⟨by rfl, ?_⟩) ?_ ?_
  rotate_left
  · intro w'
    go_simp
    with_reducible rfl
  rotate_left
  · simp only [Act.put, List.setIfInBounds_toArray, List.set_cons_zero, List.set_cons_succ, i64_w, i32_w]
    rfl
  refine pure_ (i := 10) (N := some 6) (v := ?_) (a' := ?_) #[true, true, true, true, true, true, true, true, true, true, true] rfl rfl (by kernel_rfl) (fun _ _ _ h => h) (Or.inl ⟨by rfl, ?_⟩) ?_ ?_
  rotate_left
  · intro w'
    go_simp
    with_reducible rfl
  rotate_left
  · simp only [Act.put, List.setIfInBounds_toArray, List.set_cons_zero, List.set_cons_succ, i64_w, i32_w]
    rfl
  refine done_ (by kernel_rfl) ?_
  clear C0 C1 C2 C3 L0
  go_wp2
  go_ret
  exact ⟨rfl, nv, HW.out, Kept.of_below KB.out _, .inl rfl⟩

theorem first_is {q : Int → Bool} {l : List Int} {r : Int} {j : Nat} (h : firstIs q l r) (hj : j < l.length) (h1 : q (rd l j) = true) (h2 : ∀ i : Nat, i < j → q (rd l i) = false) : r = (j : Int) := by
  rcases h with ⟨k, rfl, hk, hq, hno⟩ | ⟨rfl, hno⟩
  · rcases Nat.lt_trichotomy k j with hlt | rfl | hgt
    · rw [h2 k hlt] at hq; cases hq
    · rfl
    · rw [hno j hgt] at h1; cases h1
  · rw [hno j hj] at h1; cases h1
theorem map_not_row {gm : Nat} {nv : Value} {D : DataW Unit} {k b : Nat} {W : World} {nodes : List S139} (hm : W.ownsMap Try.prog 25 (plainElem Try.prog 3) gm k D) (h : Kd.R k139 139 W b (fun _ => True) nv nodes) : some gm ≠ nv.ownBlock := by
  intro e
  obtain ⟨cells, hc⟩ := Kd.R_typed h gm e.symm
  obtain ⟨es, cl, hm, _⟩ := hm
  rw [hm] at hc
  cases hc
theorem map_not_blk {gm gd : Nat} {D : DataW Unit} {k : Nat} {W : World} {cs : Array Value} {t : TypeId} (hm : W.ownsMap Try.prog 25 (plainElem Try.prog 3) gm k D) (h : W.heap[gd]? = some (.cells cs t (0, 0))) : some gm ≠ some gd := by
  intro e
  cases e
  obtain ⟨es, cl, hm, _⟩ := hm
  rw [hm] at h
  cases h
theorem wk_set (W : World) (g j : Nat) (u : Value) : W.grownBy (W.setCell ⟨g, j, none⟩ u) (some g) :=
  ⟨rfl, rfl, rfl, by simp [World.setCell], fun k hk hne => Below.heap_setCell _ _ _ _ (fun e => hne (by rw [e]))⟩
theorem own_map_grown {gm : Nat} {nv : Value} {D : DataW Unit} {k b : Nat} {W W' : World} {nodes : List S139} (hm : W.ownsMap Try.prog 25 (plainElem Try.prog 3) gm k D) (h : Kd.R k139 139 W b (fun _ => True) nv nodes) (hg : W.grownBy W' (some gm)) : Kd.R k139 139 W' b (fun _ => True) nv nodes :=
  Kd.R_mono (Kd.R_grown (Kd.R_bound h) hg (fun k_ hk e => by
    obtain ⟨_, _, _, _, _, cells, hc⟩ := hk
    cases e
    obtain ⟨es, cl, hm, _⟩ := hm
    rw [hm] at hc
    cases hc)) (fun _ hk => hk.1)
set_option maxHeartbeats 1000000 in
set_option maxRecDepth 100000 in
theorem walk_new {n : Int} {gd gm : Nat} {w0 : World} {Ao : Option Addr} {oc : Nat} {ord : List Int} {nv : Value} {names : List Int} {nodes : List S139} {w : World} {v low high v0 v1 : Int} {j : Nat} {names1 names2 : List Int} {nodes1 nodes2 : List S139} (h : WalkAt n gd gm w0 Ao oc ord nv names nodes w) (hs : impl_Table_isSame.f n v = some false) (wn : (Lit.int .i64 n).wf = true) (wv : (Lit.int .i64 v).wf = true) (hi : idxOf names v = none)
    (hda : depAll n v ord = true) (hj : firstN (depB n v ord) ord.length 0 = some j) (hol : ord.length < 1000) (t0 : impl_Table_stuck.f n v (rd ord j) 0 = some (n, v0)) (t1 : impl_Table_stuck.f n v (rd ord j) 1 = some (n, v1))
    (ih0 : ∀ (W : World) (nv' : Value), WalkAt n gd gm w0 Ao oc ord nv' names nodes W → Calls Try.prog 287 #[.pointer (some ⟨gd, 0, none⟩), .agg #[.int .i64 n, .int .i64 v0]] W (WalkPost n gd gm w0 Ao oc ord nv' W low names1 nodes1))
    (ih1 : ∀ (W : World) (nv' : Value), WalkAt n gd gm w0 Ao oc ord nv' names1 nodes1 W → Calls Try.prog 287 #[.pointer (some ⟨gd, 0, none⟩), .agg #[.int .i64 n, .int .i64 v1]] W (WalkPost n gd gm w0 Ao oc ord nv' W high names2 nodes2))
    (hlen : nodes2.length < 1000) (hno2 : idxOf names2 v = none) :
    Calls Try.prog 287 #[.pointer (some ⟨gd, 0, none⟩), .agg #[.int .i64 n, .int .i64 v]] w (WalkPost n gd gm w0 Ao oc ord nv w (nodes2.length : Int) (names2 ++ [v]) (nodes2 ++ [⟨rd ord j, low, high⟩])) := by
  obtain ⟨_, hjl, hjq, hjn⟩ := firstN_some _ _ _ hj
  rw [Nat.zero_add] at hjl
  obtain ⟨ad, rfl, hcj⟩ := Kd.at_int h.ord (j : Int) (by omega) (by omega)
  rw [Int.toNat_natCast] at hcj
  obtain ⟨iv, hiv⟩ : ∃ iv, iv = rd ord j := ⟨_, rfl⟩
  rw [← hiv] at hcj t0 t1 ⊢
  have HCJ := Aside0.mk hcj
  have HQ : Aside0 (∀ x : Nat, x < ord.length → impl_Table_depends.f n v (rd ord x) = some (impl_Table_depends.f n v (rd ord x) == some true)) := ⟨fun x hx => by
    obtain ⟨b, hb⟩ := Option.isSome_iff_exists.mp (B.allN_iff.mp hda x hx)
    rw [hb]
    cases b <;> rfl⟩
  have HJ : Aside0 (∀ r : Int, firstIs (fun x => impl_Table_depends.f n v x == some true) ord r → r = (j : Int)) := ⟨fun r hr => first_is hr hjl hjq (fun i hi => hjn i (Nat.zero_le _) hi)⟩
  have hjz : (j : Int) < (ord.length : Int) := by omega
  have h0z : (0 : Int) ≤ (j : Int) := by omega
  have HOL := Aside0.mk hol
  have T0 := Aside0.mk t0
  have T1 := Aside0.mk t1
  have IH0 := Aside0.mk ih0
  have IH1 := Aside0.mk ih1
  have HLEN := Aside0.mk hlen
  have HNO2 := Aside0.mk hno2
  have HI := Aside0.mk hi
  have WN := Aside0.mk wn
  have WV := Aside0.mk wv
  have H1 := Aside0.mk hs
  have hud := Try.underlying170
  have hut := Try.underlying25
  have KB := Aside0.mk (below_alloc (Below.refl w.heap.size w) (.cells #[.int .i64 n, .int .i64 v] 25 (0, 0)))
  have BF := Aside0.mk (blk_new w (.cells #[.int .i64 n, .int .i64 v] 25 (0, 0)))
  have HW := Aside0.mk (h.step KB.out)
  clear hcj hiv hda hj hol t0 t1 ih0 ih1 hlen hno2 hi wn wv hs hjl hjq hjn h
  go_enter Try.func287, Try.ntmps287
  go_upto_region 3 with (go_at_call 244; refine (impl_Table_isSame.calls n v false _ H1.out).mono ?_; rintro e w1 ⟨rfl, hb⟩; have n_ := Aside0.mk (HW.out.step hb); clear HW; have HW := n_; clear n_; have n_ := Aside0.mk (blk_below BF.out hb); clear BF; have BF := n_; clear n_; have n_ := Aside0.mk (below_step KB.out hb); clear hb KB; have KB := n_; clear n_)
  have C0 : Aside0 (w1.cell? ⟨gd, 0, none⟩ = some (.slice (some ad) ord.length oc)) := ⟨(blk_cell HW.out.blk 0).trans rfl⟩
  have C1 : Aside0 (w1.cell? ⟨gd, 2, none⟩ = some (.map (some gm))) := ⟨(blk_cell HW.out.blk 2).trans rfl⟩
  have C2 : Aside0 (w1.cell? ⟨w.heap.size, 0, none⟩ = some (.int .i64 n)) := ⟨(blk_cell BF.out 0).trans rfl⟩
  have C3 : Aside0 (w1.cell? ⟨w.heap.size, 1, none⟩ = some (.int .i64 v)) := ⟨(blk_cell BF.out 1).trans rfl⟩
  have hb := below_drew (Below.refl w1.heap.size w1)
  have n_ : Aside0 (w1.drew.cell? ⟨gd, 0, none⟩ = some (.slice (some ad) ord.length oc)) := ⟨pw_cell_below hb C0.out⟩
  clear C0
  have C0 := n_
  clear n_
  have n_ : Aside0 (w1.drew.cell? ⟨gd, 2, none⟩ = some (.map (some gm))) := ⟨pw_cell_below hb C1.out⟩
  clear C1
  have C1 := n_
  clear n_
  have n_ : Aside0 (w1.drew.cell? ⟨w.heap.size, 0, none⟩ = some (.int .i64 n)) := ⟨pw_cell_below hb C2.out⟩
  clear C2
  have C2 := n_
  clear n_
  have n_ : Aside0 (w1.drew.cell? ⟨w.heap.size, 1, none⟩ = some (.int .i64 v)) := ⟨pw_cell_below hb C3.out⟩
  clear C3
  have C3 := n_
  clear n_
  have n_ := Aside0.mk (HW.out.step hb)
  clear HW
  have HW := n_
  clear n_
  have n_ := Aside0.mk (blk_below BF.out hb)
  clear BF
  have BF := n_
  clear n_
  have n_ := Aside0.mk (below_step KB.out hb)
  clear KB
  have KB := n_
  clear n_
  clear hb
  obtain ⟨c0, hc0⟩ : ∃ c0 : Int, (Instr.lookup 168 (.map (some gm)) (.agg #[.int .i64 n, .int .i64 v]) true).run Try.prog w1.drew = .ok (.tuple #[.int .i64 c0, .bool false]) w1.drew := by
    obtain ⟨D, h1, h2⟩ := HW.out.map
    exact found_no h1 h2 WN.out WV.out HI.out
  have L0 := Aside0.mk hc0
  clear hc0
  refine start_ (n := 11) (S := (fun w_ => w_.cell? ⟨gd, 0, none⟩ = some (.slice (some ad) ord.length oc) ∧ w_.cell? ⟨gd, 2, none⟩ = some (.map (some gm)) ∧ w_.cell? ⟨w.heap.size, 0, none⟩ = some (.int .i64 n) ∧ w_.cell? ⟨w.heap.size, 1, none⟩ = some (.int .i64 v) ∧ (Instr.lookup 168 (.map (some gm)) (.agg #[.int .i64 n, .int .i64 v]) true).run Try.prog w_ = .ok (.tuple #[.int .i64 c0, .bool false]) w_)) (ds := []) #[false, false, false, false, false, false, false, false, false, false, false] (by kernel_rfl) rfl rfl ⟨C0.out, C1.out, C2.out, C3.out, L0.out⟩ (fun hHeld => ?_)
  generalize w1.drew = W0_ at C0 C1 C2 C3 L0 HW BF KB hHeld ⊢
  refine pure_ (i := 0) (N := some 16) (v := ?_) (a' := ?_) #[true, false, false, false, false, false, false, false, false, false, false] rfl rfl (by kernel_rfl) (fun _ _ _ h => h) (Or.inl ⟨by rfl, ?_⟩) ?_ ?_
  rotate_left
  · intro w'
    go_simp
    with_reducible rfl
  rotate_left
  · simp only [Act.put, List.setIfInBounds_toArray, List.set_cons_zero, List.set_cons_succ, i64_w, i32_w]
    rfl
  refine pure_ (i := 1) (N := some 17) (v := ?_) (a' := ?_) #[true, true, false, false, false, false, false, false, false, false, false] rfl rfl (by kernel_rfl) (fun _ _ _ h => h) (Or.inl ⟨by rfl, ?_⟩) ?_ ?_
  rotate_left
  · intro w'
    go_simp
    with_reducible rfl
  rotate_left
  · simp only [Act.put, List.setIfInBounds_toArray, List.set_cons_zero, List.set_cons_succ, i64_w, i32_w]
    rfl
  refine pure_ (i := 2) (N := some 18) (v := ?_) (a' := ?_) #[true, true, true, false, false, false, false, false, false, false, false] rfl rfl (by kernel_rfl) (fun _ _ _ h => h) (Or.inl ⟨by rfl, ?_⟩) ?_ ?_
  rotate_left
  · intro w'
    go_simp
    with_reducible rfl
  rotate_left
  · simp only [Act.put, List.setIfInBounds_toArray, List.set_cons_zero, List.set_cons_succ, i64_w, i32_w]
    rfl
  refine take_ (i := 3) (N := some 19) (v := ?_) (a' := ?_) #[true, true, true, true, false, false, false, false, false, false, false] rfl rfl (by kernel_rfl) (fun _ _ _ h => h) (Or.inl ⟨by rfl, ?_⟩) hHeld ?_ ?_
  rotate_left
  · rintro w' ⟨s0, s1, s2, s3, s4⟩
    go_simp
    with_reducible rfl
  rotate_left
  · simp only [Act.put, List.setIfInBounds_toArray, List.set_cons_zero, List.set_cons_succ, i64_w, i32_w]
    rfl
  refine take_ (i := 4) (N := some 20) (v := ?_) (a' := ?_) #[true, true, true, true, true, false, false, false, false, false, false] rfl rfl (by kernel_rfl) (fun _ _ _ h => h) (Or.inl ⟨by rfl, ?_⟩) hHeld ?_ ?_
  rotate_left
  · rintro w' ⟨s0, s1, s2, s3, s4⟩
    go_simp
    with_reducible rfl
  rotate_left
  · simp only [Act.put, List.setIfInBounds_toArray, List.set_cons_zero, List.set_cons_succ, i64_w, i32_w]
    rfl
  refine take_ (i := 5) (N := some 21) (v := ?_) (a' := ?_) #[true, true, true, true, true, true, false, false, false, false, false] rfl rfl (by kernel_rfl) (fun _ _ _ h => h) (Or.inl ⟨by rfl, ?_⟩) hHeld ?_ ?_
  rotate_left
  · rintro w' ⟨s0, s1, s2, s3, s4⟩
    go_simp
    with_reducible rfl
  rotate_left
  · simp only [Act.put, List.setIfInBounds_toArray, List.set_cons_zero, List.set_cons_succ, i64_w, i32_w]
    rfl
  refine pure_ (i := 6) (N := some 15) (v := ?_) (a' := ?_) #[true, true, true, true, true, true, true, false, false, false, false] rfl rfl (by kernel_rfl) (fun _ _ _ h => h) (Or.inl ⟨by rfl, ?_⟩) ?_ ?_
  rotate_left
  · intro w'
    go_simp
    with_reducible rfl
  rotate_left
  · simp only [Act.put, List.setIfInBounds_toArray, List.set_cons_zero, List.set_cons_succ, i64_w, i32_w]
    rfl
  refine pure_ (i := 7) (N := some 22) (v := ?_) (a' := ?_) #[true, true, true, true, true, true, true, true, false, false, false] rfl rfl (by kernel_rfl) (fun _ _ _ h => h) (Or.inl ⟨by rfl, ?_⟩) ?_ ?_
  rotate_left
  · intro w'
    go_simp
    with_reducible rfl
  rotate_left
  · simp only [Act.put, List.setIfInBounds_toArray, List.set_cons_zero, List.set_cons_succ, i64_w, i32_w]
    rfl
  refine pure_ (i := 8) (N := some 23) (v := ?_) (a' := ?_) #[true, true, true, true, true, true, true, true, true, false, false] rfl rfl (by kernel_rfl) (fun _ _ _ h => h) (Or.inl ⟨by rfl, ?_⟩) ?_ ?_
  rotate_left
  · intro w'
    go_simp
    with_reducible rfl
  rotate_left
  · simp only [Act.put, List.setIfInBounds_toArray, List.set_cons_zero, List.set_cons_succ, i64_w, i32_w]
    rfl
  refine pure_ (i := 9) (N := some 5) (v := ?_) (a' := ?_) #[true, true, true, true, true, true, true, true, true, true, false] rfl rfl (by kernel_rfl) (fun _ _ _ h => h) (Or.inl ⟨by rfl, ?_⟩) ?_ ?_
  rotate_left
  · intro w'
    go_simp
    with_reducible rfl
  rotate_left
  · simp only [Act.put, List.setIfInBounds_toArray, List.set_cons_zero, List.set_cons_succ, i64_w, i32_w]
    rfl
  refine pure_ (i := 10) (N := some 6) (v := ?_) (a' := ?_) #[true, true, true, true, true, true, true, true, true, true, true] rfl rfl (by kernel_rfl) (fun _ _ _ h => h) (Or.inl ⟨by rfl, ?_⟩) ?_ ?_
  rotate_left
  · intro w'
    go_simp
    with_reducible rfl
  rotate_left
  · simp only [Act.put, List.setIfInBounds_toArray, List.set_cons_zero, List.set_cons_succ, i64_w, i32_w]
    rfl
  refine done_ (by kernel_rfl) ?_
  clear C0 C1 C2 C3 L0
  generalize W0_ = w2 at HW BF KB
  go_upto_region 6 with (fail)
  have HCJ2 : Aside0 (w2.cell? (ad.add j) = some (.int .i64 iv)) := ⟨(HW.out.below.cell (World.block_lt_of_cell? w0 _ HCJ.out)).trans HCJ.out⟩

  have C0 : Aside0 (w2.cell? ⟨gd, 0, none⟩ = some (.slice (some ad) ord.length oc)) := ⟨(blk_cell HW.out.blk 0).trans rfl⟩
  have C1 : Aside0 (w2.cell? ⟨w.heap.size, 0, none⟩ = some (.int .i64 n)) := ⟨(blk_cell BF.out 0).trans rfl⟩
  have C2 : Aside0 (w2.cell? ⟨w.heap.size, 1, none⟩ = some (.int .i64 v)) := ⟨(blk_cell BF.out 1).trans rfl⟩
  have C3 := HCJ2
  clear HCJ2
  have hb := below_drew (Below.refl w2.heap.size w2)
  have n_ : Aside0 (w2.drew.cell? ⟨gd, 0, none⟩ = some (.slice (some ad) ord.length oc)) := ⟨pw_cell_below hb C0.out⟩
  clear C0
  have C0 := n_
  clear n_
  have n_ : Aside0 (w2.drew.cell? ⟨w.heap.size, 0, none⟩ = some (.int .i64 n)) := ⟨pw_cell_below hb C1.out⟩
  clear C1
  have C1 := n_
  clear n_
  have n_ : Aside0 (w2.drew.cell? ⟨w.heap.size, 1, none⟩ = some (.int .i64 v)) := ⟨pw_cell_below hb C2.out⟩
  clear C2
  have C2 := n_
  clear n_
  have n_ : Aside0 (w2.drew.cell? (ad.add j) = some (.int .i64 iv)) := ⟨pw_cell_below hb C3.out⟩
  clear C3
  have C3 := n_
  clear n_
  have n_ := Aside0.mk (HW.out.step hb)
  clear HW
  have HW := n_
  clear n_
  have n_ := Aside0.mk (blk_below BF.out hb)
  clear BF
  have BF := n_
  clear n_
  have n_ := Aside0.mk (below_step KB.out hb)
  clear KB
  have KB := n_
  clear n_
  clear hb
  refine start_ (n := 14) (S := (fun w_ => w_.cell? ⟨gd, 0, none⟩ = some (.slice (some ad) ord.length oc) ∧ w_.cell? ⟨w.heap.size, 0, none⟩ = some (.int .i64 n) ∧ w_.cell? ⟨w.heap.size, 1, none⟩ = some (.int .i64 v) ∧ w_.cell? (ad.add j) = some (.int .i64 iv))) (ds := []) #[false, false, false, false, false, false, false, false, false, false, false, false, false, false] (by kernel_rfl) rfl rfl ⟨C0.out, C1.out, C2.out, C3.out⟩ (fun hHeld => ?_)
  generalize w2.drew = W0_ at C0 C1 C2 C3 HW BF KB hHeld ⊢
  refine pure_ (i := 0) (N := some 26) (v := ?_) (a' := ?_) #[true, false, false, false, false, false, false, false, false, false, false, false, false, false] rfl rfl (by kernel_rfl) (fun _ _ _ h => h) (Or.inl ⟨by rfl, ?_⟩) ?_ ?_
  rotate_left
  · intro w'
    go_simp
    with_reducible rfl
  rotate_left
  · simp only [Act.put, List.setIfInBounds_toArray, List.set_cons_zero, List.set_cons_succ, i64_w, i32_w]
    rfl
  refine pure_ (i := 1) (N := some 27) (v := ?_) (a' := ?_) #[true, true, false, false, false, false, false, false, false, false, false, false, false, false] rfl rfl (by kernel_rfl) (fun _ _ _ h => h) (Or.inl ⟨by rfl, ?_⟩) ?_ ?_
  rotate_left
  · intro w'
    go_simp
    with_reducible rfl
  rotate_left
  · simp only [Act.put, List.setIfInBounds_toArray, List.set_cons_zero, List.set_cons_succ, i64_w, i32_w]
    rfl
  refine pure_ (i := 2) (N := some 28) (v := ?_) (a' := ?_) #[true, true, true, false, false, false, false, false, false, false, false, false, false, false] rfl rfl (by kernel_rfl) (fun _ _ _ h => h) (Or.inl ⟨by rfl, ?_⟩) ?_ ?_
  rotate_left
  · intro w'
    go_simp
    with_reducible rfl
  rotate_left
  · simp only [Act.put, List.setIfInBounds_toArray, List.set_cons_zero, List.set_cons_succ, i64_w, i32_w]
    rfl
  refine take_ (i := 3) (N := some 29) (v := ?_) (a' := ?_) #[true, true, true, true, false, false, false, false, false, false, false, false, false, false] rfl rfl (by kernel_rfl) (fun _ _ _ h => h) (Or.inl ⟨by rfl, ?_⟩) hHeld ?_ ?_
  rotate_left
  · rintro w' ⟨s0, s1, s2, s3⟩
    go_simp
    with_reducible rfl
  rotate_left
  · simp only [Act.put, List.setIfInBounds_toArray, List.set_cons_zero, List.set_cons_succ, i64_w, i32_w]
    rfl
  refine pure_ (i := 4) (N := some 30) (v := ?_) (a' := ?_) #[true, true, true, true, true, false, false, false, false, false, false, false, false, false] rfl rfl (by kernel_rfl) (fun _ _ _ h => h) (Or.inl ⟨by rfl, ?_⟩) ?_ ?_
  rotate_left
  · intro w'
    go_simp
    with_reducible rfl
  rotate_left
  · simp only [Act.put, List.setIfInBounds_toArray, List.set_cons_zero, List.set_cons_succ, i64_w, i32_w]
    rfl
  refine pure_ (i := 5) (N := some 31) (v := ?_) (a' := ?_) #[true, true, true, true, true, true, false, false, false, false, false, false, false, false] rfl rfl (by kernel_rfl) (fun _ _ _ h => h) (Or.inl ⟨by rfl, ?_⟩) ?_ ?_
  rotate_left
  · intro w'
    go_simp
    with_reducible rfl
  rotate_left
  · simp only [Act.put, List.setIfInBounds_toArray, List.set_cons_zero, List.set_cons_succ, i64_w, i32_w]
    rfl
  refine pure_ (i := 6) (N := some 32) (v := ?_) (a' := ?_) #[true, true, true, true, true, true, true, false, false, false, false, false, false, false] rfl rfl (by kernel_rfl) (fun _ _ _ h => h) (Or.inl ⟨by rfl, ?_⟩) ?_ ?_
  rotate_left
  · intro w'
    go_simp
    with_reducible rfl
  rotate_left
  · simp only [Act.put, List.setIfInBounds_toArray, List.set_cons_zero, List.set_cons_succ, i64_w, i32_w]
    rfl
  refine take_ (i := 7) (N := some 33) (v := ?_) (a' := ?_) #[true, true, true, true, true, true, true, true, false, false, false, false, false, false] rfl rfl (by kernel_rfl) (fun _ _ _ h => h) (Or.inl ⟨by rfl, ?_⟩) hHeld ?_ ?_
  rotate_left
  · rintro w' ⟨s0, s1, s2, s3⟩
    go_simp
    with_reducible rfl
  rotate_left
  · simp only [Act.put, List.setIfInBounds_toArray, List.set_cons_zero, List.set_cons_succ, i64_w, i32_w]
    rfl
  refine take_ (i := 8) (N := some 34) (v := ?_) (a' := ?_) #[true, true, true, true, true, true, true, true, true, false, false, false, false, false] rfl rfl (by kernel_rfl) (fun _ _ _ h => h) (Or.inl ⟨by rfl, ?_⟩) hHeld ?_ ?_
  rotate_left
  · rintro w' ⟨s0, s1, s2, s3⟩
    go_simp
    with_reducible rfl
  rotate_left
  · simp only [Act.put, List.setIfInBounds_toArray, List.set_cons_zero, List.set_cons_succ, i64_w, i32_w]
    rfl
  refine pure_ (i := 9) (N := some 35) (v := ?_) (a' := ?_) #[true, true, true, true, true, true, true, true, true, true, false, false, false, false] rfl rfl (by kernel_rfl) (fun _ _ _ h => h) (Or.inl ⟨by rfl, ?_⟩) ?_ ?_
  rotate_left
  · intro w'
    go_simp
    with_reducible rfl
  rotate_left
  · simp only [Act.put, List.setIfInBounds_toArray, List.set_cons_zero, List.set_cons_succ, i64_w, i32_w]
    rfl
  refine one_ (i := 10) (N := some 36) #[true, true, true, true, true, true, true, true, true, true, true, false, false, false] rfl rfl (by kernel_rfl) (by decide) (fun K hK => ?_)
  refine goes_ Try.func283 (by kernel_rfl) rfl #[.slice (some ad) ord.length oc, .func (.func 189) #[.agg #[.int .i64 n, .int .i64 v]] #[]] (by rfl) rfl rfl (by (try simp only [List.map_toArray, List.map_cons, List.map_nil]); first | done | rfl | (simp only [List.length_drop, List.length_take]; rfl)) ?_
  with_reducible refine (slices_IndexFunc_dep.any (some ad) oc ord n v (fun x => impl_Table_depends.f n v x == some true) _ HW.out.ordC HQ.out (by have := HOL.out; omega)).mono ?_
  rintro e W1_ ⟨rr, rfl, hf, hb⟩
  obtain rfl := HJ.out rr hf
  clear hf
  refine ⟨_, rfl, ?_⟩
  have n_ : Aside0 (W1_.cell? ⟨gd, 0, none⟩ = some (.slice (some ad) ord.length oc)) := ⟨pw_cell_below hb C0.out⟩
  clear C0
  have C0 := n_
  clear n_
  have n_ : Aside0 (W1_.cell? ⟨w.heap.size, 0, none⟩ = some (.int .i64 n)) := ⟨pw_cell_below hb C1.out⟩
  clear C1
  have C1 := n_
  clear n_
  have n_ : Aside0 (W1_.cell? ⟨w.heap.size, 1, none⟩ = some (.int .i64 v)) := ⟨pw_cell_below hb C2.out⟩
  clear C2
  have C2 := n_
  clear n_
  have n_ : Aside0 (W1_.cell? (ad.add j) = some (.int .i64 iv)) := ⟨pw_cell_below hb C3.out⟩
  clear C3
  have C3 := n_
  clear n_
  have n_ := Aside0.mk (HW.out.step hb)
  clear HW
  have HW := n_
  clear n_
  have n_ := Aside0.mk (blk_below BF.out hb)
  clear BF
  have BF := n_
  clear n_
  have n_ := Aside0.mk (below_step KB.out hb)
  clear KB
  have KB := n_
  clear n_
  clear hb
  refine hK.out _ _ ⟨C0.out, C1.out, C2.out, C3.out⟩ (fun hHeld => ?_)
  clear hK K
  refine norm_ (a' := ?_) ?_ ?_
  rotate_left
  · show Act.put _ (some 36) _ = _
    simp only [Act.put, List.setIfInBounds_toArray, List.set_cons_zero, List.set_cons_succ, i64_w, i32_w]
    rfl
  refine pure_ (i := 11) (N := some 37) (v := ?_) (a' := ?_) #[true, true, true, true, true, true, true, true, true, true, true, true, false, false] rfl rfl (by kernel_rfl) (fun _ _ _ h => h) (Or.inl ⟨by rfl, ?_⟩) ?_ ?_
  rotate_left
  · intro w'
    go_simp
    with_reducible rfl
  rotate_left
  · simp only [Act.put, List.setIfInBounds_toArray, List.set_cons_zero, List.set_cons_succ, i64_w, i32_w]
    rfl
  refine take_ (i := 12) (N := some 38) (v := ?_) (a' := ?_) #[true, true, true, true, true, true, true, true, true, true, true, true, true, false] rfl rfl (by kernel_rfl) (fun _ _ _ h => h) (Or.inl ⟨by rfl, ?_⟩) hHeld ?_ ?_
  rotate_left
  · rintro w' ⟨s0, s1, s2, s3⟩
    go_simp
    with_reducible rfl
  rotate_left
  · simp only [Act.put, List.setIfInBounds_toArray, List.set_cons_zero, List.set_cons_succ, i64_w, i32_w]
    rfl
  refine pure_ (i := 13) (N := some 7) (v := ?_) (a' := ?_) #[true, true, true, true, true, true, true, true, true, true, true, true, true, true] rfl rfl (by kernel_rfl) (fun _ _ _ h => h) (Or.inl ⟨by rfl, ?_⟩) ?_ ?_
  rotate_left
  · intro w'
    go_simp
    with_reducible rfl
  rotate_left
  · simp only [Act.put, List.setIfInBounds_toArray, List.set_cons_zero, List.set_cons_succ, i64_w, i32_w]
    rfl
  refine done_ (by kernel_rfl) ?_
  clear C0 C1 C2 C3
  generalize W1_ = w3 at HW BF KB
  go_upto_region 7 with (fail)

  have KK : Aside0 (Kept w w3 (Wr gd gm nv)) := ⟨Kept.of_below KB.out _⟩
  have SNW : Aside0 (SameOrNew w nv nv) := ⟨.inl rfl⟩
  clear KB
  have C0 : Aside0 (w3.cell? ⟨w.heap.size, 0, none⟩ = some (.int .i64 n)) := ⟨(blk_cell BF.out 0).trans rfl⟩
  have C1 : Aside0 (w3.cell? ⟨w.heap.size, 1, none⟩ = some (.int .i64 v)) := ⟨(blk_cell BF.out 1).trans rfl⟩
  have hb := below_drew (Below.refl w3.heap.size w3)
  have n_ : Aside0 (w3.drew.cell? ⟨w.heap.size, 0, none⟩ = some (.int .i64 n)) := ⟨pw_cell_below hb C0.out⟩
  clear C0
  have C0 := n_
  clear n_
  have n_ : Aside0 (w3.drew.cell? ⟨w.heap.size, 1, none⟩ = some (.int .i64 v)) := ⟨pw_cell_below hb C1.out⟩
  clear C1
  have C1 := n_
  clear n_
  have n_ := Aside0.mk (HW.out.step hb)
  clear HW
  have HW := n_
  clear n_
  have n_ := Aside0.mk (blk_below BF.out hb)
  clear BF
  have BF := n_
  clear n_
  have n_ := Aside0.mk (KK.out.below hb)
  clear KK
  have KK := n_
  clear n_
  clear hb
  refine start_ (n := 12) (S := (fun w_ => w_.cell? ⟨w.heap.size, 0, none⟩ = some (.int .i64 n) ∧ w_.cell? ⟨w.heap.size, 1, none⟩ = some (.int .i64 v))) (ds := []) #[false, false, false, false, false, false, false, false, false, false, false, false] (by kernel_rfl) rfl rfl ⟨C0.out, C1.out⟩ (fun hHeld => ?_)
  generalize w3.drew = W0_ at C0 C1 HW BF KK hHeld ⊢
  refine pure_ (i := 0) (N := some 39) (v := ?_) (a' := ?_) #[true, false, false, false, false, false, false, false, false, false, false, false] rfl rfl (by kernel_rfl) (fun _ _ _ h => h) (Or.inl ⟨by rfl, ?_⟩) ?_ ?_
  rotate_left
  · intro w'
    go_simp
    with_reducible rfl
  rotate_left
  · simp only [Act.put, List.setIfInBounds_toArray, List.set_cons_zero, List.set_cons_succ, i64_w, i32_w]
    rfl
  refine take_ (i := 1) (N := some 40) (v := ?_) (a' := ?_) #[true, true, false, false, false, false, false, false, false, false, false, false] rfl rfl (by kernel_rfl) (fun _ _ _ h => h) (Or.inl ⟨by rfl, ?_⟩) hHeld ?_ ?_
  rotate_left
  · rintro w' ⟨s0, s1⟩
    go_simp
    with_reducible rfl
  rotate_left
  · simp only [Act.put, List.setIfInBounds_toArray, List.set_cons_zero, List.set_cons_succ, i64_w, i32_w]
    rfl
  refine pure_ (i := 2) (N := some 41) (v := ?_) (a' := ?_) #[true, true, true, false, false, false, false, false, false, false, false, false] rfl rfl (by kernel_rfl) (fun _ _ _ h => h) (Or.inl ⟨by rfl, ?_⟩) ?_ ?_
  rotate_left
  · intro w'
    go_simp
    with_reducible rfl
  rotate_left
  · simp only [Act.put, List.setIfInBounds_toArray, List.set_cons_zero, List.set_cons_succ, i64_w, i32_w]
    rfl
  refine pure_ (i := 5) (N := some 44) (v := ?_) (a' := ?_) #[true, true, true, false, false, true, false, false, false, false, false, false] rfl rfl (by kernel_rfl) (fun _ _ _ h => h) (Or.inl ⟨by rfl, ?_⟩) ?_ ?_
  rotate_left
  · intro w'
    go_simp
    with_reducible rfl
  rotate_left
  · simp only [Act.put, List.setIfInBounds_toArray, List.set_cons_zero, List.set_cons_succ, i64_w, i32_w]
    rfl
  refine take_ (i := 6) (N := some 45) (v := ?_) (a' := ?_) #[true, true, true, false, false, true, true, false, false, false, false, false] rfl rfl (by kernel_rfl) (fun _ _ _ h => h) (Or.inl ⟨by rfl, ?_⟩) hHeld ?_ ?_
  rotate_left
  · rintro w' ⟨s0, s1⟩
    go_simp
    with_reducible rfl
  rotate_left
  · simp only [Act.put, List.setIfInBounds_toArray, List.set_cons_zero, List.set_cons_succ, i64_w, i32_w]
    rfl
  refine pure_ (i := 7) (N := some 46) (v := ?_) (a' := ?_) #[true, true, true, false, false, true, true, true, false, false, false, false] rfl rfl (by kernel_rfl) (fun _ _ _ h => h) (Or.inl ⟨by rfl, ?_⟩) ?_ ?_
  rotate_left
  · intro w'
    go_simp
    with_reducible rfl
  rotate_left
  · simp only [Act.put, List.setIfInBounds_toArray, List.set_cons_zero, List.set_cons_succ, i64_w, i32_w]
    rfl
  refine one_ (i := 3) (N := some 42) #[true, true, true, true, false, true, true, true, false, false, false, false] rfl rfl (by kernel_rfl) (by decide) (fun K hK => ?_)
  refine goes_ Try.func299 (by kernel_rfl) rfl #[.agg #[.int .i64 n, .int .i64 v], .int .i64 iv, .int .i64 0] (by rfl) rfl rfl (by (try simp only [List.map_toArray, List.map_cons, List.map_nil]); first | done | rfl | (simp only [List.length_drop, List.length_take]; rfl)) ?_
  with_reducible refine (impl_Table_stuck.calls n v iv 0 n v0 _ T0.out).mono ?_
  rintro e W1_ ⟨rfl, hb⟩
  refine ⟨_, rfl, ?_⟩
  have n_ : Aside0 (W1_.cell? ⟨w.heap.size, 0, none⟩ = some (.int .i64 n)) := ⟨pw_cell_below hb C0.out⟩
  clear C0
  have C0 := n_
  clear n_
  have n_ : Aside0 (W1_.cell? ⟨w.heap.size, 1, none⟩ = some (.int .i64 v)) := ⟨pw_cell_below hb C1.out⟩
  clear C1
  have C1 := n_
  clear n_
  have n_ := Aside0.mk (HW.out.step hb)
  clear HW
  have HW := n_
  clear n_
  have n_ := Aside0.mk (blk_below BF.out hb)
  clear BF
  have BF := n_
  clear n_
  have n_ := Aside0.mk (KK.out.below hb)
  clear KK
  have KK := n_
  clear n_
  clear hb
  refine hK.out _ _ ⟨C0.out, C1.out⟩ (fun hHeld => ?_)
  clear hK K
  refine norm_ (a' := ?_) ?_ ?_
  rotate_left
  · show Act.put _ (some 42) _ = _
    simp only [Act.put, List.setIfInBounds_toArray, List.set_cons_zero, List.set_cons_succ, i64_w, i32_w]
    rfl
  refine one_ (i := 4) (N := some 43) #[true, true, true, true, true, true, true, true, false, false, false, false] rfl rfl (by kernel_rfl) (by decide) (fun K hK => ?_)
  refine goes_ Try.func287 (by kernel_rfl) rfl #[.pointer (some ⟨gd, 0, none⟩), .agg #[.int .i64 n, .int .i64 v0]] (by rfl) rfl rfl (by (try simp only [List.map_toArray, List.map_cons, List.map_nil]); first | done | rfl | (simp only [List.length_drop, List.length_take]; rfl)) ?_
  with_reducible refine (IH0.out _ nv HW.out).mono ?_
  rintro e W2_ ⟨rfl, nv1, hw_, hk_, hs_⟩
  refine ⟨_, rfl, ?_⟩
  have BF2 := Aside0.mk (blk_kept BF.out hk_ (box_not HW.out BF.out))
  have KK2 := Aside0.mk (KK.out.then_ hk_ (Wr_chain SNW.out))
  have SN2 := Aside0.mk (SameOrNew.trans SNW.out hs_ KK.out.1)
  have HW2 := Aside0.mk hw_
  clear hw_ hk_ hs_ BF KK SNW HW C0 C1
  have BF := BF2
  have KK := KK2
  have SNW := SN2
  have HW := HW2
  clear BF2 KK2 SN2 HW2
  have C0 : Aside0 (W2_.cell? ⟨w.heap.size, 0, none⟩ = some (.int .i64 n)) := ⟨(blk_cell BF.out 0).trans rfl⟩
  have C1 : Aside0 (W2_.cell? ⟨w.heap.size, 1, none⟩ = some (.int .i64 v)) := ⟨(blk_cell BF.out 1).trans rfl⟩
  refine hK.out _ _ ⟨C0.out, C1.out⟩ (fun hHeld => ?_)
  clear hK K
  refine norm_ (a' := ?_) ?_ ?_
  rotate_left
  · show Act.put _ (some 43) _ = _
    simp only [Act.put, List.setIfInBounds_toArray, List.set_cons_zero, List.set_cons_succ, i64_w, i32_w]
    rfl
  refine one_ (i := 8) (N := some 47) #[true, true, true, true, true, true, true, true, true, false, false, false] rfl rfl (by kernel_rfl) (by decide) (fun K hK => ?_)
  refine goes_ Try.func299 (by kernel_rfl) rfl #[.agg #[.int .i64 n, .int .i64 v], .int .i64 iv, .int .i64 1] (by rfl) rfl rfl (by (try simp only [List.map_toArray, List.map_cons, List.map_nil]); first | done | rfl | (simp only [List.length_drop, List.length_take]; rfl)) ?_
  with_reducible refine (impl_Table_stuck.calls n v iv 1 n v1 _ T1.out).mono ?_
  rintro e W3_ ⟨rfl, hb⟩
  refine ⟨_, rfl, ?_⟩
  have n_ : Aside0 (W3_.cell? ⟨w.heap.size, 0, none⟩ = some (.int .i64 n)) := ⟨pw_cell_below hb C0.out⟩
  clear C0
  have C0 := n_
  clear n_
  have n_ : Aside0 (W3_.cell? ⟨w.heap.size, 1, none⟩ = some (.int .i64 v)) := ⟨pw_cell_below hb C1.out⟩
  clear C1
  have C1 := n_
  clear n_
  have n_ := Aside0.mk (HW.out.step hb)
  clear HW
  have HW := n_
  clear n_
  have n_ := Aside0.mk (blk_below BF.out hb)
  clear BF
  have BF := n_
  clear n_
  have n_ := Aside0.mk (KK.out.below hb)
  clear KK
  have KK := n_
  clear n_
  clear hb
  refine hK.out _ _ ⟨C0.out, C1.out⟩ (fun hHeld => ?_)
  clear hK K
  refine norm_ (a' := ?_) ?_ ?_
  rotate_left
  · show Act.put _ (some 47) _ = _
    simp only [Act.put, List.setIfInBounds_toArray, List.set_cons_zero, List.set_cons_succ, i64_w, i32_w]
    rfl
  refine one_ (i := 9) (N := some 48) #[true, true, true, true, true, true, true, true, true, true, false, false] rfl rfl (by kernel_rfl) (by decide) (fun K hK => ?_)
  refine goes_ Try.func287 (by kernel_rfl) rfl #[.pointer (some ⟨gd, 0, none⟩), .agg #[.int .i64 n, .int .i64 v1]] (by rfl) rfl rfl (by (try simp only [List.map_toArray, List.map_cons, List.map_nil]); first | done | rfl | (simp only [List.length_drop, List.length_take]; rfl)) ?_
  with_reducible refine (IH1.out _ nv1 HW.out).mono ?_
  rintro e W4_ ⟨rfl, nv2, hw_, hk_, hs_⟩
  refine ⟨_, rfl, ?_⟩
  have BF2 := Aside0.mk (blk_kept BF.out hk_ (box_not HW.out BF.out))
  have KK2 := Aside0.mk (KK.out.then_ hk_ (Wr_chain SNW.out))
  have SN2 := Aside0.mk (SameOrNew.trans SNW.out hs_ KK.out.1)
  have HW2 := Aside0.mk hw_
  clear hw_ hk_ hs_ BF KK SNW HW C0 C1
  have BF := BF2
  have KK := KK2
  have SNW := SN2
  have HW := HW2
  clear BF2 KK2 SN2 HW2
  have C0 : Aside0 (W4_.cell? ⟨w.heap.size, 0, none⟩ = some (.int .i64 n)) := ⟨(blk_cell BF.out 0).trans rfl⟩
  have C1 : Aside0 (W4_.cell? ⟨w.heap.size, 1, none⟩ = some (.int .i64 v)) := ⟨(blk_cell BF.out 1).trans rfl⟩
  refine hK.out _ _ ⟨C0.out, C1.out⟩ (fun hHeld => ?_)
  clear hK K
  refine norm_ (a' := ?_) ?_ ?_
  rotate_left
  · show Act.put _ (some 48) _ = _
    simp only [Act.put, List.setIfInBounds_toArray, List.set_cons_zero, List.set_cons_succ, i64_w, i32_w]
    rfl
  refine pure_ (i := 10) (N := some 8) (v := ?_) (a' := ?_) #[true, true, true, true, true, true, true, true, true, true, true, false] rfl rfl (by kernel_rfl) (fun _ _ _ h => h) (Or.inl ⟨by rfl, ?_⟩) ?_ ?_
  rotate_left
  · intro w'
    go_simp
    with_reducible rfl
  rotate_left
  · simp only [Act.put, List.setIfInBounds_toArray, List.set_cons_zero, List.set_cons_succ, i64_w, i32_w]
    rfl
  refine pure_ (i := 11) (N := some 9) (v := ?_) (a' := ?_) #[true, true, true, true, true, true, true, true, true, true, true, true] rfl rfl (by kernel_rfl) (fun _ _ _ h => h) (Or.inl ⟨by rfl, ?_⟩) ?_ ?_
  rotate_left
  · intro w'
    go_simp
    with_reducible rfl
  rotate_left
  · simp only [Act.put, List.setIfInBounds_toArray, List.set_cons_zero, List.set_cons_succ, i64_w, i32_w]
    rfl
  refine done_ (by kernel_rfl) ?_
  clear C0 C1 IH0 IH1 T0 T1
  generalize W4_ = w4 at HW BF KK
  obtain ⟨A2, c2, rfl⟩ := Kd.R_slice HW.out.own

  obtain ⟨D, hm, hf⟩ := HW.out.map
  have HM := Aside0.mk hm
  have HF := Aside0.mk hf
  have HOWN := Aside0.mk HW.out.own
  have BD := Aside0.mk HW.out.blk
  have HBW := Aside0.mk HW.out.below
  have HLN := Aside0.mk HW.out.len
  have HORD := Aside0.mk HW.out.ord
  have GD := Aside0.mk HW.out.gdge
  have GM := Aside0.mk HW.out.gmge
  have hcd1 : w4.cell? ⟨gd, 1, none⟩ = some (.slice A2 nodes2.length c2) := (blk_cell BD.out 1).trans rfl
  clear hm hf HW
  go_upto_region 9 with (first | ((with_reducible refine gate_builtin (b := .append) (xs := #[.tmp 53, .tmp 58]) rfl ?_); at_builtin; refine Kd.R_append k139 (w0 := w0) w0.heap.size rfl (.tmp 53) (.tmp 58) 62 139 (.agg #[(.int .i64 0), (.int .i64 0), (.int .i64 0)]) 24 rfl Try.underlying62 info139 rfl (by decide) (by omega) (.slice A2 nodes2.length c2) nodes2 (⟨iv, low, high⟩ : S139) [.int .i64 iv, .int .i64 low, .int .i64 high] (fun _ => True) (fun _ => False) rfl rfl ?aP (fun _ hk => hk.elim) ?aF ?aO ?aB ?aS ?aL ?_; (case aP => exact k139_mkM _ _ _ (⟨iv, low, high⟩ : S139)); (case aF => exact (fun _ _ => trivial)); (case aO => exact HOWN.out); (case aB => exact HBW.out); (case aS => exact HBW.out.size); (case aL => have := HLEN.out; omega); intro nv3 w5 ho hb hg hat; obtain ⟨A3, c3, rfl⟩ := Kd.R_slice ho; obtain ⟨L3, hL3⟩ : ∃ L3, L3 = (nodes2 ++ [(⟨iv, low, high⟩ : S139)]).length := ⟨_, rfl⟩; rw [← hL3] at ho hat ⊢; have HL3 : Aside0 (L3 = nodes2.length + 1) := ⟨by rw [hL3, List.length_append]; rfl⟩; clear hL3; have n0_ := Aside0.mk (blk_grown BD.out hg (Kd.R_ne HOWN.out BD.out (by decide))); have n1_ := Aside0.mk (blk_grown BF.out hg (Kd.R_ne HOWN.out BF.out (by decide))); have n2_ := Aside0.mk (HM.out.kept hg (map_not_row HM.out HOWN.out)); have n3_ := Aside0.mk (Kept.of_grown hg KK.out (fun k_ hk_ => Wr_chain SNW.out k_ (.inr hk_.symm))); have n4_ := Aside0.mk (SameOrNew.trans SNW.out hat KK.out.1); clear BD BF HM KK SNW HOWN HBW hcd1; have BD := n0_; have BF := n1_; have HM := n2_; have KK := n3_; have SNW := n4_; have HOWN := Aside0.mk ho; have HBW := Aside0.mk hb; clear n0_ n1_ n2_ n3_ n4_ ho hb hg hat; have hcd1 : w5.cell? ⟨gd, 1, none⟩ = some _ := (blk_cell BD.out 1).trans rfl; have hfd1 : w5.frozen? ⟨gd, 1, none⟩ = false := blk_frozen BD.out 1))
  obtain ⟨w6, hw⟩ : ∃ w6, w6 = w5.setCell ⟨gd, 1, none⟩ (.slice A3 L3 c3) := ⟨_, rfl⟩
  rw [← hw]
  (have n0_ : Aside0 (w6.heap[gd]? = some (.cells #[.slice (some ad) ord.length oc, .slice A3 L3 c3, .map (some gm)] 170 (0, 0))) := ⟨by rw [hw]; exact (blk_set BD.out 1 _).trans rfl⟩; have n1_ : Aside0 (w6.heap[w.heap.size]? = some (.cells #[.int .i64 n, .int .i64 v] 25 (0, 0))) := ⟨by rw [hw]; exact blk_far BF.out (blk_ne BF.out BD.out (by decide)) _⟩; have n2_ : Aside0 (w6.ownsMap Try.prog 25 (plainElem Try.prog 3) gm names2.length D) := ⟨by rw [hw]; exact HM.out.kept (wk_set _ gd 1 _) (map_not_blk HM.out BD.out)⟩; have n3_ : Aside0 (Kept w w6 (Wr gd gm nv)) := ⟨by rw [hw]; exact Kept.setCell KK.out (.inl (.inl (.inl rfl))) _⟩; have n4_ : Aside0 (Kd.R k139 139 w6 w0.heap.size (fun _ => True) (.slice A3 L3 c3) (nodes2 ++ [(⟨iv, low, high⟩ : S139)])) := ⟨by rw [hw]; exact Kd.R_set HOWN.out BD.out (by decide) 1 _⟩; have n5_ : Aside0 (Below w0.heap.size w0 w6) := ⟨by rw [hw]; exact HBW.out.setCell GD.out _⟩; clear hcd1 hfd1 BD BF HM KK HOWN HBW hw; have BD := n0_; have BF := n1_; have HM := n2_; have KK := n3_; have HOWN := n4_; have HBW := n5_; clear n0_ n1_ n2_ n3_ n4_ n5_)
  have C0 : Aside0 (w6.cell? ⟨gd, 1, none⟩ = some (.slice A3 L3 c3)) := ⟨(blk_cell BD.out 1).trans rfl⟩
  have C1 : Aside0 (w6.cell? ⟨gd, 2, none⟩ = some (.map (some gm))) := ⟨(blk_cell BD.out 2).trans rfl⟩
  have C2 : Aside0 (w6.cell? ⟨w.heap.size, 0, none⟩ = some (.int .i64 n)) := ⟨(blk_cell BF.out 0).trans rfl⟩
  have C3 : Aside0 (w6.cell? ⟨w.heap.size, 1, none⟩ = some (.int .i64 v)) := ⟨(blk_cell BF.out 1).trans rfl⟩
  obtain ⟨m, hm⟩ : ∃ m, m = nodes2.length := ⟨_, rfl⟩
  have HMM := Aside0.mk hm
  have E1 : IntKind.i64.wrap ((L3 : Int) - 1) = (m : Int) := by have := HL3.out; have := HLEN.out; rw [B.wrap_of (by omega) (by omega)]; omega
  clear hm BF
  have hb := below_drew (Below.refl w6.heap.size w6)
  have n_ : Aside0 (w6.drew.cell? ⟨gd, 1, none⟩ = some (.slice A3 L3 c3)) := ⟨pw_cell_below hb C0.out⟩
  clear C0
  have C0 := n_
  clear n_
  have n_ : Aside0 (w6.drew.cell? ⟨gd, 2, none⟩ = some (.map (some gm))) := ⟨pw_cell_below hb C1.out⟩
  clear C1
  have C1 := n_
  clear n_
  have n_ : Aside0 (w6.drew.cell? ⟨w.heap.size, 0, none⟩ = some (.int .i64 n)) := ⟨pw_cell_below hb C2.out⟩
  clear C2
  have C2 := n_
  clear n_
  have n_ : Aside0 (w6.drew.cell? ⟨w.heap.size, 1, none⟩ = some (.int .i64 v)) := ⟨pw_cell_below hb C3.out⟩
  clear C3
  have C3 := n_
  clear n_
  have n_ := Aside0.mk (blk_below BD.out hb)
  clear BD
  have BD := n_
  clear n_
  have n_ := Aside0.mk (HM.out.kept (grown_of_below hb none) (by simp))
  clear HM
  have HM := n_
  clear n_
  have n_ := Aside0.mk (KK.out.below hb)
  clear KK
  have KK := n_
  clear n_
  have n_ := Aside0.mk (Kd.R_below HOWN.out hb)
  clear HOWN
  have HOWN := n_
  clear n_
  have n_ := Aside0.mk (below_then HBW.out HBW.out.size hb)
  clear HBW
  have HBW := n_
  clear n_
  clear hb
  refine start_ (n := 12) (S := (fun w_ => w_.cell? ⟨gd, 1, none⟩ = some (.slice A3 L3 c3) ∧ w_.cell? ⟨gd, 2, none⟩ = some (.map (some gm)) ∧ w_.cell? ⟨w.heap.size, 0, none⟩ = some (.int .i64 n) ∧ w_.cell? ⟨w.heap.size, 1, none⟩ = some (.int .i64 v))) (ds := [11]) #[false, false, false, false, false, false, false, false, false, false, false, false] (by kernel_rfl) rfl rfl ⟨C0.out, C1.out, C2.out, C3.out⟩ (fun hHeld => ?_)
  generalize w6.drew = W0_ at C0 C1 C2 C3 BD HM KK HOWN HBW hHeld ⊢
  refine pure_ (i := 0) (N := some 62) (v := ?_) (a' := ?_) #[true, false, false, false, false, false, false, false, false, false, false, false] rfl rfl (by kernel_rfl) (fun _ _ _ h => h) (Or.inl ⟨by rfl, ?_⟩) ?_ ?_
  rotate_left
  · intro w'
    go_simp
    with_reducible rfl
  rotate_left
  · simp only [Act.put, List.setIfInBounds_toArray, List.set_cons_zero, List.set_cons_succ, i64_w, i32_w]
    rfl
  refine pure_ (i := 1) (N := some 63) (v := ?_) (a' := ?_) #[true, true, false, false, false, false, false, false, false, false, false, false] rfl rfl (by kernel_rfl) (fun _ _ _ h => h) (Or.inl ⟨by rfl, ?_⟩) ?_ ?_
  rotate_left
  · intro w'
    go_simp
    with_reducible rfl
  rotate_left
  · simp only [Act.put, List.setIfInBounds_toArray, List.set_cons_zero, List.set_cons_succ, i64_w, i32_w]
    rfl
  refine pure_ (i := 2) (N := some 64) (v := ?_) (a' := ?_) #[true, true, true, false, false, false, false, false, false, false, false, false] rfl rfl (by kernel_rfl) (fun _ _ _ h => h) (Or.inl ⟨by rfl, ?_⟩) ?_ ?_
  rotate_left
  · intro w'
    go_simp
    with_reducible rfl
  rotate_left
  · simp only [Act.put, List.setIfInBounds_toArray, List.set_cons_zero, List.set_cons_succ, i64_w, i32_w]
    rfl
  refine take_ (i := 3) (N := some 65) (v := ?_) (a' := ?_) #[true, true, true, true, false, false, false, false, false, false, false, false] rfl rfl (by kernel_rfl) (fun _ _ _ h => h) (Or.inl ⟨by rfl, ?_⟩) hHeld ?_ ?_
  rotate_left
  · rintro w' ⟨s0, s1, s2, s3⟩
    go_simp
    with_reducible rfl
  rotate_left
  · simp only [Act.put, List.setIfInBounds_toArray, List.set_cons_zero, List.set_cons_succ, i64_w, i32_w]
    rfl
  refine take_ (i := 4) (N := some 66) (v := ?_) (a' := ?_) #[true, true, true, true, true, false, false, false, false, false, false, false] rfl rfl (by kernel_rfl) (fun _ _ _ h => h) (Or.inl ⟨by rfl, ?_⟩) hHeld ?_ ?_
  rotate_left
  · rintro w' ⟨s0, s1, s2, s3⟩
    go_simp
    with_reducible rfl
  rotate_left
  · simp only [Act.put, List.setIfInBounds_toArray, List.set_cons_zero, List.set_cons_succ, i64_w, i32_w]
    rfl
  refine pure_ (i := 5) (N := some 67) (v := ?_) (a' := ?_) #[true, true, true, true, true, true, false, false, false, false, false, false] rfl rfl (by kernel_rfl) (fun _ _ _ h => h) (Or.inl ⟨by rfl, ?_⟩) ?_ ?_
  rotate_left
  · intro w'
    go_simp
    with_reducible rfl
  rotate_left
  · simp only [Act.put, List.setIfInBounds_toArray, List.set_cons_zero, List.set_cons_succ, i64_w, i32_w]
    rfl
  refine pure_ (i := 6) (N := some 68) (v := ?_) (a' := ?_) #[true, true, true, true, true, true, true, false, false, false, false, false] rfl rfl (by kernel_rfl) (fun _ _ _ h => h) (Or.inl ⟨by rfl, ?_⟩) ?_ ?_
  rotate_left
  · intro w'
    go_simp
    with_reducible rfl
  rotate_left
  · simp only [Act.put, List.setIfInBounds_toArray, List.set_cons_zero, List.set_cons_succ, i64_w, i32_w]
    rfl
  refine pure_ (i := 7) (N := some 69) (v := ?_) (a' := ?_) #[true, true, true, true, true, true, true, true, false, false, false, false] rfl rfl (by kernel_rfl) (fun _ _ _ h => h) (Or.inl ⟨by rfl, ?_⟩) ?_ ?_
  rotate_left
  · intro w'
    go_simp
    with_reducible rfl
  rotate_left
  · simp only [Act.put, List.setIfInBounds_toArray, List.set_cons_zero, List.set_cons_succ, i64_w, i32_w]
    rfl
  refine take_ (i := 8) (N := some 70) (v := ?_) (a' := ?_) #[true, true, true, true, true, true, true, true, true, false, false, false] rfl rfl (by kernel_rfl) (fun _ _ _ h => h) (Or.inl ⟨by rfl, ?_⟩) hHeld ?_ ?_
  rotate_left
  · rintro w' ⟨s0, s1, s2, s3⟩
    go_simp
    with_reducible rfl
  rotate_left
  · simp only [Act.put, List.setIfInBounds_toArray, List.set_cons_zero, List.set_cons_succ, i64_w, i32_w]
    rfl
  refine pure_ (i := 9) (N := some 71) (v := ?_) (a' := ?_) #[true, true, true, true, true, true, true, true, true, true, false, false] rfl rfl (by kernel_rfl) (fun _ _ _ h => h) (Or.inl ⟨by rfl, ?_⟩) ?_ ?_
  rotate_left
  · intro w'
    go_simp
    with_reducible rfl
  rotate_left
  · simp only [Act.put, List.setIfInBounds_toArray, List.set_cons_zero, List.set_cons_succ, i64_w, i32_w]
    rfl
  refine pure_ (i := 10) (N := some 72) (v := ?_) (a' := ?_) #[true, true, true, true, true, true, true, true, true, true, true, false] rfl rfl (by kernel_rfl) (fun _ _ _ h => h) (Or.inl ⟨by rfl, ?_⟩) ?_ ?_
  rotate_left
  · intro w'
    go_simp
    with_reducible rfl
  rotate_left
  · simp only [Act.put, List.setIfInBounds_toArray, List.set_cons_zero, List.set_cons_succ, i64_w, i32_w]
    rfl
  refine last_ (i := 11) (N := none) #[true, true, true, true, true, true, true, true, true, true, true, true] rfl rfl (by kernel_rfl) (by decide) (fun K hK => ?_)
  obtain ⟨w7, hrun, hown, hgr⟩ := HM.out.update tab_law Try.underlying168 (val := .int .i64 (m : Int)) (by have := HLN.out; have := HLEN.out; unfold maxLen; omega) (tab_key WN.out WV.out) (plainElem_int Try.underlying3 (by have := HMM.out; have := HLEN.out; simp [Lit.wf, IntKind.min, IntKind.max, IntKind.bits, IntKind.signed]; omega))
  refine skip_ (w1 := w7) (by rfl) rfl ?_ ?_
  · unfold execOp
    simp [Act.eval, hrun, Result.andThen]
  have n0_ := Aside0.mk (blk_grown BD.out hgr (fun e => map_not_blk HM.out BD.out e.symm))
  have n1_ := Aside0.mk (Kept.of_grown hgr KK.out (fun k_ hk_ => by cases hk_; exact .inl (.inl (.inr rfl))))
  have n2_ := Aside0.mk (own_map_grown HM.out HOWN.out hgr)
  have n3_ := Aside0.mk (HBW.out.grown hgr HBW.out.size (fun k_ hk_ => by cases hk_; exact GM.out))
  have HM2 := Aside0.mk hown
  clear hrun hown hgr BD KK HOWN HBW HM
  have BD := n0_
  have KK := n1_
  have HOWN := n2_
  have HBW := n3_
  clear n0_ n1_ n2_ n3_ C0 C1 C2 C3 hHeld
  refine hK.out _ _ ?_
  clear hK K
  refine done_ (by kernel_rfl) ?_
  have hcd1 : w7.cell? ⟨gd, 1, none⟩ = some (.slice A3 L3 c3) := (blk_cell BD.out 1).trans rfl
  go_wp2
  go_ret
  have hmm := HMM.out
  subst hmm
  refine ⟨rfl, .slice A3 L3 c3, ⟨BD.out, HOWN.out, ⟨_, ?_, HF.out.put WN.out WV.out HNO2.out⟩, ?_, HBW.out, HORD.out, GD.out, GM.out⟩, KK.out, SNW.out⟩
  · rw [List.length_append, HLN.out]; rw [HLN.out] at HM2; exact HM2.out
  · rw [List.length_append, List.length_append, HLN.out]; rfl

theorem stuck_fst {n v i b : Int} {t : Int × Int} (h : impl_Table_stuck.f n v i b = some t) : t.1 = n := by
  unfold impl_Table_stuck.f at h
  split at h
  · cases h; rfl
  · cases h
theorem impl_diagram_walk.any {n : Int} {gd gm : Nat} {w0 : World} {Ao : Option Addr} {oc : Nat} {ord : List Int} (hol : ord.length < 1000) (wn : (Lit.int .i64 n).wf = true) : ∀ (k : Nat) (v : Int) (names : List Int) (nodes : List S139) (r : Int) (names' : List Int) (nodes' : List S139), walkS n ord k v names nodes = some (r, names', nodes') →
    ∀ (W : World) (nv : Value), WalkAt n gd gm w0 Ao oc ord nv names nodes W → Calls Try.prog 287 #[.pointer (some ⟨gd, 0, none⟩), .agg #[.int .i64 n, .int .i64 v]] W (WalkPost n gd gm w0 Ao oc ord nv W r names' nodes') := by
  intro k
  induction k with
  | zero => intro v names nodes r names' nodes' h; cases h
  | succ k ih =>
    intro v names nodes r names' nodes' h W nv hw
    rw [walkS] at h
    obtain ⟨s, hs, h⟩ := Option.bind_eq_some_iff.mp h
    cases s with
    | true =>
      rw [if_pos rfl] at h
      obtain ⟨b, hb, h⟩ := Option.bind_eq_some_iff.mp h
      split at h
      next hbb =>
        cases h
        exact walk_same hw hs hb hbb.1 hbb.2
      next => cases h
    | false =>
      rw [if_neg (by decide)] at h
      split at h
      next wv =>
        cases hi : idxOf names v with
        | some i =>
          rw [hi] at h
          cases h
          exact walk_found hw hs wn wv hi
        | none =>
          rw [hi] at h
          simp only at h
          split at h
          next hda =>
            cases hj : firstN (depB n v ord) ord.length 0 with
            | none => rw [hj] at h; cases h
            | some j =>
              rw [hj] at h
              obtain ⟨t0, ht0, h⟩ := Option.bind_eq_some_iff.mp h
              obtain ⟨p1, hp1, h⟩ := Option.bind_eq_some_iff.mp h
              obtain ⟨t1, ht1, h⟩ := Option.bind_eq_some_iff.mp h
              obtain ⟨p2, hp2, h⟩ := Option.bind_eq_some_iff.mp h
              split at h
              next hh =>
                cases h
                obtain ⟨a0, v0⟩ := t0
                obtain ⟨a1, v1⟩ := t1
                obtain ⟨low, names1, nodes1⟩ := p1
                obtain ⟨high, names2, nodes2⟩ := p2
                rw [show a0 = n from stuck_fst ht0] at ht0
                rw [show a1 = n from stuck_fst ht1] at ht1
                exact walk_new hw hs wn wv hi hda hj hol ht0 ht1 (fun W nv' h' => ih v0 names nodes low names1 nodes1 hp1 W nv' h') (fun W nv' h' => ih v1 names1 nodes1 high names2 nodes2 hp2 W nv' h') hh.1 hh.2
              next => cases h
          next => cases h
      next => cases h

end Go.Proofs.Yticfnpfagadcoaa.F
