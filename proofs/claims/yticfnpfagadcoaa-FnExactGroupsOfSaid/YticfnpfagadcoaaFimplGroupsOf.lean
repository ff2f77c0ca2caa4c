/- The walk of one Go function: a call of it ends as the Lean function of its name tells; the conditions are those of each theorem. -/
import Derived.Test.YticfnpfagadcoaaF0
import Derived.Test.YticfnpfagadcoaaFGa
import Derived.Test.YticfnpfagadcoaaFGa
import Derived.Test.YticfnpfagadcoaaFimplAreExchangeable
import Derived.Test.YticfnpfagadcoaaFslicesIndexFuncintint224
import Derived.Test.YticfnpfagadcoaaBase
namespace Go.Proofs.Yticfnpfagadcoaa.F
open Go.RowKit Go.Proofs.YticfnpfagadcoaaW.PrintWords Go.Proofs.YticfnpfagadcoaaW.PrintLast Go.Proofs.YticfnpfagadcoaaW.PrintMore
attribute [local go_sem] max2_int min2_int max_two min_two max_three min_three max_four min_four   -- for this text's walks alone
set_option linter.unusedVariables false
set_option linter.unusedSimpArgs false

/-! ### impl_GroupsOf: function 67 -/
set_option maxHeartbeats 400000 in
set_option maxRecDepth 100000 in
theorem impl_GroupsOf_1.any (k : Nat) (n u x : Int) (l : List Int) (A : Option Addr) (c : Nat) (r : Bool) (ha : impl_AreExchangeable.f k n u (rd l 0) x = some r) (hl : 0 < l.length) (g1 g2 : Nat) (W : World) (hr : Kd.C (Kd.int .i64) W A l.length l) (h1 : W.heap[g1]? = some (.cells #[.int .i64 n, .int .i64 u] 25 (0, 0))) (h2 : W.heap[g2]? = some (.cells #[.int .i64 x] 3 (0, 0))) :
    Gives Try.prog 225 #[.pointer (some ⟨g1, 0, none⟩), .pointer (some ⟨g2, 0, none⟩)] #[.slice A l.length c] (.bool r) W := by
  show Calls Try.prog 225 #[.slice A l.length c, .pointer (some ⟨g1, 0, none⟩), .pointer (some ⟨g2, 0, none⟩)] W _
  have hut := Try.underlying25
  obtain ⟨ad, rfl, hc⟩ := Kd.at_int hr 0 (by omega) (by omega)
  rw [show ad.add (0 : Int).toNat = ad by simp [Addr.add]] at hc
  have C0 : Aside0 (W.cell? ⟨g1, 0, none⟩ = some (.int .i64 n)) := ⟨(blk_cell h1 0).trans rfl⟩
  have C1 : Aside0 (W.cell? ⟨g1, 1, none⟩ = some (.int .i64 u)) := ⟨(blk_cell h1 1).trans rfl⟩
  have C2 : Aside0 (W.cell? ⟨g2, 0, none⟩ = some (.int .i64 x)) := ⟨(blk_cell h2 0).trans rfl⟩
  have C3 : Aside0 (W.cell? ad = some (.int .i64 (rd l 0))) := ⟨hc⟩
  have HA := Aside0.mk ha
  have hl0 : (0 : Int) < (l.length : Int) := by omega
  clear h1 h2 hc ha hr
  go_enter Try.func225, Try.ntmps225
  go_wp2
  have HB := Aside0.mk (Below.refl W.heap.size W)
  have hb := below_drew (Below.refl W.heap.size W)
  have n_ : Aside0 (W.drew.cell? ⟨g1, 0, none⟩ = some (.int .i64 n)) := ⟨pw_cell_below hb C0.out⟩
  clear C0
  have C0 := n_
  clear n_
  have n_ : Aside0 (W.drew.cell? ⟨g1, 1, none⟩ = some (.int .i64 u)) := ⟨pw_cell_below hb C1.out⟩
  clear C1
  have C1 := n_
  clear n_
  have n_ : Aside0 (W.drew.cell? ⟨g2, 0, none⟩ = some (.int .i64 x)) := ⟨pw_cell_below hb C2.out⟩
  clear C2
  have C2 := n_
  clear n_
  have n_ : Aside0 (W.drew.cell? ad = some (.int .i64 (rd l 0))) := ⟨pw_cell_below hb C3.out⟩
  clear C3
  have C3 := n_
  clear n_
  have n_ := Aside0.mk (below_step HB.out hb)
  clear HB
  have HB := n_
  clear n_
  clear hb
  refine start_ (n := 7) (S := (fun w_ => w_.cell? ⟨g1, 0, none⟩ = some (.int .i64 n) ∧ w_.cell? ⟨g1, 1, none⟩ = some (.int .i64 u) ∧ w_.cell? ⟨g2, 0, none⟩ = some (.int .i64 x) ∧ w_.cell? ad = some (.int .i64 (rd l 0)))) (ds := []) #[false, false, false, false, false, false, false] (by kernel_rfl) rfl rfl ⟨C0.out, C1.out, C2.out, C3.out⟩ (fun hHeld => ?_)
  generalize W.drew = W0_ at C0 C1 C2 C3 HB hHeld ⊢
  refine take_ (i := 0) (N := some 5) (v := ?_) (a' := ?_) #[true, false, false, false, false, false, false] rfl rfl (by kernel_rfl) (fun _ _ _ h => h) (Or.inl ⟨by rfl, ?_⟩) hHeld ?_ ?_
  rotate_left
  · rintro w' ⟨s0, s1, s2, s3⟩
    go_simp
    with_reducible rfl
  rotate_left
  · simp only [Act.put, List.setIfInBounds_toArray, List.set_cons_zero, List.set_cons_succ, i64_w, i32_w]
    rfl
  refine pure_ (i := 1) (N := some 6) (v := ?_) (a' := ?_) #[true, true, false, false, false, false, false] rfl rfl (by kernel_rfl) (fun _ _ _ h => h) (Or.inl ⟨by rfl, ?_⟩) ?_ ?_
  rotate_left
  · intro w'
    go_simp
    with_reducible rfl
  rotate_left
  · simp only [Act.put, List.setIfInBounds_toArray, List.set_cons_zero, List.set_cons_succ, i64_w, i32_w]
    rfl
  refine pure_ (i := 2) (N := some 7) (v := ?_) (a' := ?_) #[true, true, true, false, false, false, false] rfl rfl (by kernel_rfl) (fun _ _ _ h => h) (Or.inl ⟨by rfl, ?_⟩) ?_ ?_
  rotate_left
  · intro w'
    go_simp
    with_reducible rfl
  rotate_left
  · simp only [Act.put, List.setIfInBounds_toArray, List.set_cons_zero, List.set_cons_succ, i64_w, i32_w]
    rfl
  refine take_ (i := 3) (N := some 8) (v := ?_) (a' := ?_) #[true, true, true, true, false, false, false] rfl rfl (by kernel_rfl) (fun _ _ _ h => h) (Or.inl ⟨by rfl, ?_⟩) hHeld ?_ ?_
  rotate_left
  · rintro w' ⟨s0, s1, s2, s3⟩
    go_simp
    with_reducible rfl
  rotate_left
  · simp only [Act.put, List.setIfInBounds_toArray, List.set_cons_zero, List.set_cons_succ, i64_w, i32_w]
    rfl
  refine take_ (i := 4) (N := some 9) (v := ?_) (a' := ?_) #[true, true, true, true, true, false, false] rfl rfl (by kernel_rfl) (fun _ _ _ h => h) (Or.inl ⟨by rfl, ?_⟩) hHeld ?_ ?_
  rotate_left
  · rintro w' ⟨s0, s1, s2, s3⟩
    go_simp
    with_reducible rfl
  rotate_left
  · simp only [Act.put, List.setIfInBounds_toArray, List.set_cons_zero, List.set_cons_succ, i64_w, i32_w]
    rfl
  refine one_ (i := 5) (N := some 10) #[true, true, true, true, true, true, false] rfl rfl (by kernel_rfl) (by decide) (fun K hK => ?_)
  refine goes_ Try.func34 (by kernel_rfl) rfl #[.agg #[.int .i64 n, .int .i64 u], .int .i64 (rd l 0), .int .i64 x] (by rfl) rfl rfl (by (try simp only [List.map_toArray, List.map_cons, List.map_nil]); first | done | rfl | (simp only [List.length_drop, List.length_take]; rfl)) ?_
  with_reducible refine (impl_AreExchangeable.calls k n u (rd l 0) x r _ HA.out).mono ?_
  rintro e W1_ ⟨rfl, hb⟩
  refine ⟨_, rfl, ?_⟩
  have n_ : Aside0 (W1_.cell? ⟨g1, 0, none⟩ = some (.int .i64 n)) := ⟨pw_cell_below hb C0.out⟩
  clear C0
  have C0 := n_
  clear n_
  have n_ : Aside0 (W1_.cell? ⟨g1, 1, none⟩ = some (.int .i64 u)) := ⟨pw_cell_below hb C1.out⟩
  clear C1
  have C1 := n_
  clear n_
  have n_ : Aside0 (W1_.cell? ⟨g2, 0, none⟩ = some (.int .i64 x)) := ⟨pw_cell_below hb C2.out⟩
  clear C2
  have C2 := n_
  clear n_
  have n_ : Aside0 (W1_.cell? ad = some (.int .i64 (rd l 0))) := ⟨pw_cell_below hb C3.out⟩
  clear C3
  have C3 := n_
  clear n_
  have n_ := Aside0.mk (below_step HB.out hb)
  clear HB
  have HB := n_
  clear n_
  clear hb
  refine hK.out _ _ ⟨C0.out, C1.out, C2.out, C3.out⟩ (fun hHeld => ?_)
  clear hK K
  refine norm_ (a' := ?_) ?_ ?_
  rotate_left
  · show Act.put _ (some 10) _ = _
    simp only [Act.put, List.setIfInBounds_toArray, List.set_cons_zero, List.set_cons_succ, i64_w, i32_w]
    rfl
  refine pure_ (i := 6) (N := some 4) (v := ?_) (a' := ?_) #[true, true, true, true, true, true, true] rfl rfl (by kernel_rfl) (fun _ _ _ h => h) (Or.inl ⟨by rfl, ?_⟩) ?_ ?_
  rotate_left
  · intro w'
    go_simp
    with_reducible rfl
  rotate_left
  · simp only [Act.put, List.setIfInBounds_toArray, List.set_cons_zero, List.set_cons_succ, i64_w, i32_w]
    rfl
  refine done_ (by kernel_rfl) ?_
  try go_wp2
  go_ret
  exact ⟨rfl, HB.out⟩

/-- A variable is put to the first group that takes it, or begins a new one. -/
def grpPut (ex : Int → Int → Bool) (i : Int) : List (List Int) → List (List Int)
  | [] => [[i]]
  | l :: ls => if ex (rd l 0) i = true then (l ++ [i]) :: ls else l :: grpPut ex i ls
def grpN (ex : Int → Int → Bool) : Nat → List (List Int)
  | 0 => []
  | i + 1 => grpPut ex (i : Int) (grpN ex i)
def GrpOk (i : Nat) (xs : List (List Int)) : Prop := xs.length ≤ i ∧ ∀ l ∈ xs, 0 < l.length ∧ l.length ≤ i ∧ ∃ y : Nat, rd l 0 = y ∧ y < i
theorem rd_zero {l m : List Int} (h : 0 < l.length) : rd (l ++ m) 0 = rd l 0 := by
  cases l with
  | nil => exact absurd h (Nat.lt_irrefl 0)
  | cons a l => rfl
theorem grpPut_ok (ex : Int → Int → Bool) (i : Nat) : ∀ xs : List (List Int), (∀ l ∈ xs, 0 < l.length ∧ l.length ≤ i ∧ ∃ y : Nat, rd l 0 = y ∧ y < i) → (grpPut ex (i : Int) xs).length ≤ xs.length + 1 ∧ ∀ l ∈ grpPut ex (i : Int) xs, 0 < l.length ∧ l.length ≤ i + 1 ∧ ∃ y : Nat, rd l 0 = y ∧ y < i + 1 := by
  intro xs
  induction xs with
  | nil =>
    intro _
    refine ⟨Nat.le_refl _, fun l hl => ?_⟩
    rw [grpPut, List.mem_singleton] at hl
    subst hl
    exact ⟨Nat.one_pos, by simp, i, rfl, by omega⟩
  | cons a xs ih =>
    intro h
    have ha := h a (List.mem_cons_self ..)
    obtain ⟨y, hy, hyi⟩ := ha.2.2
    rw [grpPut]
    split
    next =>
      refine ⟨by simp, fun l hl => ?_⟩
      rcases List.mem_cons.mp hl with rfl | hl
      · exact ⟨by simp, by simp; omega, y, by rw [rd_zero ha.1]; exact hy, by omega⟩
      · have := h l (List.mem_cons_of_mem _ hl)
        obtain ⟨z, hz, hzi⟩ := this.2.2
        exact ⟨this.1, by omega, z, hz, by omega⟩
    next =>
      obtain ⟨h1, h2⟩ := ih (fun l hl => h l (List.mem_cons_of_mem _ hl))
      refine ⟨by simp; omega, fun l hl => ?_⟩
      rcases List.mem_cons.mp hl with rfl | hl
      · exact ⟨ha.1, by omega, y, hy, by omega⟩
      · exact h2 l hl
theorem grpN_ok (ex : Int → Int → Bool) : ∀ i : Nat, GrpOk i (grpN ex i) := by
  intro i
  induction i with
  | zero => exact ⟨Nat.le_refl _, fun l hl => by cases hl⟩
  | succ i ih =>
    obtain ⟨h1, h2⟩ := grpPut_ok ex i (grpN ex i) ih.2
    refine ⟨?_, h2⟩
    have := ih.1
    show (grpPut ex (i : Int) (grpN ex i)).length ≤ i + 1
    omega
theorem rdL_mem {xs : List (List Int)} {j : Nat} (h : j < xs.length) : rdL xs j ∈ xs := by
  unfold rdL
  rw [Int.toNat_natCast, List.getD_eq_getElem?_getD, List.getElem?_eq_getElem h]
  exact List.getElem_mem h
theorem rdL_succ (a : List Int) (xs : List (List Int)) (j : Nat) : rdL (a :: xs) ((j + 1 : Nat) : Int) = rdL xs j := by
  unfold rdL
  rw [Int.toNat_natCast, Int.toNat_natCast]
  rfl
theorem grpPut_miss (ex : Int → Int → Bool) (i : Int) : ∀ xs : List (List Int), (∀ j : Nat, j < xs.length → ex (rd (rdL xs j) 0) i = false) → grpPut ex i xs = xs ++ [[i]] := by
  intro xs
  induction xs with
  | nil => intro _; rfl
  | cons a xs ih =>
    intro h
    have h0 : ex (rd a 0) i = false := h 0 (Nat.succ_pos _)
    rw [grpPut, if_neg (by rw [h0]; decide), ih (fun j hj => by have := h (j + 1) (Nat.succ_lt_succ hj); rw [rdL_succ] at this; exact this)]
    rfl
theorem grpPut_hit (ex : Int → Int → Bool) (i : Int) : ∀ (xs : List (List Int)) (j : Nat), j < xs.length → ex (rd (rdL xs j) 0) i = true → (∀ k : Nat, k < j → ex (rd (rdL xs k) 0) i = false) → grpPut ex i xs = xs.set j (rdL xs j ++ [i]) := by
  intro xs
  induction xs with
  | nil => intro j hj; exact absurd hj (Nat.not_lt_zero _)
  | cons a xs ih =>
    intro j hj h1 h2
    cases j with
    | zero =>
      have h0 : ex (rd a 0) i = true := h1
      rw [grpPut, if_pos h0]
      rfl
    | succ j =>
      have h0 : ex (rd a 0) i = false := h2 0 (Nat.succ_pos _)
      rw [rdL_succ] at h1 ⊢
      rw [grpPut, if_neg (by rw [h0]; decide), ih j (Nat.lt_of_succ_lt_succ hj) h1 (fun k hk => by have := h2 (k + 1) (Nat.succ_lt_succ hk); rw [rdL_succ] at this; exact this)]
      rfl
def grpEx (n u a b : Int) : Bool := impl_AreExchangeable.f 100 n u a b == some true
def grpDom (n : Nat) (a b : Int) : Bool := B.allN (fun i => B.allN (fun j => (impl_AreExchangeable.f 100 a b (j : Int) (i : Int)).isSome) n) n
def impl_GroupsOf.f (a0_0 a0_1 : Int) : Option (List (List Int)) :=
  (impl_IsTable.f a0_0 a0_1).bind fun t => if t = true then (if 0 ≤ a0_0 ∧ a0_0 ≤ 64 then (if grpDom a0_0.toNat a0_0 a0_1 = true then some (grpN (grpEx a0_0 a0_1) a0_0.toNat) else none) else none) else some []
set_option maxHeartbeats 400000 in
theorem grp_index {a0_0 a0_1 : Int} {ex : Int → Int → Bool} {N i : Nat} {gb gi : Nat} {w W : World} {A : Option Addr} {c : Nat} {xs : List (List Int)} (hex : ∀ x y : Nat, x < N → y < N → impl_AreExchangeable.f 100 a0_0 a0_1 (x : Int) (y : Int) = some (ex x y)) (hi : i < N) (hN : N ≤ 64) (hok : GrpOk i xs)
    (hs : Kd.S (Kd.slice 3 (Kd.int .i64)) 27 W w.heap.size (fun _ => True) (.slice A xs.length c) xs) (h1 : W.heap[gb]? = some (.cells #[.int .i64 a0_0, .int .i64 a0_1] 25 (0, 0))) (h2 : W.heap[gi]? = some (.cells #[.int .i64 i] 3 (0, 0))) :
    Calls Try.prog 224 #[.slice A xs.length c, .func (.func 225) #[] #[.pointer (some ⟨gb, 0, none⟩), .pointer (some ⟨gi, 0, none⟩)]] W fun e w' => ∃ r : Int, e = .returned (.int .i64 r) ∧ firstRow (fun l => ex (rd l 0) (i : Int)) xs r ∧ Below W.heap.size W w' := by
  refine slices_IndexFunc_rows.any A c xs _ 225 _ (enters_of Try.func225 (by kernel_rfl) rfl) W (Kd.S_reads' hs).2.2 (fun W' x A' c' hx hb hC => ?_) (by have := hok.1; omega)
  obtain ⟨hl0, _, y, hy, hyi⟩ := hok.2 _ (rdL_mem hx)
  exact impl_GroupsOf_1.any 100 a0_0 a0_1 (i : Int) (rdL xs x) A' c' _ (by rw [hy]; exact hex y i (by omega) hi) hl0 gb gi W' hC (blk_below h1 hb) (blk_below h2 hb)
set_option maxHeartbeats 1000000 in
set_option maxRecDepth 100000 in
theorem impl_GroupsOf.calls (a0_0 a0_1 : Int) (r : List (List Int)) (w : World) (h : impl_GroupsOf.f a0_0 a0_1 = some r) :
    Calls Try.prog 67 #[.agg #[.int .i64 a0_0, .int .i64 a0_1]] w fun e w' => ∃ v0_ : Value, e = .returned (v0_) ∧ Kd.S (Kd.slice 3 (Kd.int .i64)) 27 w' w.heap.size (fun _ => True) v0_ r ∧ Below w.heap.size w w' := by
  have hut := Try.underlying25
  unfold impl_GroupsOf.f at h
  obtain ⟨t, ht, h⟩ := Option.bind_eq_some_iff.mp h
  have HT := Aside0.mk ht
  clear ht
  have K1 := Aside0.mk (blk_new w (.cells #[.int .i64 a0_0, .int .i64 a0_1] 25 (0, 0)))
  have KB := Aside0.mk (below_alloc (Below.refl w.heap.size w) (.cells #[.int .i64 a0_0, .int .i64 a0_1] 25 (0, 0)))
  cases t with
  | false =>
    rw [if_neg (by decide)] at h
    cases h
    go_enter Try.func67, Try.ntmps67
    go_wp2_with (go_at_call 94; refine (impl_IsTable.calls a0_0 a0_1 false _ HT.out).mono ?_; rintro e w1 ⟨rfl, hd⟩; have HB := Aside0.mk (below_step KB.out hd); clear hd)
    go_ret
    exact ⟨_, rfl, Kd.S_nil _ _ _ _ _, HB.out⟩
  | true =>
    rw [if_pos rfl] at h
    split at h
    next hn =>
      split at h
      next hdom =>
        cases h
        obtain ⟨N, rfl⟩ := Int.eq_ofNat_of_zero_le hn.1
        have hN : N ≤ 64 := by omega
        rw [Int.toNat_natCast] at hdom ⊢
        unfold grpDom at hdom
        rw [B.allN_iff] at hdom
        have HEX : Aside0 (∀ x y : Nat, x < N → y < N → impl_AreExchangeable.f 100 N a0_1 (x : Int) (y : Int) = some (grpEx N a0_1 x y)) := ⟨fun x y hx hy => by
          have h1 := B.allN_iff.mp (hdom y hy) x hx
          obtain ⟨b, hb⟩ := Option.isSome_iff_exists.mp h1
          unfold grpEx
          rw [hb]
          cases b <;> rfl⟩
        clear hdom hn
        generalize grpEx N a0_1 = ex at HEX ⊢
        have HN := Aside0.mk hN
        clear hN
        go_enter Try.func67, Try.ntmps67
        go_wp2_with (go_at_call 94; refine (impl_IsTable.calls N a0_1 true _ HT.out).mono ?_; rintro e w1 ⟨rfl, hd⟩; have HB := Aside0.mk (below_step KB.out hd); have BK := Aside0.mk (blk_below K1.out hd); have hc0 : w1.cell? ⟨w.heap.size, 0, none⟩ = some (.int .i64 N) := (blk_cell BK.out 0).trans rfl; clear hd)
        clear hc0
        go_loopg [3, 11] N (fun gg v3 v11 wr => ∃ i : Nat, i ≤ N ∧ N - i ≤ gg ∧ v11 = .int .i64 i ∧ Aside0 (Kd.S (Kd.slice 3 (Kd.int .i64)) 27 wr w.heap.size (fun _ => True) v3 (grpN ex i)) ∧ Aside0 (wr.heap[w.heap.size]? = some (.cells #[.int .i64 N, .int .i64 a0_1] 25 (0, 0))) ∧ Aside0 (Below w.heap.size w wr))
        case atStart => exact ⟨0, Nat.zero_le _, by omega, rfl, ⟨Kd.S_nil _ _ _ _ _⟩, BK, HB⟩
        case round =>
          clear HB BK
          obtain ⟨i, hi, hg, rfl, HS, BK, HB⟩ := hrel
          by_cases hlt : i < N
          · have hltz : (i : Int) < (N : Int) := by omega
            have HI := Aside0.mk hlt
            have HOK := Aside0.mk (grpN_ok ex i)
            obtain ⟨xs, hxs⟩ : ∃ xs, xs = grpN ex i := ⟨_, rfl⟩
            rw [← hxs] at HS HOK
            have HXS : Aside0 (grpN ex (i + 1) = grpPut ex (i : Int) xs) := ⟨by rw [hxs]; rfl⟩
            clear hxs
            obtain ⟨A, c, hv, hcl, _⟩ := Kd.S_reads HS.out
            subst hv
            have HCL := Aside0.mk hcl
            clear hcl
            go_upto_region 8 with (go_at_call 224; refine (grp_index (gb := w.heap.size) (gi := wr.heap.size) HEX.out HI.out HN.out HOK.out (Kd.S_alloc HS.out _) (blk_alloc BK.out _) (blk_new wr _)).mono ?_; rintro e w3 ⟨r, rfl, hf, hb⟩; have HF := Aside0.mk hf; have HS3 := Aside0.mk (Kd.S_below (Kd.S_alloc HS.out _) hb); have BK3 := Aside0.mk (blk_below (blk_alloc BK.out _) hb); have BI := Aside0.mk (blk_below (blk_new wr _) hb); have HB3 := Aside0.mk (below_step (below_alloc HB.out _) hb); clear HS BK HB hf hb; have HS := HS3; have BK := BK3; have HB := HB3; clear HS3 BK3 HB3)
            obtain ⟨gi, hgi⟩ : ∃ gi, gi = wr.heap.size := ⟨_, rfl⟩
            rw [← hgi] at BI ⊢
            have HG := Aside0.mk hg
            clear hgi hg hi hlt
            rcases HF.out with ⟨j, rfl, hj, hq, hno⟩ | ⟨rfl, hno⟩
            · have HXJ : Aside0 (grpN ex (i + 1) = xs.set j (rdL xs j ++ [(i : Int)])) := ⟨by rw [HXS.out]; exact grpPut_hit ex i xs j hj hq hno⟩
              have HJ := Aside0.mk hj
              clear HF hq hno
              have d1 : decide ((j : Int) < 0) = false := decide_eq_false (by omega)
              have hjz : (j : Int) < (xs.length : Int) := by omega
              have h0z : (0 : Int) ≤ (j : Int) := by omega
              have HLEN : Aside0 (0 < (rdL xs j).length ∧ (rdL xs j).length ≤ i) := ⟨by have := HOK.out.2 _ (rdL_mem hj); exact ⟨this.1, this.2.1⟩⟩
              clear hj
              obtain ⟨go, co, eo, gb29, gl29, _⟩ := Kd.S_form HS.out (by omega)
              have eA : A = some ⟨go, 0, none⟩ := by injection eo
              have eC : c = co := by injection eo
              subst eA eC
              clear eo
              have GB29 := Aside0.mk gb29
              clear gb29 gl29
              obtain ⟨oki, ce, hcl29, hM29, hcc29, hfr29, _, hH29⟩ := Kd.S_elem HS.out [] (j : Int) h0z hjz
              obtain ⟨ve, rfl, ge29⟩ := hM29
              have hv29 := hcc29 0 _ rfl
              rw [Nat.add_zero, show ((Kd.slice 3 (Kd.int .i64))).sz = 1 from rfl, Nat.mul_one, Int.toNat_natCast] at hv29
              have ge30 : Kd.R (Kd.int .i64) 3 w3 w.heap.size oki ve (rdL xs j) := ge29
              obtain ⟨A', c', rfl, hlc', _⟩ := Kd.R_reads ge30
              have UU := Aside0.mk ge30
              have HH := Aside0.mk hH29
              have HV := Aside0.mk hv29
              clear hcl29 hcc29 hfr29 hH29 ge29 ge30 hv29 hlc'
              go_wp2_with (fail)
              have C0 : Aside0 (w3.cell? ⟨go, j, none⟩ = some (.slice A' (rdL xs j).length c')) := HV
              have C1 : Aside0 (w3.cell? ⟨gi, 0, none⟩ = some (.int .i64 i)) := ⟨(blk_cell BI.out 0).trans rfl⟩
              clear HV BI
              have hb := below_drew (Below.refl w3.heap.size w3)
              have n_ : Aside0 (w3.drew.cell? ⟨go, j, none⟩ = some (.slice A' (rdL xs j).length c')) := ⟨pw_cell_below hb C0.out⟩
              clear C0
              have C0 := n_
              clear n_
              have n_ : Aside0 (w3.drew.cell? ⟨gi, 0, none⟩ = some (.int .i64 i)) := ⟨pw_cell_below hb C1.out⟩
              clear C1
              have C1 := n_
              clear n_
              have n_ := Aside0.mk (Kd.S_below HS.out hb)
              clear HS
              have HS := n_
              clear n_
              have n_ := Aside0.mk (blk_below BK.out hb)
              clear BK
              have BK := n_
              clear n_
              have n_ := Aside0.mk (below_step HB.out hb)
              clear HB
              have HB := n_
              clear n_
              have n_ := Aside0.mk (Kd.R_below UU.out hb)
              clear UU
              have UU := n_
              clear n_
              have n_ := Aside0.mk (Kd.H_below HH.out hb)
              clear HH
              have HH := n_
              clear n_
              clear hb
              refine start_ (n := 11) (S := (fun w_ => w_.cell? ⟨go, j, none⟩ = some (.slice A' (rdL xs j).length c') ∧ w_.cell? ⟨gi, 0, none⟩ = some (.int .i64 i))) (ds := [8, 10]) #[false, false, false, false, false, false, false, false, false, false, false] (by kernel_rfl) rfl rfl ⟨C0.out, C1.out⟩ (fun hHeld => ?_)
              generalize w3.drew = W0_ at C0 C1 HS BK HB UU HH hHeld ⊢
              refine pure_ (i := 0) (N := some 24) (v := ?_) (a' := ?_) #[true, false, false, false, false, false, false, false, false, false, false] rfl rfl (by kernel_rfl) (fun _ _ _ h => h) (Or.inl ⟨by rfl, ?_⟩) ?_ ?_
              rotate_left
              · intro w'
                go_simp
                with_reducible rfl
              rotate_left
              · simp only [Act.put, List.setIfInBounds_toArray, List.set_cons_zero, List.set_cons_succ, i64_w, i32_w]
                rfl
              refine pure_ (i := 1) (N := some 25) (v := ?_) (a' := ?_) #[true, true, false, false, false, false, false, false, false, false, false] rfl rfl (by kernel_rfl) (fun _ _ _ h => h) (Or.inl ⟨by rfl, ?_⟩) ?_ ?_
              rotate_left
              · intro w'
                go_simp
                with_reducible rfl
              rotate_left
              · simp only [Act.put, List.setIfInBounds_toArray, List.set_cons_zero, List.set_cons_succ, i64_w, i32_w]
                rfl
              refine pure_ (i := 2) (N := some 26) (v := ?_) (a' := ?_) #[true, true, true, false, false, false, false, false, false, false, false] rfl rfl (by kernel_rfl) (fun _ _ _ h => h) (Or.inl ⟨by rfl, ?_⟩) ?_ ?_
              rotate_left
              · intro w'
                go_simp
                with_reducible rfl
              rotate_left
              · simp only [Act.put, List.setIfInBounds_toArray, List.set_cons_zero, List.set_cons_succ, i64_w, i32_w]
                rfl
              refine pure_ (i := 3) (N := some 27) (v := ?_) (a' := ?_) #[true, true, true, true, false, false, false, false, false, false, false] rfl rfl (by kernel_rfl) (fun _ _ _ h => h) (Or.inl ⟨by rfl, ?_⟩) ?_ ?_
              rotate_left
              · intro w'
                go_simp
                with_reducible rfl
              rotate_left
              · simp only [Act.put, List.setIfInBounds_toArray, List.set_cons_zero, List.set_cons_succ, i64_w, i32_w]
                rfl
              refine pure_ (i := 4) (N := some 28) (v := ?_) (a' := ?_) #[true, true, true, true, true, false, false, false, false, false, false] rfl rfl (by kernel_rfl) (fun _ _ _ h => h) (Or.inl ⟨by rfl, ?_⟩) ?_ ?_
              rotate_left
              · intro w'
                go_simp
                with_reducible rfl
              rotate_left
              · simp only [Act.put, List.setIfInBounds_toArray, List.set_cons_zero, List.set_cons_succ, i64_w, i32_w]
                rfl
              refine take_ (i := 5) (N := some 29) (v := ?_) (a' := ?_) #[true, true, true, true, true, true, false, false, false, false, false] rfl rfl (by kernel_rfl) (fun _ _ _ h => h) (Or.inl ⟨by rfl, ?_⟩) hHeld ?_ ?_
              rotate_left
              · rintro w' ⟨s0, s1⟩
                go_simp
                with_reducible rfl
              rotate_left
              · simp only [Act.put, List.setIfInBounds_toArray, List.set_cons_zero, List.set_cons_succ, i64_w, i32_w]
                rfl
              refine take_ (i := 6) (N := some 30) (v := ?_) (a' := ?_) #[true, true, true, true, true, true, true, false, false, false, false] rfl rfl (by kernel_rfl) (fun _ _ _ h => h) (Or.inl ⟨by rfl, ?_⟩) hHeld ?_ ?_
              rotate_left
              · rintro w' ⟨s0, s1⟩
                go_simp
                with_reducible rfl
              rotate_left
              · simp only [Act.put, List.setIfInBounds_toArray, List.set_cons_zero, List.set_cons_succ, i64_w, i32_w]
                rfl
              refine one_ (i := 7) (N := some 31) #[true, true, true, true, true, true, true, true, false, false, false] rfl rfl (by kernel_rfl) (by decide) (fun K hK => ?_)
              refine value_ (w1 := ?_) (v := ?_) (by rfl) rfl ?_ ?_
              rotate_left 2
              · go_simp
                constructor
                · rfl
                · rfl
              refine hK.out _ _ ⟨pw_cell_below (below_alloc (Below.refl _ _) _) C0.out, pw_cell_below (below_alloc (Below.refl _ _) _) C1.out⟩ (fun hHeld => ?_)
              clear hK K
              refine norm_ (a' := ?_) ?_ ?_
              rotate_left
              · show Act.put _ (some 31) _ = _
                simp only [Act.put, List.setIfInBounds_toArray, List.set_cons_zero, List.set_cons_succ, i64_w, i32_w]
                rfl
              refine last_ (i := 8) (N := some 32) #[true, true, true, true, true, true, true, true, true, false, false] rfl rfl (by kernel_rfl) (by decide) (fun K hK => ?_)
              refine Kd.R_append_step (Kd.int .i64) (w0 := w) w.heap.size (by rfl) (.tmp 29) (.tmp 31) 27 3 (.int .i64 0) 8 (by rfl) Try.underlying27 info3 (by rfl) (by decide) (by decide) (.slice A' (rdL xs j).length c') (rdL xs j) (i : Int) [.int .i64 i] (fun k_ => oki k_ ∨ (True ∧ W0_.heap.size ≤ k_)) (fun _ => False) (by rfl) (by rfl) (by rfl) (fun _ hk => hk.elim) (fun k_ hk => .inr ⟨trivial, hk⟩) (Kd.R_mono UU.out (fun _ hk => .inl hk)) HB.out HB.out.size (by have := HLEN.out; have := HI.out; have := HN.out; omega) ?_
              intro v1 V3_ ho hb hg hat
              obtain ⟨A1, c1, rfl, _, _⟩ := Kd.R_reads ho
              have BK3 := Aside0.mk (blk_grown BK.out hg (Kd.R_ne UU.out BK.out (by decide)))
              have HH3 := Aside0.mk (Kd.H_grown (Kd.H_widen HH.out) hg (fun k_ e_ => .inl (UU.out.1 k_ e_)))
              have HO3 := Aside0.mk ho
              have HB3 := Aside0.mk hb
              obtain ⟨_, hfr⟩ := Kd.H_at HH3.out h0z hjz
              obtain ⟨_, _, hraw, _, _, hcc, _⟩ := Kd.H_raw HH3.out h0z hjz
              have hx0 := hcc 0 _ rfl
              have hf0 := hfr 0
              rw [Nat.add_zero, show ((Kd.slice 3 (Kd.int .i64))).sz = 1 from rfl, Nat.mul_one, Int.toNat_natCast] at hx0 hf0
              have HRAW := Aside0.mk hraw
              have HP := Kd.S_seg0 HH3.out h0z hjz (seg := [.slice A1 (rdL xs j ++ [(i : Int)]).length c1]) (j := 0) (show 1 ≤ 1 from by decide) (x' := rdL xs j ++ [(i : Int)]) (Kd.M_row HO3.out) (fun _ hk => hk)
              rw [Nat.add_zero, show ((Kd.slice 3 (Kd.int .i64))).sz = 1 from rfl, Nat.mul_one, Int.toNat_natCast] at HP
              clear hraw hcc hfr ho hb hg hat C0 C1 hHeld HS BK HB UU HH HO3
              refine hK.out _ _ ?_
              clear hK K
              refine norm_ (a' := ?_) ?_ ?_
              rotate_left
              · show Act.put _ (some 32) _ = _
                simp only [Act.put, List.setIfInBounds_toArray, List.set_cons_zero, List.set_cons_succ, i64_w, i32_w]
                rfl
              refine pure_ (i := 9) (N := some 33) (v := ?_) (a' := ?_) #[true, true, true, true, true, true, true, true, true, true, false] rfl rfl (by kernel_rfl) (fun _ _ _ h => h) (Or.inl ⟨by rfl, ?_⟩) ?_ ?_
              rotate_left
              · intro w'
                go_simp
                with_reducible rfl
              rotate_left
              · simp only [Act.put, List.setIfInBounds_toArray, List.set_cons_zero, List.set_cons_succ, i64_w, i32_w]
                rfl
              refine last_ (i := 10) (N := none) #[true, true, true, true, true, true, true, true, true, true, true] rfl rfl (by kernel_rfl) (by decide) (fun K hK => ?_)
              refine skip_ (w1 := V3_.setCell ⟨go, j, none⟩ (.slice A1 (rdL xs j ++ [(i : Int)]).length c1)) (by rfl) rfl ?_ ?_
              · go_simp
              have HS4 : Aside0 (Kd.S (Kd.slice 3 (Kd.int .i64)) 27 (V3_.setCell ⟨go, j, none⟩ (.slice A1 (rdL xs j ++ [(i : Int)]).length c1)) w.heap.size (fun _ => True) (.slice (some ⟨go, 0, none⟩) xs.length c) (grpN ex (i + 1))) := ⟨by rw [HXJ.out]; exact HP.1⟩
              have BK4 : Aside0 ((V3_.setCell ⟨go, j, none⟩ (.slice A1 (rdL xs j ++ [(i : Int)]).length c1)).heap[w.heap.size]? = some (.cells #[.int .i64 N, .int .i64 a0_1] 25 (0, 0))) := ⟨blk_grown BK3.out HP.2 (Kd.R_ne HRAW.out BK3.out (by decide))⟩
              have HB4 : Aside0 (Below w.heap.size w (V3_.setCell ⟨go, j, none⟩ (.slice A1 (rdL xs j ++ [(i : Int)]).length c1))) := ⟨below_set HB3.out GB29.out⟩
              clear HP hx0 hf0 HRAW BK3 HB3 HH3
              refine hK.out _ _ ?_
              clear hK K
              generalize V3_.setCell ⟨go, j, none⟩ (.slice A1 (rdL xs j ++ [(i : Int)]).length c1) = V4_ at HS4 BK4 HB4 ⊢
              refine done_ (by kernel_rfl) ?_
              try go_wp2
              go_roundg (N - (i + 1))
              case measure => have := HI.out; have := HG.out; omega
              case rel => exact ⟨i + 1, by have := HI.out; omega, by omega, by have := HI.out; have := HN.out; rw [B.wrap64_of (by omega) (by omega)]; congr 1, HS4, BK4, HB4⟩

            · have HXJ : Aside0 (grpN ex (i + 1) = xs ++ [[(i : Int)]]) := ⟨by rw [HXS.out]; exact grpPut_miss ex i xs hno⟩
              clear HF hno
              have hci : w3.cell? ⟨gi, 0, none⟩ = some (.int .i64 i) := (blk_cell BI.out 0).trans rfl
              clear BI
              go_wp2_with (first | ((with_reducible refine gate_dst (N := 21) rfl ?_); refine Kd.R_lit (Kd.int .i64) _ 3 ?hg (N := 21) ?hd (xs := ([(i : Int)] : List Int)) (inner := [.int .i64 i]) (ok := fun _ => True) (okp := fun _ => True) ?hr ?hp (fun _ hk => hk) trivial (Below.refl _ _) (Nat.le_refl _) (by simp) ?_; (case hd => rfl); (case hg => rfl); (case hr => first | (go_simp; done) | (go_simp; rfl)); (case hp => exact (Reps.one (show Kd.M (Kd.int .i64) _ _ _ (i : Int) [.int .i64 i] from rfl) (Reps.none _ _))); intro v115 w39 ho40 hb hg_ hnew_; clear hg_ hnew_; have n0_ := Aside0.mk (Kd.S_elder' HS.out (Kd.R_base ho40) hb); have n1_ := Aside0.mk (Kd.R_lower ho40 HB.out.size); have n2_ := Aside0.mk (blk_below BK.out hb); have n3_ := Aside0.mk (below_step HB.out hb); clear HS BK HB hci; have HS := n0_; have HO := n1_; have BK := n2_; have HB := n3_; clear n0_ n1_ n2_ n3_; clear hb ho40; obtain ⟨Ao, co, eo⟩ := Kd.R_slice HO.out; subst eo) | ((with_reducible refine gate_builtin (b := .append) (xs := #[.tmp 19, .tmp 22]) rfl ?_); at_builtin; refine Kd.S_append (Kd.slice 3 (Kd.int .i64)) (w0 := w) w.heap.size rfl (.tmp 19) (.tmp 22) 52 27 (.slice none 0 0) 24 rfl Try.underlying52 info27 rfl (by decide) (by omega) (.slice A xs.length c) xs [(i : Int)] [.slice Ao [(i : Int)].length co] (fun _ => True) (fun k_ => some k_ = (.slice Ao [(i : Int)].length co : Value).ownBlock) rfl rfl ?aP (fun k_ hk_ => ((Kd.R_mono (ok' := fun k_ => ((fun _ => True)) k_ ∧ some k_ ≠ (.slice A xs.length c : Value).ownBlock) (Kd.R_apart' (HO.out) (Kd.S_typed HS.out) (by decide)) (fun k_ hk => ⟨trivial, hk.2⟩))).1 k_ hk_.symm) ?aF ?aO ?aB ?aS ?aL ?_; (case aP => exact Kd.M_row (Kd.R_mono (Kd.R_tight rfl (Kd.R_mono (ok' := fun k_ => ((fun _ => True)) k_ ∧ some k_ ≠ (.slice A xs.length c : Value).ownBlock) (Kd.R_apart' (HO.out) (Kd.S_typed HS.out) (by decide)) (fun k_ hk => ⟨trivial, hk.2⟩))) (fun _ h_ => h_))); (case aB => exact HB.out); (case aF => exact (fun _ _ => trivial)); (case aO => exact (Kd.S_mono HS.out (fun k_ hk => ⟨trivial, fun e_ => hk.2 e_⟩))); (case aS => exact HB.out.size); (case aL => have := HOK.out.1; have := HI.out; have := HN.out; omega); intro v118 w41 ho hb hg hat; rw [← HXJ.out] at ho; have n0_ := Aside0.mk (blk_grown BK.out hg (Kd.S_ne HS.out BK.out (by decide))); have n1_ := Aside0.mk (hb); have n2_ := Aside0.mk (ho); clear BK; clear HB; clear HS; clear HO; have BK := n0_; have HB := n1_; have HS := n2_; clear n0_ n1_ n2_; clear ho hb hg hat))
              go_roundg (N - (i + 1))
              case measure => have := HI.out; have := HG.out; omega
              case rel => exact ⟨i + 1, by have := HI.out; omega, by omega, by have := HI.out; have := HN.out; rw [B.wrap64_of (by omega) (by omega)]; congr 1, HS, BK, HB⟩
          · have hltz : ¬ (i : Int) < (N : Int) := by omega
            obtain rfl : i = N := by omega
            clear hi hg hlt
            go_wp2
            go_ret
            exact ⟨_, rfl, HS.out, HB.out⟩
      next => cases h
    next => cases h


end Go.Proofs.Yticfnpfagadcoaa.F
