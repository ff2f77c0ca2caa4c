/- The walk of one Go function: a call of it ends as the Lean function of its name tells; the conditions are those of each theorem. -/
import Derived.Test.YtcgjlmgfmiacgaaF0
import Derived.Lib.Bytealg
import Derived.Lib.Walk
namespace Go.Proofs.Ytcgjlmgfmiacgaa.F
open Go.RowKit Go.Proofs.YtcgjlmgfmiacgaaW.PrintWords Go.Proofs.YtcgjlmgfmiacgaaW.PrintLast Go.Proofs.YtcgjlmgfmiacgaaW.PrintMore
attribute [local go_sem] max2_int min2_int max_two min_two max_three min_three max_four min_four   -- for this text's walks alone
set_option linter.unusedVariables false
set_option linter.unusedSimpArgs false

/-! ### impl_IsProtocol: function 20 -/
def strings_IndexByte.f (s : ByteArray) (c : Int) : Option Int := some (Lib.indexByte s.data.toList c.toNat.toUInt8)
set_option maxHeartbeats 400000 in
theorem stringslite_IndexByte.any (s : ByteArray) (c : Int) (w : World) :
    Calls Try.prog 60 #[.string s, .int .u8 c] w fun e w' => e = .returned (.int .i64 (Lib.indexByte s.data.toList c.toNat.toUInt8)) ∧ w' = w := by
  go_enter Try.func60, Try.ntmps60
  go_wp2
  rw [run_callFunc_extern Try.func61 (by kernel_rfl) (by kernel_rfl) (by kernel_rfl) (e := Extern.BytealgIndexByte.indexByte) (by kernel_rfl), Lib.run_indexByteString]
  simp only [Result.andThen]
  rw [Oper.upon_value]
  go_wp2
  go_ret
  exact ⟨rfl, rfl⟩
set_option maxHeartbeats 400000 in
theorem strings_IndexByte.any (s : ByteArray) (c : Int) (w : World) :
    Calls Try.prog 59 #[.string s, .int .u8 c] w fun e w' => e = .returned (.int .i64 (Lib.indexByte s.data.toList c.toNat.toUInt8)) ∧ w' = w := by
  go_enter Try.func59, Try.ntmps59
  go_wp2_with (go_at_call 60; refine (stringslite_IndexByte.any s c _).mono ?_; rintro e w' ⟨rfl, rfl⟩)
  go_ret
  exact ⟨rfl, rfl⟩
theorem strings_IndexByte.calls (s : ByteArray) (c r : Int) (w : World) (h : strings_IndexByte.f s c = some r) :
    Calls Try.prog 59 #[.string s, .int .u8 c] w fun e w' => e = .returned (.int .i64 r) ∧ Below w.heap.size w w' := by
  obtain rfl := Option.some.inj h
  exact (strings_IndexByte.any s c w).mono fun e w' h => ⟨h.1, h.2 ▸ Below.refl _ _⟩
/-- What stands behind the protocol at the beginning of a text. -/
def impl_readTurn.g : Nat → ByteArray → Option ByteArray
  | 0, _ => none
  | n + 1, s => if s.size = 0 then none else if bt s 0 = 48 ∨ bt s 0 = 49 then some (s.extract 1 s.size) else
      if (bt s 0 ≠ 65 ∧ bt s 0 ≠ 66) ∨ s.size < 2 then none else
      if Lib.indexByte [48, 49, 50, 51, 52, 53, 54, 55, 56, 57, 97, 98, 99, 100, 101, 102] (bt s 1).toNat.toUInt8 < 0 then none else
      (impl_readTurn.g n (s.extract 2 s.size)).bind fun r => impl_readTurn.g n r
/-- What a call of readTurn ends as. -/
def impl_readTurn.Post (o : Option ByteArray) (w : World) (e : Ending) (w' : World) : Prop :=
  Below w.heap.size w w' ∧ match o with
    | none => e = .returned (.tuple #[.pointer none, .string { data := #[] }])
    | some r => ∃ g : Nat, e = .returned (.tuple #[.pointer (some ⟨g, 0, none⟩), .string r])
theorem impl_readTurn.g_le : ∀ (n : Nat) (s r : ByteArray), impl_readTurn.g n s = some r → r.size ≤ s.size := by
  intro n
  induction n with
  | zero => intro s r h; cases h
  | succ n ih =>
    intro s r h
    rw [impl_readTurn.g] at h
    split at h
    next => cases h
    next =>
      split at h
      next =>
        obtain rfl := Option.some.inj h
        rw [ByteArray.size_extract]
        omega
      next =>
        split at h
        next => cases h
        next =>
          split at h
          next => cases h
          next =>
            obtain ⟨r1, h1, h2⟩ := Option.bind_eq_some_iff.mp h
            have e1 := ih _ _ h1
            have e2 := ih _ _ h2
            rw [ByteArray.size_extract] at e1
            omega
set_option maxHeartbeats 1000000 in
set_option maxRecDepth 100000 in
theorem impl_readTurn.any : ∀ (n : Nat) (s : ByteArray) (w : World), s.size ≤ n → Calls Try.prog 55 #[.string s] w (impl_readTurn.Post (impl_readTurn.g n s) w) := by
  intro n
  induction n with
  | zero =>
    intro s w hs
    have h0 : s.size = 0 := by omega
    have hn : s = ByteArray.empty := ByteArray.ext (Array.eq_empty_of_size_eq_zero h0)
    subst hn
    go_enter Try.func55, Try.ntmps55
    go_wp2
    go_ret2
    exact ⟨Below.refl _ _, rfl⟩
  | succ n ih =>
    intro s w hs
    by_cases h0 : s.size = 0
    · have hn : s = ByteArray.empty := ByteArray.ext (Array.eq_empty_of_size_eq_zero h0)
      subst hn
      go_enter Try.func55, Try.ntmps55
      go_wp2
      go_ret2
      exact ⟨Below.refl _ _, rfl⟩
    · obtain ⟨P, hP⟩ : ∃ P, P = impl_readTurn.g (n + 1) s := ⟨_, rfl⟩
      rw [← hP]
      rw [impl_readTurn.g, if_neg h0] at hP
      have hne2 : decide (s = { data := #[] }) = false := by
        apply decide_eq_false
        rintro rfl
        exact h0 rfl
      have hne3 : ¬ s = { data := #[] } := of_decide_eq_false hne2
      have hx0 : ∀ h : 0 < s.size, ((s[0]'h).toNat : Int) = bt s 0 := fun h => bt_at s 0 h
      have hle : s.toList.isEmpty = false := by
        rw [ByteArray.toList_eq]
        cases hl : s.data.toList with
        | nil => exact absurd (show s.size = 0 by rw [← ByteArray.size_data, ← Array.length_toList, hl]; rfl) h0
        | cons _ _ => rfl
      have h0z : (0 : Int) < (s.size : Int) := by omega
      have h0n : 0 < s.size := by omega
      go_enter Try.func55, Try.ntmps55
      go_upto_region 4 with (fail)
      generalize hb : bt s 0 = b at hx0 hP
      have HB := Aside0.mk (below_alloc (Below.refl w.heap.size w) (.cells #[.int .u8 b, .int .i64 0, .pointer none, .pointer none] 79 (0, 0)))
      have BK := Aside0.mk (blk_new w (.cells #[.int .u8 b, .int .i64 0, .pointer none, .pointer none] 79 (0, 0)))
      have hz0 : (w.alloc (.cells #[.int .u8 b, .int .i64 0, .pointer none, .pointer none] 79 (0, 0))).cell? ⟨w.heap.size, 0, none⟩ = some (.int .u8 b) := (blk_cell BK.out 0).trans rfl
      have hz1 : (w.alloc (.cells #[.int .u8 b, .int .i64 0, .pointer none, .pointer none] 79 (0, 0))).cell? ⟨w.heap.size, 1, none⟩ = some (.int .i64 0) := (blk_cell BK.out 1).trans rfl
      have hf1 : (w.alloc (.cells #[.int .u8 b, .int .i64 0, .pointer none, .pointer none] 79 (0, 0))).frozen? ⟨w.heap.size, 1, none⟩ = false := blk_frozen BK.out 1
      go_upto_region 4 with (fail)
      by_cases c48 : b = 48
      · rw [if_pos (.inl c48)] at hP
        subst c48
        have h1z : (1 : Int) ≤ (s.size : Int) := by omega
        go_wp2
        repeat (go_quiet (fail); try go_wp2)
        go_ret2
        refine ⟨by repeat (first | (with_reducible first | exact HB.out | apply below_alloc | apply pw_below_drewN | apply below_drew1) | exact HB.out), ?_⟩
        rw [hP]
        exact ⟨_, rfl⟩
      · by_cases c49 : b = 49
        · rw [if_pos (.inr c49)] at hP
          subst c49
          have h1z : (1 : Int) ≤ (s.size : Int) := by omega
          go_wp2
          repeat (go_quiet (fail); try go_wp2)
          go_ret2
          refine ⟨by repeat (first | (with_reducible first | exact HB.out | apply below_alloc | apply pw_below_drewN | apply below_drew1) | exact HB.out), ?_⟩
          rw [hP]
          exact ⟨_, rfl⟩
        · rw [if_neg (by omega)] at hP
          have n48a : (b == 48) = false := beq_eq_false_iff_ne.mpr c48
          have n48b : decide (b = 48) = false := decide_eq_false c48
          have n48c : (b != 48) = true := bne_iff_ne.mpr c48
          have n49a : (b == 49) = false := beq_eq_false_iff_ne.mpr c49
          have n49b : decide (b = 49) = false := decide_eq_false c49
          have n49c : (b != 49) = true := bne_iff_ne.mpr c49
          by_cases c65 : b = 65
          · subst c65
            by_cases c2 : s.size < 2
            · rw [if_pos (.inr c2)] at hP
              have m1 : decide ((s.size : Int) < 2) = true := decide_eq_true (by omega)
              have m2 : decide (s.size < 2) = true := decide_eq_true c2
              go_wp2
              go_ret2
              exact ⟨below_alloc (Below.refl w.heap.size w) _, by rw [hP]; rfl⟩
            · rw [if_neg (by omega)] at hP
              have m1 : decide ((s.size : Int) < 2) = false := decide_eq_false (by omega)
              have m2 : decide (s.size < 2) = false := decide_eq_false c2
              have h1z : (1 : Int) < (s.size : Int) := by omega
              have h1n : 1 < s.size := by omega
              have h2z : (2 : Int) ≤ (s.size : Int) := by omega
              have hx1 : ∀ h : 1 < s.size, ((s[1]'h).toNat : Int) = bt s 1 := fun h => bt_at s 1 h
              generalize bt s 1 = q at hx1 hP
              go_upto_region 8 with (fail)
              generalize hdd : Lib.indexByte [48, 49, 50, 51, 52, 53, 54, 55, 56, 57, 97, 98, 99, 100, 101, 102] q.toNat.toUInt8 = dd at hP
              have HD := Aside0.mk hdd
              clear hdd
              go_upto_region 9 with (go_at_call 59; refine (strings_IndexByte.any _ q _).mono ?_; rintro e w' ⟨rfl, rfl⟩; rw [show Lib.indexByte _ q.toNat.toUInt8 = dd from HD.out])
              clear hz0 hz1 hf1 HB BK
              have HB := Aside0.mk (below_alloc (Below.refl w.heap.size w) (.cells #[.int .u8 65, .int .i64 dd, .pointer none, .pointer none] 79 (0, 0)))
              have BK := Aside0.mk (blk_new w (.cells #[.int .u8 65, .int .i64 dd, .pointer none, .pointer none] 79 (0, 0)))
              have hz1 : (w.alloc (.cells #[.int .u8 65, .int .i64 dd, .pointer none, .pointer none] 79 (0, 0))).cell? ⟨w.heap.size, 1, none⟩ = some (.int .i64 dd) := (blk_cell BK.out 1).trans rfl
              by_cases c3 : dd < 0
              · rw [if_pos c3] at hP
                have m3 : decide (dd < 0) = true := decide_eq_true c3
                go_wp2
                go_ret2
                exact ⟨HB.out, by rw [hP]; rfl⟩
              · rw [if_neg c3] at hP
                have m3 : decide (dd < 0) = false := decide_eq_false c3
                go_upto_region 12 with (fail)
                have hsz : (s.extract 2 s.size).size ≤ n := by rw [ByteArray.size_extract]; omega
                have H1 := Aside0.mk (fun W => ih (s.extract 2 s.size) W hsz)
                have HLE := Aside0.mk (impl_readTurn.g_le n (s.extract 2 s.size))
                generalize impl_readTurn.g n (s.extract 2 s.size) = o1 at H1 hP HLE
                have HSZ := Aside0.mk hsz
                clear hsz
                generalize s.extract 2 s.size = s2 at H1 HLE HSZ ⊢
                cases o1 with
                | none =>
                  go_wp2_with (go_at_call 55; refine (H1.out _).mono ?_; rintro e w3 ⟨hb, he⟩; replace he := he; subst he; have BK3 := Aside0.mk (blk_below BK.out hb); have HB3 := Aside0.mk (below_step HB.out hb); clear hb; have hf2 : w3.frozen? ⟨w.heap.size, 2, none⟩ = false := blk_frozen BK3.out 2; have hy2 : w3.cell? ⟨w.heap.size, 2, none⟩ = some (.pointer none) := (blk_cell BK3.out 2).trans rfl)
                  go_ret2
                  exact ⟨below_set HB3.out (Nat.le_refl _), by rw [hP]; rfl⟩
                | some r1 =>
                  rw [Option.bind_some] at hP
                  have H2 := Aside0.mk (fun W => ih r1 W (Nat.le_trans (HLE.out r1 rfl) HSZ.out))
                  generalize impl_readTurn.g n r1 = o2 at H2 hP
                  cases o2 with
                  | none =>
                    go_wp2_with (first | (have hq_ := BK3; clear hq_; go_at_call 55; refine (H2.out _).mono ?_; rintro e w5 ⟨hb, he⟩; replace he := he; subst he; have BK5 := Aside0.mk (blk_below (blk_put BK3.out 2 (.pointer (some ⟨g1, 0, none⟩)) rfl) hb); have HB5 := Aside0.mk (below_step (below_set HB3.out (Nat.le_refl _)) hb); clear hb hf2 hy2; have hf3 : w5.frozen? ⟨w.heap.size, 3, none⟩ = false := blk_frozen BK5.out 3; have hy3 : w5.cell? ⟨w.heap.size, 3, none⟩ = some (.pointer none) := (blk_cell BK5.out 3).trans rfl) | (go_at_call 55; refine (H1.out _).mono ?_; rintro e w3 ⟨hb, he⟩; obtain ⟨g1, he⟩ := he; subst he; have BK3 := Aside0.mk (blk_below BK.out hb); have HB3 := Aside0.mk (below_step HB.out hb); clear hb; have hf2 : w3.frozen? ⟨w.heap.size, 2, none⟩ = false := blk_frozen BK3.out 2; have hy2 : w3.cell? ⟨w.heap.size, 2, none⟩ = some (.pointer none) := (blk_cell BK3.out 2).trans rfl))
                    go_ret2
                    exact ⟨below_set HB5.out (Nat.le_refl _), by rw [hP]; rfl⟩
                  | some r2 =>
                    go_wp2_with (first | (have hq_ := BK3; clear hq_; go_at_call 55; refine (H2.out _).mono ?_; rintro e w5 ⟨hb, he⟩; obtain ⟨g2, he⟩ := he; subst he; have BK5 := Aside0.mk (blk_below (blk_put BK3.out 2 (.pointer (some ⟨g1, 0, none⟩)) rfl) hb); have HB5 := Aside0.mk (below_step (below_set HB3.out (Nat.le_refl _)) hb); clear hb hf2 hy2; have hf3 : w5.frozen? ⟨w.heap.size, 3, none⟩ = false := blk_frozen BK5.out 3; have hy3 : w5.cell? ⟨w.heap.size, 3, none⟩ = some (.pointer none) := (blk_cell BK5.out 3).trans rfl) | (go_at_call 55; refine (H1.out _).mono ?_; rintro e w3 ⟨hb, he⟩; obtain ⟨g1, he⟩ := he; subst he; have BK3 := Aside0.mk (blk_below BK.out hb); have HB3 := Aside0.mk (below_step HB.out hb); clear hb; have hf2 : w3.frozen? ⟨w.heap.size, 2, none⟩ = false := blk_frozen BK3.out 2; have hy2 : w3.cell? ⟨w.heap.size, 2, none⟩ = some (.pointer none) := (blk_cell BK3.out 2).trans rfl))
                    go_ret2
                    exact ⟨below_set HB5.out (Nat.le_refl _), by rw [hP]; exact ⟨_, rfl⟩⟩

          · by_cases c66 : b = 66
            · subst c66
              by_cases c2 : s.size < 2
              · rw [if_pos (.inr c2)] at hP
                have m1 : decide ((s.size : Int) < 2) = true := decide_eq_true (by omega)
                have m2 : decide (s.size < 2) = true := decide_eq_true c2
                go_wp2
                go_ret2
                exact ⟨below_alloc (Below.refl w.heap.size w) _, by rw [hP]; rfl⟩
              · rw [if_neg (by omega)] at hP
                have m1 : decide ((s.size : Int) < 2) = false := decide_eq_false (by omega)
                have m2 : decide (s.size < 2) = false := decide_eq_false c2
                have h1z : (1 : Int) < (s.size : Int) := by omega
                have h1n : 1 < s.size := by omega
                have h2z : (2 : Int) ≤ (s.size : Int) := by omega
                have hx1 : ∀ h : 1 < s.size, ((s[1]'h).toNat : Int) = bt s 1 := fun h => bt_at s 1 h
                generalize bt s 1 = q at hx1 hP
                go_upto_region 8 with (fail)
                generalize hdd : Lib.indexByte [48, 49, 50, 51, 52, 53, 54, 55, 56, 57, 97, 98, 99, 100, 101, 102] q.toNat.toUInt8 = dd at hP
                have HD := Aside0.mk hdd
                clear hdd
                go_upto_region 9 with (go_at_call 59; refine (strings_IndexByte.any _ q _).mono ?_; rintro e w' ⟨rfl, rfl⟩; rw [show Lib.indexByte _ q.toNat.toUInt8 = dd from HD.out])
                clear hz0 hz1 hf1 HB BK
                have HB := Aside0.mk (below_alloc (Below.refl w.heap.size w) (.cells #[.int .u8 66, .int .i64 dd, .pointer none, .pointer none] 79 (0, 0)))
                have BK := Aside0.mk (blk_new w (.cells #[.int .u8 66, .int .i64 dd, .pointer none, .pointer none] 79 (0, 0)))
                have hz1 : (w.alloc (.cells #[.int .u8 66, .int .i64 dd, .pointer none, .pointer none] 79 (0, 0))).cell? ⟨w.heap.size, 1, none⟩ = some (.int .i64 dd) := (blk_cell BK.out 1).trans rfl
                by_cases c3 : dd < 0
                · rw [if_pos c3] at hP
                  have m3 : decide (dd < 0) = true := decide_eq_true c3
                  go_wp2
                  go_ret2
                  exact ⟨HB.out, by rw [hP]; rfl⟩
                · rw [if_neg c3] at hP
                  have m3 : decide (dd < 0) = false := decide_eq_false c3
                  go_upto_region 12 with (fail)
                  have hsz : (s.extract 2 s.size).size ≤ n := by rw [ByteArray.size_extract]; omega
                  have H1 := Aside0.mk (fun W => ih (s.extract 2 s.size) W hsz)
                  have HLE := Aside0.mk (impl_readTurn.g_le n (s.extract 2 s.size))
                  generalize impl_readTurn.g n (s.extract 2 s.size) = o1 at H1 hP HLE
                  have HSZ := Aside0.mk hsz
                  clear hsz
                  generalize s.extract 2 s.size = s2 at H1 HLE HSZ ⊢
                  cases o1 with
                  | none =>
                    go_wp2_with (go_at_call 55; refine (H1.out _).mono ?_; rintro e w3 ⟨hb, he⟩; replace he := he; subst he; have BK3 := Aside0.mk (blk_below BK.out hb); have HB3 := Aside0.mk (below_step HB.out hb); clear hb; have hf2 : w3.frozen? ⟨w.heap.size, 2, none⟩ = false := blk_frozen BK3.out 2; have hy2 : w3.cell? ⟨w.heap.size, 2, none⟩ = some (.pointer none) := (blk_cell BK3.out 2).trans rfl)
                    go_ret2
                    exact ⟨below_set HB3.out (Nat.le_refl _), by rw [hP]; rfl⟩
                  | some r1 =>
                    rw [Option.bind_some] at hP
                    have H2 := Aside0.mk (fun W => ih r1 W (Nat.le_trans (HLE.out r1 rfl) HSZ.out))
                    generalize impl_readTurn.g n r1 = o2 at H2 hP
                    cases o2 with
                    | none =>
                      go_wp2_with (first | (have hq_ := BK3; clear hq_; go_at_call 55; refine (H2.out _).mono ?_; rintro e w5 ⟨hb, he⟩; replace he := he; subst he; have BK5 := Aside0.mk (blk_below (blk_put BK3.out 2 (.pointer (some ⟨g1, 0, none⟩)) rfl) hb); have HB5 := Aside0.mk (below_step (below_set HB3.out (Nat.le_refl _)) hb); clear hb hf2 hy2; have hf3 : w5.frozen? ⟨w.heap.size, 3, none⟩ = false := blk_frozen BK5.out 3; have hy3 : w5.cell? ⟨w.heap.size, 3, none⟩ = some (.pointer none) := (blk_cell BK5.out 3).trans rfl) | (go_at_call 55; refine (H1.out _).mono ?_; rintro e w3 ⟨hb, he⟩; obtain ⟨g1, he⟩ := he; subst he; have BK3 := Aside0.mk (blk_below BK.out hb); have HB3 := Aside0.mk (below_step HB.out hb); clear hb; have hf2 : w3.frozen? ⟨w.heap.size, 2, none⟩ = false := blk_frozen BK3.out 2; have hy2 : w3.cell? ⟨w.heap.size, 2, none⟩ = some (.pointer none) := (blk_cell BK3.out 2).trans rfl))
                      go_ret2
                      exact ⟨below_set HB5.out (Nat.le_refl _), by rw [hP]; rfl⟩
                    | some r2 =>
                      go_wp2_with (first | (have hq_ := BK3; clear hq_; go_at_call 55; refine (H2.out _).mono ?_; rintro e w5 ⟨hb, he⟩; obtain ⟨g2, he⟩ := he; subst he; have BK5 := Aside0.mk (blk_below (blk_put BK3.out 2 (.pointer (some ⟨g1, 0, none⟩)) rfl) hb); have HB5 := Aside0.mk (below_step (below_set HB3.out (Nat.le_refl _)) hb); clear hb hf2 hy2; have hf3 : w5.frozen? ⟨w.heap.size, 3, none⟩ = false := blk_frozen BK5.out 3; have hy3 : w5.cell? ⟨w.heap.size, 3, none⟩ = some (.pointer none) := (blk_cell BK5.out 3).trans rfl) | (go_at_call 55; refine (H1.out _).mono ?_; rintro e w3 ⟨hb, he⟩; obtain ⟨g1, he⟩ := he; subst he; have BK3 := Aside0.mk (blk_below BK.out hb); have HB3 := Aside0.mk (below_step HB.out hb); clear hb; have hf2 : w3.frozen? ⟨w.heap.size, 2, none⟩ = false := blk_frozen BK3.out 2; have hy2 : w3.cell? ⟨w.heap.size, 2, none⟩ = some (.pointer none) := (blk_cell BK3.out 2).trans rfl))
                      go_ret2
                      exact ⟨below_set HB5.out (Nat.le_refl _), by rw [hP]; exact ⟨_, rfl⟩⟩

            · rw [if_pos (.inl ⟨c65, c66⟩)] at hP
              have n65a : (b == 65) = false := beq_eq_false_iff_ne.mpr c65
              have n65b : decide (b = 65) = false := decide_eq_false c65
              have n65c : (b != 65) = true := bne_iff_ne.mpr c65
              have n66a : (b == 66) = false := beq_eq_false_iff_ne.mpr c66
              have n66b : decide (b = 66) = false := decide_eq_false c66
              have n66c : (b != 66) = true := bne_iff_ne.mpr c66
              go_wp2
              go_ret2
              exact ⟨HB.out, by rw [hP]; rfl⟩
def impl_IsProtocol.ok (s : ByteArray) : Bool := if 100 < s.size then false else match impl_readTurn.g 100 s with
  | some r => decide (r.size = 0)
  | none => false
theorem impl_readTurn.filled {s : ByteArray} (h : ¬ s.size = 0) : s.toList.isEmpty = false := by
  rw [ByteArray.toList_eq]
  cases hl : s.data.toList with
  | nil => exact absurd (show s.size = 0 by rw [← ByteArray.size_data, ← Array.length_toList, hl]; rfl) h
  | cons _ _ => rfl
set_option maxHeartbeats 400000 in
set_option maxRecDepth 100000 in
theorem impl_wholeTurn.any (s : ByteArray) (hs : s.size ≤ 9223372036854775807) (w : World) :
    Calls Try.prog 41 #[.string s] w fun e w' => ∃ p : Value, e = .returned (.tuple #[p, .bool (impl_IsProtocol.ok s)]) ∧ Below w.heap.size w w' := by
  obtain ⟨B, hB⟩ : ∃ B, B = impl_IsProtocol.ok s := ⟨_, rfl⟩
  rw [← hB]
  unfold impl_IsProtocol.ok at hB
  by_cases h1 : 100 < s.size
  · rw [if_pos h1] at hB
    have m1 : decide ((100 : Int) < (s.size : Int)) = true := decide_eq_true (by omega)
    have m2 : decide (100 < s.size) = true := decide_eq_true h1
    subst hB
    go_enter Try.func41, Try.ntmps41
    go_wp2
    go_ret2
    exact ⟨_, rfl, Below.refl _ _⟩
  · rw [if_neg h1] at hB
    have m1 : decide ((100 : Int) < (s.size : Int)) = false := decide_eq_false (by omega)
    have m2 : decide (100 < s.size) = false := decide_eq_false h1
    have H := Aside0.mk (impl_readTurn.any 100 s w (by omega))
    generalize impl_readTurn.g 100 s = o at H hB
    cases o with
    | none =>
      have hB2 : B = false := hB
      subst hB2
      go_enter Try.func41, Try.ntmps41
      go_wp2_with (go_at_call 55; refine H.out.mono ?_; rintro e w3 ⟨hb, he⟩; replace he := he; subst he)
      go_ret2
      exact ⟨_, rfl, hb⟩
    | some r =>
      have hB2 : B = decide (r.size = 0) := hB
      have hz : r.toList.isEmpty = decide (r.size = 0) := by
        by_cases h2 : r.size = 0
        · have hn : r = ByteArray.empty := ByteArray.ext (Array.eq_empty_of_size_eq_zero h2)
          subst hn
          rw [ByteArray.toList_eq]
          rfl
        · rw [impl_readTurn.filled h2, decide_eq_false h2]
      rw [← hB2] at hz
      clear hB hB2
      go_enter Try.func41, Try.ntmps41
      go_upto_region 4 with (go_at_call 55; refine H.out.mono ?_; rintro e w3 ⟨hb, he⟩; obtain ⟨g1, he⟩ := he; subst he)
      go_wp2
      go_ret2
      exact ⟨_, rfl, hb⟩
def impl_IsProtocol.f (a0 : ByteArray) : Option Bool := if a0.size ≤ 9223372036854775807 then some (impl_IsProtocol.ok a0) else none
set_option maxHeartbeats 400000 in
theorem impl_IsProtocol.calls (a0 : ByteArray) (r : Bool) (w : World) (h : impl_IsProtocol.f a0 = some r) :
    Calls Try.prog 20 #[.string a0] w fun e w' => e = .returned (.bool r) ∧ Below w.heap.size w w' := by
  unfold impl_IsProtocol.f at h
  split at h
  next hs =>
    obtain rfl := Option.some.inj h
    go_enter Try.func20, Try.ntmps20
    go_wp2_with (go_at_call 41; refine (impl_wholeTurn.any a0 hs _).mono ?_; rintro e w' ⟨p, rfl, hb⟩)
    go_ret
    exact ⟨rfl, hb⟩
  next => cases h


end Go.Proofs.Ytcgjlmgfmiacgaa.F
