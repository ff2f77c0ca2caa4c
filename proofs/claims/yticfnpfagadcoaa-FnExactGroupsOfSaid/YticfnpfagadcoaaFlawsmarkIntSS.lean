/- The walk of one Go function: a call of it ends as the Lean function of its name tells; the conditions are those of each theorem. -/
import Derived.Test.YticfnpfagadcoaaF0
import Derived.Test.YticfnpfagadcoaaFGb
import Derived.Test.YticfnpfagadcoaaBase
namespace Go.Proofs.Yticfnpfagadcoaa.F
open Go.RowKit Go.Proofs.YticfnpfagadcoaaW.PrintWords Go.Proofs.YticfnpfagadcoaaW.PrintLast Go.Proofs.YticfnpfagadcoaaW.PrintMore
attribute [local go_sem] max2_int min2_int max_two min_two max_three min_three max_four min_four   -- for this text's walks alone
set_option linter.unusedVariables false
set_option linter.unusedSimpArgs false

/-! ### laws_markIntSS: function 69 -/
/-- Rows marked one behind the other. -/
def mkLL (kf : Nat) : Int → List (List Int) → Option (Int × List (List Int))
  | k, [] => some (k, [])
  | k, l :: ls => (laws_markIntS.f kf l k).bind fun r => (mkLL kf r.1 ls).bind fun q => some (q.1, r.2 :: q.2)
set_option maxHeartbeats 1000000 in
set_option maxRecDepth 100000 in
theorem laws_markIntSS.any (kf : Nat) (xs zs : List (List Int)) (m k0 : Int) (v : Value) (w0 w : World) (hB : Below w0.heap.size w0 w) (hs : Kd.S (Kd.slice 3 (Kd.int .i64)) 27 w w0.heap.size (fun _ => True) v xs) (h : mkLL kf k0 xs = some (m, zs)) (hl : xs.length < 9223372036854775807) :
    Calls Try.prog 69 #[v, .int .i64 k0] w fun e w' => e = .returned (.int .i64 m) ∧ Kd.S (Kd.slice 3 (Kd.int .i64)) 27 w' w0.heap.size (fun _ => True) v zs ∧ Below w0.heap.size w0 w' := by
  obtain ⟨A, c, rfl⟩ := Kd.S_slice hs
  obtain ⟨N, hN⟩ : ∃ N, N = xs.length := ⟨_, rfl⟩
  rw [← hN] at hs hl ⊢
  have HS := Aside0.mk hs
  have HB := Aside0.mk hB
  have HA := Aside0.mk h
  have HL := Aside0.mk hl
  clear hs hB h hl hN
  go_enter Try.func69, Try.ntmps69
  go_wp2
  go_loopg [1, 5] N (fun gg v1 v5 wr => ∃ (i : Nat) (kk : Int) (ys tl : List (List Int)), i ≤ N ∧ N - i ≤ gg ∧ v1 = .int .i64 kk ∧ v5 = .int .i64 i ∧ Aside0 (Kd.S (Kd.slice 3 (Kd.int .i64)) 27 wr w0.heap.size (fun _ => True) (.slice A N c) ys) ∧ Aside0 (Below w0.heap.size w0 wr) ∧ Aside0 (mkLL kf kk (ys.drop i) = some (m, tl)) ∧ Aside0 (ys.take i ++ tl = zs))
  case atStart => exact ⟨0, k0, xs, zs, Nat.zero_le _, by omega, rfl, rfl, HS, HB, HA, ⟨rfl⟩⟩
  case round =>
    clear HS HB HA
    obtain ⟨i, kk, ys, tl, hi, hg, rfl, rfl, HS, HB, HA, HZ⟩ := hrel
    have hLy : N = ys.length := (Kd.S_reads' HS.out).1
    have HLY := Aside0.mk hLy
    by_cases hlt : i < N
    · have hltz : (i : Int) < (N : Int) := by omega
      have h0z : (0 : Int) ≤ (i : Int) := by omega
      have hpos : 0 < ys.length := by omega
      have hiy : i < ys.length := by omega
      have hm := HA.out
      rw [List.drop_eq_getElem_cons hiy, mkLL] at hm
      obtain ⟨row, hrow⟩ : ∃ row, row = ys[i]'hiy := ⟨_, rfl⟩
      rw [← hrow] at hm
      have HROW : Aside0 (ys.getD ((i : Nat) : Int).toNat [] = row) := ⟨by rw [Int.toNat_natCast, List.getD_eq_getElem?_getD, List.getElem?_eq_getElem hiy, hrow]; rfl⟩
      clear hrow
      obtain ⟨⟨r1, r2⟩, hr, hm2⟩ := Option.bind_eq_some_iff.mp hm
      obtain ⟨⟨q1, q2⟩, hq, hm3⟩ := Option.bind_eq_some_iff.mp hm2
      obtain ⟨rfl, rfl⟩ : q1 = m ∧ r2 :: q2 = tl := by
        have := Option.some.inj hm3
        exact ⟨congrArg Prod.fst this, congrArg Prod.snd this⟩
      have HR := Aside0.mk hr
      have HQ := Aside0.mk hq
      have HI := Aside0.mk hlt
      have HG := Aside0.mk hg
      have HIY := Aside0.mk hiy
      clear hm hm2 hm3 hr hq HA hLy
      obtain ⟨go, co, eo, gb29, gl29, _⟩ := Kd.S_form HS.out hpos
      have eA : A = some ⟨go, 0, none⟩ := by injection eo
      have eC : c = co := by injection eo
      subst eA eC
      clear eo hpos
      obtain ⟨oki, ce, hcl29, hM29, hcc29, hfr29, _, hH29⟩ := Kd.S_elem HS.out [] (i : Int) h0z hltz
      obtain ⟨ve, rfl, ge29⟩ := hM29
      have hv29 := hcc29 0 _ rfl
      rw [Nat.add_zero, show ((Kd.slice 3 (Kd.int .i64))).sz = 1 from rfl, Nat.mul_one, Int.toNat_natCast] at hv29
      have ge30 : Kd.R (Kd.int .i64) 3 wr w0.heap.size oki ve row := by
        rw [HROW.out] at ge29
        exact ge29
      obtain ⟨A', c', rfl, _, _⟩ := Kd.R_reads ge30
      have UU := Aside0.mk ge30
      have HH := Aside0.mk hH29
      clear hcl29 hcc29 hfr29 hH29 ge29 ge30 gb29 gl29 hiy hlt hg
      go_wp2_with (go_at_call 64; refine (laws_markIntS.calls kf oki _ _ kk r1 r2 w0 _ HB.out UU.out HR.out).mono ?_; rintro e w3 ⟨rfl, hr3, hb3, hk3⟩; have HS3 : Aside0 (Kd.S (Kd.slice 3 (Kd.int .i64)) 27 w3 w0.heap.size (fun _ => True) (.slice (some ⟨go, 0, none⟩) N c) (ys.set i r2)) := ⟨by have hh := Kd.H_back (Kd.H_kept HH.out hk3 (fun k_ ho hn hs_ => hn hs_)) (Kd.M_row (Kd.R_reok (ok := oki) rfl hr3 (fun k_ e_ => UU.out.1 k_ e_))) (fun _ h_ => h_); rw [Int.toNat_natCast] at hh; exact hh⟩; have HB3 := Aside0.mk hb3; clear hr3 hb3 hk3 HS HB HH UU)
      go_roundg (N - (i + 1))
      case measure => have := HI.out; have := HG.out; omega
      case rel =>
        exact ⟨i + 1, r1, ys.set i r2, q2, by have := HI.out; omega, by omega, rfl, by have := HI.out; have := HL.out; rw [B.wrap64_of (by omega) (by omega)]; congr 1, HS3, HB3, ⟨by rw [List.drop_set_of_lt (Nat.lt_succ_self i)]; exact HQ.out⟩, ⟨by
          rw [List.take_add_one, List.take_set_of_le (Nat.le_refl i), List.getElem?_set_self HIY.out, Option.toList_some, List.append_assoc]
          exact HZ.out⟩⟩
    · have hltz : ¬ (i : Int) < (N : Int) := by omega
      obtain rfl : i = N := by omega
      have hm := HA.out
      rw [List.drop_eq_nil_of_le (by omega), mkLL] at hm
      obtain ⟨rfl, rfl⟩ : kk = m ∧ ([] : List (List Int)) = tl := by
        have := Option.some.inj hm
        exact ⟨congrArg Prod.fst this, congrArg Prod.snd this⟩
      have HZ2 : Aside0 (ys = zs) := ⟨by have := HZ.out; rw [List.append_nil, List.take_of_length_le (by omega)] at this; exact this⟩
      clear hm HA HZ hLy hg hi hlt
      go_wp2
      go_ret
      exact ⟨rfl, by rw [← HZ2.out]; exact HS.out, HB.out⟩

end Go.Proofs.Yticfnpfagadcoaa.F
