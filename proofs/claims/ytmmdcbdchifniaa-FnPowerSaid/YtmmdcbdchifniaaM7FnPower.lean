/- Walks of Go functions and lemmas on what they compute, for the row of FnPower (a part of several): each call ends as the Lean function of its name tells; the conditions are those of each theorem. -/
import Derived.Test.YtmmdcbdchifniaaM1FnPower
import Derived.Test.YtmmdcbdchifniaaM2FnPower
import Derived.Test.YtmmdcbdchifniaaM3FnPower
import Derived.Test.YtmmdcbdchifniaaM4FnPower
import Derived.Test.YtmmdcbdchifniaaM6FnPower
namespace Go.Proofs.Ytmmdcbdchifniaa.F
open Go.RowKit Go.Proofs.YtmmdcbdchifniaaW.PrintWords Go.Proofs.YtmmdcbdchifniaaW.PrintLast Go.Proofs.YtmmdcbdchifniaaW.PrintMore
attribute [local go_sem] max2_int min2_int max_two min_two max_three min_three max_four min_four 
set_option linter.unusedVariables false
set_option linter.unusedSimpArgs false
def impl_spread.f (a0 : Int) (a1 : Int) (a2 : Int) : Option (Int) := if 0 ≤ a1 then (some (Go.bits .or .i64 (Go.bits .or .i64 (wrap64 ((wrap64 (a0 - (Go.bits .and .i64 a0 (wrap64 ((shl .i64 1 a1) - 1))))) * 2)) (shl .i64 a2 a1)) (Go.bits .and .i64 a0 (wrap64 ((shl .i64 1 a1) - 1))))) else (none)
set_option maxHeartbeats 8000000 in
set_option maxRecDepth 100000 in
theorem impl_spread.calls (a0 : Int) (a1 : Int) (a2 : Int) (r : Int) (w : World) (h : impl_spread.f a0 a1 a2 = some r) :
  Calls Try.prog 58 #[.int .i64 a0,.int .i64 a1,.int .i64 a2] w fun e w' => e = .returned (.int .i64 r) ∧ Drawn0 w w' := by
 have H : (if 0 ≤ a1 then (some (Go.bits .or .i64 (Go.bits .or .i64 (wrap64 ((wrap64 (a0 - (Go.bits .and .i64 a0 (wrap64 ((shl .i64 1 a1) - 1))))) * 2)) (shl .i64 a2 a1)) (Go.bits .and .i64 a0 (wrap64 ((shl .i64 1 a1) - 1))))) else (none)) = some r := h
 clear h
 by_cases c4 : 0 ≤ a1
 ·rw [if_pos c4] at H
  have c4b0 := eq_true c4
  have c4b1 : decide (0 ≤ a1) = true := decide_eq_true c4
  clear c4
  obtain ⟨ji5,hji5⟩ : ∃ j_ : Int,(shl .i64 1 a1) = j_ := ⟨_,rfl⟩
  replace H : (some (Go.bits .or .i64 (Go.bits .or .i64 (wrap64 ((wrap64 (a0 - (Go.bits .and .i64 a0 (wrap64 ((ji5) - 1))))) * 2)) (shl .i64 a2 a1)) (Go.bits .and .i64 a0 (wrap64 ((ji5) - 1))))) = some r := by first | (rw [hji5] at H;exact H) | (simp only [hji5] at H ⊢;exact H)
  have hji5_ : (IntKind.i64.wrap (1 * 2 ^ min a1.toNat 64)) = ji5 := hji5
  have hji5z : a1 ≤ 64 → (IntKind.i64.wrap (1 * 2 ^ a1.toNat)) = ji5 := shl_small hji5
  have hji5u : (IntKind.i64.wrap (2 ^ min a1.toNat 64)) = ji5 := by have h_ := hji5_;rw [Int.one_mul] at h_;exact h_
  have hji5v : a1 ≤ 64 → (IntKind.i64.wrap (2 ^ a1.toNat)) = ji5 := fun hle_ => by have h_ := hji5z hle_;rw [Int.one_mul] at h_;exact h_
  have hji5y : (wrap64 (1 * 2 ^ min a1.toNat 64)) = ji5 := (i64_w _).symm.trans hji5_
  have hji5x : a1 ≤ 64 → (wrap64 (1 * 2 ^ a1.toNat)) = ji5 := fun h_ => (i64_w _).symm.trans (hji5z h_)
  have c6b0 := eq_true (of_decide_eq_true T13_ : 0 ≤ a1)
  obtain ⟨ji7,hji7⟩ : ∃ j_ : Int,(shl .i64 a2 a1) = j_ := ⟨_,rfl⟩
  replace H : (some (Go.bits .or .i64 (Go.bits .or .i64 (wrap64 ((wrap64 (a0 - (Go.bits .and .i64 a0 (wrap64 ((ji5) - 1))))) * 2)) (ji7)) (Go.bits .and .i64 a0 (wrap64 ((ji5) - 1))))) = some r := by first | (rw [hji7] at H;exact H) | (simp only [hji7] at H ⊢;exact H)
  have hji7_ : (IntKind.i64.wrap (a2 * 2 ^ min a1.toNat 64)) = ji7 := hji7
  have hji7z : a1 ≤ 64 → (IntKind.i64.wrap (a2 * 2 ^ a1.toNat)) = ji7 := shl_small hji7
  have hji7y : (wrap64 (a2 * 2 ^ min a1.toNat 64)) = ji7 := (i64_w _).symm.trans hji7_
  have hji7x : a1 ≤ 64 → (wrap64 (a2 * 2 ^ a1.toNat)) = ji7 := fun h_ => (i64_w _).symm.trans (hji7z h_)
  obtain rfl := Option.some.inj H
  go_enter Try.func58,Try.ntmps58
  go_wp2
  go_ret
  exact ⟨by first | rfl | (simp;done) | (simp only [← hji5,← hji7] <;> (first | rfl | simp)) | (simp [*];done),by repeat (first | exact Drawn0.refl _ | apply Drawn0.step)⟩
 ·rw [if_neg c4] at H
  exact absurd H T40_
end Go.Proofs.Ytmmdcbdchifniaa.F
namespace Go.Proofs.Ytmmdcbdchifniaa.F
open Go.RowKit Go.Proofs.YtmmdcbdchifniaaW.PrintWords Go.Proofs.YtmmdcbdchifniaaW.PrintLast Go.Proofs.YtmmdcbdchifniaaW.PrintMore
attribute [local go_sem] max2_int min2_int max_two min_two max_three min_three max_four min_four 
set_option linter.unusedVariables false
set_option linter.unusedSimpArgs false
theorem spread_some {x i b : Nat} (hx : x < 16) (hi : i < 5) (hb : b ≤ 1) : impl_spread.f x i b = some ((B.ins x i b : Nat) : Int) := by
 have h : ∀ x : Fin 16,∀ i : Fin 5,∀ b : Fin 2,impl_spread.f ((x : Nat) : Int) ((i : Nat) : Int) ((b : Nat) : Int) = some ((B.ins x i b : Nat) : Int) := by decide +kernel
 exact h ⟨x,hx⟩ ⟨i,hi⟩ ⟨b,by omega⟩
theorem restrict_at {n : Int} {w x : Nat} (hw : w < 9223372036854775808) (hx : x ≤ 64) : impl_Table_at.f n w x = some ((B.bitN w x : Nat) : Int) := by
 unfold impl_Table_at.f
 rw [if_pos T50_,B.bit_cast hw hx]
set_option maxHeartbeats 400000 in
set_option maxRecDepth 100000 in
theorem impl_Table_restrict_1.any (n : Int) (w i b x : Nat) (hw : w < 9223372036854775808) (hi : i < 5) (hb : b ≤ 1) (hx : x < 16) (g1 g2 g3 : Nat) (W : World) (h1 : W.heap[g1]? = some (.cells #[.int .i64 n,.int .i64 w] 25 (0,0))) (h2 : W.heap[g2]? = some (.cells #[.int .i64 i] 3 (0,0))) (h3 : W.heap[g3]? = some (.cells #[.int .i64 b] 3 (0,0))) :
  Gives Try.prog 57 #[.pointer (some ⟨g1,0,none⟩),.pointer (some ⟨g2,0,none⟩),.pointer (some ⟨g3,0,none⟩)] #[.int .i64 x] (.bool (w.testBit (B.ins x i b))) W := by
 show Calls Try.prog 57 #[.int .i64 x,.pointer (some ⟨g1,0,none⟩),.pointer (some ⟨g2,0,none⟩),.pointer (some ⟨g3,0,none⟩)] W _
 have hu := Try.underlying25
 have hc0 : W.cell? ⟨g1,0,none⟩ = some (.int .i64 n) := (blk_cell h1 0).trans rfl
 have hc1 : W.cell? ⟨g1,1,none⟩ = some (.int .i64 w) := (blk_cell h1 1).trans rfl
 have hd0 : W.cell? ⟨g2,0,none⟩ = some (.int .i64 i) := (blk_cell h2 0).trans rfl
 have he0 : W.cell? ⟨g3,0,none⟩ = some (.int .i64 b) := (blk_cell h3 0).trans rfl
 have hlt := B.ins_lt hx hi hb
 have A1 := aZ_ (spread_some hx hi hb)
 generalize B.ins x i b = y at A1 hlt ⊢
 have A2 : Aside0 (impl_Table_at.f n w y = some ((B.bitN w y : Nat) : Int)) := ⟨restrict_at hw T50_⟩
 have hq : (((B.bitN w y : Nat) : Int) == 1) = w.testBit y := by unfold B.bitN;cases w.testBit y <;> rfl
 clear h1 h2 h3 hi hb hx hw hlt
 go_enter Try.func57,Try.ntmps57
 go_wp2
 have C0 : Aside0 (W.cell? ⟨g1,0,none⟩ = some (.int .i64 n)) := ⟨hc0⟩
 have C1 : Aside0 (W.cell? ⟨g1,1,none⟩ = some (.int .i64 w)) := ⟨hc1⟩
 have C2 : Aside0 (W.cell? ⟨g2,0,none⟩ = some (.int .i64 i)) := ⟨hd0⟩
 have C3 : Aside0 (W.cell? ⟨g3,0,none⟩ = some (.int .i64 b)) := ⟨he0⟩
 clear hc0 hc1 hd0 he0
 have HB := aZ_ (Below.refl W.heap.size W)
 have n0_ : Aside0 (W.drew.cell? ⟨g1,0,none⟩ = some (.int .i64 n)) := C0
 clear C0
 have C0 := n0_
 clear n0_
 have n1_ : Aside0 (W.drew.cell? ⟨g1,1,none⟩ = some (.int .i64 w)) := C1
 clear C1
 have C1 := n1_
 clear n1_
 have n2_ : Aside0 (W.drew.cell? ⟨g2,0,none⟩ = some (.int .i64 i)) := C2
 clear C2
 have C2 := n2_
 clear n2_
 have n3_ : Aside0 (W.drew.cell? ⟨g3,0,none⟩ = some (.int .i64 b)) := C3
 clear C3
 have C3 := n3_
 clear n3_
 have n_ := aZ_ (below_drew1 HB.out)
 clear HB
 have HB := n_
 clear n_
 refine start_ (n := 8) (S := (fun w_ => w_.cell? ⟨g1,0,none⟩ = some (.int .i64 n) ∧ w_.cell? ⟨g1,1,none⟩ = some (.int .i64 w) ∧ w_.cell? ⟨g2,0,none⟩ = some (.int .i64 i) ∧ w_.cell? ⟨g3,0,none⟩ = some (.int .i64 b))) (ds := []) #[false,false,false,false,false,false,false,false] T12_ rfl rfl ⟨C0.out,C1.out,C2.out,C3.out⟩ (fun hHeld => ?_)
 generalize W.drew = W0_ at C0 C1 C2 C3 HB hHeld ⊢
 refine pZ_ 1 (some 7) #[false,true,false,false,false,false,false,false] ?_
 refine tZ4_ 0 (some 6) #[true,true,false,false,false,false,false,false] hHeld ?_
 refine tZ4_ 2 (some 8) #[true,true,true,false,false,false,false,false] hHeld ?_
 refine tZ4_ 3 (some 9) #[true,true,true,true,false,false,false,false] hHeld ?_
 refine one_ (i := 4) (N := some 10) #[true,true,true,true,true,false,false,false] rfl rfl T12_ T35_ (fun K hK => ?_)
 refine gZ_ Try.func58 #[.int .i64 x,.int .i64 i,.int .i64 b] ?_
 with_reducible refine (impl_spread.calls x i b y _ A1.out).mono ?_
 rintro e W1_ ⟨rfl,hd_⟩
 have hb := hd_.below
 clear hd_
 refine ⟨_,rfl,?_⟩
 have n0_ : Aside0 (W1_.cell? ⟨g1,0,none⟩ = some (.int .i64 n)) := ⟨pw_cell_below hb C0.out⟩
 clear C0
 have C0 := n0_
 clear n0_
 have n1_ : Aside0 (W1_.cell? ⟨g1,1,none⟩ = some (.int .i64 w)) := ⟨pw_cell_below hb C1.out⟩
 clear C1
 have C1 := n1_
 clear n1_
 have n2_ : Aside0 (W1_.cell? ⟨g2,0,none⟩ = some (.int .i64 i)) := ⟨pw_cell_below hb C2.out⟩
 clear C2
 have C2 := n2_
 clear n2_
 have n3_ : Aside0 (W1_.cell? ⟨g3,0,none⟩ = some (.int .i64 b)) := ⟨pw_cell_below hb C3.out⟩
 clear C3
 have C3 := n3_
 clear n3_
 have n_ := aZ_ (below_step HB.out hb)
 clear HB hb
 have HB := n_
 clear n_
 refine hK.out _ _ ⟨C0.out,C1.out,C2.out,C3.out⟩ (fun hHeld => ?_)
 clear hK K
 refine norm_ (a' := ?_) ?_ ?_
 rotate_left
 ·show Act.put _ (some 10) _ = _
  simp only [Act.put,List.setIfInBounds_toArray,List.set_cons_zero,List.set_cons_succ,i64_w,i32_w]
  rfl
 refine one_ (i := 5) (N := some 11) #[true,true,true,true,true,true,false,false] rfl rfl T12_ T35_ (fun K hK => ?_)
 refine gZ_ Try.func36 #[.agg #[.int .i64 n,.int .i64 w],.int .i64 y] ?_
 with_reducible refine (impl_Table_at.calls n w y _ _ A2.out).mono ?_
 rintro e W2_ ⟨rfl,hb⟩
 refine ⟨_,rfl,?_⟩
 have n0_ : Aside0 (W2_.cell? ⟨g1,0,none⟩ = some (.int .i64 n)) := ⟨pw_cell_below hb C0.out⟩
 clear C0
 have C0 := n0_
 clear n0_
 have n1_ : Aside0 (W2_.cell? ⟨g1,1,none⟩ = some (.int .i64 w)) := ⟨pw_cell_below hb C1.out⟩
 clear C1
 have C1 := n1_
 clear n1_
 have n2_ : Aside0 (W2_.cell? ⟨g2,0,none⟩ = some (.int .i64 i)) := ⟨pw_cell_below hb C2.out⟩
 clear C2
 have C2 := n2_
 clear n2_
 have n3_ : Aside0 (W2_.cell? ⟨g3,0,none⟩ = some (.int .i64 b)) := ⟨pw_cell_below hb C3.out⟩
 clear C3
 have C3 := n3_
 clear n3_
 have n_ := aZ_ (below_step HB.out hb)
 clear HB hb
 have HB := n_
 clear n_
 refine hK.out _ _ ⟨C0.out,C1.out,C2.out,C3.out⟩ (fun hHeld => ?_)
 clear hK K
 refine norm_ (a' := ?_) ?_ ?_
 rotate_left
 ·show Act.put _ (some 11) _ = _
  simp only [Act.put,List.setIfInBounds_toArray,List.set_cons_zero,List.set_cons_succ,i64_w,i32_w]
  rfl
 refine pZ_ 6 (some 12) #[true,true,true,true,true,true,true,false] ?_
 refine pZ_ 7 (some 5) #[true,true,true,true,true,true,true,true] ?_
 refine done_ T12_ ?_
 try go_wp2
 go_ret
 exact ⟨rfl,HB.out⟩
def impl_Table_restrict.f (a0_0 a0_1 a1 a2 : Int) : Option (Int × Int) :=
 if 1 ≤ a0_0 ∧ a0_0 ≤ 5 ∧ 0 ≤ a0_1 ∧ a0_1 < 4294967296 ∧ 0 ≤ a1 ∧ a1 < a0_0 ∧ 0 ≤ a2 ∧ a2 ≤ 1 then some (a0_0 - 1,((B.tabN (fun x => a0_1.toNat.testBit (B.ins x a1.toNat a2.toNat)) (2 ^ (a0_0.toNat - 1)) : Nat) : Int)) else none
set_option maxHeartbeats 400000 in
set_option maxRecDepth 100000 in
theorem impl_Table_restrict.any (m v i b : Nat) (hm : m ≤ 4) (hv : v < 9223372036854775808) (hi : i < 5) (hb : b ≤ 1) (w : World) :
  Calls Try.prog 33 #[.agg #[.int .i64 ((m : Int) + 1),.int .i64 v],.int .i64 i,.int .i64 b] w fun e w' => e = .returned (.agg #[.int .i64 m,.int .i64 (B.tabN (fun x => v.testBit (B.ins x i b)) (2 ^ m) : Nat)]) ∧ Below w.heap.size w w' := by
 have hu := Try.underlying25
 have HM := aZ_ hm
 have HV := aZ_ hv
 have HI := aZ_ hi
 have HB := aZ_ hb
 clear hm hv hi hb
 have hm0 : (0 : Int) ≤ m := by omega
 have hm4 : (m : Int) ≤ 4 := by have := HM.out;omega
 have EG := aZ_ (enters_of Try.func57 T12_ rfl)
 go_enter Try.func33,Try.ntmps33
 go_wp2_with (go_at_call 56;refine (impl_makeTable.any m (Nat.le_succ_of_le HM.out) (fun x => v.testBit (B.ins x i b)) 57 #[.pointer (some ⟨w.heap.size,0,none⟩),.pointer (some ⟨w.heap.size + 1,0,none⟩),.pointer (some ⟨w.heap.size + 1 + 1,0,none⟩)] EG.out _ (fun W x hx hb => impl_Table_restrict_1.any _ v i b x HV.out HI.out HB.out (Nat.lt_of_lt_of_le hx (B.pow_le_pow HM.out)) _ _ _ W (blk_below (blk_alloc (blk_alloc (blk_alloc (blk_new w _) _) _) _) hb) (blk_below (blk_alloc (blk_alloc (by simpa using blk_new (w.alloc (.cells #[.int .i64 ((m : Int) + 1),.int .i64 v] 25)) (.cells #[.int .i64 i] 3)) _) _) hb) (blk_below (blk_alloc (by simpa using blk_new ((w.alloc (.cells #[.int .i64 ((m : Int) + 1),.int .i64 v] 25)).alloc (.cells #[.int .i64 i] 3)) (.cells #[.int .i64 b] 3)) _) hb))).mono ?_;rintro e w' ⟨rfl,hb⟩;have BK : Aside0 (w'.heap[w.heap.size + 1 + 1 + 1]? = some (.cells #[.int .i64 0,.int .i64 0] 25 (0,0))) := ⟨by have h_ := blk_below (blk_new _ _) hb;simpa using h_⟩;have HB := aZ_ (below_step (below_alloc (below_alloc (below_alloc (below_alloc (Below.refl w.heap.size w) _) _) _) _) hb);clear hb;have hc0 : w'.cell? ⟨w.heap.size + 1 + 1 + 1,0,none⟩ = some (.int .i64 0) := (blk_cell BK.out 0).trans rfl;have hc1 : w'.cell? ⟨w.heap.size + 1 + 1 + 1,1,none⟩ = some (.int .i64 0) := (blk_cell BK.out 1).trans rfl;have hf0 : w'.frozen? ⟨w.heap.size + 1 + 1 + 1,0,none⟩ = false := blk_frozen BK.out 0;have hf1 : w'.frozen? ⟨w.heap.size + 1 + 1 + 1,1,none⟩ = false := blk_frozen BK.out 1)
 refine bodyPost_ret (results_cell_row rfl _ _ (w.heap.size + 1 + 1 + 1) 25 #[.int .i64 m,.int .i64 (B.tabN (fun x => v.testBit (B.ins x i b)) (2 ^ m) : Nat)] (0,0) _ rfl (by refine blk_put (cs := #[.int .i64 m,.int .i64 0]) ?_ 1 _ rfl;refine blk_put (cs := #[.int .i64 0,.int .i64 0]) ?_ 0 _ rfl;exact BK.out) Try.underlying25 rfl T12_) rfl ?_
 exact ⟨rfl,below_set (below_set HB.out T50_) T50_⟩
theorem impl_Table_restrict.calls (a0_0 a0_1 a1 a2 r1 r2 : Int) (w : World) (h : impl_Table_restrict.f a0_0 a0_1 a1 a2 = some (r1,r2)) :
  Calls Try.prog 33 #[.agg #[.int .i64 a0_0,.int .i64 a0_1],.int .i64 a1,.int .i64 a2] w fun e w' => e = .returned (.agg #[.int .i64 r1,.int .i64 r2]) ∧ Below w.heap.size w w' := by
 unfold impl_Table_restrict.f at h
 split at h
 next hc =>
  obtain ⟨m,hm⟩ := Int.eq_ofNat_of_zero_le (show 0 ≤ a0_0 - 1 by omega)
  obtain rfl : a0_0 = (m : Int) + 1 := by omega
  obtain ⟨v,rfl⟩ := Int.eq_ofNat_of_zero_le hc.2.2.1
  obtain ⟨i,rfl⟩ := Int.eq_ofNat_of_zero_le hc.2.2.2.2.1
  obtain ⟨b,rfl⟩ := Int.eq_ofNat_of_zero_le hc.2.2.2.2.2.2.1
  rw [show ((m : Int) + 1).toNat - 1 = m by omega,hm] at h
  simp only [Option.some.injEq,Prod.mk.injEq,Int.toNat_natCast] at h
  obtain ⟨rfl,rfl⟩ := h
  exact impl_Table_restrict.any m v i b T50_ T50_ T50_ T50_ w
 next => cases h
end Go.Proofs.Ytmmdcbdchifniaa.F
namespace Go.Proofs.Ytmmdcbdchifniaa.F
open Go.RowKit Go.Proofs.YtmmdcbdchifniaaW.PrintWords Go.Proofs.YtmmdcbdchifniaaW.PrintLast Go.Proofs.YtmmdcbdchifniaaW.PrintMore
attribute [local go_sem] max2_int min2_int max_two min_two max_three min_three max_four min_four 
set_option linter.unusedVariables false
set_option linter.unusedSimpArgs false
def impl_Table_changes.f (a0_0 : Int) (a0_1 : Int) (a1 : Int) (a2 : Int) : Option (Bool) := (impl_Table_at.f a0_0 a0_1 a1).bind fun t102 => ((impl_Table_at.f a0_0 a0_1 (Go.bits .xor .i64 a1 a2)).bind fun t103 => (some (t102 != t103)))
def impl_Table_changes.T1 : Bool × List (List Nat × List Nat) := (true,[([],[]),([],[]),([0,1],[0,1]),([],[]),([],[]),([],[]),([4,5],[4,5]),([3,6,2],[3,6]),([2,7],[2,7]),([8,7,0,1,2,3,4,5,6,7,8],[8])])
def impl_Table_changes.B1 : List Nat := [0,0,3,0,0,0,48,127,255,511]
theorem impl_Table_changes.tab1 : rtab .any (opsOf Try.f55 1) = impl_Table_changes.T1 := by kernel_rfl
theorem impl_Table_changes.bits1 : waitsOk impl_Table_changes.T1.2 impl_Table_changes.B1 = true := by kernel_rfl
set_option maxHeartbeats 8000000 in
set_option maxRecDepth 100000 in
theorem impl_Table_changes.calls (a0_0 : Int) (a0_1 : Int) (a1 : Int) (a2 : Int) (r : Bool) (w : World) (h : impl_Table_changes.f a0_0 a0_1 a1 a2 = some r) :
  Calls Try.prog 55 #[.agg #[.int .i64 a0_0,.int .i64 a0_1],.int .i64 a1,.int .i64 a2] w fun e w' => e = .returned (.bool r) ∧ Below w.heap.size w w' := by
 have hu25 := Try.underlying25
 have HB := aZ_ (Below.refl w.heap.size w)
 have H : ((impl_Table_at.f a0_0 a0_1 a1).bind fun t102 => ((impl_Table_at.f a0_0 a0_1 (Go.bits .xor .i64 a1 a2)).bind fun t103 => (some (t102 != t103)))) = some r := h
 clear h
 replace H := Option.bind_eq_some_iff.mp H
 obtain ⟨t102,A40,H⟩ := H
 replace H : ((impl_Table_at.f a0_0 a0_1 (Go.bits .xor .i64 a1 a2)).bind fun t103 => (some (t102 != t103))) = some r := H
 have A4 := aZ_ A40
 clear A40
 replace H := Option.bind_eq_some_iff.mp H
 obtain ⟨t103,A50,H⟩ := H
 replace H : (some (t102 != t103)) = some r := H
 have A5 := aZ_ A50
 clear A50
 obtain rfl := Option.some.inj H
 go_enter Try.func55,Try.ntmps55
 try go_wp2_with (first | ((with_reducible refine gate_dst (N := 3) rfl ?_);refine box_event ?hg (N := 3) ?hd (cs := #[.int .i64 a0_0,.int .i64 a0_1]) (t := 25) ?hr ?_;(case hd => rfl);(case hg => rfl);(case hr => first | (go_simp;done) | (go_simp;rfl));intro gb101 hg w6 hbox hb;have n0_ := aZ_ (below_step T5_ hb);have n1_ := aZ_ (hbox);have n2_ := aZ_ ((T3_ : w.heap.size ≤ gb101));have n3_ := aZ_ ((T3_ : w.heap.size ≤ gb101));clear HB;have HB := n0_;have BK101 := n1_;have GW101 := n2_;have GE101 := n3_;clear n0_ n1_ n2_ n3_;clear hb hbox hg))
 have n0_ := aZ_ (blk_drew BK101.out)
 have n1_ := aZ_ (below_drew1 HB.out)
 clear BK101
 clear HB
 have BK101 := n0_
 have HB := n1_
 clear n0_ n1_
 refine start_ (n := 10) (S := fun w' => w'.cell? ⟨gb101,0,none⟩ = some (.int .i64 a0_0) ∧ w'.cell? ⟨gb101,1,none⟩ = some (.int .i64 a0_1)) (ds := []) #[false,false,false,false,false,false,false,false,false,false] T12_ rfl rfl ⟨(blk_cell BK101.out 0).trans rfl,(blk_cell BK101.out 1).trans rfl⟩ (fun hHeld => ?_);refine with_tabW impl_Table_changes.tab1 impl_Table_changes.bits1 (fun HT_ HW_ => ?_)
 generalize w6.drew = w7 at BK101 HB hHeld ⊢
 refine pZ_ 1 (some 8) #[false,true,false,false,false,false,false,false,false,false] ?_
 refine pZ_ 4 (some 11) #[false,true,false,false,true,false,false,false,false,false] ?_
 refine pZ_ 5 (some 12) #[false,true,false,false,true,true,false,false,false,false] ?_
 refine pZ_ 6 (some 13) #[false,true,false,false,true,true,true,false,false,false] ?_
 refine tZ2_ 0 (some 7) #[true,true,false,false,true,true,true,false,false,false] hHeld ?_
 refine tZ2_ 3 (some 10) #[true,true,false,true,true,true,true,false,false,false] hHeld ?_
 refine one_ (i := 2) (N := some 9) #[true,true,true,true,true,true,true,false,false,false] rfl rfl (one_of HT_.out T12_) T35_ (fun K hK => ?_)
 refine gZ_ Try.func36 #[.agg #[.int .i64 a0_0,.int .i64 a0_1],.int .i64 a1] ?_
 with_reducible refine (impl_Table_at.calls a0_0 a0_1 a1 t102 _ A4.out).mono ?_
 rintro e w8 ⟨rfl,hb⟩
 refine ⟨_,rfl,?_⟩
 have n0_ := aZ_ (blk_below (g := gb101) (o := .cells #[.int .i64 a0_0,.int .i64 a0_1] 25 (0,0)) T2_ hb)
 have n1_ := aZ_ (below_step T1_ hb)
 clear BK101
 clear HB
 have BK101 := n0_
 have HB := n1_
 clear n0_ n1_
 (try clear hb)
 (try clear hb2)
 (try clear hk)
 (try clear hi)
 refine hK.out _ _ ⟨(blk_cell BK101.out 0).trans rfl,(blk_cell BK101.out 1).trans rfl⟩ (fun hHeld => ?_)
 clear hK K
 refine norm_ (a' := ?_) ?_ ?_
 rotate_left
 ·show Act.put _ (some 9) _ = _
  simp only [Act.put,List.setIfInBounds_toArray,List.set_cons_zero,List.set_cons_succ,i64_w,i32_w]
  rfl
 refine one_ (i := 7) (N := some 14) #[true,true,true,true,true,true,true,true,false,false] rfl rfl (one_of HT_.out T12_) T35_ (fun K hK => ?_)
 refine gZ_ Try.func36 #[.agg #[.int .i64 a0_0,.int .i64 a0_1],.int .i64 (Go.bits .xor .i64 a1 a2)] ?_
 with_reducible refine (impl_Table_at.calls a0_0 a0_1 (Go.bits .xor .i64 a1 a2) t103 _ A5.out).mono ?_
 rintro e w9 ⟨rfl,hb⟩
 refine ⟨_,rfl,?_⟩
 have n0_ := aZ_ (blk_below (g := gb101) (o := .cells #[.int .i64 a0_0,.int .i64 a0_1] 25 (0,0)) T2_ hb)
 have n1_ := aZ_ (below_step T1_ hb)
 clear BK101
 clear HB
 have BK101 := n0_
 have HB := n1_
 clear n0_ n1_
 (try clear hb)
 (try clear hb2)
 (try clear hk)
 (try clear hi)
 refine hK.out _ _ ⟨(blk_cell BK101.out 0).trans rfl,(blk_cell BK101.out 1).trans rfl⟩ (fun hHeld => ?_)
 clear hK K
 refine norm_ (a' := ?_) ?_ ?_
 rotate_left
 ·show Act.put _ (some 14) _ = _
  simp only [Act.put,List.setIfInBounds_toArray,List.set_cons_zero,List.set_cons_succ,i64_w,i32_w]
  rfl
 refine pZ_ 8 (some 15) #[true,true,true,true,true,true,true,true,true,false] ?_
 refine pZ_ 9 (some 6) #[true,true,true,true,true,true,true,true,true,true] ?_
 refine done_ (done_of HT_.out T12_) ?_
 try go_wp2
 go_ret
 exact ⟨by first | rfl | (simp [errW_none,errW_some] <;> rfl) | (simp [*,errW_none,errW_some] <;> rfl),by repeat (first | (with_reducible first | exact HB.out | apply below_alloc | apply pw_below_drewN | apply below_drew1 | refine below_set ?_ GE101.out) | exact HB.out)⟩
end Go.Proofs.Ytmmdcbdchifniaa.F
namespace Go.Proofs.Ytmmdcbdchifniaa.F
open Go.RowKit Go.Proofs.YtmmdcbdchifniaaW.PrintWords Go.Proofs.YtmmdcbdchifniaaW.PrintLast Go.Proofs.YtmmdcbdchifniaaW.PrintMore
attribute [local go_sem] max2_int min2_int max_two min_two max_three min_three max_four min_four 
set_option linter.unusedVariables false
set_option linter.unusedSimpArgs false
attribute [local go_sem high] eqA25
def impl_Table_depends.f (a0_0 : Int) (a0_1 : Int) (a1 : Int) : Option (Bool) := (impl_Table_restrict.f a0_0 a0_1 a1 0).bind fun bt102 => ((impl_Table_restrict.f a0_0 a0_1 a1 1).bind fun bt104 => (some (!(bt102.1 == bt104.1) || (!(bt102.2 == bt104.2)))))
def impl_Table_depends.T1 : Bool × List (List Nat × List Nat) := (true,[([],[]),([],[]),([0,1],[0,1]),([],[]),([],[]),([3,4,2],[3,4]),([2,5],[2,5]),([6,5,0,1,2,3,4,5,6],[6])])
def impl_Table_depends.B1 : List Nat := [0,0,3,0,0,31,63,127]
theorem impl_Table_depends.tab1 : rtab .any (opsOf Try.f34 1) = impl_Table_depends.T1 := by kernel_rfl
theorem impl_Table_depends.bits1 : waitsOk impl_Table_depends.T1.2 impl_Table_depends.B1 = true := by kernel_rfl
set_option maxHeartbeats 8000000 in
set_option maxRecDepth 100000 in
theorem impl_Table_depends.calls (a0_0 : Int) (a0_1 : Int) (a1 : Int) (r : Bool) (w : World) (h : impl_Table_depends.f a0_0 a0_1 a1 = some r) :
  Calls Try.prog 34 #[.agg #[.int .i64 a0_0,.int .i64 a0_1],.int .i64 a1] w fun e w' => e = .returned (.bool r) ∧ Below w.heap.size w w' := by
 have hu25 := Try.underlying25
 have HB := aZ_ (Below.refl w.heap.size w)
 have H : ((impl_Table_restrict.f a0_0 a0_1 a1 0).bind fun bt102 => ((impl_Table_restrict.f a0_0 a0_1 a1 1).bind fun bt104 => (some (!(bt102.1 == bt104.1) || (!(bt102.2 == bt104.2)))))) = some r := h
 clear h
 replace H := Option.bind_eq_some_iff.mp H
 obtain ⟨⟨t102,t103⟩,A30,H⟩ := H
 replace H : ((impl_Table_restrict.f a0_0 a0_1 a1 1).bind fun bt104 => (some (!(t102 == bt104.1) || (!(t103 == bt104.2))))) = some r := H
 have A3 := aZ_ A30
 clear A30
 replace H := Option.bind_eq_some_iff.mp H
 obtain ⟨⟨t104,t105⟩,A40,H⟩ := H
 replace H : (some (!(t102 == t104) || (!(t103 == t105)))) = some r := H
 have A4 := aZ_ A40
 clear A40
 obtain rfl := Option.some.inj H
 go_enter Try.func34,Try.ntmps34
 try go_wp2_with (first | ((with_reducible refine gate_dst (N := 2) rfl ?_);refine box_event ?hg (N := 2) ?hd (cs := #[.int .i64 a0_0,.int .i64 a0_1]) (t := 25) ?hr ?_;(case hd => rfl);(case hg => rfl);(case hr => first | (go_simp;done) | (go_simp;rfl));intro gb101 hg w5 hbox hb;have n0_ := aZ_ (below_step T5_ hb);have n1_ := aZ_ (hbox);have n2_ := aZ_ ((T3_ : w.heap.size ≤ gb101));have n3_ := aZ_ ((T3_ : w.heap.size ≤ gb101));clear HB;have HB := n0_;have BK101 := n1_;have GW101 := n2_;have GE101 := n3_;clear n0_ n1_ n2_ n3_;clear hb hbox hg))
 have n0_ := aZ_ (blk_drew BK101.out)
 have n1_ := aZ_ (below_drew1 HB.out)
 clear BK101
 clear HB
 have BK101 := n0_
 have HB := n1_
 clear n0_ n1_
 refine start_ (n := 8) (S := fun w' => w'.cell? ⟨gb101,0,none⟩ = some (.int .i64 a0_0) ∧ w'.cell? ⟨gb101,1,none⟩ = some (.int .i64 a0_1)) (ds := []) #[false,false,false,false,false,false,false,false] T12_ rfl rfl ⟨(blk_cell BK101.out 0).trans rfl,(blk_cell BK101.out 1).trans rfl⟩ (fun hHeld => ?_);refine with_tabW impl_Table_depends.tab1 impl_Table_depends.bits1 (fun HT_ HW_ => ?_)
 generalize w5.drew = w6 at BK101 HB hHeld ⊢
 refine pZ_ 1 (some 6) #[false,true,false,false,false,false,false,false] ?_
 refine pZ_ 4 (some 9) #[false,true,false,false,true,false,false,false] ?_
 refine tZ2_ 0 (some 5) #[true,true,false,false,true,false,false,false] hHeld ?_
 refine tZ2_ 3 (some 8) #[true,true,false,true,true,false,false,false] hHeld ?_
 refine one_ (i := 2) (N := some 7) #[true,true,true,true,true,false,false,false] rfl rfl (one_of HT_.out T12_) T35_ (fun K hK => ?_)
 refine gZ_ Try.func33 #[.agg #[.int .i64 a0_0,.int .i64 a0_1],.int .i64 a1,.int .i64 0] ?_
 with_reducible refine (impl_Table_restrict.calls a0_0 a0_1 a1 0 t102 t103 _ A3.out).mono ?_
 rintro e w7 ⟨rfl,hb⟩
 refine ⟨_,rfl,?_⟩
 have n0_ := aZ_ (blk_below (g := gb101) (o := .cells #[.int .i64 a0_0,.int .i64 a0_1] 25 (0,0)) T2_ hb)
 have n1_ := aZ_ (below_step T1_ hb)
 clear BK101
 clear HB
 have BK101 := n0_
 have HB := n1_
 clear n0_ n1_
 (try clear hb)
 (try clear hb2)
 (try clear hk)
 (try clear hi)
 refine hK.out _ _ ⟨(blk_cell BK101.out 0).trans rfl,(blk_cell BK101.out 1).trans rfl⟩ (fun hHeld => ?_)
 clear hK K
 refine norm_ (a' := ?_) ?_ ?_
 rotate_left
 ·show Act.put _ (some 7) _ = _
  simp only [Act.put,List.setIfInBounds_toArray,List.set_cons_zero,List.set_cons_succ,i64_w,i32_w]
  rfl
 refine one_ (i := 5) (N := some 10) #[true,true,true,true,true,true,false,false] rfl rfl (one_of HT_.out T12_) T35_ (fun K hK => ?_)
 refine gZ_ Try.func33 #[.agg #[.int .i64 a0_0,.int .i64 a0_1],.int .i64 a1,.int .i64 1] ?_
 with_reducible refine (impl_Table_restrict.calls a0_0 a0_1 a1 1 t104 t105 _ A4.out).mono ?_
 rintro e w8 ⟨rfl,hb⟩
 refine ⟨_,rfl,?_⟩
 have n0_ := aZ_ (blk_below (g := gb101) (o := .cells #[.int .i64 a0_0,.int .i64 a0_1] 25 (0,0)) T2_ hb)
 have n1_ := aZ_ (below_step T1_ hb)
 clear BK101
 clear HB
 have BK101 := n0_
 have HB := n1_
 clear n0_ n1_
 (try clear hb)
 (try clear hb2)
 (try clear hk)
 (try clear hi)
 refine hK.out _ _ ⟨(blk_cell BK101.out 0).trans rfl,(blk_cell BK101.out 1).trans rfl⟩ (fun hHeld => ?_)
 clear hK K
 refine norm_ (a' := ?_) ?_ ?_
 rotate_left
 ·show Act.put _ (some 10) _ = _
  simp only [Act.put,List.setIfInBounds_toArray,List.set_cons_zero,List.set_cons_succ,i64_w,i32_w]
  rfl
 refine pZ_ 6 (some 11) #[true,true,true,true,true,true,true,false] ?_
 refine pZ_ 7 (some 4) #[true,true,true,true,true,true,true,true] ?_
 refine done_ (done_of HT_.out T12_) ?_
 try go_wp2
 go_ret
 exact ⟨by first | rfl | (simp [errW_none,errW_some] <;> rfl) | (simp [*,errW_none,errW_some] <;> rfl),by repeat (first | (with_reducible first | exact HB.out | apply below_alloc | apply pw_below_drewN | apply below_drew1 | refine below_set ?_ GE101.out) | exact HB.out)⟩
end Go.Proofs.Ytmmdcbdchifniaa.F
