/- Walks of Go functions and lemmas on what they compute, for the row of FnPower (a part of several): each call ends as the Lean function of its name tells; the conditions are those of each theorem. -/
import Derived.Test.YtmmdcbdchifniaaM1FnPower
import Derived.Test.YtmmdcbdchifniaaM2FnPower
import Derived.Test.YtmmdcbdchifniaaM3FnPower
import Derived.Test.YtmmdcbdchifniaaM4FnPower
import Derived.Test.YtmmdcbdchifniaaM6FnPower
import Derived.Test.YtmmdcbdchifniaaM9FnPower
import Derived.Test.YtmmdcbdchifniaaM10FnPower
import Derived.Test.YtmmdcbdchifniaaM11FnPower
import Derived.Test.YtmmdcbdchifniaaM12FnPower
import Derived.Test.YtmmdcbdchifniaaM13FnPower
import Derived.Test.YtmmdcbdchifniaaM14FnPower
import Derived.Test.YtmmdcbdchifniaaM15FnPower
namespace Go.Proofs.Ytmmdcbdchifniaa.U
open Go.RowKit Go.Proofs.YtmmdcbdchifniaaW.PrintWords Go.Proofs.YtmmdcbdchifniaaW.PrintLast Go.Proofs.YtmmdcbdchifniaaW.PrintMore Go.Proofs.Ytmmdcbdchifniaa.F Go.Proofs.Ytmmdcbdchifniaa.B
set_option linter.unusedVariables false
set_option linter.unusedSimpArgs false
def sumN (q : Nat → Nat) : Nat → Nat
  | 0 => 0
  | m + 1 => sumN q m + q m
theorem sumN_le {q : Nat → Nat} {c : Nat} (h : ∀ x,q x ≤ c) (m : Nat) : sumN q m ≤ m * c := by
  induction m with
  | zero => simp [sumN]
  | succ m ih => rw [sumN,Nat.succ_mul];exact Nat.add_le_add ih (h m)
def powQ (cw : Nat → Nat) (w i x : Nat) : Nat := if x.testBit i = false ∧ (w.testBit x != w.testBit (x ^^^ 2 ^ i)) = true then cw (pop x) else 0
def powV (cw : Nat → Nat) (n w i : Nat) : Nat := sumN (powQ cw w i) (2 ^ n)
def powL (cw : Nat → Nat) (n w : Nat) : Nat → List Int
  | 0 => []
  | k + 1 => powL cw n w k ++ [((powV cw n w k : Nat) : Int)]
theorem powL_length (cw : Nat → Nat) (n w k : Nat) : (powL cw n w k).length = k := by
  induction k with
  | zero => rfl
  | succ k ih => rw [powL,List.length_append,ih];rfl
theorem pop_lt {n i x : Nat} (hn : n ≤ 5) (hi : i < n) (hx : x < 2 ^ n) (hb : x.testBit i = false) : pop x < n := by
  have h : ∀ n : Fin 6,∀ i : Fin 5,i.val < n.val → ∀ x : Fin 32,x.val < 2 ^ n.val → x.val.testBit i.val = false → pop x.val < n.val := by decide +kernel
  have := pow_le hn
  exact h ⟨n,by omega⟩ ⟨i,by omega⟩ hi ⟨x,by omega⟩ hx hb
theorem put_mid (p : List Int) (i : Nat) (hp : p.length = i) (s v : Int) (z : List Int) : (p ++ s :: z).set i v = p ++ v :: z := by
  subst hp
  rw [List.set_append,if_neg (by omega),Nat.sub_self,List.set_cons_zero]
theorem rd_mid (p : List Int) (i : Nat) (hp : p.length = i) (s : Int) (z : List Int) : rd (p ++ s :: z) (i : Int) = s := by
  subst hp
  unfold rd
  rw [Int.toNat_natCast,List.getD_eq_getElem?_getD,List.getElem?_append_right (by omega),Nat.sub_self]
  rfl
theorem pow_inner {n w i : Nat} {b : Int} {cw : Nat → Nat} (ht : Tab n w) (hi : i < n) (hc : ∀ p,p < n → impl_BanzhafNumbers_1.f (p : Nat) b = some ((cw p : Nat) : Int)) (hcw : ∀ p,cw p ≤ 1000)
    (P z : List Int) (hP : P.length = i) : ∀ (d k x : Nat),x + d = 2 ^ n →
    impl_Table_powers.l1 (k + 2 * d + 1) b (P ++ ((sumN (powQ cw w i) x : Nat) : Int) :: z) i n i ((2 ^ n : Nat) : Int) x n w = impl_Table_powers.l0 k b (P ++ ((powV cw n w i : Nat) : Int) :: z) n ((i + 1 : Nat) : Int) n w := by
  have hM := pow_le ht.1
  have hn := ht.1
  have hq : ∀ x,powQ cw w i x ≤ 1000 := fun x => by unfold powQ;split <;> first | exact hcw _ | omega
  intro d
  induction d with
  | zero =>
    intro k x hx
    obtain rfl : x = 2 ^ n := by omega
    simp only [impl_Table_powers.l1,Nat.mul_zero,Nat.add_zero]
    rw [if_neg (by omega),wrap64_succ (by omega)]
    rfl
  | succ d ih =>
    intro k x hx
    have hlt : x < 2 ^ n := by omega
    have hs := sumN_le hq x
    have hqx := hq x
    have hone := ones_small (x := x) (by omega)
    have hch := changes_some ht hlt hi
    have hi' := ih k (x + 1) (by omega)
    rw [sumN] at hi'
    rw [show k + 2 * (d + 1) + 1 = (k + 2 * d + 1) + 1 + 1 by omega]
    simp only [impl_Table_powers.l1,hch]
    rw [if_pos (by exact_mod_cast hlt),if_pos (Int.natCast_nonneg _),bit_cast (by omega) (by omega),Option.bind_some]
    rw [impl_Table_powers.j2,impl_Table_powers.j2]
    by_cases h1 : x.testBit i = true
    · rw [if_neg (fun h => by rw [bit_eq_zero,h1] at h;cases h),if_neg (by decide),wrap64_succ (by omega)]
      have e : powQ cw w i x = 0 := by unfold powQ;rw [if_neg (fun h => by rw [h1] at h;cases h.1)]
      rw [e,Nat.add_zero] at hi'
      exact hi'
    · have h1 := Bool.eq_false_iff.mpr h1
      rw [if_pos (bit_eq_zero.mpr h1)]
      by_cases h2 : (w.testBit x != w.testBit (x ^^^ 2 ^ i)) = true
      · have e : powQ cw w i x = cw (pop x) := by unfold powQ;rw [if_pos ⟨h1,h2⟩]
        have hpl := pop_lt hn hi hlt h1
        have hcp := hc (pop x) hpl
        rw [e] at hi' hqx
        generalize pop x = p at hcp hi' hqx hone
        rw [if_pos h2,if_pos (Int.natCast_nonneg _),if_pos (by rw [List.length_append,List.length_cons];omega),hone,Option.bind_some,hcp,Option.bind_some]
        rw [Int.toNat_natCast,put_mid P i hP,rd_mid P i hP,wrap64_succ (by omega),wrap64_of (by omega) (by omega)]
        exact hi'
      · have e : powQ cw w i x = 0 := by unfold powQ;rw [if_neg (fun h => h2 h.2)]
        rw [e,Nat.add_zero] at hi'
        rw [if_neg h2,wrap64_succ (by omega)]
        exact hi'
theorem pow_outer {n w : Nat} {b : Int} {cw : Nat → Nat} (ht : Tab n w) (hc : ∀ p,p < n → impl_BanzhafNumbers_1.f (p : Nat) b = some ((cw p : Nat) : Int)) (hcw : ∀ p,cw p ≤ 1000) : ∀ (d k i : Nat),i + d = n →
    impl_Table_powers.l0 (k + d * (2 * 2 ^ n + 2) + 1) b (powL cw n w i ++ List.replicate d 0) n i n w = some (powL cw n w n) := by
  have hM := pow_le ht.1
  have hn := ht.1
  intro d
  induction d with
  | zero =>
    intro k i hi
    obtain rfl : i = n := by omega
    simp only [impl_Table_powers.l0,Nat.zero_mul,Nat.add_zero]
    rw [if_neg (by omega),List.replicate_zero,List.append_nil]
  | succ d ih =>
    intro k i hi
    rw [show k + (d + 1) * (2 * 2 ^ n + 2) + 1 = (k + d * (2 * 2 ^ n + 2) + 1) + 2 * 2 ^ n + 1 + 1 by rw [Nat.succ_mul];omega]
    simp only [impl_Table_powers.l0]
    rw [if_pos (by omega),size_some _ (by omega)]
    simp only [Option.bind_some]
    rw [List.replicate_succ]
    have h := pow_inner ht (show i < n by omega) hc hcw (powL cw n w i) (List.replicate d 0) (powL_length cw n w i) (2 ^ n) (k + d * (2 * 2 ^ n + 2) + 1) 0 (by omega)
    rw [show ((sumN (powQ cw w i) 0 : Nat) : Int) = 0 from rfl] at h
    refine h.trans ?_
    have e := ih k (i + 1) (by omega)
    rw [powL,List.append_assoc] at e
    exact e
theorem impl_powers {a b : Int} {c : Int} {cw : Nat → Nat} (h0 : -9223372036854775808 ≤ b) (h1 : b ≤ 9223372036854775807) (hc : ∀ n w : Nat,a = n → b = w → Tab n w → ∀ p,p < n → impl_BanzhafNumbers_1.f (p : Nat) c = some ((cw p : Nat) : Int)) (hcw : ∀ p,cw p ≤ 1000) :
    impl_Table_powers.f 1000 a b c = some (if (isTab a b && game a.toNat b.toNat) = true then powL cw a.toNat b.toNat a.toNat else []) := by
  unfold impl_Table_powers.f
  rw [impl_isGame h0 h1 (by decide)]
  simp only [Option.bind_some]
  by_cases h : (isTab a b && game a.toNat b.toNat) = true
  · rw [if_pos h,if_pos h]
    rw [Bool.and_eq_true] at h
    obtain ⟨n,w,rfl,rfl,ht⟩ := tab_of h.1
    have hn := ht.1
    have hM := pow_le ht.1
    have hf : n * (2 * 2 ^ n + 2) ≤ 5 * 66 := Nat.mul_le_mul hn (by omega)
    rw [if_pos (Int.natCast_nonneg _),if_pos (by omega),Int.toNat_natCast,List.length_replicate,Int.toNat_natCast]
    have e := pow_outer ht (hc n w rfl rfl ht) hcw n (999 - n * (2 * 2 ^ n + 2)) 0 (by omega)
    rw [show 999 - n * (2 * 2 ^ n + 2) + n * (2 * 2 ^ n + 2) + 1 = 1000 by omega] at e
    exact e
  · rw [if_neg h,if_neg h]
theorem cnt_split (p q : Nat → Bool) (m : Nat) : cntN p m = cntN (fun x => q x && p x) m + cntN (fun x => !q x && p x) m := by
  induction m with
  | zero => rfl
  | succ m ih =>
    rw [cntN,cntN,cntN,ih]
    cases q m <;> cases p m <;> simp <;> omega
theorem cnt_countP (p : Nat → Bool) (m : Nat) : cntN p m = (List.range m).countP p := by
  induction m with
  | zero => rfl
  | succ m ih =>
    rw [cntN,ih,List.range_succ,List.countP_append]
    cases h : p m <;> simp [h]
theorem cnt_perm (p : Nat → Bool) (f : Nat → Nat) (m : Nat) (hf : ∀ x,x < m → f x < m) (hff : ∀ x,x < m → f (f x) = x) : cntN (fun x => p (f x)) m = cntN p m := by
  rw [cnt_countP,cnt_countP]
  have e : (List.range m).countP (fun x => p (f x)) = ((List.range m).map f).countP p := by rw [List.countP_map];rfl
  rw [e]
  apply List.Perm.countP_eq
  refine (List.perm_ext_iff_of_nodup ?_ List.nodup_range).mpr fun x => ?_
  · refine List.pairwise_map.mpr (List.Pairwise.imp_of_mem ?_ List.nodup_range)
    intro x y hx hy hne he
    rw [List.mem_range] at hx hy
    apply hne
    rw [← hff x hx,← hff y hy,he]
  · rw [List.mem_map]
    constructor
    · rintro ⟨y,hy,rfl⟩
      rw [List.mem_range] at hy ⊢
      exact hf y hy
    · intro hx
      rw [List.mem_range] at hx
      exact ⟨f x,List.mem_range.mpr (hf x hx),hff x hx⟩
def chg (w i x : Nat) : Bool := w.testBit x != w.testBit (x ^^^ 2 ^ i)
theorem flip_flip (x i : Nat) : x ^^^ 2 ^ i ^^^ 2 ^ i = x := by rw [Nat.xor_assoc,Nat.xor_self,Nat.xor_zero]
theorem testBit_flip (x i : Nat) : (x ^^^ 2 ^ i).testBit i = !x.testBit i := by
  rw [Nat.testBit_xor,Nat.testBit_two_pow_self]
  cases x.testBit i <;> rfl
theorem infl_even {n w i : Nat} (hi : i < n) : cntN (chg w i) (2 ^ n) = 2 * cntN (fun x => !x.testBit i && chg w i x) (2 ^ n) := by
  rw [cnt_split (chg w i) (fun x => x.testBit i)]
  have e := cnt_perm (fun x => !x.testBit i && chg w i x) (fun x => x ^^^ 2 ^ i) (2 ^ n) (fun x hx => flip_lt hx hi) (fun x _ => flip_flip x i)
  rw [← e]
  have e2 : cntN (fun x => x.testBit i && chg w i x) (2 ^ n) = cntN (fun x => !(x ^^^ 2 ^ i).testBit i && chg w i (x ^^^ 2 ^ i)) (2 ^ n) := cntN_congr fun x _ => by
    rw [testBit_flip,Bool.not_not]
    unfold chg
    rw [flip_flip]
    cases w.testBit x <;> cases w.testBit (x ^^^ 2 ^ i) <;> rfl
  rw [e2]
  omega
theorem powV_one (n w i : Nat) : powV (fun _ => 1) n w i = cntN (fun x => !x.testBit i && chg w i x) (2 ^ n) := by
  unfold powV
  generalize 2 ^ n = m
  induction m with
  | zero => rfl
  | succ m ih =>
    rw [sumN,cntN,ih]
    unfold powQ chg
    cases m.testBit i <;> cases (w.testBit m != w.testBit (m ^^^ 2 ^ i)) <;> simp
theorem infl_step {w i x : Nat} (hw : w < 9223372036854775808) (hx : x ≤ 64) (hy : x ^^^ 2 ^ i ≤ 64) : Go.bits .and .i64 (Go.bits .xor .i64 (shr .i64 (w : Int) (x : Int)) (shr .i64 (w : Int) ((x ^^^ 2 ^ i : Nat) : Int))) 1 = (((chg w i x).toNat : Nat) : Int) := by
  have h1 : w >>> x < 9223372036854775808 := Nat.lt_of_le_of_lt (Nat.shiftRight_le _ _) hw
  have h2 : w >>> (x ^^^ 2 ^ i) < 9223372036854775808 := Nat.lt_of_le_of_lt (Nat.shiftRight_le _ _) hw
  rw [shr_cast w x hx,shr_cast w (x ^^^ 2 ^ i) hy,xor_cast h1 h2,and_one_cast (Nat.xor_lt_two_pow (lt63 h1) (lt63 h2))]
  unfold bitN chg
  rw [Nat.testBit_xor,Nat.testBit_shiftRight,Nat.testBit_shiftRight,Nat.add_zero,Nat.add_zero]
theorem infl_loop {n w i : Nat} (ht : Tab n w) (hi : i < n) : ∀ (d k x : Nat),x + d = 2 ^ n → d < k →
    spec_InfluenceOf.l0 k i ((cntN (chg w i) x : Nat) : Int) x n w = some ((cntN (chg w i) (2 ^ n) : Nat) : Int) := by
  have hM := pow_le ht.1
  have hn := ht.1
  have hpi := pow_le_pow (show i ≤ 4 by omega)
  intro d
  induction d with
  | zero =>
    intro k x hx hk
    obtain ⟨k,rfl⟩ : ∃ m,k = m + 1 := ⟨k - 1,by omega⟩
    obtain rfl : x = 2 ^ n := by omega
    simp only [spec_InfluenceOf.l0]
    rw [if_pos (Int.natCast_nonneg _),shl1_of (by omega),if_neg (by omega)]
  | succ d ih =>
    intro k x hx hk
    obtain ⟨k,rfl⟩ : ∃ m,k = m + 1 := ⟨k - 1,by omega⟩
    have hlt : x < 2 ^ n := by omega
    have hf := flip_lt hlt hi
    have hcl := cntN_le (chg w i) x
    have hb : (chg w i x).toNat ≤ 1 := by cases chg w i x <;> decide
    have e := ih k (x + 1) (by omega) (by omega)
    rw [cntN] at e
    simp only [spec_InfluenceOf.l0]
    rw [if_pos (Int.natCast_nonneg _),shl1_of (by omega),if_pos (by exact_mod_cast hlt),if_pos (Int.natCast_nonneg _),if_pos (Int.natCast_nonneg _),shl1_of (by omega),xor_cast (by omega) (by omega),if_pos (Int.natCast_nonneg _),infl_step ht.lt63 (by omega) (by omega),wrap64_succ (by omega),wrap64_of (by omega) (by omega)]
    exact e
theorem spec_infl {n w i k : Nat} (ht : Tab n w) (hi : i < n) (hk : 50 < k) : spec_InfluenceOf.f k n w i = some ((cntN (chg w i) (2 ^ n) : Nat) : Int) := by
  have hM := pow_le ht.1
  have hn := ht.1
  obtain ⟨k,rfl⟩ : ∃ m,k = m + 1 := ⟨k - 1,by omega⟩
  unfold spec_InfluenceOf.f
  rw [spec_isTable,isTab_of ht,pred_cast' (by omega) (by omega),l1In_some _ _ _ true (decide_eq_true (by omega))]
  simp only [Option.bind_some,if_true,Bool.not_true,spec_InfluenceOf.j0]
  rw [if_neg (by decide)]
  exact infl_loop ht hi (2 ^ n) k 0 (by omega) (by omega)
theorem spec_ban_loop {n w : Nat} (ht : Tab n w) (hg : game n w = true) : ∀ (d k i : Nat),i + d = n → d + 60 < k →
    spec_BanzhafNumbers.l0 k (powL (fun _ => 1) n w i) i n w = some (powL (fun _ => 1) n w n) := by
  have hn := ht.1
  intro d
  induction d with
  | zero =>
    intro k i hi hk
    obtain ⟨k,rfl⟩ : ∃ m,k = m + 1 := ⟨k - 1,by omega⟩
    obtain rfl : i = n := by omega
    simp only [spec_BanzhafNumbers.l0]
    rw [spec_game ht (by omega),hg]
    simp only [Option.bind_some,if_true]
    rw [if_neg (by omega)]
  | succ d ih =>
    intro k i hi hk
    obtain ⟨k,rfl⟩ : ∃ m,k = m + 1 := ⟨k - 1,by omega⟩
    have hl := powL_length (fun _ => 1) n w i
    have e := ih k (i + 1) (by omega) (by omega)
    have hc := cntN_le (fun x => !x.testBit i && chg w i x) (2 ^ n)
    have hM := pow_le ht.1
    rw [powL,powV_one] at e
    simp only [spec_BanzhafNumbers.l0]
    rw [spec_game ht (by omega),hg]
    simp only [Option.bind_some,if_true]
    rw [if_pos (by omega),spec_infl ht (by omega) (by omega),infl_even (by omega)]
    generalize cntN (fun x => !x.testBit i && chg w i x) (2 ^ n) = c at hc e
    simp only [Option.bind_some]
    have ed : Int.tdiv ((2 * c : Nat) : Int) 2 = (c : Int) := by
      have : Int.tdiv ((2 * c : Nat) : Int) ((2 : Nat) : Int) = ((2 * c / 2 : Nat) : Int) := rfl
      rw [show ((2 : Nat) : Int) = 2 from rfl] at this
      rw [this,Nat.mul_div_cancel_left c (by decide)]
    rw [if_pos (by omega),ed,wrap64_of (by omega) (by omega),wrap64_succ (by omega)]
    exact e
theorem spec_ban (a b : Int) {k : Nat} (hk : 80 < k) : spec_BanzhafNumbers.f k a b = some (if (isTab a b && game a.toNat b.toNat) = true then powL (fun _ => 1) a.toNat b.toNat a.toNat else []) := by
  unfold spec_BanzhafNumbers.f
  by_cases h : (isTab a b && game a.toNat b.toNat) = true
  · rw [if_pos h]
    rw [Bool.and_eq_true] at h
    obtain ⟨n,w,rfl,rfl,ht⟩ := tab_of h.1
    have := ht.1
    exact spec_ban_loop ht h.2 n k 0 (by omega) (by omega)
  · obtain ⟨k,rfl⟩ : ∃ m,k = m + 1 := ⟨k - 1,by omega⟩
    simp only [spec_BanzhafNumbers.l0]
    rw [spec_isGame a b (by omega)]
    simp only [Option.bind_some]
    rw [if_neg h,if_neg h]
theorem impl_ban {a b : Int} (h0 : -9223372036854775808 ≤ b) (h1 : b ≤ 9223372036854775807) : impl_BanzhafNumbers.f a b = some (if (isTab a b && game a.toNat b.toNat) = true then powL (fun _ => 1) a.toNat b.toNat a.toNat else []) := by
  unfold impl_BanzhafNumbers.f
  exact impl_powers h0 h1 (fun n w _ _ _ p _ => by unfold impl_BanzhafNumbers_1.f;rw [if_pos rfl];rfl) (fun _ => by decide)
theorem pow_length (cw : Nat → Nat) (a b : Int) : (if (isTab a b && game a.toNat b.toNat) = true then powL cw a.toNat b.toNat a.toNat else []).length ≤ 32 := by
  by_cases h : (isTab a b && game a.toNat b.toNat) = true
  · rw [if_pos h]
    rw [Bool.and_eq_true] at h
    obtain ⟨n,w,rfl,rfl,ht⟩ := tab_of h.1
    have := ht.1
    rw [powL_length,Int.toNat_natCast]
    omega
  · rw [if_neg h];exact Nat.zero_le _
def facts : List Int := [1,1,2,6,24,120]
def cwS (n p : Nat) : Nat := if p < n ∧ n ≤ 5 then (rd facts p * rd facts ((n - 1 - p : Nat) : Int)).toNat else 0
theorem cwS_le (n p : Nat) : cwS n p ≤ 1000 := by
  unfold cwS
  split
  next h =>
    have hh : ∀ n : Fin 6,∀ p : Fin 5,p.val < n.val → (rd facts p.val * rd facts ((n.val - 1 - p.val : Nat) : Int)).toNat ≤ 1000 := by decide +kernel
    exact hh ⟨n,by omega⟩ ⟨p,by omega⟩ h.1
  next => omega
theorem cwS_impl {n p : Nat} (hn : n ≤ 5) (hp : p < n) : impl_BanzhafNumbers_1.f (p : Nat) (n : Nat) = some ((cwS n p : Nat) : Int) := by
  have hh : ∀ n : Fin 6,∀ p : Fin 5,p.val < n.val → impl_BanzhafNumbers_1.f ((p.val : Nat) : Int) ((n.val : Nat) : Int) = some ((cwS n.val p.val : Nat) : Int) := by decide +kernel
  exact hh ⟨n,by omega⟩ ⟨p,by omega⟩ hp
theorem cwS_spec {n p : Nat} (hn : n ≤ 5) (hp : p < n) : 0 ≤ wrap64 (wrap64 ((n : Int) - 1) - (p : Int)) ∧ wrap64 (wrap64 ((n : Int) - 1) - (p : Int)) < 6 ∧ wrap64 (rd facts p * rd facts (wrap64 (wrap64 ((n : Int) - 1) - (p : Int)))) = ((cwS n p : Nat) : Int) := by
  have hh : ∀ n : Fin 6,∀ p : Fin 5,p.val < n.val → 0 ≤ wrap64 (wrap64 (((n.val : Nat) : Int) - 1) - ((p.val : Nat) : Int)) ∧ wrap64 (wrap64 (((n.val : Nat) : Int) - 1) - ((p.val : Nat) : Int)) < 6 ∧ wrap64 (rd facts p.val * rd facts (wrap64 (wrap64 (((n.val : Nat) : Int) - 1) - ((p.val : Nat) : Int)))) = ((cwS n.val p.val : Nat) : Int) := by decide +kernel
  exact hh ⟨n,by omega⟩ ⟨p,by omega⟩ hp
theorem count_small {x k : Nat} (hx : x < 32) (hk : 10 ≤ k) : spec_l2Count.f k x = some ((pop x : Nat) : Int) := by
  have hh : ∀ x : Fin 32,spec_l2Count.f 10 ((x.val : Nat) : Int) = some ((pop x.val : Nat) : Int) := by decide +kernel
  exact at_rounds (g := fun K => spec_l2Count.f K x) (fun K => spec_l2Count.mono _ K) hk (hh ⟨x,hx⟩)
theorem or_flip {x i : Nat} (hx : x < 32) (hi : i < 5) (hb : x.testBit i = false) : x ||| 2 ^ i = x ^^^ 2 ^ i ∧ ins (del x i) i 0 = x ∧ ins (del x i) i 1 = x ^^^ 2 ^ i := by
  have hh : ∀ x : Fin 32,∀ i : Fin 5,x.val.testBit i.val = false → x.val ||| 2 ^ i.val = x.val ^^^ 2 ^ i.val ∧ ins (del x.val i.val) i.val 0 = x.val ∧ ins (del x.val i.val) i.val 1 = x.val ^^^ 2 ^ i.val := by decide +kernel
  exact hh ⟨x,hx⟩ ⟨i,hi⟩ hb
theorem mono_flip {n w i x : Nat} (ht : Tab n w) (hm : mono n w = true) (hi : i < n) (hx : x < 2 ^ n) (hb : x.testBit i = false) (hw : w.testBit x = true) : w.testBit (x ^^^ 2 ^ i) = true := by
  obtain ⟨m,rfl⟩ : ∃ m,n = m + 1 := ⟨n - 1,by omega⟩
  have hn := ht.1
  have hM := pow_le ht.1
  obtain ⟨_,e0,e1⟩ := or_flip (x := x) (i := i) (by omega) (by omega) hb
  have h := allN_iff.mp hm i hi
  unfold monoAt at h
  rw [beq_iff_eq,Nat.add_sub_cancel] at h
  have hd := del_lt (show m ≤ 4 by omega) hx hi
  have h2 := (ldiff_zero_iff _ _).mp h (del x i) (by rw [testBit_resW hd,e0];exact hw)
  rw [testBit_resW hd,e1] at h2
  exact h2
theorem shap_inner {n w i : Nat} (ht : Tab n w) (hm : mono n w = true) (hi : i < n) : ∀ (d k x : Nat),10 ≤ k → x + d = 2 ^ n →
    spec_ShapleyNumbers.l1 (k + d + 1) (powL (cwS n) n w i) facts i ((sumN (powQ (cwS n) w i) x : Nat) : Int) x n w = spec_ShapleyNumbers.l0 k (powL (cwS n) n w (i + 1)) facts ((i + 1 : Nat) : Int) n w := by
  have hM := pow_le ht.1
  have hn := ht.1
  have hq : ∀ x,powQ (cwS n) w i x ≤ 1000 := fun x => by unfold powQ;split <;> first | exact cwS_le _ _ | omega
  have hpi := pow_le_pow (show i ≤ 4 by omega)
  intro d
  induction d with
  | zero =>
    intro k x hk hx
    obtain rfl : x = 2 ^ n := by omega
    simp only [spec_ShapleyNumbers.l1,Nat.add_zero]
    rw [if_pos (Int.natCast_nonneg _),shl1_of (by omega),if_neg (by omega),if_pos (by rw [powL_length];omega),wrap64_succ (by omega)]
    rfl
  | succ d ih =>
    intro k x hk hx
    have hlt : x < 2 ^ n := by omega
    have hs := sumN_le hq x
    have hqx := hq x
    have hi' := ih k (x + 1) hk (by omega)
    rw [sumN] at hi'
    have hcnt := count_small (x := x) (k := k + d + 1) (by omega) (by omega)
    have hf := flip_lt hlt hi
    rw [show k + (d + 1) + 1 = (k + d + 1) + 1 by omega]
    rw [spec_ShapleyNumbers.l1,hcnt]
    rw [if_pos (Int.natCast_nonneg _),shl1_of (by omega),if_pos (by exact_mod_cast hlt),if_pos (Int.natCast_nonneg _),bit_cast (by omega) (by omega),wrap64_succ (by omega)]
    by_cases h1 : x.testBit i = true
    · rw [if_neg (fun h => by rw [bit_eq_zero,h1] at h;cases h)]
      have e : powQ (cwS n) w i x = 0 := by unfold powQ;rw [if_neg (fun h => by rw [h1] at h;cases h.1)]
      rw [e,Nat.add_zero] at hi'
      exact hi'
    · have h1 := Bool.eq_false_iff.mpr h1
      obtain ⟨eo,_,_⟩ := or_flip (x := x) (i := i) (by omega) (by omega) h1
      rw [if_pos (bit_eq_zero.mpr h1),if_pos (Int.natCast_nonneg _),bit_cast ht.lt63 (by omega)]
      by_cases h2 : w.testBit x = true
      · rw [if_neg (fun h => by rw [bit_eq_zero,h2] at h;cases h)]
        have e : powQ (cwS n) w i x = 0 := by unfold powQ;rw [h2,mono_flip ht hm hi hlt h1 h2];simp
        rw [e,Nat.add_zero] at hi'
        exact hi'
      · have h2 := Bool.eq_false_iff.mpr h2
        rw [if_pos (bit_eq_zero.mpr h2),shl1_of (by omega),or_cast (by omega) (by omega),if_pos (Int.natCast_nonneg _),eo,bit_cast ht.lt63 (by omega)]
        by_cases h3 : w.testBit (x ^^^ 2 ^ i) = true
        · rw [if_pos (bit_eq_one.mpr h3)]
          have hpl := pop_lt hn hi hlt h1
          have e : powQ (cwS n) w i x = cwS n (pop x) := by unfold powQ;rw [h1,h2,h3];rfl
          rw [e] at hi' hqx
          generalize pop x = p at hi' hqx hpl
          obtain ⟨c0,c1,c2⟩ := cwS_spec hn hpl
          rw [Option.bind_some,if_pos (Int.natCast_nonneg _),if_pos (show ((p : Nat) : Int) < ((facts.length : Nat) : Int) by show (p : Int) < 6;omega),if_pos c0,if_pos (show _ < ((facts.length : Nat) : Int) from c1),c2,wrap64_of (by omega) (by omega)]
          exact hi'
        · rw [if_neg (fun h => h3 (bit_eq_one.mp h))]
          have e : powQ (cwS n) w i x = 0 := by unfold powQ;rw [h2,Bool.eq_false_iff.mpr h3];simp
          rw [e,Nat.add_zero] at hi'
          exact hi'
theorem shap_outer {n w : Nat} (ht : Tab n w) (hm : mono n w = true) : ∀ (d k i : Nat),i + d = n →
    spec_ShapleyNumbers.l0 (k + 10 + d * (2 ^ n + 2) + 1) (powL (cwS n) n w i) facts i n w = some (powL (cwS n) n w n) := by
  have hn := ht.1
  intro d
  induction d with
  | zero =>
    intro k i hi
    obtain rfl : i = n := by omega
    rw [Nat.zero_mul,Nat.add_zero,spec_ShapleyNumbers.l0,if_neg (by omega)]
  | succ d ih =>
    intro k i hi
    rw [show k + 10 + (d + 1) * (2 ^ n + 2) + 1 = (k + 10 + d * (2 ^ n + 2) + 1) + 2 ^ n + 1 + 1 by rw [Nat.succ_mul];omega,spec_ShapleyNumbers.l0,if_pos (by omega)]
    have h := shap_inner ht hm (show i < n by omega) (2 ^ n) (k + 10 + d * (2 ^ n + 2) + 1) 0 (by omega) (by omega)
    rw [show ((sumN (powQ (cwS n) w i) 0 : Nat) : Int) = 0 from rfl] at h
    exact h.trans (ih k (i + 1) (by omega))
theorem spec_shap (a b : Int) : spec_ShapleyNumbers.f 600 a b = some (if (isTab a b && game a.toNat b.toNat) = true then powL (cwS a.toNat) a.toNat b.toNat a.toNat else []) := by
  unfold spec_ShapleyNumbers.f
  rw [spec_isGame a b (by decide)]
  simp only [Option.bind_some]
  by_cases h : (isTab a b && game a.toNat b.toNat) = true
  · rw [if_pos h,if_pos h]
    rw [Bool.and_eq_true] at h
    obtain ⟨n,w,rfl,rfl,ht⟩ := tab_of h.1
    have hn := ht.1
    have hM := pow_le ht.1
    have hg := h.2
    simp only [Int.toNat_natCast] at hg ⊢
    unfold game at hg
    rw [Bool.and_eq_true] at hg
    have hf : n * (2 ^ n + 2) ≤ 5 * 34 := Nat.mul_le_mul hn (by omega)
    have e := shap_outer ht hg.1 n (589 - n * (2 ^ n + 2)) 0 (by omega)
    rw [show 589 - n * (2 ^ n + 2) + 10 + n * (2 ^ n + 2) + 1 = 600 by omega] at e
    exact e
  · rw [if_neg h,if_neg h]
theorem impl_shap {a b : Int} (h0 : -9223372036854775808 ≤ b) (h1 : b ≤ 9223372036854775807) : impl_ShapleyNumbers.f a b = some (if (isTab a b && game a.toNat b.toNat) = true then powL (cwS a.toNat) a.toNat b.toNat a.toNat else []) := by
  unfold impl_ShapleyNumbers.f
  by_cases ha : a < 0
  · have hf : isTab a b = false := by
      apply Bool.eq_false_iff.mpr
      intro h
      obtain ⟨n,w,rfl,rfl,ht⟩ := tab_of h
      omega
    rw [if_pos ha,impl_isGame h0 h1 (by decide),hf,Bool.false_and,if_pos rfl,if_neg (by decide)]
  · rw [if_neg ha]
    exact impl_powers h0 h1 (fun n w e _ ht p hp => by rw [e,Int.toNat_natCast];exact cwS_impl ht.1 hp) (fun p => cwS_le _ p)
def fctN : Nat → Nat
  | 0 => 1
  | n + 1 => (n + 1) * fctN n
def banL (n w : Nat) : List Int := powL (fun _ => 1) n w n
def shaL (n w : Nat) : List Int := powL (cwS n) n w n
def powOne (b s v d : List Int) (c : Int) (i : Nat) : Bool := match laws_has.f 50 d (i : Int),laws_has.f 50 v (i : Int) with
  | some dd,some vv => ((rd b (i : Int) == 0) == dd) && (((rd s (i : Int) == 0) == dd) && (!vv || rd b (i : Int) == c))
  | _,_ => false
def powTwo (n w : Nat) (b s : List Int) (i q : Nat) : Bool :=
  (desire n w i q == 0 || (desire n w i q == 1 || (desire n w i q == -1 || desire n w i q == 2))) &&
  ((!(desire n w i q == 0) || (rd b (i : Int) == rd b (q : Int) && rd s (i : Int) == rd s (q : Int))) &&
  ((!(desire n w i q == 1) || (decide (rd b (q : Int) ≤ rd b (i : Int)) && decide (rd s (q : Int) ≤ rd s (i : Int)))) &&
  ((!(decide (desire n w i q < 2)) || desire n w q i == -(desire n w i q)) && (exch n w i q == decide (desire n w i q = 0)))))
def powOk (n w : Nat) (b s v d : List Int) : Bool := (decide (1 ≤ n) && laws_total.f 50 s == some ((fctN n : Nat) : Int)) && ((v.length == 0 || proper n w) &&
  (allN (powOne b s v d ((cnt w : Nat) : Int)) n && allN (fun i => allN (powTwo n w b s i) n) n))
def powAt (n w : Nat) : Bool := powOk n w (banL n w) (shaL n w) (vetoes n w) (dummies n w)
theorem pow_small : ∀ n : Fin 4,∀ w : Fin 256,w.val < 2 ^ 2 ^ n.val → (!game n.val w.val || powAt n.val w.val) = true := by decide +kernel
def fastI (w m i : Nat) : Bool := ((w &&& m) <<< i) &&& w == (w &&& m) <<< i
def fastG (w : Nat) : Bool := fastI w 21845 1 && (fastI w 13107 2 && (fastI w 3855 4 && (fastI w 255 8 && (!w.testBit 0 && w.testBit 15))))
theorem flip_up : ∀ x : Fin 16,∀ i : Fin 4,x.val.testBit i.val = false → x.val ^^^ 2 ^ i.val = x.val + 2 ^ i.val := by decide
theorem fastI_of {w m i : Nat} (ht : Tab 4 w) (hm : mono 4 w = true) (hi : i < 4) (hlt : m < 2 ^ 16) (hb : ∀ x : Fin 16,m.testBit x.val = true → x.val.testBit i = false) : fastI w m (2 ^ i) = true := by
  unfold fastI
  rw [beq_iff_eq]
  refine Nat.eq_of_testBit_eq fun j => ?_
  rw [Nat.testBit_and,Nat.testBit_shiftLeft,Nat.testBit_and]
  by_cases hj : j ≥ 2 ^ i
  · obtain ⟨x,hx⟩ : ∃ x,x = j - 2 ^ i := ⟨_,rfl⟩
    rw [decide_eq_true hj,Bool.true_and,← hx]
    cases h1 : w.testBit x with
    | false => rfl
    | true =>
      cases h2 : m.testBit x with
      | false => rfl
      | true =>
        have hx16 : x < 16 := by
          apply Classical.byContradiction
          intro hn
          rw [testBit_ge hlt (by omega)] at h2
          cases h2
        have hxb := hb ⟨x,hx16⟩ h2
        have := mono_flip ht hm hi (show x < 2 ^ 4 from hx16) hxb h1
        have e := flip_up ⟨x,hx16⟩ ⟨i,hi⟩ hxb
        dsimp only at e
        rw [e,show x + 2 ^ i = j by omega] at this
        rw [this];rfl
  · rw [decide_eq_false hj];rfl
theorem fastG_of {w : Nat} (ht : Tab 4 w) (hg : game 4 w = true) : fastG w = true := by
  unfold game at hg
  rw [Bool.and_eq_true] at hg
  have h0 := fastI_of (m := 21845) (i := 0) ht hg.1 (by decide) (by decide) (by decide)
  have h1 := fastI_of (m := 13107) (i := 1) ht hg.1 (by decide) (by decide) (by decide)
  have h2 := fastI_of (m := 3855) (i := 2) ht hg.1 (by decide) (by decide) (by decide)
  have h3 := fastI_of (m := 255) (i := 3) ht hg.1 (by decide) (by decide) (by decide)
  unfold fastG
  rw [show fastI w 21845 1 = true from h0,show fastI w 13107 2 = true from h1,show fastI w 3855 4 = true from h2,show fastI w 255 8 = true from h3]
  exact hg.2
theorem pow_four : ∀ a : Fin 256,∀ b : Fin 256,(!fastG (256 * a.val + b.val) || powAt 4 (256 * a.val + b.val)) = true := by decide +kernel
theorem pow_all {n w : Nat} (hn : n ≤ 4) (ht : Tab n w) (hg : game n w = true) : powAt n w = true := by
  have h : (!game n w || powAt n w) = true := by
    by_cases h4 : n = 4
    · subst h4
      have hw : w < 65536 := ht.2
      have := pow_four ⟨w / 256,by omega⟩ ⟨w % 256,by omega⟩
      dsimp only at this
      rw [show 256 * (w / 256) + w % 256 = w by omega,fastG_of ht hg] at this
      rw [hg]
      exact this
    · have hp : 2 ^ 2 ^ n ≤ 2 ^ 2 ^ 3 := pow_le_pow (pow_le_pow (show n ≤ 3 by omega))
      have hw := ht.2
      have hw2 : w < 256 := Nat.lt_of_lt_of_le hw hp
      exact pow_small ⟨n,by omega⟩ ⟨w,hw2⟩ hw
  rw [hg] at h
  exact h
theorem l17_some {k : Nat} {b : List Int} {i : Int} (h : Int) (hl : b.length ≤ 9223372036854775807) (hi : 0 ≤ i) (hk : 2000 < k) : AnyS (spec_l17Draw.f k b i h) := by
  obtain ⟨c,i1,h1,e1,hi1⟩ := once_some h 5 hl hi
  unfold spec_l17Draw.f
  rw [e1,Option.bind_some]
  dsimp only
  by_cases hc : c = true
  · obtain ⟨a,w,i2,h2,e2,q0,q1,q2,q3⟩ := any_strong (k := k) h1 hl hi1 (by omega)
    rw [if_pos hc,e2,Option.bind_some]
    exact ⟨_,_,_,_,rfl,q0,q1,q2,q3⟩
  · obtain ⟨x,i2,h2,e2,hi2,hx0,hx4,_⟩ := below_some h1 4 hl hi1
    obtain ⟨x,rfl⟩ := Int.eq_ofNat_of_zero_le hx0
    have hx : x < 4 := by have := hx4 (by decide);omega
    have hw : wrap64 (1 + (x : Int)) = ((x + 1 : Nat) : Int) := by rw [wrap64_of (by omega) (by omega)];omega
    obtain ⟨w,i3,h3,e3,hi3,hw0,hw1,_⟩ := draw_some (n := x + 1) (k := k) h2 hl (by omega) hi2 (by omega)
    have hM := pow_le (n := x + 1) (by omega)
    have hp := pow_pos (x + 1)
    rw [if_neg hc,e2,Option.bind_some]
    dsimp only
    rw [hw,e3,Option.bind_some,if_pos (Int.natCast_nonneg _),shlu1_of (by omega),wrapu_of (by omega) (by omega),if_pos (by omega),spec_hull _ _ (by omega),Option.bind_some]
    dsimp only
    split
    next hT =>
      have hlt := hullW_lt (x + 1) (Go.bits .or .i64 (wrap64 (w - (Go.bits .and .i64 w 1))) (shl .i64 1 (((2 ^ (x + 1) : Nat) : Int) - 1))).toNat
      have hF := full_le (n := x + 1) (by omega)
      rw [Int.toNat_natCast]
      exact ⟨_,_,_,_,rfl,hi3,by dsimp only;omega,by dsimp only;omega,.inl (by dsimp only;omega)⟩
    next => exact ⟨_,_,_,_,rfl,hi3,by dsimp only;omega,by dsimp only;omega,.inl (by dsimp only;omega)⟩
def GameR (o : Option (Int × Int)) : Prop := ∃ a w : Int,o = some (a,w) ∧ (-9223372036854775808 ≤ w ∧ w ≤ 9223372036854775807) ∧ (a ≤ 4 ∨ 5 < a ∨ (0 ≤ w ∧ w ≤ 65535))
theorem drawShap_some {k : Nat} {b : List Int} (hl : b.length ≤ 9223372036854775807) (hk : 5000 < k) : GameR (spec_DrawShapleyNumbers.f k b) := by
  obtain ⟨h,e⟩ := new_some hl (k := k) (by omega)
  obtain ⟨a,w,i2,h2,e2,_,_,q1,q2⟩ := l17_some (k := k) h hl (Int.le_refl 0) (by omega)
  unfold spec_DrawShapleyNumbers.f
  rw [e,Option.bind_some,e2,Option.bind_some]
  exact ⟨_,_,rfl,q1,q2⟩
theorem drawProper_some {k : Nat} {b : List Int} (hl : b.length ≤ 9223372036854775807) (hk : 5000 < k) : GameR (spec_DrawIsProperGame.f k b) := by
  obtain ⟨h,e⟩ := new_some hl (k := k) (by omega)
  obtain ⟨a,w,i2,h2,e2,_,_,q1,q2⟩ := l17_some (k := k) h hl (Int.le_refl 0) (by omega)
  unfold spec_DrawIsProperGame.f
  rw [e,Option.bind_some,e2,Option.bind_some]
  exact ⟨_,_,rfl,q1,q2⟩
theorem drawDesire_some {k : Nat} {b : List Int} (hl : b.length ≤ 9223372036854775807) (hk : 5000 < k) : ∃ a w i j : Int,spec_DrawDesirabilityOf.f k b = some (a,w,i,j) ∧ (-9223372036854775808 ≤ w ∧ w ≤ 9223372036854775807) := by
  obtain ⟨h,e⟩ := new_some hl (k := k) (by omega)
  obtain ⟨a,w,i2,h2,e2,hi2,_,q1,q2⟩ := l17_some (k := k) h hl (Int.le_refl 0) (by omega)
  obtain ⟨x,i3,h3,e3,hi3,_⟩ := below_some h2 6 hl hi2
  obtain ⟨y,i4,h4,e4,_⟩ := below_some h3 5 hl hi3
  unfold spec_DrawDesirabilityOf.f
  rw [e,Option.bind_some,e2,Option.bind_some,e3,Option.bind_some,e4,Option.bind_some]
  exact ⟨_,_,_,_,rfl,q1⟩
theorem game_le {n w : Nat} (ht : Tab n w) (hg : game n w = true) (h : (n : Int) ≤ 4 ∨ 5 < (n : Int) ∨ (0 ≤ (w : Int) ∧ (w : Int) ≤ 65535)) : n ≤ 4 := by
  have hn := ht.1
  apply Classical.byContradiction
  intro h4
  obtain rfl : n = 5 := by omega
  unfold game at hg
  rw [Bool.and_eq_true,Bool.and_eq_true] at hg
  have h31 : w.testBit 31 = true := hg.2.2
  rw [testBit_ge (w := w) (m := 16) (i := 31) (by show w < 65536;omega) (by decide)] at h31
  cases h31
theorem fc_eq : ∀ n,fcN n = fctN n := by
  intro n
  induction n with
  | zero => rfl
  | succ n ih => rw [fcN,fctN,ih]
theorem pow_game {n w : Nat} {k : Nat} (hk : 100 ≤ k) (hn : n ≤ 4) (ht : Tab n w) (hg : game n w = true) : PowGame k n (w : Int) (shaL n w) (banL n w) (vetoes n w) (dummies n w) (proper n w) ((cnt w : Nat) : Int) := by
  have h := pow_all hn ht hg
  have hlt := ht.lt63
  unfold powAt powOk at h
  rw [Bool.and_eq_true,Bool.and_eq_true,Bool.and_eq_true,Bool.and_eq_true,decide_eq_true_eq,beq_iff_eq,Bool.or_eq_true,beq_iff_eq,allN_iff,allN_iff] at h
  obtain ⟨⟨h1,h2⟩,h3,h4,h5⟩ := h
  have hT := isTab_of ht
  have hdes : ∀ i q : Nat,i < n → q < n → impl_DesirabilityOf.f k (n : Int) (w : Int) (i : Int) (q : Int) = some (desire n w i q) := fun i q hi hq => by
    rw [impl_des (by omega) (by omega) _ _ (by omega)]
    unfold desB
    rw [hT,Int.toNat_natCast,Int.toNat_natCast,hg,decide_eq_true (by omega),decide_eq_true (by omega),Int.toNat_natCast,Int.toNat_natCast]
    rfl
  exact {
    n1 := h1
    n5 := by omega
    tot := by rw [fc_eq];exact at_rounds (g := fun K => laws_total.f K (shaL n w)) (fun K => laws_total.mono _ K) (show 50 ≤ k by omega) h2
    ls := powL_length _ _ _ _
    lb := powL_length _ _ _ _
    vp := fun hv => h3.resolve_left (by omega)
    cnt := by
      unfold impl_CountOnes.f
      rw [impl_isTable (by omega) (by omega),Option.bind_some,hT,if_pos rfl,cnt_ones ht.lt,Option.bind_some]
    one := fun i hi => by
      have hb := h4 i hi
      unfold powOne at hb
      cases e1 : laws_has.f 50 (dummies n w) (i : Int) with
      | none => rw [e1] at hb;cases hb
      | some dd =>
        cases e2 : laws_has.f 50 (vetoes n w) (i : Int) with
        | none => rw [e1,e2] at hb;cases hb
        | some vv =>
          rw [e1,e2] at hb
          dsimp only at hb
          rw [Bool.and_eq_true,Bool.and_eq_true,beq_iff_eq,beq_iff_eq,Bool.or_eq_true,Bool.not_eq_true',beq_iff_eq] at hb
          refine ⟨dd,vv,at_rounds (g := fun K => laws_has.f K (dummies n w) (i : Int)) (fun K => laws_has.mono _ _ K) (show 50 ≤ k by omega) e1,at_rounds (g := fun K => laws_has.f K (vetoes n w) (i : Int)) (fun K => laws_has.mono _ _ K) (show 50 ≤ k by omega) e2,hb.1,hb.2.1,fun hvv => hb.2.2.resolve_left (by rw [hvv];decide)⟩
    two := fun i q hi hq => by
      have hb := allN_iff.mp (h5 i hi) q hq
      unfold powTwo at hb
      simp only [Bool.and_eq_true,Bool.or_eq_true,beq_iff_eq,Bool.not_eq_true',decide_eq_true_eq,beq_eq_false_iff_ne,decide_eq_false_iff_not] at hb
      obtain ⟨b1,b2,b3,b4,b5⟩ := hb
      refine ⟨desire n w i q,hdes i q hi hq,b1,fun e => b2.resolve_left (fun h => h e),fun e => ?_,fun e => ?_,?_⟩
      · have := b3.resolve_left (fun h => h e)
        omega
      · rw [hdes q i hq hi,b4.resolve_left (fun h => h e)]
      · rw [impl_exch (by omega) (by omega) _ _ (by omega)]
        unfold exchB
        rw [hT,decide_eq_true (by omega),decide_eq_true (by omega),Int.toNat_natCast,Int.toNat_natCast,Int.toNat_natCast,Int.toNat_natCast,b5]
        rfl }
theorem FnPower (l : List Int) (_ : l.length ≤ maxLen) (hy : l.length * 1 ≤ 140737488351232) (_ : ∀ x ∈ l,(Lit.int .u8 x).wf = true) : ∃ k,laws_FnPower.f k l = some true := by
  refine ⟨70000,?_⟩
  unfold laws_FnPower.f
  refine if_pos ?_
  by_cases hb : (l.length : Int) > 1048576
  · left
    unfold laws_big.f
    rw [decide_eq_true hb]
  · right
    have hl : l.length ≤ 9223372036854775807 := by omega
    obtain ⟨a,u,hd,⟨hu0,hu1⟩,hs⟩ := drawShap_some (k := 70000) hl (by decide)
    obtain ⟨g1,g2,i,j,hdd,hg0,hg1⟩ := drawDesire_some (k := 70000) hl (by decide)
    obtain ⟨h1,h2,hdh,⟨hh0,hh1⟩,_⟩ := drawProper_some (k := 70000) hl (by decide)
    have ls := pow_length (cwS a.toNat) a u
    have lb := pow_length (fun _ => 1) a u
    have lv := game_length a u (veto a.toNat u.toNat)
    have ld := game_length a u (fun i => !dep a.toNat u.toNat i)
    have hsh : spec_ShapleyNumbers.f 70000 a u = _ := at_rounds (g := fun K => spec_ShapleyNumbers.f K a u) (fun K => spec_ShapleyNumbers.mono _ _ K) (show 600 ≤ 70000 by decide) (spec_shap a u)
    refine ⟨a,u,if (isTab a u && game a.toNat u.toNat) = true then shaL a.toNat u.toNat else [],if (isTab a u && game a.toNat u.toNat) = true then banL a.toNat u.toNat else [],if (isTab a u && game a.toNat u.toNat) = true then vetoes a.toNat u.toNat else [],if (isTab a u && game a.toNat u.toNat) = true then dummies a.toNat u.toNat else [],isTab a u && game a.toNat u.toNat,isTab a u && proper a.toNat u.toNat,g1,g2,i,j,desB g1 g2 i j,h1,h2,isTab h1 h2 && proper h1.toNat h2.toNat,?_⟩
    exact {
      small := by unfold laws_big.f;rw [decide_eq_false hb]
      draw := hd
      sh := impl_shap hu0 hu1
      sh2 := hsh
      ss := same_ints _ (Nat.lt_of_le_of_lt ls (by decide)) (Nat.lt_of_le_of_lt ls (by decide))
      ba := impl_ban hu0 hu1
      ba2 := spec_ban a u (by decide)
      bs := same_ints _ (Nat.lt_of_le_of_lt lb (by decide)) (Nat.lt_of_le_of_lt lb (by decide))
      ve := impl_vetoes hu0 hu1 (by decide)
      ve2 := spec_vetoes a u (by decide)
      vs := same_ints _ (Nat.lt_of_le_of_lt lv (by decide)) (Nat.lt_of_le_of_lt lv (by decide))
      du := impl_dummy hu0 hu1 (by decide)
      du2 := spec_dummy a u (by decide)
      ds := same_ints _ (Nat.lt_of_le_of_lt ld (by decide)) (Nat.lt_of_le_of_lt ld (by decide))
      ga := impl_isGame hu0 hu1 (by decide)
      ga2 := spec_isGame a u (by decide)
      pr := impl_isProper hu0 hu1 (by decide)
      pr2 := spec_isProper a u (by decide)
      game := fun h => by
        have h2 := h
        rw [Bool.and_eq_true] at h2
        obtain ⟨n,w,rfl,rfl,ht⟩ := tab_of h2.1
        rw [if_pos h,if_pos h,if_pos h,if_pos h,h2.1,Bool.true_and]
        have hg := h2.2
        rw [Int.toNat_natCast,Int.toNat_natCast] at hg ⊢
        exact ⟨n,_,rfl,pow_game (by decide) (game_le ht hg hs) ht hg⟩
      dd := hdd
      de := impl_des hg0 hg1 _ _ (by decide)
      de2 := spec_des _ _ _ _ (by decide)
      dh := hdh
      ph := impl_isProper hh0 hh1 (by decide)
      ph2 := spec_isProper h1 h2 (by decide) }
end Go.Proofs.Ytmmdcbdchifniaa.U
