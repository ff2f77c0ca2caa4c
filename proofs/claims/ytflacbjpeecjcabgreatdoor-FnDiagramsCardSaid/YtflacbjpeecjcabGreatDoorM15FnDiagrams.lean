/- Walks of Go functions and lemmas on what they compute, for the row of FnDiagrams (a part of several): each call ends as the Lean function of its name tells; the conditions are those of each theorem. -/
import Derived.Test.YtflacbjpeecjcabGreatDoorM14FnDiagrams
set_option linter.unusedVariables false
set_option linter.unusedSimpArgs false
set_option maxHeartbeats 16000000
set_option maxRecDepth 100000
open Go.RowKit Go.Proofs.YtflacbjpeecjcabGreatDoorW.PrintWords Go.Proofs.YtflacbjpeecjcabGreatDoorW.PrintLast Go.Proofs.YtflacbjpeecjcabGreatDoorW.PrintMore
namespace Go.Proofs.YtflacbjpeecjcabGreatDoor.U
open Go.Proofs.YtflacbjpeecjcabGreatDoor.F Go.Proofs.YtflacbjpeecjcabGreatDoor.B
def resW (m w i b:Nat):Nat:=tabN (fun x=>w.testBit (ins x i b)) (2 ^ m)
theorem resW_lt (m w i b:Nat):resW m w i b < 2 ^ 2 ^ m:=tabN_lt _ _
theorem testBit_resW {m w i b x:Nat} (hx:x < 2 ^ m):(resW m w i b).testBit x = w.testBit (ins x i b):=by unfold resW;rw [testBit_tabN];simp [hx]
theorem impl_restrict {m w i b:Nat} (ht:Tab (m + 1) w) (hi:i < m + 1) (hb:b ≤ 1):impl_Table_restrict.f ((m + 1:Nat):Int) w i b = some ((m:Int),((resW m w i b:Nat):Int)):=by
 have:=ht.lt;have:=ht.1;unfold impl_Table_restrict.f;rw [if_pos (by omega)];simp only [Int.toNat_natCast,Nat.add_sub_cancel];rw [show (((m + 1:Nat):Int) - 1) = (m:Int) by omega]
 rfl
end Go.Proofs.YtflacbjpeecjcabGreatDoor.U
namespace Go.Proofs.YtflacbjpeecjcabGreatDoor.U
open Go.Proofs.YtflacbjpeecjcabGreatDoor.F Go.Proofs.YtflacbjpeecjcabGreatDoor.B
def dep (n w i:Nat):Bool:=resW (n - 1) w i 0 != resW (n - 1) w i 1
theorem int_ne (a b:Nat):(((a:Nat):Int) != ((b:Nat):Int)) = (a != b):=by
 by_cases h:a = b
 ·subst h;simp
 ·have:((a:Int)) ≠ b:=by omega
  rw [bne_iff_ne.mpr h,bne_iff_ne.mpr this]
theorem impl_depends {n w i:Nat} (ht:Tab n w) (hi:i < n):impl_Table_depends.f n w i = some (dep n w i):=by
 obtain ⟨m,rfl⟩:∃ m,n = m + 1:=⟨n - 1,by omega⟩;have e0:impl_Table_restrict.f ((m + 1:Nat):Int) w i 0 = some ((m:Int),((resW m w i 0:Nat):Int)):=impl_restrict (b:=0) ht (by omega) (by omega);have e1:impl_Table_restrict.f ((m + 1:Nat):Int) w i 1 = some ((m:Int),((resW m w i 1:Nat):Int)):=impl_restrict (b:=1) ht (by omega) (by omega);unfold impl_Table_depends.f;rw [e0];simp only [Option.bind_some];rw [e1];simp only [Option.bind_some,beq_self_eq_true,Bool.not_true,Bool.false_or]
 congr 1
 exact int_ne _ _
end Go.Proofs.YtflacbjpeecjcabGreatDoor.U
namespace Go.Proofs.YtflacbjpeecjcabGreatDoor.U
open Go.Proofs.YtflacbjpeecjcabGreatDoor.F Go.Proofs.YtflacbjpeecjcabGreatDoor.B
theorem erase_mem {l:List Int} {a v:Int} (h:v ∈ l) (hne:v ≠ a):v ∈ l.erase a:=(List.mem_erase_of_ne hne).mpr h
theorem nodup_len:∀ (n:Nat) (l:List Int),l.Nodup → (∀ v ∈ l,0 ≤ v ∧ v < (n:Int)) → l.length ≤ n:=by
 intro n
 induction n with
 | zero =>
  intro l _ h
  cases l with
  | nil=>exact Nat.le_refl _
  | cons a l=>have:=h a (List.mem_cons_self ..);omega
 | succ n ih =>
  intro l hd h
  by_cases hm:(n:Int) ∈ l
  ·have h1:=ih (l.erase (n:Int)) (hd.erase _) (fun v hv=>by
    have h2:=(hd.mem_erase_iff.mp hv);have h3:=h v h2.2;have h4:=h2.1;omega)
   rw [List.length_erase_of_mem hm] at h1;omega
  ·have h1:=ih l hd (fun v hv=>by
    have h3:=h v hv;have h4:v ≠ (n:Int):=fun e=>hm (e ▸ hv)
    omega)
   omega
theorem nodup_all:∀ (n:Nat) (l:List Int),l.Nodup → (∀ v ∈ l,0 ≤ v ∧ v < (n:Int)) → l.length = n → ∀ v:Nat,v < n → (v:Int) ∈ l:=by
 intro n
 induction n with
 | zero=>intro l _ _ _ v hv;omega
 | succ n ih =>
  intro l hd h hl v hv
  by_cases hm:(n:Int) ∈ l
  ·by_cases hvn:v = n
   ·rw [hvn];exact hm
   ·have h1:=ih (l.erase (n:Int)) (hd.erase _) (fun v hv=>by
     have h2:=(hd.mem_erase_iff.mp hv);have h3:=h v h2.2;have h4:=h2.1;omega) (by rw [List.length_erase_of_mem hm];omega) v (by omega)
    exact List.mem_of_mem_erase h1
  ·have h1:=nodup_len n l hd (fun v hv=>by
    have h3:=h v hv;have h4:v ≠ (n:Int):=fun e=>hm (e ▸ hv)
    omega)
   omega
theorem all_perm:∀ (n:Nat) (l:List Int),(∀ v:Nat,v < n → (v:Int) ∈ l) → l.length = n → l.Nodup ∧ ∀ v ∈ l,0 ≤ v ∧ v < (n:Int):=by
 intro n
 induction n with
 | zero =>
  intro l _ hl
  cases l with
  | nil=>exact ⟨List.Pairwise.nil,fun v hv=>by cases hv⟩
  | cons a l=>cases hl
 | succ n ih =>
  intro l h hl;have hm:=h n (by omega);have hp:=List.perm_cons_erase hm;obtain ⟨h1,h2⟩:=ih (l.erase (n:Int)) (fun v hv=>erase_mem (h v (by omega)) (by omega)) (by rw [List.length_erase_of_mem hm];omega)
  constructor
  ·rw [hp.nodup_iff,List.nodup_cons]
   exact ⟨fun q=>by have:=h2 _ q;omega,h1⟩
  ·intro v hv
   rcases List.mem_cons.mp (hp.mem_iff.mp hv) with rfl | hv
   ·omega
   ·have:=h2 v hv
    omega
def goodAt (o:List Int) (n:Int) (i:Nat):Prop:=(0 ≤ rd o i ∧ rd o i < n) ∧ ∀ j:Nat,j < i → rd o j ≠ rd o i
theorem spec_perm_l1 {o:List Int} {n:Int} {i:Nat} (hl:o.length ≤ 1048576) (hi:i < o.length):∀ (d k j:Nat),j + d = i → d < k →
  (spec_l3Perm.l1 k o n i j = some false ∧ ∃ j':Nat,j ≤ j' ∧ j' < i ∧ rd o j' = rd o i) ∨ (spec_l3Perm.l1 k o n i j = spec_l3Perm.l0 (k - d - 1) o n ((i + 1:Nat):Int) ∧ ∀ j':Nat,j ≤ j' → j' < i → rd o j' ≠ rd o i):=by
 intro d
 induction d with
 | zero =>
  intro k j hj hk;obtain ⟨k,rfl⟩:∃ m,k = m + 1:=⟨k - 1,by omega⟩
  right
  simp only [spec_l3Perm.l1];rw [if_neg (by omega),wrap64_succ (by omega)];exact ⟨rfl,fun j' h1 h2=>by omega⟩
 | succ d ih =>
  intro k j hj hk;obtain ⟨k,rfl⟩:∃ m,k = m + 1:=⟨k - 1,by omega⟩;simp only [spec_l3Perm.l1];rw [if_pos (by omega),if_pos (by omega),if_pos (by omega),if_pos (by omega),if_pos (by omega)]
  by_cases he:rd o j = rd o i
  ·left
   rw [if_pos he];exact ⟨rfl,j,Nat.le_refl _,by omega,he⟩
  ·rw [if_neg he,wrap64_succ (by omega),show k + 1 - (d + 1) - 1 = k - d - 1 by omega]
   rcases ih k (j + 1) (by omega) (by omega) with ⟨h1,j',h2,h3,h4⟩ | ⟨h1,h2⟩
   ·exact .inl ⟨h1,j',by omega,h3,h4⟩
   ·exact .inr ⟨h1,fun j' h3 h4=>by
     by_cases e:j' = j
     ·rw [e];exact he
     ·exact h2 j' (by omega) h4⟩
theorem spec_perm_l0 {o:List Int} {n:Int} (hl:o.length ≤ 1048576) (hn:-9223372036854775807 ≤ n ∧ n ≤ 9223372036854775807):∀ (d k i:Nat),i + d = o.length → d * 1048578 + 1 < k →
  ∃ b,spec_l3Perm.l0 k o n i = some b ∧ (b = true ↔ ((o.length:Int) = n ∧ ∀ i':Nat,i ≤ i' → i' < o.length → goodAt o n i')):=by
 intro d
 induction d with
 | zero =>
  intro k i hi hk;obtain ⟨k,rfl⟩:∃ m,k = m + 1:=⟨k - 1,by omega⟩;simp only [spec_l3Perm.l0];rw [if_neg (by omega)];refine ⟨_,rfl,?_⟩;rw [beq_iff_eq];exact ⟨fun h=>⟨h,fun i' h1 h2=>by omega⟩,fun h=>h.1⟩
 | succ d ih =>
  intro k i hi hk;obtain ⟨k,rfl⟩:∃ m,k = m + 1:=⟨k - 1,by omega⟩;rw [Nat.succ_mul] at hk;simp only [spec_l3Perm.l0];rw [if_pos (by omega),if_pos (by omega),wrap64_of (by omega) (by omega),l1In_some _ _ _ _ rfl,Option.bind_some]
  by_cases h1:0 ≤ rd o i ∧ rd o i ≤ n - 1
  ·rw [if_pos (decide_eq_true h1)]
   rcases spec_perm_l1 (n:=n) hl (show i < o.length by omega) i k 0 (by omega) (by generalize d * 1048578 = Q at hk;omega) with ⟨h2,j',_,h4,h5⟩ | ⟨h2,h3⟩
   ·refine ⟨false,h2,?_⟩
    constructor
    ·intro h;cases h
    ·intro h;exact absurd h5 ((h.2 i (Nat.le_refl _) (by omega)).2 j' h4)
   ·have h2':spec_l3Perm.l1 k o n (i:Nat) 0 = _:=h2
    rw [h2'];obtain ⟨b,hb,hbi⟩:=ih (k - i - 1) (i + 1) (by omega) (by generalize d * 1048578 = Q at hk ⊢;omega);refine ⟨b,hb,hbi.trans ?_⟩
    constructor
    ·rintro ⟨h6,h7⟩
     refine ⟨h6,fun i' h8 h9=>?_⟩
     by_cases e:i' = i
     ·subst e
      exact ⟨by omega,fun j hj=>h3 j (Nat.zero_le _) hj⟩
     ·exact h7 i' (by omega) h9
    ·rintro ⟨h6,h7⟩
     exact ⟨h6,fun i' h8 h9=>h7 i' (by omega) h9⟩
  ·rw [if_neg (fun q=>h1 (of_decide_eq_true q))]
   refine ⟨false,rfl,?_⟩
   constructor
   ·intro h;cases h
   ·intro h
    have:=(h.2 i (Nat.le_refl _) (by omega)).1;omega
def isPerm (o:List Int):Bool:=allN (fun v=>o.contains (v:Int)) o.length
theorem isPerm_iff (o:List Int):isPerm o = true ↔ ∀ v:Nat,v < o.length → (v:Int) ∈ o:=by
 unfold isPerm;rw [allN_iff];exact ⟨fun h v hv=>List.contains_iff_mem.mp (h v hv),fun h v hv=>List.contains_iff_mem.mpr (h v hv)⟩
theorem rd_get (o:List Int) {i:Nat} (h:i < o.length):rd o i = o[i]:=by
 unfold rd;rw [Int.toNat_natCast,List.getD_eq_getElem?_getD,List.getElem?_eq_getElem h]
 rfl
theorem rd_mem (o:List Int) {i:Nat} (h:i < o.length):rd o i ∈ o:=by rw [rd_get o h];exact List.getElem_mem h
theorem good_perm (o:List Int):(∀ i:Nat,i < o.length → goodAt o (o.length:Int) i) ↔ isPerm o = true:=by
 rw [isPerm_iff]
 constructor
 ·intro h
  refine nodup_all o.length o ?_ ?_ rfl
  ·rw [List.Nodup,List.pairwise_iff_getElem]
   intro i j hi hj hij;have h1:=(h j hj).2 i hij;rw [rd_get o hi,rd_get o hj] at h1;exact h1
  ·intro v hv
   obtain ⟨i,hi,rfl⟩:=List.getElem_of_mem hv;have h1:=(h i hi).1;rw [rd_get o hi] at h1;exact h1
 ·intro h i hi
  obtain ⟨h1,h2⟩:=all_perm o.length o h rfl;refine ⟨h2 _ (rd_mem o hi),fun j hj=>?_⟩;rw [rd_get o hi,rd_get o (by omega)];rw [List.Nodup,List.pairwise_iff_getElem] at h1;exact h1 j i (by omega) hi hj
theorem spec_perm {o:List Int} {n:Int} (hl:o.length ≤ 1048576) (hn:-9223372036854775807 ≤ n ∧ n ≤ 9223372036854775807) {k:Nat} (hk:1200000000000 < k):spec_l3Perm.f k o n = some (decide ((o.length:Int) = n) && isPerm o):=by
 unfold spec_l3Perm.f;have hq:o.length * 1048578 ≤ 1099513724928:=Nat.le_trans (Nat.mul_le_mul_right 1048578 hl) (by decide);obtain ⟨b,hb,hbi⟩:=spec_perm_l0 (n:=n) hl hn o.length k 0 (by omega) (by generalize o.length * 1048578 = Q at hq ⊢;omega);refine hb.trans (congrArg some ?_);rw [Bool.eq_iff_iff,hbi,Bool.and_eq_true,decide_eq_true_eq]
 constructor
 ·rintro ⟨h1,h2⟩
  refine ⟨h1,(good_perm o).mp fun i hi=>?_⟩;rw [h1];exact h2 i (Nat.zero_le _) hi
 ·rintro ⟨h1,h2⟩
  refine ⟨h1,fun i _ hi=>?_⟩;have:=(good_perm o).mpr h2 i hi
  rwa [h1] at this
def levF (o:List Int) (v:Int):Nat → Nat → Nat
 | 0,x=>x
 | d + 1,x=>if rd o x = v then x else levF o v d (x + 1)
def lev (o:List Int) (v:Int):Nat:=levF o v o.length 0
theorem levF_spec (o:List Int) (v:Int):∀ d x,x + d = o.length → x ≤ levF o v d x ∧ levF o v d x ≤ o.length ∧ (levF o v d x < o.length → rd o (levF o v d x:Nat) = v) ∧ ∀ i:Nat,x ≤ i → i < levF o v d x → rd o i ≠ v:=by
 intro d
 induction d with
 | zero=>intro x hx;rw [levF];exact ⟨Nat.le_refl _,by omega,fun h=>by omega,fun i h1 h2=>by omega⟩
 | succ d ih =>
  intro x hx;rw [levF]
  by_cases h:rd o x = v
  ·rw [if_pos h]
   exact ⟨Nat.le_refl _,by omega,fun _=>h,fun i h1 h2=>by omega⟩
  ·rw [if_neg h]
   obtain ⟨h1,h2,h3,h4⟩:=ih (x + 1) (by omega);refine ⟨by omega,h2,h3,fun i h5 h6=>?_⟩
   by_cases e:i = x
   ·rw [e];exact h
   ·exact h4 i (by omega) h6
theorem lev_le (o:List Int) (v:Int):lev o v ≤ o.length:=(levF_spec o v o.length 0 (by omega)).2.1
theorem rd_lev {o:List Int} {v:Int} (h:lev o v < o.length):rd o (lev o v:Nat) = v:=(levF_spec o v o.length 0 (by omega)).2.2.1 h
theorem lev_first {o:List Int} {v:Int} {i:Nat} (h:i < lev o v):rd o i ≠ v:=(levF_spec o v o.length 0 (by omega)).2.2.2 i (Nat.zero_le _) h
theorem lev_mem {o:List Int} {v:Int}:lev o v < o.length ↔ v ∈ o:=by
 constructor
 ·intro h
  have:=rd_mem o h
  rwa [rd_lev h] at this
 ·intro h
  obtain ⟨i,hi,rfl⟩:=List.getElem_of_mem h
  by_cases hlt:i < lev o o[i]
  ·exact absurd (rd_get o hi) (lev_first hlt)
  ·omega
theorem index_loop (o:List Int) (v:Int) (hl:o.length ≤ 1048576):∀ d k x,x + d = o.length → d < k → slices_Index_int_int.l0 k o v (o.length:Int) (x:Nat) = some (if levF o v d x < o.length then ((levF o v d x:Nat):Int) else -1):=by
 intro d
 induction d with
 | zero =>
  intro k x hx hk;obtain ⟨k,rfl⟩:∃ m,k = m + 1:=⟨k - 1,by omega⟩;simp only [slices_Index_int_int.l0];rw [if_neg (by omega),levF,if_neg (by omega)]
 | succ d ih =>
  intro k x hx hk;obtain ⟨k,rfl⟩:∃ m,k = m + 1:=⟨k - 1,by omega⟩;simp only [slices_Index_int_int.l0];rw [if_pos (by omega),if_pos (by omega),if_pos (by omega),levF]
  by_cases h:rd o x = v
  ·rw [if_pos h.symm,if_pos h,if_pos (by omega)]
  ·rw [if_neg (fun e=>h e.symm),if_neg h,wrap64_succ (by omega)]
   exact ih k (x + 1) (by omega) (by omega)
theorem index_some (o:List Int) (v:Int) {k:Nat} (hl:o.length ≤ 1048576) (hk:o.length < k):slices_Index_int_int.f k o v = some (if lev o v < o.length then ((lev o v:Nat):Int) else -1):=index_loop o v hl o.length k 0 (by omega) hk
theorem contains_some (o:List Int) (v:Int) {k:Nat} (hl:o.length ≤ 1048576) (hk:o.length < k):slices_Contains_int_int.f k o v = some (o.contains v):=by
 unfold slices_Contains_int_int.f;rw [index_some o v hl hk,Option.bind_some]
 congr 1
 rw [Bool.eq_iff_iff,decide_eq_true_eq,List.contains_iff_mem,← lev_mem]
 by_cases h:lev o v < o.length
 ·rw [if_pos h];exact ⟨fun _=>h,fun _=>Int.natCast_nonneg _⟩
 ·rw [if_neg h];exact ⟨fun q=>by omega,fun q=>absurd q h⟩
theorem order_loop (o:List Int) (hl:o.length ≤ 1048576):∀ (d k x:Nat),x + d = o.length → d + o.length < k → allN (fun v=>o.contains (v:Int)) x = true → impl_isOrder.l0 k o (o.length:Int) x = some (isPerm o):=by
 intro d
 induction d with
 | zero =>
  intro k x hx hk ha;obtain ⟨k,rfl⟩:∃ m,k = m + 1:=⟨k - 1,by omega⟩;simp only [impl_isOrder.l0];rw [if_neg (by omega)];unfold isPerm;rw [show o.length = x by omega,ha]
 | succ d ih =>
  intro k x hx hk ha;obtain ⟨k,rfl⟩:∃ m,k = m + 1:=⟨k - 1,by omega⟩;simp only [impl_isOrder.l0];rw [if_pos (by omega),contains_some o _ hl (by omega),Option.bind_some]
  cases hc:o.contains (x:Int) with
  | false =>
   rw [if_neg (by decide)];unfold isPerm;rw [allN_miss (show x < o.length by omega) hc]
  | true =>
   rw [if_pos rfl,wrap64_succ (by omega)];exact ih k (x + 1) (by omega) (by omega) (allN_next ha hc)
theorem order_some (o:List Int) (n:Int) {k:Nat} (hl:o.length ≤ 1048576) (hk:3000000 < k):impl_isOrder.f k o n = some (decide ((o.length:Int) = n) && isPerm o):=by
 unfold impl_isOrder.f
 by_cases h:(o.length:Int) = n
 ·rw [if_pos h,decide_eq_true h,Bool.true_and,← h]
  exact order_loop o hl o.length k 0 (by omega) (by omega) rfl
 ·rw [if_neg h,decide_eq_false h,Bool.false_and]
theorem order_short (o:List Int) {k:Nat} (hl:o.length ≤ 5) (hk:20 < k):impl_isOrder.f k o (o.length:Int) = some (isPerm o):=by
 unfold impl_isOrder.f;rw [if_pos rfl];exact order_loop o (by omega) o.length k 0 (by omega) (by omega) rfl
end Go.Proofs.YtflacbjpeecjcabGreatDoor.U
namespace Go.Proofs.YtflacbjpeecjcabGreatDoor.U
open Go.Proofs.YtflacbjpeecjcabGreatDoor.F Go.Proofs.YtflacbjpeecjcabGreatDoor.B
def stkW (n w i b:Nat):Nat:=tabN (fun x=>w.testBit (stk x i b)) (2 ^ n)
theorem stk_pow {n x i b:Nat} (hn:n ≤ 5) (hx:x < 2 ^ n) (hi:i < n) (hb:b ≤ 1):stk x i b < 2 ^ n:=by
 have h:∀ n:Fin 6,∀ x:Fin 32,∀ i:Fin 5,∀ b:Fin 2,x.val < 2 ^ n.val → i.val < n.val → stk x i b < 2 ^ n.val:=by decide +kernel
 have:=pow_le hn;exact h ⟨n,by omega⟩ ⟨x,by omega⟩ ⟨i,by omega⟩ ⟨b,by omega⟩ hx hi
theorem stkW_lt (n w i b:Nat):stkW n w i b < 2 ^ 2 ^ n:=tabN_lt _ _
theorem testBit_stkW {n w i b x:Nat} (hx:x < 2 ^ n):(stkW n w i b).testBit x = w.testBit (stk x i b):=by unfold stkW;rw [testBit_tabN];simp [hx]
theorem stkW_tab {n w i b:Nat} (hn:n ≤ 5):Tab n (stkW n w i b):=⟨hn,stkW_lt n w i b⟩
theorem stk_commute {x i j b c:Nat} (hx:x < 32) (hi:i < 5) (hj:j < 5) (hb:b ≤ 1) (hc:c ≤ 1) (hne:i ≠ j):stk (stk x i b) j c = stk (stk x j c) i b:=by
 have h:∀ x:Fin 32,∀ i:Fin 5,∀ j:Fin 5,∀ b:Fin 2,∀ c:Fin 2,i ≠ j → stk (stk x i b) j c = stk (stk x j c) i b:=by decide +kernel
 exact h ⟨x,hx⟩ ⟨i,hi⟩ ⟨j,hj⟩ ⟨b,by omega⟩ ⟨c,by omega⟩ (fun e=>hne (congrArg Fin.val e))
theorem stk_twice {x i b c:Nat} (hx:x < 32) (hi:i < 5) (hb:b ≤ 1) (hc:c ≤ 1):stk (stk x i b) i c = stk x i c:=by
 have h:∀ x:Fin 32,∀ i:Fin 5,∀ b:Fin 2,∀ c:Fin 2,stk (stk x i b) i c = stk x i c:=by decide +kernel
 exact h ⟨x,hx⟩ ⟨i,hi⟩ ⟨b,by omega⟩ ⟨c,by omega⟩
theorem stk_self {x i:Nat} (hx:x < 32) (hi:i < 5):stk x i 0 = x ∨ stk x i 1 = x:=by
 have h:∀ x:Fin 32,∀ i:Fin 5,stk x i 0 = x.val ∨ stk x i 1 = x.val:=by decide +kernel
 exact h ⟨x,hx⟩ ⟨i,hi⟩
theorem impl_stuck {n w i b:Nat} (ht:Tab n w) (hi:i < n) (hb:b ≤ 1):impl_Table_stuck.f n w i b = some ((n:Int),((stkW n w i b:Nat):Int)):=by
 have h1:=ht.lt;have h2:=ht.1;unfold impl_Table_stuck.f;rw [if_pos (by omega)]
 rfl
def ind (n v i:Nat):Prop:=stkW n v i 0 = stkW n v i 1
theorem ind_bits {n v i x:Nat} (hn:n ≤ 5) (hi:i < n) (h:ind n v i) (hx:x < 2 ^ n):v.testBit (stk x i 0) = v.testBit (stk x i 1):=by
 have e:=congrArg (fun z:Nat=>z.testBit x) h;simp only [testBit_stkW hx] at e;exact e
theorem ind_of {n v i:Nat} (h:∀ x,x < 2 ^ n → v.testBit (stk x i 0) = v.testBit (stk x i 1)):ind n v i :=
 word_ext (stkW_lt n v i 0) (stkW_lt n v i 1) (fun x hx=>by rw [testBit_stkW hx,testBit_stkW hx];exact h x hx)
theorem ind_self {n v i:Nat} (ht:Tab n v) (hi:i < n) (h:ind n v i) (b:Nat) (hb:b ≤ 1):stkW n v i b = v:=by
 have hn:=ht.1;have hp:=pow_le hn;refine word_ext (stkW_lt n v i b) ht.2 (fun x hx=>?_);rw [testBit_stkW hx];have hq:=ind_bits hn hi h hx;have hs:=stk_self (x:=x) (i:=i) (by omega) (by omega);rcases (show b = 0 ∨ b = 1 by omega) with rfl | rfl
 ·rcases hs with hs | hs
  ·rw [hs]
  ·rw [hq,hs]
 ·rcases hs with hs | hs
  ·rw [← hq,hs]
  ·rw [hs]
theorem ind_stk {n v i:Nat} (hn:n ≤ 5) (hi:i < n) (b:Nat) (hb:b ≤ 1):ind n (stkW n v i b) i:=by
 have hp:=pow_le hn;refine ind_of (fun x hx=>?_);rw [testBit_stkW (stk_pow hn hx hi (by omega)),testBit_stkW (stk_pow hn hx hi (by omega)),stk_twice (by omega) (by omega) (by omega) hb,stk_twice (by omega) (by omega) (by omega) hb]
theorem ind_keep {n v i j:Nat} (hn:n ≤ 5) (hi:i < n) (hj:j < n) (h:ind n v j) (b:Nat) (hb:b ≤ 1):ind n (stkW n v i b) j:=by
 have hp:=pow_le hn
 by_cases e:i = j
 ·subst e;exact ind_stk hn hi b hb
 ·refine ind_of (fun x hx=>?_)
  rw [testBit_stkW (stk_pow hn hx hj (by omega)),testBit_stkW (stk_pow hn hx hj (by omega)),stk_commute (x:=x) (by omega) (by omega) (by omega) (by omega) hb (fun q=>e q.symm),stk_commute (x:=x) (by omega) (by omega) (by omega) (by omega) hb (fun q=>e q.symm)];exact ind_bits hn hj h (stk_pow hn hx hi hb)
def constB (n v:Nat):Bool:=v == 0 || v == 2 ^ 2 ^ n - 1
theorem impl_same {n v:Nat} (ht:Tab n v):impl_Table_isSame.f n v = some (constB n v):=by
 unfold impl_Table_isSame.f constB
 by_cases h:v = 0
 ·rw [if_pos (by omega),h];rfl
 ·rw [if_neg (by omega),not_some ht,Option.bind_some,show (v == 0) = false from beq_eq_false_iff_ne.mpr h,Bool.false_or]
  congr 1
  have h2:=ht.2;have h3:=pow_pos (2 ^ n);unfold notW;rw [Bool.eq_iff_iff,beq_iff_eq,beq_iff_eq];omega
theorem const_iff {n v:Nat} (ht:Tab n v):constB n v = true ↔ ∀ x,x < 2 ^ n → v.testBit x = v.testBit 0:=by
 have h3:=pow_pos (2 ^ n);unfold constB;rw [Bool.or_eq_true,beq_iff_eq,beq_iff_eq]
 constructor
 ·rintro (rfl | rfl) x hx
  ·rw [Nat.zero_testBit,Nat.zero_testBit]
  ·rw [Nat.testBit_two_pow_sub_one,Nat.testBit_two_pow_sub_one,decide_eq_true hx,decide_eq_true (pow_pos n)]
 ·intro h
  cases h0:v.testBit 0 with
  | false=>exact .inl (word_ext ht.2 h3 (fun i hi=>by rw [h i hi,h0,Nat.zero_testBit]))
  | true=>exact .inr (word_ext ht.2 (by omega) (fun i hi=>by rw [h i hi,h0,Nat.testBit_two_pow_sub_one,decide_eq_true hi]))
theorem all_ind {n v:Nat} (ht:Tab n v) (h:∀ i,i < n → ind n v i):constB n v = true:=by
 have hn:=ht.1;have hp:=pow_le hn;rw [const_iff ht];intro x hx
 have step:∀ m,m ≤ n → v.testBit (ldiff x (2 ^ m - 1)) = v.testBit x:=by
  intro m
  induction m with
  | zero =>
   intro _;have this:∀ x:Fin 32,ldiff x.val (2 ^ 0 - 1) = x.val:=by decide +kernel
   rw [show ldiff x (2 ^ 0 - 1) = x from this ⟨x,by omega⟩]
  | succ m ih =>
   intro hm;rw [← ih (by omega)];have hy:ldiff x (2 ^ m - 1) < 2 ^ n:=ldiff_lt hx
   have e:ldiff x (2 ^ (m + 1) - 1) = stk (ldiff x (2 ^ m - 1)) m 0:=by
    have:∀ x:Fin 32,∀ m:Fin 5,ldiff x.val (2 ^ (m.val + 1) - 1) = stk (ldiff x.val (2 ^ m.val - 1)) m.val 0:=by decide +kernel
    exact this ⟨x,by omega⟩ ⟨m,by omega⟩
   rw [e];have hq:=ind_bits hn (show m < n by omega) (h m (by omega)) hy;have hs:=stk_self (x:=ldiff x (2 ^ m - 1)) (i:=m) (by omega) (by omega);rcases hs with hs | hs
   ·rw [hs]
   ·rw [hq,hs]
 have h0:=step n (Nat.le_refl _)
 have hz:ldiff x (2 ^ n - 1) = 0:=by
  have:∀ n:Fin 6,∀ x:Fin 32,x.val < 2 ^ n.val → ldiff x.val (2 ^ n.val - 1) = 0:=by decide +kernel
  exact this ⟨n,by omega⟩ ⟨x,by omega⟩ hx
 rw [← h0,hz]
theorem dep_ind {n v i:Nat} (ht:Tab n v) (hi:i < n):impl_Table_depends.f n v i = some (!decide (stkW n v i 0 = stkW n v i 1)):=by
 have hn:=ht.1;rw [impl_depends ht hi]
 congr 1
 unfold dep;obtain ⟨m,rfl⟩:∃ m,n = m + 1:=⟨n - 1,by omega⟩;have hdel:∀ m:Fin 5,∀ x:Fin 32,∀ i:Fin 5,x.val < 2 ^ (m.val + 1) → i.val ≤ m.val → (x.val / 2 ^ (i.val + 1) * 2 ^ i.val + x.val % 2 ^ i.val < 2 ^ m.val ∧ stk x.val i.val 0 = ins (x.val / 2 ^ (i.val + 1) * 2 ^ i.val + x.val % 2 ^ i.val) i.val 0 ∧ stk x.val i.val 1 = ins (x.val / 2 ^ (i.val + 1) * 2 ^ i.val + x.val % 2 ^ i.val) i.val 1):=by decide +kernel
 have hins:∀ m:Fin 5,∀ y:Fin 16,∀ i:Fin 5,y.val < 2 ^ m.val → i.val ≤ m.val → (ins y.val i.val 0 < 2 ^ (m.val + 1) ∧ stk (ins y.val i.val 0) i.val 0 = ins y.val i.val 0 ∧ stk (ins y.val i.val 0) i.val 1 = ins y.val i.val 1):=by decide +kernel
 have hp:=pow_le hn;have hpm:2 ^ m ≤ 16:=by rw [Nat.pow_succ] at hp;omega
 rw [Nat.add_sub_cancel,Bool.eq_iff_iff,bne_iff_ne,Bool.not_eq_true',decide_eq_false_iff_not];refine not_congr ⟨fun h=>?_,fun h=>?_⟩
 ·refine ind_of (fun x hx=>?_)
  obtain ⟨h1,h2,h3⟩:=hdel ⟨m,by omega⟩ ⟨x,by omega⟩ ⟨i,by omega⟩ hx (Nat.le_of_lt_succ hi);have e:=congrArg (fun z:Nat=>z.testBit (x / 2 ^ (i + 1) * 2 ^ i + x % 2 ^ i)) h;simp only [testBit_resW h1] at e;rw [h2,h3];exact e
 ·refine word_ext (resW_lt m v i 0) (resW_lt m v i 1) (fun y hy=>?_)
  obtain ⟨h1,h2,h3⟩:=hins ⟨m,by omega⟩ ⟨y,by omega⟩ ⟨i,by omega⟩ hy (Nat.le_of_lt_succ hi);have e:=ind_bits hn hi h h1;rw [h2,h3] at e;rw [testBit_resW hy,testBit_resW hy];exact e
def bld (n:Nat) (ord:List Int):Nat → Nat → Nat → List Int → List S56 → Int × List Int × List S56
 | 0,_,v,names,nodes=>(((bitN v 0:Nat):Int) - 2,names,nodes)
 | d + 1,lv,v,names,nodes=>if constB n v = true then (((bitN v 0:Nat):Int) - 2,names,nodes)
  else if stkW n v (rd ord lv).toNat 0 = stkW n v (rd ord lv).toNat 1 then bld n ord d (lv + 1) (stkW n v (rd ord lv).toNat 0) names nodes
  else match idxOf names v with
   | some j=>((j:Int),names,nodes)
   | none=>((((bld n ord d (lv + 1) (stkW n v (rd ord lv).toNat 1) (bld n ord d (lv + 1) (stkW n v (rd ord lv).toNat 0) names nodes).2.1 (bld n ord d (lv + 1) (stkW n v (rd ord lv).toNat 0) names nodes).2.2).2.2.length:Nat):Int),
     (bld n ord d (lv + 1) (stkW n v (rd ord lv).toNat 1) (bld n ord d (lv + 1) (stkW n v (rd ord lv).toNat 0) names nodes).2.1 (bld n ord d (lv + 1) (stkW n v (rd ord lv).toNat 0) names nodes).2.2).2.1 ++ [(v:Int)],
     (bld n ord d (lv + 1) (stkW n v (rd ord lv).toNat 1) (bld n ord d (lv + 1) (stkW n v (rd ord lv).toNat 0) names nodes).2.1 (bld n ord d (lv + 1) (stkW n v (rd ord lv).toNat 0) names nodes).2.2).2.2 ++
      [⟨rd ord lv,(bld n ord d (lv + 1) (stkW n v (rd ord lv).toNat 0) names nodes).1,(bld n ord d (lv + 1) (stkW n v (rd ord lv).toNat 1) (bld n ord d (lv + 1) (stkW n v (rd ord lv).toNat 0) names nodes).2.1 (bld n ord d (lv + 1) (stkW n v (rd ord lv).toNat 0) names nodes).2.2).1⟩])
theorem bld_const {n d lv v:Nat} {ord names:List Int} {nodes:List S56} (hc:constB n v = true):bld n ord (d + 1) lv v names nodes = (((bitN v 0:Nat):Int) - 2,names,nodes):=by rw [bld,if_pos hc]
theorem bld_skip {n d lv v:Nat} {ord names:List Int} {nodes:List S56} (hc:constB n v = false) (hd:stkW n v (rd ord lv).toNat 0 = stkW n v (rd ord lv).toNat 1):bld n ord (d + 1) lv v names nodes = bld n ord d (lv + 1) (stkW n v (rd ord lv).toNat 0) names nodes:=by rw [bld,if_neg (by rw [hc];decide),if_pos hd]
theorem bld_old {n d lv v j:Nat} {ord names:List Int} {nodes:List S56} (hc:constB n v = false) (hd:¬ stkW n v (rd ord lv).toNat 0 = stkW n v (rd ord lv).toNat 1) (hx:idxOf names v = some j):bld n ord (d + 1) lv v names nodes = ((j:Int),names,nodes):=by rw [bld,if_neg (by rw [hc];decide),if_neg hd,hx]
theorem bld_nw {n d lv v:Nat} {ord names:List Int} {nodes:List S56} (hc:constB n v = false) (hd:¬ stkW n v (rd ord lv).toNat 0 = stkW n v (rd ord lv).toNat 1) (hx:idxOf names v = none) {p q:Int × List Int × List S56} (hp:p = bld n ord d (lv + 1) (stkW n v (rd ord lv).toNat 0) names nodes) (hq:q = bld n ord d (lv + 1) (stkW n v (rd ord lv).toNat 1) p.2.1 p.2.2) :
  bld n ord (d + 1) lv v names nodes = (((q.2.2.length:Nat):Int),q.2.1 ++ [(v:Int)],q.2.2 ++ [⟨rd ord lv,p.1,q.1⟩]):=by
 rw [hq,hp,bld,if_neg (by rw [hc];decide),if_neg hd,hx]
structure Ord (n:Nat) (ord:List Int):Prop where
 len:ord.length = n
 le:n ≤ 5
 at_:∀ j:Nat,j < n → ∃ i:Nat,rd ord j = i ∧ i < n
 all:∀ i:Nat,i < n → ∃ j:Nat,j < n ∧ rd ord j = (i:Int)
 inj:∀ j k:Nat,j < n → k < n → rd ord j = rd ord k → j = k
theorem bld_len {n:Nat} {ord:List Int}:∀ (d lv v:Nat) (names:List Int) (nodes:List S56),(bld n ord d lv v names nodes).2.1.length + 1 ≤ names.length + 2 ^ d ∧ (bld n ord d lv v names nodes).2.2.length + 1 ≤ nodes.length + 2 ^ d ∧ ((bld n ord d lv v names nodes).2.1.length + nodes.length = (bld n ord d lv v names nodes).2.2.length + names.length):=by
 intro d
 induction d with
 | zero=>intro lv v names nodes;rw [bld];exact ⟨Nat.le_refl _,Nat.le_refl _,Nat.add_comm _ _⟩
 | succ d ih =>
  intro lv v names nodes;have hp:=pow_pos d;rw [bld]
  split
  ·rw [Nat.pow_succ];exact ⟨by show names.length + 1 ≤ _;omega,by show nodes.length + 1 ≤ _;omega,Nat.add_comm _ _⟩
  ·split
   ·obtain ⟨h1,h2,h3⟩:=ih (lv + 1) (stkW n v (rd ord lv).toNat 0) names nodes
    rw [Nat.pow_succ];exact ⟨by omega,by omega,h3⟩
   ·split
    ·rw [Nat.pow_succ];exact ⟨by show names.length + 1 ≤ _;omega,by show nodes.length + 1 ≤ _;omega,Nat.add_comm _ _⟩
    ·obtain ⟨h1,h2,h3⟩:=ih (lv + 1) (stkW n v (rd ord lv).toNat 0) names nodes
     obtain ⟨k1,k2,k3⟩:=ih (lv + 1) (stkW n v (rd ord lv).toNat 1) (bld n ord d (lv + 1) (stkW n v (rd ord lv).toNat 0) names nodes).2.1 (bld n ord d (lv + 1) (stkW n v (rd ord lv).toNat 0) names nodes).2.2;rw [Nat.pow_succ];simp only [List.length_append,List.length_singleton];exact ⟨by omega,by omega,by omega⟩
theorem idxOf_none {xs:List Int} {v:Int}:idxOf xs v = none ↔ v ∉ xs:=by
 induction xs with
 | nil=>simp [idxOf]
 | cons x xs ih =>
  rw [idxOf,List.mem_cons,not_or,← ih]
  by_cases h:x = v
  ·rw [if_pos h];simp [h]
  ·rw [if_neg h,Option.map_eq_none_iff]
   exact ⟨fun k=>⟨fun e=>h e.symm,k⟩,fun k=>k.2⟩
theorem bld_names {n:Nat} {ord:List Int} (ho:Ord n ord):∀ (d lv v:Nat) (names:List Int) (nodes:List S56),lv + d = n → (∀ j:Nat,j < lv → ind n v (rd ord j).toNat) →
  ∃ ex:List Int,(bld n ord d lv v names nodes).2.1 = names ++ ex ∧ ∀ u ∈ ex,∃ x:Nat,u = x ∧ ∀ j:Nat,j < lv → ind n x (rd ord j).toNat:=by
 intro d
 induction d with
 | zero=>intro lv v names nodes _ _;exact ⟨[],by rw [bld,List.append_nil],fun u hu=>by cases hu⟩
 | succ d ih =>
  intro lv v names nodes hd hv;have hle:=ho.le;obtain ⟨i,hi,hin⟩:=ho.at_ lv (by omega)
  have hkeep:∀ b,b ≤ 1 → ∀ j:Nat,j < lv + 1 → ind n (stkW n v (rd ord lv).toNat b) (rd ord j).toNat:=by
   intro b hb j hj;obtain ⟨i',hi',hin'⟩:=ho.at_ j (by omega);rw [hi,hi',Int.toNat_natCast,Int.toNat_natCast]
   by_cases e:j = lv
   ·subst e
    obtain rfl:i = i':=by omega
    exact ind_stk hle hin b hb
   ·have:=hv j (by omega)
    rw [hi',Int.toNat_natCast] at this;exact ind_keep hle hin hin' this b hb
  rw [bld]
  split
  ·exact ⟨[],by rw [List.append_nil],fun u hu=>by cases hu⟩
  ·split
   ·obtain ⟨ex,h1,h2⟩:=ih (lv + 1) (stkW n v (rd ord lv).toNat 0) names nodes (by omega) (hkeep 0 (by omega))
    exact ⟨ex,h1,fun u hu=>by obtain ⟨x,hx,hj⟩:=h2 u hu;exact ⟨x,hx,fun j hlt=>hj j (by omega)⟩⟩
   ·split
    ·exact ⟨[],by rw [List.append_nil],fun u hu=>by cases hu⟩
    ·obtain ⟨ex,h1,h2⟩:=ih (lv + 1) (stkW n v (rd ord lv).toNat 0) names nodes (by omega) (hkeep 0 (by omega))
     obtain ⟨ey,k1,k2⟩:=ih (lv + 1) (stkW n v (rd ord lv).toNat 1) (bld n ord d (lv + 1) (stkW n v (rd ord lv).toNat 0) names nodes).2.1 (bld n ord d (lv + 1) (stkW n v (rd ord lv).toNat 0) names nodes).2.2 (by omega) (hkeep 1 (by omega));refine ⟨ex ++ ey ++ [(v:Int)],?_,fun u hu=>?_⟩
     ·simp only
      rw [k1,h1,List.append_assoc,List.append_assoc,List.append_assoc]
     ·rcases List.mem_append.mp hu with hu | hu
      ·rcases List.mem_append.mp hu with hu | hu
       ·obtain ⟨x,hx,hj⟩:=h2 u hu;exact ⟨x,hx,fun j hlt=>hj j (by omega)⟩
       ·obtain ⟨x,hx,hj⟩:=k2 u hu;exact ⟨x,hx,fun j hlt=>hj j (by omega)⟩
      ·rw [List.mem_singleton] at hu
       exact ⟨v,hu,hv⟩
theorem bld_new {n:Nat} {ord:List Int} (ho:Ord n ord) {d lv v:Nat} {names:List Int} {nodes:List S56} (hd:lv + (d + 1) = n) (hv:∀ j:Nat,j < lv → ind n v (rd ord j).toNat) (hdep:¬ stkW n v (rd ord lv).toNat 0 = stkW n v (rd ord lv).toNat 1) (hno:idxOf names v = none) :
  idxOf (bld n ord d (lv + 1) (stkW n v (rd ord lv).toNat 1) (bld n ord d (lv + 1) (stkW n v (rd ord lv).toNat 0) names nodes).2.1 (bld n ord d (lv + 1) (stkW n v (rd ord lv).toNat 0) names nodes).2.2).2.1 v = none:=by
 have hle:=ho.le;obtain ⟨i,hi,hin⟩:=ho.at_ lv (by omega)
 have hkeep:∀ b,b ≤ 1 → ∀ j:Nat,j < lv + 1 → ind n (stkW n v (rd ord lv).toNat b) (rd ord j).toNat:=by
  intro b hb j hj;obtain ⟨i',hi',hin'⟩:=ho.at_ j (by omega);rw [hi,hi',Int.toNat_natCast,Int.toNat_natCast]
  by_cases e:j = lv
  ·subst e
   obtain rfl:i = i':=by omega
   exact ind_stk hle hin b hb
  ·have:=hv j (by omega)
   rw [hi',Int.toNat_natCast] at this;exact ind_keep hle hin hin' this b hb
 obtain ⟨ex,h1,h2⟩:=bld_names ho d (lv + 1) (stkW n v (rd ord lv).toNat 0) names nodes (by omega) (hkeep 0 (by omega));obtain ⟨ey,k1,k2⟩:=bld_names ho d (lv + 1) (stkW n v (rd ord lv).toNat 1) (bld n ord d (lv + 1) (stkW n v (rd ord lv).toNat 0) names nodes).2.1 (bld n ord d (lv + 1) (stkW n v (rd ord lv).toNat 0) names nodes).2.2 (by omega) (hkeep 1 (by omega));rw [k1,h1,idxOf_none];have hno':=idxOf_none.mp hno;intro hm
 have hbad:∀ x:Nat,(v:Int) = x → (∀ j:Nat,j < lv + 1 → ind n x (rd ord j).toNat) → False:=by
  intro x hx hj;obtain rfl:v = x:=by omega
  exact hdep (hj lv (Nat.lt_succ_self _))
 rcases List.mem_append.mp hm with hm | hm
 ·rcases List.mem_append.mp hm with hm | hm
  ·exact hno' hm
  ·obtain ⟨x,hx,hj⟩:=h2 _ hm;exact hbad x hx hj
 ·obtain ⟨x,hx,hj⟩:=k2 _ hm;exact hbad x hx hj
theorem wf_small {v:Nat} (h:v < 9223372036854775808):(Lit.int .i64 (v:Int)).wf = true:=by
 simp [Lit.wf,IntKind.min,IntKind.max,IntKind.bits,IntKind.signed];omega
theorem walk_bld {n:Nat} {ord:List Int} (ho:Ord n ord):∀ (d k lv v:Nat) (names:List Int) (nodes:List S56),lv + d = n → d < k → Tab n v → (∀ j:Nat,j < lv → ind n v (rd ord j).toNat) → nodes.length + 2 ^ d ≤ 500 →
  walkS n ord k v names nodes = some (bld n ord d lv v names nodes):=by
 intro d
 induction d with
 | zero =>
  intro k lv v names nodes hd hk ht hv hl;obtain ⟨k,rfl⟩:∃ m,k = m + 1:=⟨k - 1,by omega⟩
  have hc:constB n v = true:=all_ind ht (fun i hi=>by
   obtain ⟨j,hj,hr⟩:=ho.all i hi;have:=hv j (by omega);rw [hr,Int.toNat_natCast] at this;exact this)
  have hb:=bitN_le v 0;have h00:impl_Table_at.f (n:Int) (v:Int) 0 = some ((bitN v 0:Nat):Int):=at_some' (x:=0) ht.lt63 (by omega);rw [walkS,impl_same ht,Option.bind_some,hc,if_pos rfl,h00,Option.bind_some,if_pos (by omega),bld]
 | succ d ih =>
  intro k lv v names nodes hd hk ht hv hl;obtain ⟨k,rfl⟩:∃ m,k = m + 1:=⟨k - 1,by omega⟩;have hb:=bitN_le v 0;have hle:=ho.le;have hlen:=ho.len;obtain ⟨i,hi,hin⟩:=ho.at_ lv (by omega);have hp:=pow_pos d;rw [Nat.pow_succ] at hl
  cases hc:constB n v with
  | true =>
   have h00:impl_Table_at.f (n:Int) (v:Int) 0 = some ((bitN v 0:Nat):Int):=at_some' (x:=0) ht.lt63 (by omega);rw [bld_const hc,walkS,impl_same ht,Option.bind_some,hc,if_pos rfl,h00,Option.bind_some,if_pos (by omega)]
  | false =>
   by_cases hdp:stkW n v (rd ord lv).toNat 0 = stkW n v (rd ord lv).toNat 1
   ·have hs:stkW n v (rd ord lv).toNat 0 = v:=by
     rw [hi,Int.toNat_natCast] at hdp ⊢;exact ind_self ht hin hdp 0 (by omega)
    rw [bld_skip hc hdp,hs]
    exact ih (k + 1) (lv + 1) v names nodes (by omega) (by omega) ht (fun j hj=>by
     by_cases e:j = lv
     ·rw [e];exact hdp
     ·exact hv j (by omega)) (by omega)
   ·rw [walkS,impl_same ht,Option.bind_some,hc,if_neg (by decide),if_pos (wf_small ht.lt63)]
    have hdq:∀ x:Nat,x < ord.length → impl_Table_depends.f n v (rd ord x) = some (!decide (stkW n v (rd ord x).toNat 0 = stkW n v (rd ord x).toNat 1)):=by
     intro x hx;obtain ⟨i',hi',hin'⟩:=ho.at_ x (by omega);rw [hi',Int.toNat_natCast];exact dep_ind ht hin'
    cases hx:idxOf names v with
    | some j=>rw [bld_old hc hdp hx]
    | none =>
     rw [bld_nw hc hdp hx rfl rfl];simp only
     have hda:depAll n v ord = true:=by
      unfold depAll;rw [allN_iff];intro x hx;rw [hdq x hx]
      rfl
     have hdb:∀ x:Nat,x < ord.length → depB n v ord x = !decide (stkW n v (rd ord x).toNat 0 = stkW n v (rd ord x).toNat 1):=by
      intro x hx;unfold depB;rw [hdq x hx]
      cases (!decide (stkW n v (rd ord x).toNat 0 = stkW n v (rd ord x).toNat 1)) <;> rfl
     have hfirst:firstN (depB n v ord) ord.length 0 = some lv:=by
      have gen:∀ e x,x + e = lv → firstN (depB n v ord) (ord.length - x) x = some lv:=by
       intro e
       induction e with
       | zero =>
        intro x hx;obtain rfl:x = lv:=by omega
        obtain ⟨q,hq⟩:∃ q,ord.length - x = q + 1:=⟨ord.length - x - 1,by omega⟩;rw [hq,firstN,if_pos (by rw [hdb x (by omega),decide_eq_false hdp];rfl)]
       | succ e ihe =>
        intro x hx;obtain ⟨q,hq⟩:∃ q,ord.length - x = q + 1:=⟨ord.length - x - 1,by omega⟩;have:=ihe (x + 1) (by omega);rw [show ord.length - (x + 1) = q by omega] at this;rw [hq,firstN,if_neg (by rw [hdb x (by omega),decide_eq_true (show stkW n v (rd ord x).toNat 0 = stkW n v (rd ord x).toNat 1 from hv x (by omega))];decide)];exact this
      exact gen lv 0 (by omega)
     rw [if_pos hda,hfirst];simp only;have hnew:=bld_new (nodes:=nodes) ho hd hv hdp hx
     have hkeep:∀ b,b ≤ 1 → ∀ j:Nat,j < lv + 1 → ind n (stkW n v i b) (rd ord j).toNat:=by
      intro b hb j hj;obtain ⟨i',hi',hin'⟩:=ho.at_ j (by omega);rw [hi',Int.toNat_natCast]
      by_cases e:j = lv
      ·subst e
       obtain rfl:i = i':=by omega
       exact ind_stk hle hin b hb
      ·have:=hv j (by omega)
       rw [hi',Int.toNat_natCast] at this;exact ind_keep hle hin hin' this b hb
     obtain ⟨l1,l2,_⟩:=bld_len (n:=n) (ord:=ord) d (lv + 1) (stkW n v i 0) names nodes;obtain ⟨m1,m2,_⟩:=bld_len (n:=n) (ord:=ord) d (lv + 1) (stkW n v i 1) (bld n ord d (lv + 1) (stkW n v i 0) names nodes).2.1 (bld n ord d (lv + 1) (stkW n v i 0) names nodes).2.2;have e0:=ih k (lv + 1) (stkW n v i 0) names nodes (by omega) (by omega) (stkW_tab hle) (hkeep 0 (by omega)) (by omega);have e1:=ih k (lv + 1) (stkW n v i 1) (bld n ord d (lv + 1) (stkW n v i 0) names nodes).2.1 (bld n ord d (lv + 1) (stkW n v i 0) names nodes).2.2 (by omega) (by omega) (stkW_tab hle) (hkeep 1 (by omega)) (by omega);have s0:=impl_stuck (b:=0) ht hin (by omega);have s1:=impl_stuck (b:=1) ht hin (by omega);rw [hi,Int.toNat_natCast] at hnew ⊢;have s0':impl_Table_stuck.f (n:Int) (v:Int) (i:Int) 0 = some ((n:Int),((stkW n v i 0:Nat):Int)):=s0;have s1':impl_Table_stuck.f (n:Int) (v:Int) (i:Int) 1 = some ((n:Int),((stkW n v i 1:Nat):Int)):=s1;rw [s0',Option.bind_some,e0,Option.bind_some,s1',Option.bind_some,e1,Option.bind_some,if_pos ⟨by omega,hnew⟩]
end Go.Proofs.YtflacbjpeecjcabGreatDoor.U
namespace Go.Proofs.YtflacbjpeecjcabGreatDoor.U
open Go.Proofs.YtflacbjpeecjcabGreatDoor.F Go.Proofs.YtflacbjpeecjcabGreatDoor.B
def fixX (x mask value:Nat):Nat:=ldiff x mask ||| value
def fixW (n w mask value:Nat):Nat:=tabN (fun x=>w.testBit (fixX x mask value)) (2 ^ n)
theorem fix_sum {x mask value:Nat} (hx:x < 32) (hm:mask < 32) (hv:value < 32) (hs:value &&& mask = value):x - (x &&& mask) + value = fixX x mask value ∧ x &&& mask ≤ x ∧ fixX x mask value < 32:=by
 have h:∀ x:Fin 32,∀ m:Fin 32,∀ v:Fin 32,v.val &&& m.val = v.val → x.val - (x.val &&& m.val) + v.val = fixX x.val m.val v.val ∧ x.val &&& m.val ≤ x.val ∧ fixX x.val m.val v.val < 32:=by decide +kernel
 exact h ⟨x,hx⟩ ⟨mask,hm⟩ ⟨value,hv⟩ hs
theorem fix_lt {n x mask value:Nat} (hx:x < 2 ^ n) (hv:value < 2 ^ n):fixX x mask value < 2 ^ n:=Nat.or_lt_two_pow (ldiff_lt hx) hv
theorem fix_in {x mask value:Nat} (hs:value &&& mask = value):fixX x mask value &&& mask = value:=by
 apply Nat.eq_of_testBit_eq
 intro i;have e:=congrArg (fun z:Nat=>z.testBit i) hs;simp only [Nat.testBit_and] at e;unfold fixX;rw [Nat.testBit_and,Nat.testBit_or,testBit_ldiff]
 revert e
 cases x.testBit i <;> cases mask.testBit i <;> cases value.testBit i <;> simp
theorem fix_same {y mask value:Nat} (h:y &&& mask = value):fixX y mask value = y:=by
 apply Nat.eq_of_testBit_eq
 intro i;unfold fixX;rw [← h,Nat.testBit_or,testBit_ldiff,Nat.testBit_and]
 cases y.testBit i <;> cases mask.testBit i <;> rfl
theorem fixW_lt (n w mask value:Nat):fixW n w mask value < 2 ^ 2 ^ n:=tabN_lt _ _
theorem testBit_fixW {n w mask value x:Nat} (hx:x < 2 ^ n):(fixW n w mask value).testBit x = w.testBit (fixX x mask value):=by unfold fixW;rw [testBit_tabN];simp [hx]
theorem fixW_zero {n w:Nat} (h:w < 2 ^ 2 ^ n):fixW n w 0 0 = w:=by
 refine word_ext (fixW_lt n w 0 0) h (fun x hx=>?_);rw [testBit_fixW hx,fix_same (Nat.and_zero x)]
theorem fix_stk {x mask value i b:Nat} (hi:mask.testBit i = false) (hs:value &&& mask = value) (hb:b ≤ 1):fixX (stk x i b) mask value = fixX x (mask ||| 2 ^ i) (value ||| b <<< i):=by
 apply Nat.eq_of_testBit_eq
 intro j;have e:=congrArg (fun z:Nat=>z.testBit j) hs;simp only [Nat.testBit_and] at e;unfold fixX stk;rw [Nat.testBit_or,testBit_ldiff,Nat.testBit_or,testBit_ldiff,Nat.testBit_two_pow,Nat.testBit_or,testBit_ldiff,Nat.testBit_or,Nat.testBit_two_pow,Nat.testBit_or]
 by_cases hij:i = j
 ·subst hij
  rw [hi] at e ⊢;simp
  cases (b <<< i).testBit i <;> cases value.testBit i <;> simp_all
 ·have hbj:(b <<< i).testBit j = false:=by
   rcases (show b = 0 ∨ b = 1 by omega) with rfl | rfl
   ·simp
   ·rw [one_shl,Nat.testBit_two_pow];simp [hij]
  simp [hij,hbj]
theorem stkW_fixW {n w mask value i b:Nat} (hn:n ≤ 5) (hi:i < n) (hm:mask.testBit i = false) (hs:value &&& mask = value) (hb:b ≤ 1):stkW n (fixW n w mask value) i b = fixW n w (mask ||| 2 ^ i) (value ||| b <<< i):=by
 refine word_ext (stkW_lt _ _ _ _) (fixW_lt _ _ _ _) (fun x hx=>?_);rw [testBit_stkW hx,testBit_fixW (stk_pow hn hx hi hb),testBit_fixW hx,fix_stk hm hs hb]
theorem fix_step (w mask value x:Nat):tabN (fun x=>w.testBit (fixX x mask value)) x ||| bitN w (fixX x mask value) <<< x = tabN (fun x=>w.testBit (fixX x mask value)) (x + 1):=rfl
theorem fix_wrap {x a value f:Nat} (h1:x - a + value = f) (h2:a ≤ x) (h3:f < 32) (hx:x < 32):wrap64 (wrap64 ((x:Int) - (a:Int)) + (value:Int)) = (f:Int):=by
 have e:wrap64 ((x:Int) - (a:Int)) = (x:Int) - (a:Int):=wrap64_of (by omega) (by omega);rw [e,wrap64_of (by omega) (by omega)];omega
theorem word_loop {n w mask value:Nat} (ht:Tab n w) (hm:mask < 2 ^ n) (hv:value < 2 ^ n) (hs:value &&& mask = value):∀ (d k x:Nat),x + d = 2 ^ n → d < k →
  spec_l19Word.l0 k mask value ((tabN (fun x=>w.testBit (fixX x mask value)) x:Nat):Int) x n w = some ((fixW n w mask value:Nat):Int):=by
 have hn:=ht.1;have hp:=pow_le hn;intro d
 induction d with
 | zero =>
  intro k x hx hk;obtain ⟨k,rfl⟩:∃ m,k = m + 1:=⟨k - 1,by omega⟩;obtain rfl:x = 2 ^ n:=by omega
  rw [spec_l19Word.l0,if_pos (Int.natCast_nonneg _),shl1_of (by omega),if_neg (by omega)]
  rfl
 | succ d ih =>
  intro k x hx hk;obtain ⟨k,rfl⟩:∃ m,k = m + 1:=⟨k - 1,by omega⟩;obtain ⟨h1,h2,h3⟩:=fix_sum (x:=x) (by omega) (show mask < 32 by omega) (show value < 32 by omega) hs;have h64:fixX x mask value ≤ 64:=Nat.le_of_lt (Nat.lt_trans h3 (by decide));have hx32:x < 32:=by omega
  have hx63:(x:Nat) < 9223372036854775808:=Nat.lt_trans hx32 (by decide);have hm63:mask < 9223372036854775808:=by omega
  have hxn:(x:Int) < ((2 ^ n:Nat):Int):=by omega
  have hn63:n ≤ 62:=by omega
  have hih:=ih k (x + 1) (by omega) (by omega);have hst:=fix_step w mask value x;rw [← hst] at hih;clear hst ih;have hlt:tabN (fun x=>w.testBit (fixX x mask value)) x < 9223372036854775808:=tabN_lt63 _ (Nat.le_of_lt hx32);generalize tabN (fun x=>w.testBit (fixX x mask value)) x = T at hlt hih ⊢;have hb:bitN w (fixX x mask value) <<< x < 9223372036854775808:=Nat.lt_trans (@bitN_shl_lt w (fixX x mask value) x 32 hx32) (by decide);have hw:=wrap64_succ (n:=x) (Nat.lt_trans hx32 (by decide));have e1:=fix_wrap h1 h2 h3 hx32;have hbc:=bit_cast ht.lt63 h64;have hsc:=shl_cast hb (Nat.le_of_lt (Nat.lt_trans hx32 (by decide)));have hoc:=or_cast hlt hb;rw [spec_l19Word.l0,if_pos (Int.natCast_nonneg _),shl1_of hn63,if_pos hxn,and_cast hx63 hm63,e1,if_pos (Int.natCast_nonneg _),if_pos (Int.natCast_nonneg _),hbc,hsc,hoc,hw];exact hih
theorem spec_word {n w mask value k:Nat} (ht:Tab n w) (hm:mask < 2 ^ n) (hv:value < 2 ^ n) (hs:value &&& mask = value) (hk:40 < k):spec_l19Word.f k n w mask value = some ((fixW n w mask value:Nat):Int):=by
 have:=pow_le ht.1;exact word_loop ht hm hv hs (2 ^ n) k 0 (by omega) (by omega)
def cubeF (w mask value:Nat):Nat → Nat → Int → Int
 | 0,_,out=>out
 | d + 1,x,out=>if x &&& mask = value then (if out ≥ 0 then (if out = ((bitN w x:Nat):Int) then cubeF w mask value d (x + 1) ((bitN w x:Nat):Int) else 2) else cubeF w mask value d (x + 1) ((bitN w x:Nat):Int)) else cubeF w mask value d (x + 1) out
theorem cube_loop {n w mask value:Nat} (ht:Tab n w) (hm:mask < 2 ^ n) (hv:value < 2 ^ n):∀ (d k x:Nat) (out:Int),x + d = 2 ^ n → d < k → spec_l3Cube.l0 k mask value out x n w = some (cubeF w mask value d x out):=by
 have hn:=ht.1;have hp:=pow_le hn;intro d
 induction d with
 | zero =>
  intro k x out hx hk;obtain ⟨k,rfl⟩:∃ m,k = m + 1:=⟨k - 1,by omega⟩;rw [spec_l3Cube.l0,if_pos (Int.natCast_nonneg _),shl1_of (by omega),if_neg (by omega),cubeF]
 | succ d ih =>
  intro k x out hx hk;obtain ⟨k,rfl⟩:∃ m,k = m + 1:=⟨k - 1,by omega⟩;rw [spec_l3Cube.l0,if_pos (Int.natCast_nonneg _),shl1_of (by omega),if_pos (by omega),and_cast (by omega) (by omega),cubeF];have hih:=fun out=>ih k (x + 1) out (by omega) (by omega)
  by_cases h:x &&& mask = value
  ·rw [if_pos (by omega),if_pos h,if_pos (Int.natCast_nonneg _),bit_cast ht.lt63 (by omega),wrap64_succ (by omega)]
   by_cases h0:out ≥ 0
   ·rw [if_pos h0,if_pos h0]
    by_cases h1:out = ((bitN w x:Nat):Int)
    ·rw [if_pos h1,if_pos h1];exact hih _
    ·rw [if_neg h1,if_neg h1]
   ·rw [if_neg h0,if_neg h0];exact hih _
  ·rw [if_neg (by omega),if_neg h,wrap64_succ (by omega)];exact hih _
theorem cube_one {w mask value c:Nat}:∀ (d x:Nat) (out:Int),(∀ y,x ≤ y → y < x + d → y &&& mask = value → bitN w y = c) → (out = c ∨ out = -1 ∧ ∃ y,x ≤ y ∧ y < x + d ∧ y &&& mask = value) → cubeF w mask value d x out = c:=by
 intro d
 induction d with
 | zero =>
  intro x out _ h;rcases h with h | ⟨_,y,h1,h2,_⟩
  ·rw [cubeF];exact h
  ·omega
 | succ d ih =>
  intro x out hall h;rw [cubeF]
  by_cases hx:x &&& mask = value
  ·have hc:=hall x (Nat.le_refl _) (by omega) hx
   rw [if_pos hx,hc];have hr:=ih (x + 1) (c:Int) (fun y h1 h2=>hall y (by omega) (by omega)) (.inl rfl);rcases h with h | ⟨h,_⟩
   ·rw [if_pos (by omega),if_pos h];exact hr
   ·rw [if_neg (by omega)];exact hr
  ·rw [if_neg hx]
   refine ih (x + 1) out (fun y h1 h2=>hall y (by omega) (by omega)) ?_;rcases h with h | ⟨h,y,h1,h2,h3⟩
   ·exact .inl h
   ·refine .inr ⟨h,y,?_,by omega,h3⟩
    by_cases e:y = x
    ·subst e;exact absurd h3 hx
    ·omega
theorem cube_two {w mask value:Nat}:∀ (d x:Nat) (out:Int),((∃ c:Nat,out = c ∧ ∃ y,x ≤ y ∧ y < x + d ∧ y &&& mask = value ∧ bitN w y ≠ c) ∨ (out = -1 ∧ ∃ y z,(x ≤ y ∧ y < x + d ∧ y &&& mask = value) ∧ (x ≤ z ∧ z < x + d ∧ z &&& mask = value) ∧ bitN w y ≠ bitN w z)) → cubeF w mask value d x out = 2:=by
 intro d
 induction d with
 | zero =>
  intro x out h;rcases h with ⟨c,_,y,h1,h2,_⟩ | ⟨_,y,z,⟨h1,h2,_⟩,_⟩ <;> omega
 | succ d ih =>
  intro x out h;rw [cubeF]
  by_cases hx:x &&& mask = value
  ·rw [if_pos hx]
   rcases h with ⟨c,hc,y,h1,h2,h3,h4⟩ | ⟨hc,y,z,⟨h1,h2,h3⟩,⟨k1,k2,k3⟩,h4⟩
   ·rw [if_pos (by omega)]
    by_cases e:out = ((bitN w x:Nat):Int)
    ·rw [if_pos e]
     have hxc:bitN w x = c:=by omega
     refine ih (x + 1) _ (.inl ⟨bitN w x,rfl,y,?_,by omega,h3,by rw [hxc];exact h4⟩)
     by_cases e2:y = x
     ·subst e2;exact absurd hxc h4
     ·omega
    ·rw [if_neg e]
   ·rw [if_neg (by omega)]
    refine ih (x + 1) _ (.inl ⟨bitN w x,rfl,?_⟩)
    by_cases e:bitN w y = bitN w x
    ·have hz:bitN w z ≠ bitN w x:=fun q=>h4 (e.trans q.symm)
     refine ⟨z,?_,by omega,k3,hz⟩
     by_cases e2:z = x
     ·subst e2;exact absurd rfl hz
     ·omega
    ·refine ⟨y,?_,by omega,h3,e⟩
     by_cases e2:y = x
     ·subst e2;exact absurd rfl e
     ·omega
  ·rw [if_neg hx]
   refine ih (x + 1) out ?_;have hne:∀ y,y &&& mask = value → y ≠ x:=fun y hy e=>by subst e;exact hx hy
   rcases h with ⟨c,hc,y,h1,h2,h3,h4⟩ | ⟨hc,y,z,⟨h1,h2,h3⟩,⟨k1,k2,k3⟩,h4⟩
   ·have:=hne y h3
    exact .inl ⟨c,hc,y,by omega,by omega,h3,h4⟩
   ·have:=hne y h3
    have:=hne z k3;exact .inr ⟨hc,y,z,⟨by omega,by omega,h3⟩,⟨by omega,by omega,k3⟩,h4⟩
theorem bitN_of {w v x y:Nat} (h:w.testBit x = v.testBit y):bitN w x = bitN v y:=by unfold bitN;rw [h]
theorem spec_cube {n w mask value k:Nat} (ht:Tab n w) (hm:mask < 2 ^ n) (hv:value < 2 ^ n) (hs:value &&& mask = value) (hk:40 < k) :
  spec_l3Cube.f k n w mask value = some (if constB n (fixW n w mask value) = true then ((bitN (fixW n w mask value) 0:Nat):Int) else 2):=by
 have hn:=ht.1;have hp:=pow_le hn;have htf:Tab n (fixW n w mask value):=⟨hn,fixW_lt _ _ _ _⟩;have h:=cube_loop ht hm hv (2 ^ n) k 0 (-1) (by omega) (by omega);refine h.trans (congrArg some ?_);have hpos:=pow_pos n
 cases hc:constB n (fixW n w mask value) with
 | true =>
  rw [if_pos rfl];have hall:=(const_iff htf).mp hc;refine cube_one (2 ^ n) 0 (-1) (fun y _ hy hS=>?_) (.inr ⟨rfl,value,Nat.zero_le _,by omega,hs⟩);have:=hall y (by omega);rw [testBit_fixW (by omega),fix_same hS] at this;exact bitN_of this
 | false =>
  rw [if_neg (by decide)];have hnot:¬ ∀ x,x < 2 ^ n → (fixW n w mask value).testBit x = (fixW n w mask value).testBit 0:=fun q=>by rw [(const_iff htf).mpr q] at hc;cases hc
  obtain ⟨x,hx⟩:=Classical.not_forall.mp hnot;obtain ⟨hx,hne⟩:=Classical.not_imp.mp hx;rw [testBit_fixW hx,testBit_fixW hpos] at hne;refine cube_two (2 ^ n) 0 (-1) (.inr ⟨rfl,fixX x mask value,fixX 0 mask value,⟨Nat.zero_le _,by have:=fix_lt (mask:=mask) hx hv;omega,fix_in hs⟩,⟨Nat.zero_le _,by have:=fix_lt (mask:=mask) hpos hv;omega,fix_in hs⟩,fun e=>hne ?_⟩);unfold bitN at e
  revert e
  cases w.testBit (fixX x mask value) <;> cases w.testBit (fixX 0 mask value) <;> simp
theorem rd_idx {xs:List Int} {v:Int}:∀ (d x:Nat),x + d = xs.length → (∀ j:Nat,j < x → rd xs j ≠ v) → idxOf xs v = none ∨ ∃ j:Nat,x ≤ j ∧ j < xs.length ∧ rd xs j = v ∧ (∀ i:Nat,i < j → rd xs i ≠ v):=by
 intro d
 induction d with
 | zero =>
  intro x hx h
  left
  rw [idxOf_none];intro hm;obtain ⟨j,hj,e⟩:=List.getElem_of_mem hm;exact h j (by omega) (by rw [rd_get xs hj];exact e)
 | succ d ih =>
  intro x hx h
  by_cases e:rd xs x = v
  ·exact .inr ⟨x,Nat.le_refl _,by omega,e,h⟩
  ·rcases ih (x + 1) (by omega) (fun j hj=>by
    by_cases q:j = x
    ·rw [q];exact e
    ·exact h j (by omega)) with h1 | ⟨j,h1,h2⟩
   ·exact .inl h1
   ·exact .inr ⟨j,by omega,h2⟩
theorem idxOf_first:∀ {xs:List Int} {v:Int} {j:Nat},j < xs.length → rd xs j = v → (∀ i:Nat,i < j → rd xs i ≠ v) → idxOf xs v = some j:=by
 intro xs
 induction xs with
 | nil=>intro v j hj;exact absurd hj (Nat.not_lt_zero _)
 | cons x xs ih =>
  intro v j hj h1 h2;rw [idxOf]
  cases j with
  | zero =>
   have h1:x = v:=h1;rw [if_pos h1]
  | succ j =>
   have h0:x ≠ v:=h2 0 (Nat.succ_pos _);rw [if_neg h0,ih (Nat.lt_of_succ_lt_succ hj) (v:=v) (j:=j) h1 (fun i hi=>h2 (i + 1) (Nat.succ_lt_succ hi))]
   rfl
theorem build_loop {k0:Nat} {ord:List Int} {lv mask value b:Int} {nodes:List S56} {names:List Int} {v n w:Int} {r:Option (Int × List S56 × List Int)} (hl:names.length < 1000)
  (hend:idxOf names v = none → ∀ k,k0 < k → spec_l19Build.l0 k ord lv mask value nodes names b v (names.length:Int) n w = r) (hhit:∀ j,idxOf names v = some j → r = some ((j:Int),nodes,names)) :
  ∀ (d k x:Nat),x + d = names.length → d + k0 < k → (∀ j:Nat,j < x → rd names j ≠ v) → spec_l19Build.l0 k ord lv mask value nodes names b v x n w = r:=by
 intro d
 induction d with
 | zero =>
  intro k x hx hk h;obtain rfl:x = names.length:=by omega
  have hno:idxOf names v = none:=by
   rcases rd_idx 0 names.length (Nat.add_zero _) h with h1 | ⟨j,h1,h2,_⟩
   ·exact h1
   ·omega
  exact hend hno k (by omega)
 | succ d ih =>
  intro k x hx hk h;obtain ⟨k,rfl⟩:∃ m,k = m + 1:=⟨k - 1,by omega⟩;rw [spec_l19Build.l0,if_pos (by omega),if_pos (Int.natCast_nonneg _)]
  by_cases e:rd names x = v
  ·rw [if_pos e]
   exact (hhit x (idxOf_first (by omega) e h)).symm
  ·rw [if_neg e,wrap64_succ (by omega)]
   exact ih k (x + 1) (by omega) (by omega) (fun j hj=>by
    by_cases q:j = x
    ·rw [q];exact e
    ·exact h j (by omega))
theorem spec_build {n w:Nat} {ord:List Int} (ht:Tab n w) (ho:Ord n ord):∀ (d k lv mask value:Nat) (names:List Int) (nodes:List S56),lv + d = n → d * 100 + 200 < k → mask < 2 ^ n → value < 2 ^ n → value &&& mask = value →
  (∀ j:Nat,j < lv → mask.testBit (rd ord j).toNat = true) → (∀ j:Nat,lv ≤ j → j < n → mask.testBit (rd ord j).toNat = false) → names.length + 2 ^ d ≤ 60 → nodes.length + 2 ^ d ≤ 60 →
  spec_l19Build.f k n w ord lv mask value nodes names = some ((bld n ord d lv (fixW n w mask value) names nodes).1,(bld n ord d lv (fixW n w mask value) names nodes).2.2,(bld n ord d lv (fixW n w mask value) names nodes).2.1):=by
 have hle:=ho.le;have hlen:=ho.len;have hp:=pow_le hle;intro d
 induction d with
 | zero =>
  intro k lv mask value names nodes hd hk hm hv hs h1 h2 hnl hdl;obtain ⟨k,rfl⟩:∃ m,k = m + 1:=⟨k - 1,by omega⟩;have htf:Tab n (fixW n w mask value):=⟨hle,fixW_lt _ _ _ _⟩
  have hc:constB n (fixW n w mask value) = true:=by
   rw [const_iff htf];intro x hx
   have hz:∀ y,y < 2 ^ n → fixX y mask value = value:=by
    intro y hy
    apply Nat.eq_of_testBit_eq
    intro i;unfold fixX;rw [Nat.testBit_or,testBit_ldiff]
    by_cases hi:i < n
    ·obtain ⟨j,hj,hr⟩:=ho.all i hi
     have:=h1 j (by omega);rw [hr,Int.toNat_natCast] at this;rw [this,Bool.not_true,Bool.and_false,Bool.false_or]
    ·rw [testBit_ge hy (by omega),Bool.false_and,Bool.false_or]
   rw [testBit_fixW hx,testBit_fixW (pow_pos n),hz x hx,hz 0 (pow_pos n)]
  have hb:=bitN_le (fixW n w mask value) 0;rw [spec_l19Build.f,spec_cube ht hm hv hs (by omega),Option.bind_some,if_pos hc,if_pos (by omega),wrap64_of (by omega) (by omega),bld]
 | succ d ih =>
  intro k lv mask value names nodes hd hk hm hv hs h1 h2 hnl hdl;obtain ⟨k,rfl⟩:∃ m,k = m + 1:=⟨k - 1,by omega⟩;have hpd:=pow_pos d;rw [Nat.pow_succ] at hnl hdl;rw [Nat.succ_mul] at hk;have hb:=bitN_le (fixW n w mask value) 0;obtain ⟨i,hi,hin⟩:=ho.at_ lv (by omega)
  cases hc:constB n (fixW n w mask value) with
  | true=>rw [spec_l19Build.f,spec_cube ht hm hv hs (by omega),Option.bind_some,if_pos hc,if_pos (by omega),wrap64_of (by omega) (by omega),bld_const hc]
  | false =>
   have hcube:∀ k,40 < k → spec_l3Cube.f k n w mask value = some 2:=fun k hk=>by rw [spec_cube ht hm hv hs hk,hc];rfl
   have hmi:mask.testBit i = false:=by
    have:=h2 lv (Nat.le_refl _) (by omega);rw [hi,Int.toNat_natCast] at this;exact this
   have hpi:2 ^ i < 2 ^ n:=pow_lt hin;have hm2:mask ||| 2 ^ i < 2 ^ n:=Nat.or_lt_two_pow hm hpi
   have hv2:value ||| 2 ^ i < 2 ^ n:=Nat.or_lt_two_pow hv hpi
   have hs0:value &&& (mask ||| 2 ^ i) = value:=by
    apply Nat.eq_of_testBit_eq
    intro q;have e:=congrArg (fun z:Nat=>z.testBit q) hs;simp only [Nat.testBit_and] at e;rw [Nat.testBit_and,Nat.testBit_or]
    revert e
    cases value.testBit q <;> cases mask.testBit q <;> simp
   have hs1:(value ||| 2 ^ i) &&& (mask ||| 2 ^ i) = value ||| 2 ^ i:=by
    apply Nat.eq_of_testBit_eq
    intro q;have e:=congrArg (fun z:Nat=>z.testBit q) hs;simp only [Nat.testBit_and] at e;rw [Nat.testBit_and,Nat.testBit_or,Nat.testBit_or]
    revert e
    cases value.testBit q <;> cases mask.testBit q <;> cases (2 ^ i).testBit q <;> simp
   have hin1:∀ j:Nat,j < lv + 1 → (mask ||| 2 ^ i).testBit (rd ord j).toNat = true:=by
    intro j hj;rw [Nat.testBit_or]
    by_cases e:j = lv
    ·rw [e,hi,Int.toNat_natCast,Nat.testBit_two_pow];simp
    ·rw [h1 j (by omega),Bool.true_or]
   have hin2:∀ j:Nat,lv + 1 ≤ j → j < n → (mask ||| 2 ^ i).testBit (rd ord j).toNat = false:=by
    intro j hj hjn;obtain ⟨i',hi',_⟩:=ho.at_ j hjn
    have hne:i ≠ i':=fun e=>by
     have:=ho.inj j lv hjn (by omega) (by rw [hi',hi,e]);omega
    rw [Nat.testBit_or,h2 j (by omega) hjn,hi',Int.toNat_natCast,Nat.testBit_two_pow];simp [hne]
   have e0:stkW n (fixW n w mask value) i 0 = fixW n w (mask ||| 2 ^ i) value:=by
    have:=stkW_fixW (w:=w) (b:=0) hle hin hmi hs (by omega);rw [Nat.zero_shiftLeft,Nat.or_zero] at this;exact this
   have e1:stkW n (fixW n w mask value) i 1 = fixW n w (mask ||| 2 ^ i) (value ||| 2 ^ i):=by
    have:=stkW_fixW (w:=w) (b:=1) hle hin hmi hs (by omega);rw [one_shl] at this;exact this
   have ebit:shl .i64 1 (rd ord lv) = ((2 ^ i:Nat):Int):=by rw [hi];exact shl1_of (by omega)
   have em:Go.bits .or .i64 (mask:Int) ((2 ^ i:Nat):Int) = ((mask ||| 2 ^ i:Nat):Int):=or_cast (by omega) (by omega);have ev:Go.bits .or .i64 (value:Int) ((2 ^ i:Nat):Int) = ((value ||| 2 ^ i:Nat):Int):=or_cast (by omega) (by omega);rw [spec_l19Build.f,hcube k (by omega),Option.bind_some,if_neg (by decide),if_pos (Int.natCast_nonneg _),if_pos (by omega),if_pos (by rw [hi];exact Int.natCast_nonneg _),ebit,em,ev,spec_word ht hm2 hv hs0 (by omega),Option.bind_some,spec_word ht hm2 hv2 hs1 (by omega),Option.bind_some,wrap64_succ (by omega)]
   by_cases hdp:fixW n w (mask ||| 2 ^ i) value = fixW n w (mask ||| 2 ^ i) (value ||| 2 ^ i)
   ·have hd':stkW n (fixW n w mask value) (rd ord lv).toNat 0 = stkW n (fixW n w mask value) (rd ord lv).toNat 1:=by rw [hi,Int.toNat_natCast,e0,e1];exact hdp
    rw [if_pos (by rw [hdp]),ih k (lv + 1) (mask ||| 2 ^ i) value names nodes (by omega) (by omega) hm2 hv hs0 hin1 hin2 (by omega) (by omega),Option.bind_some,bld_skip hc hd',hi,Int.toNat_natCast,e0]
   ·have hd':¬ stkW n (fixW n w mask value) (rd ord lv).toNat 0 = stkW n (fixW n w mask value) (rd ord lv).toNat 1:=by rw [hi,Int.toNat_natCast,e0,e1];exact hdp
    rw [if_neg (fun q=>hdp (by omega)),spec_word ht hm hv hs (by omega),Option.bind_some];obtain ⟨k0,hk0⟩:∃ k0,k0 = d * 100 + 201:=⟨_,rfl⟩;obtain ⟨l1,l2,_⟩:=bld_len (n:=n) (ord:=ord) d (lv + 1) (fixW n w (mask ||| 2 ^ i) value) names nodes;obtain ⟨m1,m2,_⟩:=bld_len (n:=n) (ord:=ord) d (lv + 1) (fixW n w (mask ||| 2 ^ i) (value ||| 2 ^ i)) (bld n ord d (lv + 1) (fixW n w (mask ||| 2 ^ i) value) names nodes).2.1 (bld n ord d (lv + 1) (fixW n w (mask ||| 2 ^ i) value) names nodes).2.2;refine build_loop (k0:=k0) (by omega) (fun hno q hq=>?_) (fun j hj=>?_) names.length k 0 (by omega) (by omega) (fun j hj=>absurd hj (Nat.not_lt_zero _))
    ·obtain ⟨q,rfl⟩:∃ m,q = m + 1:=⟨q - 1,by omega⟩
     have c0:=ih q (lv + 1) (mask ||| 2 ^ i) value names nodes (by omega) (by omega) hm2 hv hs0 hin1 hin2 (by omega) (by omega);have c1:=ih q (lv + 1) (mask ||| 2 ^ i) (value ||| 2 ^ i) (bld n ord d (lv + 1) (fixW n w (mask ||| 2 ^ i) value) names nodes).2.1 (bld n ord d (lv + 1) (fixW n w (mask ||| 2 ^ i) value) names nodes).2.2 (by omega) (by omega) hm2 hv2 hs1 hin1 hin2 (by omega) (by omega);rw [spec_l19Build.l0,if_neg (by omega),wrap64_succ (by omega),em,c0,Option.bind_some,ev];dsimp only;rw [c1,Option.bind_some];dsimp only;rw [if_pos (Int.natCast_nonneg _),if_pos (by omega),if_pos (by omega),if_pos (by omega)];rw [bld_nw hc hd' hno rfl rfl,hi,Int.toNat_natCast,e0,e1]
    ·rw [bld_old hc hd' hj]
end Go.Proofs.YtflacbjpeecjcabGreatDoor.U
namespace Go.Proofs.YtflacbjpeecjcabGreatDoor.U
open Go.Proofs.YtflacbjpeecjcabGreatDoor.F Go.Proofs.YtflacbjpeecjcabGreatDoor.B
theorem ord_of {n:Nat} {o:List Int} (hn:n ≤ 5) (hl:o.length = n) (hp:isPerm o = true):Ord n o:=by
 have hm:=(isPerm_iff o).mp hp;obtain ⟨hd,hr⟩:=all_perm o.length o hm rfl;subst hl;refine ⟨rfl,hn,fun j hj=>?_,fun i hi=>?_,fun j k hj hk h=>?_⟩
 ·obtain ⟨h0,h1⟩:=hr _ (rd_mem o hj)
  exact ⟨(rd o j).toNat,by omega,by omega⟩
 ·obtain ⟨j,hj,e⟩:=List.getElem_of_mem (hm i hi)
  exact ⟨j,hj,by rw [rd_get o hj];exact e⟩
 ·rw [rd_get o hj,rd_get o hk] at h
  have hq:=List.pairwise_iff_getElem.mp hd;rcases Nat.lt_trichotomy j k with e | e | e
  ·exact absurd h (hq j k hj hk e)
  ·exact e
  ·exact absurd h.symm (hq k j hk hj e)
def diaI (a b:Int) (l:List Int):List S56 × Bool :=
 if isTab a b = true then (if (decide ((l.length:Int) = a) && isPerm l) = true then ((bld a.toNat l a.toNat 0 b.toNat [] []).2.2,true) else ([],false)) else ([],false)
theorem diaI_len (a b:Int) (l:List Int):(diaI a b l).1.length ≤ 32:=by
 unfold diaI
 cases hT:isTab a b with
 | false=>rw [if_neg (by decide)];exact Nat.zero_le _
 | true =>
  rw [if_pos rfl];obtain ⟨n,w,rfl,rfl,ht⟩:=tab_of hT;have hp:=pow_le ht.1
  split
  ·have h:=(bld_len (n:=n) (ord:=l) n 0 w [] []).2.1
   rw [List.length_nil] at h;rw [Int.toNat_natCast,Int.toNat_natCast]
   show (bld n l n 0 w [] []).2.2.length ≤ 32
   omega
  ·exact Nat.zero_le _
theorem impl_diagram {a b:Int} {l:List Int} {k:Nat} (h0:-9223372036854775808 ≤ b) (h1:b ≤ 9223372036854775807) (hl:l.length ≤ 1048576) (hk:3000000 < k):impl_DiagramOf.f k a b l = some (diaI a b l):=by
 unfold impl_DiagramOf.f diaI;rw [impl_isTable h0 h1,Option.bind_some]
 cases hT:isTab a b with
 | false=>rw [if_neg (by decide),if_neg (by decide)]
 | true =>
  rw [if_pos rfl,if_pos rfl,order_some l a hl hk,Option.bind_some];obtain ⟨n,w,rfl,rfl,ht⟩:=tab_of hT
  cases hP:(decide ((l.length:Int) = (n:Int)) && isPerm l) with
  | false=>rw [if_neg (by decide),if_neg (by decide)]
  | true =>
   rw [if_pos rfl,if_pos rfl];rw [Bool.and_eq_true,decide_eq_true_eq] at hP;have hln:l.length = n:=by have:=hP.1;omega
   have ho:=ord_of ht.1 hln hP.2;have hp:=pow_le ht.1;have hn:=ht.1;have hw:=walk_bld ho n 10 0 w [] [] (by omega) (by omega) ht (fun j hj=>absurd hj (Nat.not_lt_zero _)) (by rw [List.length_nil];omega);unfold impl_Table_diagram.f;rw [if_pos ⟨wf_small (by omega),by omega⟩,hw,Option.bind_some,Option.bind_some,Int.toNat_natCast,Int.toNat_natCast]
theorem const_some {n w:Nat} (ht:Tab n w):spec_IsConstant.f n w = some (constB n w):=by
 have h2:=ht.2;have h3:=pow_pos (2 ^ n);unfold spec_IsConstant.f;rw [spec_isTable,isTab_of ht,Option.bind_some,if_pos rfl];unfold constB
 by_cases h:w = 0
 ·rw [if_pos (by omega),h];rfl
 ·rw [if_neg (by omega),full_some ht.1,Option.bind_some,show (w == 0) = false from beq_eq_false_iff_ne.mpr h,Bool.false_or]
  congr 1
  rw [Bool.eq_iff_iff,beq_iff_eq,beq_iff_eq];omega
theorem spec_diagram (a b:Int) {l:List Int} {k:Nat} (hl:l.length ≤ 1048576) (hk:1200000000001 < k):spec_DiagramOf.f k a b l = some (diaI a b l):=by
 obtain ⟨k,rfl⟩:∃ m,k = m + 1:=⟨k - 1,by omega⟩;unfold spec_DiagramOf.f diaI;rw [spec_isTable,Option.bind_some]
 cases hT:isTab a b with
 | false=>rw [if_neg (by decide),if_neg (by decide),spec_DiagramOf.j0,if_pos rfl]
 | true =>
  obtain ⟨n,w,rfl,rfl,ht⟩:=tab_of hT;have hn:=ht.1;rw [if_pos rfl,if_pos rfl,spec_perm hl (by omega) (by omega),Option.bind_some,spec_DiagramOf.j0]
  cases hP:(decide ((l.length:Int) = (n:Int)) && isPerm l) with
  | false=>rw [if_pos (show (!false) = true from rfl),if_neg (by decide)]
  | true =>
   rw [if_neg (by decide),if_pos rfl,const_some ht,Option.bind_some];rw [Bool.and_eq_true,decide_eq_true_eq] at hP;have hln:l.length = n:=by have:=hP.1;omega
   have ho:=ord_of ht.1 hln hP.2;have hp:=pow_le ht.1;rw [Int.toNat_natCast,Int.toNat_natCast]
   cases hc:constB n w with
   | true =>
    rw [if_pos rfl]
    cases n with
    | zero=>rw [bld]
    | succ n=>rw [bld_const hc]
   | false =>
    have hz:=fixW_zero ht.2;have hb:=spec_build ht ho n k 0 0 0 [] [] (by omega) (by omega) (pow_pos n) (pow_pos n) rfl (fun j hj=>absurd hj (Nat.not_lt_zero _)) (fun j _ _=>Nat.zero_testBit _) (by rw [List.length_nil];omega) (by rw [List.length_nil];omega);rw [hz] at hb;have hb':spec_l19Build.f k n w l 0 0 0 [] [] = some ((bld n l n 0 w [] []).1,(bld n l n 0 w [] []).2.2,(bld n l n 0 w [] []).2.1):=hb;rw [if_neg (by decide),hb',Option.bind_some]
def dnext (n:S56) (x:Nat):Int:=if x.testBit n.f0.toNat = true then n.f2 else n.f1
def dval (l:List S56) (x:Nat):Nat → Nat → Int
 | 0,_=>-1
 | m + 1,at_=>if (rd_T56 l at_).f0 < 0 ∨ 4 < (rd_T56 l at_).f0 then -1 else
   if dnext (rd_T56 l at_) x < -2 ∨ (at_:Int) ≤ dnext (rd_T56 l at_) x then -1 else
   if dnext (rd_T56 l at_) x < 0 then dnext (rd_T56 l at_) x + 2 else dval l x m (dnext (rd_T56 l at_) x).toNat
theorem and_shr {x:Nat} {v:Int} (hx:x < 32) (h0:0 ≤ v) (h1:v ≤ 4):(Go.bits .and .i64 (shr .i64 (x:Int) v) 1 = 1) ↔ x.testBit v.toNat = true:=by
 obtain ⟨n,rfl⟩:=Int.eq_ofNat_of_zero_le h0;rw [bit_cast (by omega) (by omega),Int.toNat_natCast];unfold bitN
 cases x.testBit n <;> decide
theorem impl_val (l:List S56) (hl:l.length ≤ 31) (x:Nat) (hx:x < 32):∀ (m k at_:Nat),at_ < m → at_ < l.length → 2 * m + 3 < k →
  impl_ValueInDiagram.l0 k l x at_ = some (dval l x m at_):=by
 intro m
 induction m with
 | zero=>intro k at_ h;omega
 | succ m ih =>
  intro k at_ hm ha hk;obtain ⟨k,rfl⟩:∃ m,k = m + 2:=⟨k - 2,by omega⟩;rw [impl_ValueInDiagram.l0,dval,if_pos (by omega),if_pos (by omega),if_pos (by omega)];generalize hn:rd_T56 l at_ = n
  have hend:∀ v:Int,(if v < -2 then some (-1) else if v ≥ (at_:Int) then some (-1) else impl_ValueInDiagram.l0 k l x v) = some (if v < -2 ∨ (at_:Int) ≤ v then -1 else if v < 0 then v + 2 else dval l x m v.toNat):=by
   intro v
   by_cases h1:v < -2
   ·rw [if_pos h1,if_pos (.inl h1)]
   ·rw [if_neg h1]
    by_cases h2:v ≥ (at_:Int)
    ·rw [if_pos h2,if_pos (.inr h2)]
    ·rw [if_neg h2,if_neg (by omega)]
     by_cases h3:v < 0
     ·rw [if_pos h3]
      obtain ⟨k,rfl⟩:∃ m,k = m + 1:=⟨k - 1,by omega⟩;rw [impl_ValueInDiagram.l0,if_neg (by omega),wrap64_of (by omega) (by omega),show v - -2 = v + 2 by omega]
     ·rw [if_neg h3]
      obtain ⟨u,rfl⟩:=Int.eq_ofNat_of_zero_le (show 0 ≤ v by omega);rw [Int.toNat_natCast];exact ih k u (by omega) (by omega) (by omega)
  by_cases h0:n.f0 < 0
  ·rw [if_pos h0,if_pos (.inl h0),impl_ValueInDiagram.j2,if_pos rfl]
  ·rw [if_neg h0]
   by_cases h4:4 < n.f0
   ·rw [if_pos (.inr h4),decide_eq_true (by omega),impl_ValueInDiagram.j2,if_pos rfl]
   ·rw [if_neg (by omega),decide_eq_false (by omega),impl_ValueInDiagram.j2,if_neg (by decide),if_pos (by omega)]
    unfold dnext
    by_cases hb:x.testBit n.f0.toNat = true
    ·rw [if_pos ((and_shr hx (by omega) (by omega)).mpr hb),if_pos hb]
     exact hend _
    ·rw [if_neg (fun q=>hb ((and_shr hx (by omega) (by omega)).mp q)),if_neg hb]
     exact hend _
theorem spec_val (l:List S56) (hl:l.length ≤ 31) (x:Nat) (hx:x < 32):∀ (m k at_:Nat),at_ < m → at_ < l.length → 2 * m + 3 < k →
  spec_ValueInDiagram.l0 k l x at_ = some (dval l x m at_):=by
 intro m
 induction m with
 | zero=>intro k at_ h;omega
 | succ m ih =>
  intro k at_ hm ha hk;obtain ⟨k,rfl⟩:∃ m,k = m + 2:=⟨k - 2,by omega⟩;rw [spec_ValueInDiagram.l0,dval,if_pos (by omega),if_pos (by omega),if_pos (by omega)];generalize hn:rd_T56 l at_ = n
  have hend:∀ v:Int,spec_ValueInDiagram.j2 (k + 1) l x at_ v = some (if v < -2 ∨ (at_:Int) ≤ v then -1 else if v < 0 then v + 2 else dval l x m v.toNat):=by
   intro v;rw [spec_ValueInDiagram.j2,l1In_some _ _ _ _ rfl,Option.bind_some]
   by_cases h1:-2 ≤ v ∧ v ≤ -1
   ·rw [if_pos (decide_eq_true h1),if_neg (by omega),if_pos (by omega),wrap64_of (by omega) (by omega)]
   ·rw [if_neg (fun q=>h1 (of_decide_eq_true q)),l1In_some _ _ _ _ rfl,Option.bind_some,wrap64_of (by omega) (by omega)]
    by_cases h2:0 ≤ v ∧ v ≤ (at_:Int) - 1
    ·rw [if_pos (decide_eq_true h2),if_neg (by omega),if_neg (by omega)]
     obtain ⟨u,rfl⟩:=Int.eq_ofNat_of_zero_le h2.1;rw [Int.toNat_natCast];exact ih k u (by omega) (by omega) (by omega)
    ·rw [if_neg (fun q=>h2 (of_decide_eq_true q)),if_pos (by omega)]
  rw [l1In_some _ _ _ _ rfl,Option.bind_some]
  by_cases h0:0 ≤ n.f0 ∧ n.f0 ≤ 4
  ·rw [if_pos (decide_eq_true h0),if_pos h0.1,if_neg (show ¬ (n.f0 < 0 ∨ 4 < n.f0) by omega)]
   unfold dnext
   by_cases hb:x.testBit n.f0.toNat = true
   ·rw [if_pos ((and_shr hx (by omega) (by omega)).mpr hb),if_pos hb]
    exact hend _
   ·rw [if_neg (fun q=>hb ((and_shr hx (by omega) (by omega)).mp q)),if_neg hb]
    exact hend _
  ·rw [if_neg (fun q=>h0 (of_decide_eq_true q)),if_pos (by omega)]
def dvalI (l:List S56) (x:Int):Int:=if l.length < 1 ∨ 31 < l.length ∨ x < 0 ∨ 31 < x then -1 else dval l x.toNat l.length (l.length - 1)
theorem isInput5 (x:Int):impl_isInput.f 5 x = some (decide (0 ≤ x ∧ x ≤ 31)):=by
 unfold impl_isInput.f
 by_cases h:x ≥ 0
 ·rw [if_pos h,if_pos (by decide),show shl .i64 1 5 = 32 by decide];congr 1;exact decide_eq_decide.mpr (by omega)
 ·rw [if_neg h];congr 1;symm;exact decide_eq_false (by omega)
theorem impl_dval (l:List S56) (x:Int) {k:Nat} (hl:l.length ≤ 9223372036854775807) (hk:100 < k):impl_ValueInDiagram.f k l x = some (dvalI l x):=by
 obtain ⟨k,rfl⟩:∃ m,k = m + 1:=⟨k - 1,by omega⟩;unfold impl_ValueInDiagram.f dvalI
 by_cases h1:(l.length:Int) < 1
 ·rw [if_pos h1,if_pos (.inl (by omega)),impl_ValueInDiagram.j0,if_pos rfl]
 ·rw [if_neg h1]
  by_cases h2:(l.length:Int) > 31
  ·rw [if_pos h2,if_pos (.inr (.inl (by omega))),impl_ValueInDiagram.j0,if_pos rfl]
  ·rw [if_neg h2,isInput5,Option.bind_some,impl_ValueInDiagram.j0]
   by_cases h3:0 ≤ x ∧ x ≤ 31
   ·obtain ⟨y,rfl⟩:=Int.eq_ofNat_of_zero_le h3.1
    rw [decide_eq_true h3,if_neg (by decide),if_neg (by omega),wrap64_of (by omega) (by omega),Int.toNat_natCast,show ((l.length:Int) - 1) = ((l.length - 1:Nat):Int) by omega];exact impl_val l (by omega) y (by omega) l.length k (l.length - 1) (by omega) (by omega) (by omega)
   ·rw [decide_eq_false h3,if_pos (by decide),if_pos (by omega)]
theorem spec_dval (l:List S56) (x:Int) {k:Nat} (hl:l.length ≤ 9223372036854775807) (hk:100 < k):spec_ValueInDiagram.f k l x = some (dvalI l x):=by
 obtain ⟨k,rfl⟩:∃ m,k = m + 1:=⟨k - 1,by omega⟩;unfold spec_ValueInDiagram.f dvalI
 by_cases h2:(l.length:Int) > 31
 ·rw [if_pos h2,if_pos (.inr (.inl (by omega))),spec_ValueInDiagram.j0,if_pos rfl]
 ·rw [if_neg h2,l1In_some _ _ _ _ rfl,Option.bind_some,spec_ValueInDiagram.j0]
  by_cases h3:0 ≤ x ∧ x ≤ 31
  ·obtain ⟨y,rfl⟩:=Int.eq_ofNat_of_zero_le h3.1
   rw [decide_eq_true h3,if_neg (by decide),wrap64_of (by omega) (by omega),Int.toNat_natCast]
   by_cases h1:l.length < 1
   ·rw [if_pos (.inl h1)]
    obtain ⟨k,rfl⟩:∃ m,k = m + 1:=⟨k - 1,by omega⟩;rw [spec_ValueInDiagram.l0,if_neg (by omega)]
   ·rw [if_neg (by omega),show ((l.length:Int) - 1) = ((l.length - 1:Nat):Int) by omega]
    exact spec_val l (by omega) y (by omega) l.length k (l.length - 1) (by omega) (by omega) (by omega)
  ·rw [decide_eq_false h3,if_pos (by decide),if_pos (by omega)]
theorem spec_lev_loop (o:List Int) (v:Int) (hl:o.length ≤ 1048576):∀ d k x,x + d = o.length → d < k → spec_l19Level.l0 k o v (x:Nat) = some ((levF o v d x:Nat):Int):=by
 intro d
 induction d with
 | zero =>
  intro k x hx hk;obtain ⟨k,rfl⟩:∃ m,k = m + 1:=⟨k - 1,by omega⟩;simp only [spec_l19Level.l0];rw [if_neg (by omega),levF,show x = o.length by omega]
 | succ d ih =>
  intro k x hx hk;obtain ⟨k,rfl⟩:∃ m,k = m + 1:=⟨k - 1,by omega⟩;simp only [spec_l19Level.l0];rw [if_pos (by omega),if_pos (by omega),levF]
  by_cases h:rd o x = v
  ·rw [if_pos h,if_pos h]
  ·rw [if_neg h,if_neg h,wrap64_succ (by omega)]
   exact ih k (x + 1) (by omega) (by omega)
theorem spec_lev (o:List Int) (v:Int) {k:Nat} (hl:o.length ≤ 1048576) (hk:o.length < k):spec_l19Level.f k o v = some ((lev o v:Nat):Int):=spec_lev_loop o v hl o.length k 0 (by omega) hk
def eqN (a b:S56):Bool:=a.f0 == b.f0 && (a.f1 == b.f1 && (a.f2 == b.f2))
theorem eqN_comm (a b:S56):eqN a b = eqN b a:=by
 unfold eqN;rw [Bool.eq_iff_iff];simp only [Bool.and_eq_true,beq_iff_eq];exact ⟨fun ⟨h1,h2,h3⟩=>⟨h1.symm,h2.symm,h3.symm⟩,fun ⟨h1,h2,h3⟩=>⟨h1.symm,h2.symm,h3.symm⟩⟩
def newN (l:List S56) (i:Nat):Bool:=allN (fun j=>!eqN (rd_T56 l (j:Nat)) (rd_T56 l (i:Nat))) i
def okE (l:List S56) (o:List Int) (i p:Nat) (t:Int):Bool:=decide (-2 ≤ t ∧ t < i) && (decide (t < 0) || decide (p < lev o (rd_T56 l t).f0))
def okN (l:List S56) (o:List Int) (i:Nat):Bool :=
 decide (lev o (rd_T56 l (i:Nat)).f0 < o.length) && (!decide ((rd_T56 l (i:Nat)).f1 = (rd_T56 l (i:Nat)).f2)) && newN l i &&
  okE l o i (lev o (rd_T56 l (i:Nat)).f0) (rd_T56 l (i:Nat)).f1 && okE l o i (lev o (rd_T56 l (i:Nat)).f0) (rd_T56 l (i:Nat)).f2
def diagB (l:List S56) (o:List Int):Bool:=isPerm o && decide (o.length ≤ 5) && decide (1 ≤ l.length ∧ l.length ≤ 31) && allN (okN l o) l.length
theorem okN_lev {l:List S56} {o:List Int} {i:Nat} (h:okN l o i = true):lev o (rd_T56 l (i:Nat)).f0 < o.length:=by
 unfold okN at h;simp only [Bool.and_eq_true,decide_eq_true_eq] at h;exact h.1.1.1.1
theorem node_loop (l:List S56) (hl:l.length ≤ 31) {i:Nat} (hi:i < l.length):∀ (d k x:Nat),x + d = i → d < k → allN (fun j=>!eqN (rd_T56 l (j:Nat)) (rd_T56 l (i:Nat))) x = true →
  ∃ q:Int,impl_Node.l0 k l (l.length:Int) (x:Nat) (rd_T56 l (i:Nat)).f0 (rd_T56 l (i:Nat)).f1 (rd_T56 l (i:Nat)).f2 = some q ∧ (q = (i:Int) ↔ newN l i = true):=by
 intro d
 induction d with
 | zero =>
  intro k x hx hk ha;obtain ⟨k,rfl⟩:∃ m,k = m + 1:=⟨k - 1,by omega⟩;obtain rfl:x = i:=by omega
  simp only [impl_Node.l0];rw [if_pos (by omega),if_pos (by omega),if_pos (by omega),if_pos (by simp)];exact ⟨_,rfl,fun _=>ha,fun _=>rfl⟩
 | succ d ih =>
  intro k x hx hk ha;obtain ⟨k,rfl⟩:∃ m,k = m + 1:=⟨k - 1,by omega⟩;simp only [impl_Node.l0];rw [if_pos (by omega),if_pos (by omega),if_pos (by omega)]
  by_cases he:eqN (rd_T56 l (i:Nat)) (rd_T56 l (x:Nat)) = true
  ·have he':((rd_T56 l (i:Nat)).f0 == (rd_T56 l (x:Nat)).f0 && ((rd_T56 l (i:Nat)).f1 == (rd_T56 l (x:Nat)).f1 && ((rd_T56 l (i:Nat)).f2 == (rd_T56 l (x:Nat)).f2))) = true:=he
   rw [if_pos he'];refine ⟨_,rfl,fun h=>by omega,fun h=>?_⟩;unfold newN at h;rw [allN_iff] at h;have h1:=h x (by omega);rw [eqN_comm,he] at h1
   cases h1
  ·have he':¬ ((rd_T56 l (i:Nat)).f0 == (rd_T56 l (x:Nat)).f0 && ((rd_T56 l (i:Nat)).f1 == (rd_T56 l (x:Nat)).f1 && ((rd_T56 l (i:Nat)).f2 == (rd_T56 l (x:Nat)).f2))) = true:=he
   rw [if_neg he',wrap64_succ (by omega)];refine ih k (x + 1) (by omega) (by omega) (allN_next ha ?_);rw [eqN_comm,Bool.eq_false_iff.mpr he]
   rfl
theorem impl_bad {l:List S56} {o:List Int} {i:Nat} (ho:o.length ≤ 5) (p:Nat) (t:Int) (hb:∀ j:Nat,j < i → lev o (rd_T56 l (j:Nat)).f0 < o.length) {k:Nat} (hk:50 < k) :
  impl_IsDiagram.bad k l o i p t = some (!okE l o i p t):=by
 unfold impl_IsDiagram.bad okE
 by_cases h1:t < -2
 ·rw [if_pos h1,decide_eq_false (show ¬ (-2 ≤ t ∧ t < i) by omega)]
  rfl
 ·rw [if_neg h1]
  by_cases h2:(i:Int) ≤ t
  ·rw [if_pos h2,decide_eq_false (show ¬ (-2 ≤ t ∧ t < i) by omega)]
   rfl
  ·rw [if_neg h2,decide_eq_true (show -2 ≤ t ∧ t < i by omega),Bool.true_and]
   by_cases h3:0 ≤ t
   ·obtain ⟨u,rfl⟩:=Int.eq_ofNat_of_zero_le h3
    rw [if_pos h3,index_some o _ (by omega) (by omega),Option.bind_some,if_pos (hb u (by omega)),decide_eq_false (show ¬ (u:Int) < 0 by omega),Bool.false_or]
    congr 1
    rw [← decide_not];exact decide_eq_decide.mpr (by omega)
   ·rw [if_neg h3,decide_eq_true (show t < 0 by omega)]
    rfl
theorem impl_one {l:List S56} {o:List Int} {i:Nat} (ho:o.length ≤ 5) (hl:l.length ≤ 31) (hi:i < l.length) (hb:∀ j:Nat,j < i → lev o (rd_T56 l (j:Nat)).f0 < o.length) (c:Option Bool) {k:Nat} (hk:50 < k) :
  impl_IsDiagram.one k l o i (rd_T56 l (i:Nat)).f0 (rd_T56 l (i:Nat)).f1 (rd_T56 l (i:Nat)).f2 c = if okN l o i = true then c else some false:=by
 unfold impl_IsDiagram.one okN;rw [index_some o _ (by omega) (by omega),Option.bind_some]
 by_cases h1:lev o (rd_T56 l (i:Nat)).f0 < o.length
 ·rw [if_pos h1,decide_eq_true h1,Bool.true_and]
  unfold impl_IsDiagram.first
  rw [if_neg (by omega)]
  by_cases h2:(rd_T56 l (i:Nat)).f1 = (rd_T56 l (i:Nat)).f2
  ·rw [if_pos h2,Option.bind_some,if_pos rfl,decide_eq_true h2]
   rfl
  ·rw [if_neg h2,decide_eq_false h2]
   unfold impl_Node.f;obtain ⟨q,hq,hqi⟩:=node_loop l hl hi i k 0 (by omega) (by omega) rfl;have hq':impl_Node.l0 k l (l.length:Int) 0 (rd_T56 l (i:Nat)).f0 (rd_T56 l (i:Nat)).f1 (rd_T56 l (i:Nat)).f2 = some q:=hq;rw [hq',Option.bind_some,Option.bind_some]
   by_cases h3:q = (i:Int)
   ·rw [hqi.mp h3,h3,if_neg (by simp)]
    simp only [impl_IsDiagram.ends];rw [impl_bad ho _ _ hb hk,Option.bind_some,impl_bad ho _ _ hb hk,Option.bind_some]
    cases okE l o i (lev o (rd_T56 l (i:Nat)).f0) (rd_T56 l (i:Nat)).f1 with
    | false=>rfl
    | true =>
     cases okE l o i (lev o (rd_T56 l (i:Nat)).f0) (rd_T56 l (i:Nat)).f2 with
     | false=>rfl
     | true=>rfl
   ·rw [bne_iff_ne.mpr h3,if_pos rfl,Bool.eq_false_iff.mpr (fun e=>h3 (hqi.mpr e))]
    rfl
 ·rw [if_neg h1,decide_eq_false h1]
  unfold impl_IsDiagram.first
  rw [if_pos (by omega),Option.bind_some,if_pos rfl]
  rfl
theorem impl_diag_loop {l:List S56} {o:List Int} (ho:o.length ≤ 5) (hl:l.length ≤ 31) {k:Nat} (hk:50 < k):∀ (d i:Nat),i + d = l.length → allN (okN l o) i = true → impl_IsDiagram.l0 k l o d i = some (allN (okN l o) l.length):=by
 intro d
 induction d with
 | zero =>
  intro i hi ha;rw [impl_IsDiagram.l0,show l.length = i by omega,ha]
 | succ d ih =>
  intro i hi ha;rw [impl_IsDiagram.l0,impl_one ho hl (by omega) (fun j hj=>okN_lev (allN_iff.mp ha j hj)) _ hk]
  cases hn:okN l o i with
  | true=>rw [if_pos rfl];exact ih (i + 1) (by omega) (allN_next ha hn)
  | false=>rw [if_neg (by decide),allN_miss (show i < l.length by omega) hn]
theorem impl_diag (l:List S56) (o:List Int):impl_IsDiagram.f l o = some (diagB l o):=by
 have hg:∀ k,50 < k → impl_IsDiagram.g k l o = some (diagB l o):=by
  intro k hk;unfold impl_IsDiagram.g diagB
  by_cases h1:5 < o.length
  ·rw [if_pos h1,decide_eq_false (by omega),Bool.and_false,Bool.false_and,Bool.false_and]
  ·rw [if_neg h1,order_short o (by omega) (by omega),Option.bind_some,decide_eq_true (show o.length ≤ 5 by omega),Bool.and_true]
   cases isPerm o with
   | false=>rw [if_neg (by decide),Bool.false_and,Bool.false_and]
   | true =>
    rw [if_pos rfl,Bool.true_and]
    by_cases h2:l.length < 1
    ·rw [if_pos h2,decide_eq_false (by omega),Bool.false_and]
    ·rw [if_neg h2]
     by_cases h3:31 < l.length
     ·rw [if_pos h3,decide_eq_false (by omega),Bool.false_and]
     ·rw [if_neg h3,decide_eq_true (by omega),Bool.true_and]
      exact impl_diag_loop (by omega) (by omega) hk l.length 0 (by omega) rfl
 unfold impl_IsDiagram.f;exact hg 100 (by decide)
theorem spec_new {l:List S56} {o:List Int} {i:Nat} (hl:l.length ≤ 31) (hi:i < l.length):∀ (d k j:Nat),j + d = i → d < k → allN (fun j=>!eqN (rd_T56 l (j:Nat)) (rd_T56 l (i:Nat))) j = true →
  spec_IsDiagram.l1 k l o i j (rd_T56 l (i:Nat)).f0 (rd_T56 l (i:Nat)).f1 (rd_T56 l (i:Nat)).f2 = if newN l i = true then spec_IsDiagram.l0 (k - d - 1) l o ((i + 1:Nat):Int) else some false:=by
 intro d
 induction d with
 | zero =>
  intro k j hj hk ha;obtain ⟨k,rfl⟩:∃ m,k = m + 1:=⟨k - 1,by omega⟩;obtain rfl:j = i:=by omega
  simp only [spec_IsDiagram.l1];rw [if_neg (by omega),wrap64_succ (by omega),if_pos (show newN l j = true from ha)]
  rfl
 | succ d ih =>
  intro k j hj hk ha;obtain ⟨k,rfl⟩:∃ m,k = m + 1:=⟨k - 1,by omega⟩;simp only [spec_IsDiagram.l1];rw [if_pos (by omega),if_pos (by omega),if_pos (by omega)]
  by_cases he:eqN (rd_T56 l (j:Nat)) (rd_T56 l (i:Nat)) = true
  ·have he':((rd_T56 l (j:Nat)).f0 == (rd_T56 l (i:Nat)).f0 && ((rd_T56 l (j:Nat)).f1 == (rd_T56 l (i:Nat)).f1 && ((rd_T56 l (j:Nat)).f2 == (rd_T56 l (i:Nat)).f2))) = true:=he
   rw [if_pos he',if_neg];intro h;unfold newN at h;rw [allN_iff] at h;have h1:=h j (by omega);rw [he] at h1
   cases h1
  ·have he':¬ ((rd_T56 l (j:Nat)).f0 == (rd_T56 l (i:Nat)).f0 && ((rd_T56 l (j:Nat)).f1 == (rd_T56 l (i:Nat)).f1 && ((rd_T56 l (j:Nat)).f2 == (rd_T56 l (i:Nat)).f2))) = true:=he
   rw [if_neg he',wrap64_succ (by omega),show k + 1 - (d + 1) - 1 = k - d - 1 by omega];refine ih k (j + 1) (by omega) (by omega) (allN_next ha ?_);rw [Bool.eq_false_iff.mpr he]
   rfl
def upE (l:List S56) (o:List Int) (p:Nat) (t:Int):Bool:=!decide (t < 0) && decide (lev o (rd_T56 l t).f0 ≤ p)
theorem spec_j2 {l:List S56} {o:List Int} {i p:Nat} (ho:o.length ≤ 5) (hl:l.length ≤ 31) (hi:i < l.length) (n0 n1 n2:Int) (h1:n1 < i) (h2:n2 < i) {k:Nat} (hk:10 < k) :
  spec_IsDiagram.j2 (k + 1) l o i p false n0 n1 n2 = spec_IsDiagram.j3 k l o i (upE l o p n1 || upE l o p n2) n0 n1 n2:=by
 simp only [spec_IsDiagram.j2];rw [if_neg (by decide)];unfold upE
 by_cases g1:n1 ≥ 0
 ·rw [if_pos g1,if_pos g1,if_pos (by omega),spec_lev o _ (by omega) (by omega),Option.bind_some,decide_eq_false (show ¬ n1 < 0 by omega),Bool.not_false,Bool.true_and]
  by_cases g2:lev o (rd_T56 l n1).f0 ≤ p
  ·rw [if_pos (by omega),decide_eq_true g2,Bool.true_or]
  ·rw [if_neg (by omega),decide_eq_false g2,Bool.false_or]
   by_cases g3:n2 ≥ 0
   ·rw [if_pos g3,if_pos g3,if_pos (by omega),spec_lev o _ (by omega) (by omega),Option.bind_some,decide_eq_false (show ¬ n2 < 0 by omega),Bool.not_false,Bool.true_and,decide_eq_decide.mpr (show ((lev o (rd_T56 l n2).f0:Nat):Int) ≤ (p:Int) ↔ lev o (rd_T56 l n2).f0 ≤ p by omega)]
   ·rw [if_neg g3,decide_eq_true (show n2 < 0 by omega),Bool.not_true,Bool.false_and]
 ·rw [if_neg g1,decide_eq_true (show n1 < 0 by omega),Bool.not_true,Bool.false_and,Bool.false_or]
  by_cases g3:n2 ≥ 0
  ·rw [if_pos g3,if_pos g3,if_pos (by omega),spec_lev o _ (by omega) (by omega),Option.bind_some,decide_eq_false (show ¬ n2 < 0 by omega),Bool.not_false,Bool.true_and,decide_eq_decide.mpr (show ((lev o (rd_T56 l n2).f0:Nat):Int) ≤ (p:Int) ↔ lev o (rd_T56 l n2).f0 ≤ p by omega)]
  ·rw [if_neg g3,decide_eq_true (show n2 < 0 by omega),Bool.not_true,Bool.false_and]
theorem okE_of {l:List S56} {o:List Int} {i p:Nat} {t:Int} (h0:-2 ≤ t) (h1:t < i):okE l o i p t = !upE l o p t:=by
 unfold okE upE;rw [decide_eq_true (show -2 ≤ t ∧ t < i from ⟨h0,h1⟩),Bool.true_and,Bool.not_and,Bool.not_not,← decide_not]
 congr 1
 exact decide_eq_decide.mpr (by omega)
theorem okE_not {l:List S56} {o:List Int} {i p:Nat} {t:Int} (h:¬ (-2 ≤ t ∧ t ≤ (i:Int) - 1)):okE l o i p t = false:=by
 unfold okE;rw [decide_eq_false (show ¬ (-2 ≤ t ∧ t < i) by omega),Bool.false_and]
theorem spec_one {l:List S56} {o:List Int} {i:Nat} (ho:o.length ≤ 5) (hl:l.length ≤ 31) (hi:i < l.length) {k:Nat} (hk:100 < k) :
  spec_IsDiagram.l0 k l o i = if okN l o i = true then spec_IsDiagram.l0 (k - i - 4) l o ((i + 1:Nat):Int) else some false:=by
 obtain ⟨k,rfl⟩:∃ m,k = m + 3:=⟨k - 3,by omega⟩;have hll:=lev_le o (rd_T56 l (i:Nat)).f0
 have htrue:∀ p n0 n1 n2,spec_IsDiagram.j2 (k + 2) l o (i:Nat) p true n0 n1 n2 = some false:=by
  intro p n0 n1 n2;simp only [spec_IsDiagram.j2];rw [if_pos trivial]
 have hnew:=spec_new (o:=o) hl hi i k 0 (by omega) (by omega) rfl;rw [spec_IsDiagram.l0,if_pos (by omega),if_pos (by omega),spec_lev o _ (by omega) (by omega),Option.bind_some];unfold okN;generalize hn:rd_T56 l (i:Nat) = n at hll hnew ⊢
 by_cases h1:lev o n.f0 < o.length
 ·rw [if_neg (by omega),decide_eq_true h1,Bool.true_and,l1In_some _ _ _ _ rfl,Option.bind_some,wrap64_of (by omega) (by omega)]
  by_cases h2:-2 ≤ n.f1 ∧ n.f1 ≤ (i:Int) - 1
  ·rw [if_pos (decide_eq_true h2),l1In_some _ _ _ _ rfl,Option.bind_some]
   by_cases h3:-2 ≤ n.f2 ∧ n.f2 ≤ (i:Int) - 1
   ·rw [if_pos (decide_eq_true h3)]
    by_cases h4:n.f1 = n.f2
    ·rw [beq_iff_eq.mpr h4,htrue,decide_eq_true h4]
     rfl
    ·rw [beq_eq_false_iff_ne.mpr h4,decide_eq_false h4,spec_j2 ho hl hi _ _ _ (by omega) (by omega) (by omega),okE_of h2.1 (by omega),okE_of h3.1 (by omega),spec_IsDiagram.j3]
     cases upE l o (lev o n.f0) n.f1 with
     | true =>
      rw [Bool.true_or,if_pos rfl,Bool.not_true,Bool.and_false,Bool.false_and]
      rfl
     | false =>
      cases upE l o (lev o n.f0) n.f2 with
      | true =>
       rw [Bool.false_or,if_pos rfl,Bool.not_true,Bool.and_false]
       rfl
      | false =>
       rw [Bool.false_or,if_neg (by decide)];have hnew':spec_IsDiagram.l1 k l o (i:Nat) 0 n.f0 n.f1 n.f2 = _:=hnew;rw [hnew',show k + 3 - i - 4 = k - i - 1 by omega]
       cases newN l i <;> rfl
   ·rw [if_neg (fun q=>h3 (of_decide_eq_true q)),htrue,okE_not h3,Bool.and_false]
    rfl
  ·rw [if_neg (fun q=>h2 (of_decide_eq_true q)),htrue,okE_not h2,Bool.and_false,Bool.false_and]
   rfl
 ·rw [if_pos (by omega),htrue,decide_eq_false h1]
  rfl
theorem spec_diag_loop {l:List S56} {o:List Int} (ho:o.length ≤ 5) (hl:l.length ≤ 31):∀ (d k i:Nat),i + d = l.length → d * 40 + 100 < k → allN (okN l o) i = true → spec_IsDiagram.l0 k l o i = some (allN (okN l o) l.length):=by
 intro d
 induction d with
 | zero =>
  intro k i hi hk ha;obtain ⟨k,rfl⟩:∃ m,k = m + 1:=⟨k - 1,by omega⟩;rw [spec_IsDiagram.l0,if_neg (by omega),show l.length = i by omega,ha]
 | succ d ih =>
  intro k i hi hk ha;rw [spec_one ho hl (by omega) (by omega)]
  cases hn:okN l o i with
  | true=>rw [if_pos rfl];exact ih (k - i - 4) (i + 1) (by omega) (by omega) (allN_next ha hn)
  | false=>rw [if_neg (by decide),allN_miss (show i < l.length by omega) hn]
theorem spec_diag (l:List S56) (o:List Int) {k:Nat} (hl:l.length ≤ 1048576) (ho:o.length ≤ 1048576) (hk:1200000000010 < k):spec_IsDiagram.f k l o = some (diagB l o):=by
 obtain ⟨k,rfl⟩:∃ m,k = m + 1:=⟨k - 1,by omega⟩;unfold spec_IsDiagram.f diagB;rw [spec_perm ho (by omega) (by omega),Option.bind_some,decide_eq_true rfl,Bool.true_and]
 have htrue:spec_IsDiagram.j0 (k + 1) l o true = some false:=by
  simp only [spec_IsDiagram.j0];rw [if_pos trivial]
 cases isPerm o with
 | false=>rw [if_neg (by decide),htrue];rfl
 | true =>
  rw [if_pos rfl,Bool.true_and]
  by_cases h1:(o.length:Int) > 5
  ·rw [if_pos h1,htrue,decide_eq_false (by omega)];rfl
  ·rw [if_neg h1,l1In_some _ _ _ _ rfl,Option.bind_some,decide_eq_true (show o.length ≤ 5 by omega),Bool.true_and]
   by_cases h2:1 ≤ l.length ∧ l.length ≤ 31
   ·rw [decide_eq_true h2,decide_eq_true (show 1 ≤ (l.length:Int) ∧ (l.length:Int) ≤ 31 by omega),Bool.true_and,spec_IsDiagram.j0,if_neg (by decide)]
    exact spec_diag_loop (by omega) h2.2 l.length k 0 (by omega) (by omega) rfl
   ·rw [decide_eq_false h2,decide_eq_false (show ¬ (1 ≤ (l.length:Int) ∧ (l.length:Int) ≤ 31) by omega),Bool.not_false,htrue];rfl
def sm (f:Nat → Nat):Nat → Nat
 | 0=>0
 | m + 1=>sm f m + f m
theorem sm_congr {f g:Nat → Nat}:∀ m,(∀ x,x < m → f x = g x) → sm f m = sm g m:=by
 intro m
 induction m with
 | zero=>intro _;rfl
 | succ m ih=>intro h;rw [sm,sm,ih (fun x hx=>h x (by omega)),h m (by omega)]
theorem sm_add (f g:Nat → Nat):∀ m,sm (fun x=>f x + g x) m = sm f m + sm g m:=by
 intro m
 induction m with
 | zero=>rfl
 | succ m ih=>rw [sm,sm,sm,ih];omega
theorem sm_app (f:Nat → Nat) (a:Nat):∀ b,sm f (a + b) = sm f a + sm (fun x=>f (a + x)) b:=by
 intro b
 induction b with
 | zero=>rfl
 | succ b ih=>rw [← Nat.add_assoc,sm,sm,ih];omega
theorem sm_const (c:Nat):∀ m,sm (fun _=>c) m = m * c:=by
 intro m
 induction m with
 | zero=>simp [sm]
 | succ m ih=>rw [sm,ih,Nat.succ_mul]
theorem sm_le {f:Nat → Nat} {c:Nat} (m:Nat) (h:∀ x,x < m → f x ≤ c):sm f m ≤ m * c:=by
 induction m with
 | zero=>simp [sm]
 | succ m ih=>rw [sm,Nat.succ_mul];exact Nat.add_le_add (ih fun x hx=>h x (by omega)) (h m (by omega))
theorem flip_bit (x v:Nat):(x ^^^ 2 ^ v).testBit v = !x.testBit v:=by
 rw [Nat.testBit_xor,Nat.testBit_two_pow_self,Bool.xor_true]
theorem flip_other {x v u:Nat} (h:v ≠ u):(x ^^^ 2 ^ v).testBit u = x.testBit u:=by
 rw [Nat.testBit_xor,Nat.testBit_two_pow_of_ne h,Bool.xor_false]
theorem flip_back (x v:Nat):x ^^^ 2 ^ v ^^^ 2 ^ v = x:=by rw [Nat.xor_assoc,Nat.xor_self,Nat.xor_zero]
theorem top_add {n x:Nat} (h:x < 2 ^ n):2 ^ n + x = x ^^^ 2 ^ n:=by
 apply Nat.eq_of_testBit_eq
 intro i;rw [Nat.testBit_xor]
 by_cases e:i = n
 ·subst e
  rw [Nat.testBit_two_pow_add_eq,Nat.testBit_two_pow_self,Bool.xor_true]
 ·rw [Nat.testBit_two_pow_of_ne (fun q=>e q.symm),Bool.xor_false]
  by_cases hi:i < n
  ·rw [Nat.testBit_two_pow_add_gt hi]
  ·rw [Nat.testBit_lt_two_pow (Nat.lt_of_lt_of_le h (Nat.pow_le_pow_right (by decide) (by omega))),Nat.testBit_lt_two_pow]
   have:2 ^ (n + 1) ≤ 2 ^ i:=Nat.pow_le_pow_right (by decide) (by omega);rw [Nat.pow_succ] at this;omega
theorem sm_flip {v:Nat}:∀ (n:Nat) (f:Nat → Nat),v < n → sm (fun x=>f (x ^^^ 2 ^ v)) (2 ^ n) = sm f (2 ^ n):=by
 intro n
 induction n with
 | zero=>intro f h;omega
 | succ n ih =>
  intro f h;rw [Nat.pow_succ,Nat.mul_two,sm_app,sm_app]
  by_cases e:v = n
  ·subst e
   rw [sm_congr (f:=fun x=>f (x ^^^ 2 ^ v)) (g:=fun x=>f (2 ^ v + x)) _ (fun x hx=>by rw [top_add hx]),sm_congr (f:=fun x=>(fun x=>f (x ^^^ 2 ^ v)) (2 ^ v + x)) (g:=f) _ (fun x hx=>by
    show f ((2 ^ v + x) ^^^ 2 ^ v) = f x
    rw [top_add hx,flip_back])]
   omega
  ·have hv:v < n:=by omega
   rw [ih f hv,sm_congr (f:=fun x=>(fun x=>f (x ^^^ 2 ^ v)) (2 ^ n + x)) (g:=fun x=>(fun y=>f (2 ^ n + y)) (x ^^^ 2 ^ v)) _ (fun x hx=>by
    show f ((2 ^ n + x) ^^^ 2 ^ v) = f (2 ^ n + (x ^^^ 2 ^ v))
    rw [top_add hx,top_add (Nat.xor_lt_two_pow hx (pow_lt hv)),Nat.xor_assoc,Nat.xor_comm (2 ^ n),Nat.xor_assoc]),ih (fun y=>f (2 ^ n + y)) hv]
theorem sm_half {v n:Nat} (hv:v < n) (h:Nat → Nat) (hh:∀ x,x < 2 ^ n → h (x ^^^ 2 ^ v) = h x) :
  2 * sm (fun x=>if x.testBit v = true then h x else 0) (2 ^ n) = sm h (2 ^ n) ∧ 2 * sm (fun x=>if x.testBit v = true then 0 else h x) (2 ^ n) = sm h (2 ^ n):=by
 have h1:sm h (2 ^ n) = sm (fun x=>if x.testBit v = true then h x else 0) (2 ^ n) + sm (fun x=>if x.testBit v = true then 0 else h x) (2 ^ n):=by
  rw [← sm_add];refine sm_congr _ fun x _=>?_
  cases x.testBit v <;> simp
 have h2:sm (fun x=>if x.testBit v = true then 0 else h x) (2 ^ n) = sm (fun x=>if x.testBit v = true then h x else 0) (2 ^ n):=by
  rw [← sm_flip n _ hv];refine sm_congr _ fun x hx=>?_
  show (if (x ^^^ 2 ^ v).testBit v = true then 0 else h (x ^^^ 2 ^ v)) = _
  rw [flip_bit,hh x hx]
  cases x.testBit v <;> rfl
 omega
theorem sm_mix {v n:Nat} (hv:v < n) (h l:Nat → Nat) (hh:∀ x,x < 2 ^ n → h (x ^^^ 2 ^ v) = h x) (hl:∀ x,x < 2 ^ n → l (x ^^^ 2 ^ v) = l x) :
  2 * sm (fun x=>if x.testBit v = true then h x else l x) (2 ^ n) = sm l (2 ^ n) + sm h (2 ^ n):=by
 have e:sm (fun x=>if x.testBit v = true then h x else l x) (2 ^ n) = sm (fun x=>if x.testBit v = true then h x else 0) (2 ^ n) + sm (fun x=>if x.testBit v = true then 0 else l x) (2 ^ n):=by
  rw [← sm_add];refine sm_congr _ fun x _=>?_
  cases x.testBit v <;> simp
 have h1:=(sm_half hv h hh).1;have h2:=(sm_half hv l hl).2;omega
structure Vd (l:List S56) (o:List Int):Prop where
 n5:o.length ≤ 5
 one:1 ≤ l.length
 most:l.length ≤ 31
 var:∀ i:Nat,i < l.length → 0 ≤ (rd_T56 l i).f0 ∧ (rd_T56 l i).f0 < o.length
 lv:∀ i:Nat,i < l.length → lev o (rd_T56 l i).f0 < o.length
 lo:∀ i:Nat,i < l.length → -2 ≤ (rd_T56 l i).f1 ∧ (rd_T56 l i).f1 < i ∧ (0 ≤ (rd_T56 l i).f1 → lev o (rd_T56 l i).f0 < lev o (rd_T56 l (rd_T56 l i).f1).f0)
 hi:∀ i:Nat,i < l.length → -2 ≤ (rd_T56 l i).f2 ∧ (rd_T56 l i).f2 < i ∧ (0 ≤ (rd_T56 l i).f2 → lev o (rd_T56 l i).f0 < lev o (rd_T56 l (rd_T56 l i).f2).f0)
theorem vd_of {l:List S56} {o:List Int} (h:diagB l o = true):Vd l o:=by
 unfold diagB at h;simp only [Bool.and_eq_true,decide_eq_true_eq] at h;obtain ⟨⟨⟨hp,h5⟩,h1,h31⟩,ha⟩:=h;rw [allN_iff] at ha
 have hE:∀ (i p:Nat) (t:Int),okE l o i p t = true → -2 ≤ t ∧ t < i ∧ (0 ≤ t → p < lev o (rd_T56 l t).f0):=by
  intro i p t h;unfold okE at h;simp only [Bool.and_eq_true,Bool.or_eq_true,decide_eq_true_eq] at h;exact ⟨h.1.1,h.1.2,fun h0=>h.2.resolve_left (by omega)⟩
 have hA:∀ i:Nat,i < l.length → lev o (rd_T56 l i).f0 < o.length ∧ okE l o i (lev o (rd_T56 l i).f0) (rd_T56 l i).f1 = true ∧ okE l o i (lev o (rd_T56 l i).f0) (rd_T56 l i).f2 = true:=by
  intro i hi;have h:=ha i hi;unfold okN at h;simp only [Bool.and_eq_true,decide_eq_true_eq] at h;exact ⟨h.1.1.1.1,h.1.2,h.2⟩
 refine ⟨h5,h1,h31,fun i hi=>?_,fun i hi=>(hA i hi).1,fun i hi=>hE _ _ _ (hA i hi).2.1,fun i hi=>hE _ _ _ (hA i hi).2.2⟩;have hm:=lev_mem.mp (hA i hi).1;exact (all_perm o.length o ((isPerm_iff o).mp hp) rfl).2 _ hm
def vN (l:List S56) (x:Nat):Nat → Nat → Nat
 | 0,_=>0
 | m + 1,at_=>if dnext (rd_T56 l at_) x < 0 then (dnext (rd_T56 l at_) x + 2).toNat else vN l x m (dnext (rd_T56 l at_) x).toNat
def vE (l:List S56) (x:Nat) (e:Int):Nat:=if e < 0 then (e + 2).toNat else vN l x (e.toNat + 1) e.toNat
section
variable {l:List S56} {o:List Int} (V:Vd l o)
include V
theorem next_lt (x:Nat) {i:Nat} (hi:i < l.length):-2 ≤ dnext (rd_T56 l i) x ∧ dnext (rd_T56 l i) x < i ∧ (0 ≤ dnext (rd_T56 l i) x → lev o (rd_T56 l i).f0 < lev o (rd_T56 l (dnext (rd_T56 l i) x)).f0):=by
 unfold dnext
 split
 ·exact V.hi i hi
 ·exact V.lo i hi
theorem vN_fuel (x:Nat):∀ (a m at_:Nat),at_ ≤ a → at_ < m → at_ < l.length → vN l x m at_ = vN l x (at_ + 1) at_:=by
 intro a
 induction a with
 | zero =>
  intro m at_ h0 h1 h2;obtain ⟨m,rfl⟩:∃ k,m = k + 1:=⟨m - 1,by omega⟩;have:=next_lt V x h2;rw [vN,vN,if_pos (by omega),if_pos (by omega)]
 | succ a ih =>
  intro m at_ h0 h1 h2;obtain ⟨m,rfl⟩:∃ k,m = k + 1:=⟨m - 1,by omega⟩;have:=next_lt V x h2;rw [vN,vN]
  by_cases h3:dnext (rd_T56 l at_) x < 0
  ·rw [if_pos h3,if_pos h3]
  ·rw [if_neg h3,if_neg h3,ih m _ (by omega) (by omega) (by omega),ih at_ _ (by omega) (by omega) (by omega)]
theorem vE_next (x:Nat) {i:Nat} (hi:i < l.length):vE l x i = vE l x (dnext (rd_T56 l i) x):=by
 have:=next_lt V x hi;unfold vE;rw [if_neg (by omega),Int.toNat_natCast,vN]
 by_cases h3:dnext (rd_T56 l i) x < 0
 ·rw [if_pos h3,if_pos h3]
 ·rw [if_neg h3,if_neg h3]
  exact vN_fuel V x i i _ (by omega) (by omega) (by omega)
theorem vE_step (x:Nat) {i:Nat} (hi:i < l.length):vE l x i = if x.testBit (rd_T56 l i).f0.toNat = true then vE l x (rd_T56 l i).f2 else vE l x (rd_T56 l i).f1:=by
 rw [vE_next V x hi];unfold dnext
 split <;> rfl
theorem vE_le (x:Nat):∀ (a:Nat) (e:Int),e < a → -2 ≤ e → e < l.length → vE l x e ≤ 1:=by
 intro a
 induction a with
 | zero=>intro e h0 h1 h2;unfold vE;rw [if_pos (by omega)];omega
 | succ a ih =>
  intro e h0 h1 h2
  by_cases h3:e < 0
  ·unfold vE;rw [if_pos h3];omega
  ·obtain ⟨i,rfl⟩:=Int.eq_ofNat_of_zero_le (show 0 ≤ e by omega)
   have hi:i < l.length:=by omega
   rw [vE_step V x hi];have h4:=V.lo i hi;have h5:=V.hi i hi
   split
   ·exact ih _ (by omega) (by omega) (by omega)
   ·exact ih _ (by omega) (by omega) (by omega)
theorem dval_vE (x:Nat):∀ (a m at_:Nat),at_ ≤ a → at_ < m → at_ < l.length → dval l x m at_ = (vE l x at_:Nat):=by
 intro a
 induction a with
 | zero =>
  intro m at_ h0 h1 h2;obtain ⟨m,rfl⟩:∃ k,m = k + 1:=⟨m - 1,by omega⟩;have h3:=next_lt V x h2;have h4:=V.var at_ h2;have h5:=V.n5;rw [vE_next V x h2,dval,if_neg (by omega),if_neg (by omega),if_pos (by omega)];unfold vE;rw [if_pos (by omega)];omega
 | succ a ih =>
  intro m at_ h0 h1 h2;obtain ⟨m,rfl⟩:∃ k,m = k + 1:=⟨m - 1,by omega⟩;have h3:=next_lt V x h2;have h4:=V.var at_ h2;have h5:=V.n5;rw [vE_next V x h2,dval,if_neg (by omega),if_neg (by omega)]
  by_cases h6:dnext (rd_T56 l at_) x < 0
  ·rw [if_pos h6]
   unfold vE;rw [if_pos h6];omega
  ·rw [if_neg h6,ih m _ (by omega) (by omega) (by omega),Int.toNat_of_nonneg (by omega)]
theorem vE_flip {v:Nat}:∀ (a:Nat) (e:Int) (x:Nat),e < a → e < l.length → (0 ≤ e → lev o (v:Int) < lev o (rd_T56 l e).f0) → vE l (x ^^^ 2 ^ v) e = vE l x e:=by
 intro a
 induction a with
 | zero=>intro e x h0 h1 h2;unfold vE;rw [if_pos (by omega),if_pos (by omega)]
 | succ a ih =>
  intro e x h0 h1 h2
  by_cases h3:e < 0
  ·unfold vE;rw [if_pos h3,if_pos h3]
  ·obtain ⟨i,rfl⟩:=Int.eq_ofNat_of_zero_le (show 0 ≤ e by omega)
   have hi:i < l.length:=by omega
   have hlv:=h2 (by omega);have h4:=V.lo i hi;have h5:=V.hi i hi;have h6:=V.var i hi
   have hne:v ≠ (rd_T56 l i).f0.toNat:=by
    intro e;rw [e,Int.toNat_of_nonneg h6.1] at hlv;omega
   rw [vE_step V _ hi,vE_step V x hi,flip_other hne,ih (rd_T56 l i).f2 x (by omega) (by omega) (fun h=>by have:=h5.2.2 h;omega),ih (rd_T56 l i).f1 x (by omega) (by omega) (fun h=>by have:=h4.2.2 h;omega)]
def tot (l:List S56) (n:Nat) (e:Int):Nat:=sm (fun x=>vE l x e) (2 ^ n)
omit V in
theorem tot_zero (n:Nat):tot l n (-2) = 0:=by
 unfold tot;rw [sm_congr (f:=fun x=>vE l x (-2)) (g:=fun _=>0) _ (fun x _=>rfl),sm_const]
 rfl
omit V in
theorem tot_one (n:Nat):tot l n (-1) = 2 ^ n:=by
 unfold tot;rw [sm_congr (f:=fun x=>vE l x (-1)) (g:=fun _=>1) _ (fun x _=>rfl),sm_const,Nat.mul_one]
theorem tot_le {e:Int} (h1:-2 ≤ e) (h2:e < l.length):tot l o.length e ≤ 32:=by
 unfold tot;have:=sm_le (f:=fun x=>vE l x e) (c:=1) (2 ^ o.length) (fun x _=>vE_le V x l.length e h2 h1 h2);have:=pow_le V.n5;omega
theorem tot_step {i:Nat} (hi:i < l.length):2 * tot l o.length i = tot l o.length (rd_T56 l i).f1 + tot l o.length (rd_T56 l i).f2:=by
 have h4:=V.lo i hi;have h5:=V.hi i hi;have h6:=V.var i hi;unfold tot;rw [sm_congr _ (fun x _=>vE_step V x hi)];have hc:((((rd_T56 l i).f0.toNat:Nat)):Int) = (rd_T56 l i).f0:=Int.toNat_of_nonneg h6.1;refine sm_mix (by omega) (fun x=>vE l x (rd_T56 l i).f2) (fun x=>vE l x (rd_T56 l i).f1) (fun x _=>?_) (fun x _=>?_)
 ·exact vE_flip V l.length _ x (by omega) (by omega) (fun h=>by rw [hc];exact h5.2.2 h)
 ·exact vE_flip V l.length _ x (by omega) (by omega) (fun h=>by rw [hc];exact h4.2.2 h)
theorem impl_count_loop {M:Nat} (hM:M ≤ 32):∀ (d k x:Nat),x + d = M → d + 200 < k →
  impl_CountInDiagram.l0 k l ((sm (fun x=>vE l x ((l.length - 1:Nat):Int)) x:Nat):Int) M x = some ((sm (fun x=>vE l x ((l.length - 1:Nat):Int)) M:Nat):Int):=by
 have h1:=V.one;have h31:=V.most;intro d
 induction d with
 | zero =>
  intro k x hx hk;obtain ⟨k,rfl⟩:∃ m,k = m + 1:=⟨k - 1,by omega⟩;obtain rfl:x = M:=by omega
  simp only [impl_CountInDiagram.l0];rw [if_neg (by omega)]
 | succ d ih =>
  intro k x hx hk;obtain ⟨k,rfl⟩:∃ m,k = m + 1:=⟨k - 1,by omega⟩;have hs:=sm_le (f:=fun x=>vE l x ((l.length - 1:Nat):Int)) (c:=1) x (fun x _=>vE_le V x l.length _ (by omega) (by omega) (by omega));have hv:=vE_le V x l.length ((l.length - 1:Nat):Int) (by omega) (by omega) (by omega);have hi:=ih k (x + 1) (by omega) (by omega);rw [sm] at hi;simp only [impl_CountInDiagram.l0];rw [if_pos (by omega),impl_dval l x (by omega) (by omega),Option.bind_some];unfold dvalI;rw [if_neg (by omega),Int.toNat_natCast,dval_vE V x l.length l.length (l.length - 1) (by omega) (by omega) (by omega),wrap64_of (by omega) (by omega),wrap64_succ (by omega),← Int.natCast_add];exact hi
def Kept (l:List S56) (o:List Int) (u:List Int) (i:Nat):Prop:=u.length = i ∧ ∀ j:Nat,j < i → ∃ c:Nat,rd u j = c ∧ c * 2 ^ lev o (rd_T56 l j).f0 = tot l o.length j
theorem add_end {u:List Int} {i p:Nat} (hi:i < l.length) (hk:Kept l o u i) (hp:p < o.length) (e:Int) (h0:-2 ≤ e) (h1:e < i) (h2:0 ≤ e → p < lev o (rd_T56 l e).f0) (es:List Int) (x:Nat) (hx:x < 2) (hes:es.length = 2) (he:rd es x = e) (s:Nat) (hs:s ≤ 1000) {k:Nat} (hkk:50 < k) :
  ∃ c:Nat,c * 2 ^ (p + 1) = tot l o.length e ∧ c ≤ 32 ∧ spec_CountInDiagram.l1 (k + 1) l o u i p s es x = spec_CountInDiagram.l1 k l o u i p ((s + c:Nat):Int) es ((x + 1:Nat):Int):=by
 have h5:=V.n5;have ht:=tot_le V h0 (show e < l.length by omega)
 have hc32:∀ c q:Nat,c * 2 ^ q = tot l o.length e → c ≤ 32:=fun c q h=>by
  have h1:c * 1 ≤ c * 2 ^ q:=Nat.mul_le_mul_left c (pow_pos q);omega
 simp only [spec_CountInDiagram.l1];rw [if_pos (by omega),if_pos (by omega),if_pos (by omega),he,wrap64_succ (by omega)]
 by_cases e1:e = -1
 ·subst e1
  have hc:2 ^ (o.length - p - 1) * 2 ^ (p + 1) = tot l o.length (-1):=by
   rw [tot_one,← Nat.pow_add]
   congr 1
   omega
  have h32:=hc32 _ _ hc;refine ⟨2 ^ (o.length - p - 1),hc,h32,?_⟩
  have hw:wrap64 (wrap64 ((o.length:Int) - (p:Int)) - 1) = ((o.length - p - 1:Nat):Int):=by
   rw [wrap64_of (n:=(o.length:Int) - (p:Int)) (by omega) (by omega),wrap64_of (by omega) (by omega)];omega
  rw [if_pos rfl,hw,if_pos (Int.natCast_nonneg _),shl1_of (by omega)];generalize 2 ^ (o.length - p - 1) = c at h32 ⊢;rw [wrap64_of (by omega) (by omega),← Int.natCast_add]
 ·rw [if_neg e1]
  by_cases e2:e ≥ 0
  ·obtain ⟨j,rfl⟩:=Int.eq_ofNat_of_zero_le e2
   obtain ⟨c,hc1,hc2⟩:=hk.2 j (by omega);have hlv:=h2 e2;have hl5:=lev_le o (rd_T56 l (j:Int)).f0
   have hc:(c * 2 ^ (lev o (rd_T56 l (j:Int)).f0 - p - 1)) * 2 ^ (p + 1) = tot l o.length j:=by
    rw [← hc2,Nat.mul_assoc,← Nat.pow_add]
    congr 2
    omega
   have h32:=hc32 _ _ hc;refine ⟨_,hc,h32,?_⟩
   have hw:wrap64 (wrap64 (((lev o (rd_T56 l (j:Int)).f0:Nat):Int) - (p:Int)) - 1) = ((lev o (rd_T56 l (j:Int)).f0 - p - 1:Nat):Int):=by
    rw [wrap64_of (n:=((lev o (rd_T56 l (j:Int)).f0:Nat):Int) - (p:Int)) (by omega) (by omega),wrap64_of (by omega) (by omega)];omega
   rw [if_pos e2,if_pos e2,if_pos (by have:=hk.1;omega),if_pos (by omega),spec_lev o _ (by omega) (by omega),Option.bind_some,hw,if_pos (Int.natCast_nonneg _),hc1,shl_cast (by rw [Nat.shiftLeft_eq];omega) (by omega),Nat.shiftLeft_eq];generalize c * 2 ^ (lev o (rd_T56 l (j:Int)).f0 - p - 1) = c' at h32 ⊢;rw [wrap64_of (by omega) (by omega),← Int.natCast_add]
  ·obtain rfl:e = -2:=by omega
   rw [if_neg (by omega)];exact ⟨0,by rw [tot_zero,Nat.zero_mul],Nat.zero_le _,rfl⟩
omit V in
theorem kept_snoc {u:List Int} {i c:Nat} (hk:Kept l o u i) (h:c * 2 ^ lev o (rd_T56 l (i:Nat)).f0 = tot l o.length i):Kept l o (u ++ [((c:Nat):Int)]) (i + 1):=by
 refine ⟨by rw [List.length_append,hk.1];rfl,fun j hj=>?_⟩
 by_cases e:j = i
 ·subst e
  refine ⟨c,?_,h⟩;unfold rd;rw [Int.toNat_natCast,List.getD_eq_getElem?_getD,List.getElem?_append_right (by rw [hk.1];exact Nat.le_refl _),hk.1,Nat.sub_self]
  rfl
 ·obtain ⟨c',h1,h2⟩:=hk.2 j (by omega)
  refine ⟨c',?_,h2⟩;rw [← h1];unfold rd;rw [Int.toNat_natCast,List.getD_eq_getElem?_getD,List.getD_eq_getElem?_getD,List.getElem?_append_left (by rw [hk.1];omega)]
theorem spec_count_loop:∀ (d k i:Nat) (u:List Int),i + d = l.length → d * 10 + 200 < k → Kept l o u i → spec_CountInDiagram.l0 k l o u i = some ((tot l o.length ((l.length - 1:Nat):Int):Nat):Int):=by
 have h1:=V.one;have h31:=V.most;have h5:=V.n5;intro d
 induction d with
 | zero =>
  intro k i u hi hk hu;obtain ⟨k,rfl⟩:∃ m,k = m + 1:=⟨k - 1,by omega⟩;obtain ⟨c,hc1,hc2⟩:=hu.2 (l.length - 1) (by omega);have ht:=tot_le V (e:=((l.length - 1:Nat):Int)) (by omega) (by omega);have hl5:=lev_le o (rd_T56 l ((l.length - 1:Nat):Int)).f0;rw [spec_CountInDiagram.l0,if_neg (by omega),wrap64_of (by omega) (by omega),show ((l.length:Int) - 1) = ((l.length - 1:Nat):Int) by omega,if_pos (Int.natCast_nonneg _),if_pos (by have:=hu.1;omega),if_pos (by omega),spec_lev o _ (by omega) (by omega),Option.bind_some,if_pos (Int.natCast_nonneg _),hc1,shl_cast (by rw [Nat.shiftLeft_eq,hc2];omega) (by omega),Nat.shiftLeft_eq,hc2]
 | succ d ih =>
  intro k i u hi hk hu;obtain ⟨k,rfl⟩:∃ m,k = m + 4:=⟨k - 4,by omega⟩;have hil:i < l.length:=by omega
  have hlv:=V.lv i hil;have hlo:=V.lo i hil;have hhi:=V.hi i hil;obtain ⟨c1,e1,b1,r1⟩:=add_end V hil hu hlv (rd_T56 l (i:Nat)).f1 hlo.1 hlo.2.1 hlo.2.2 [(rd_T56 l (i:Nat)).f1,(rd_T56 l (i:Nat)).f2] 0 (by omega) rfl rfl 0 (by omega) (k:=k + 2) (by omega);obtain ⟨c2,e2,b2,r2⟩:=add_end V hil hu hlv (rd_T56 l (i:Nat)).f2 hhi.1 hhi.2.1 hhi.2.2 [(rd_T56 l (i:Nat)).f1,(rd_T56 l (i:Nat)).f2] 1 (by omega) rfl rfl (0 + c1) (by omega) (k:=k + 1) (by omega)
  have hc:(0 + c1 + c2) * 2 ^ lev o (rd_T56 l (i:Nat)).f0 = tot l o.length i:=by
   have h2:=tot_step V hil;rw [← e1,← e2,Nat.pow_succ,← Nat.mul_assoc,← Nat.mul_assoc] at h2;rw [Nat.zero_add,Nat.add_mul];omega
  have hn:=ih k (i + 1) (u ++ [((0 + c1 + c2:Nat):Int)]) (by omega) (by omega) (kept_snoc hu hc);rw [spec_CountInDiagram.l0,if_pos (by omega),if_pos (by omega),spec_lev o _ (by omega) (by omega),Option.bind_some];refine Eq.trans r1 (Eq.trans r2 ?_);rw [spec_CountInDiagram.l1,if_neg (by omega),if_pos (by have:=hu.1;omega),wrap64_succ (by omega)];exact hn
end
def cntD (l:List S56) (o:List Int):Int:=if diagB l o = true then ((tot l o.length ((l.length - 1:Nat):Int):Nat):Int) else -1
theorem impl_count (l:List S56) (o:List Int) {k:Nat} (hk:1000 < k):impl_CountInDiagram.f k l o = some (cntD l o):=by
 unfold impl_CountInDiagram.f cntD;rw [impl_diag,Option.bind_some]
 cases h:diagB l o with
 | false=>rw [if_neg (by decide),if_neg (by decide)]
 | true =>
  have V:=vd_of h;have h5:=V.n5;rw [if_pos rfl,if_pos rfl,shl1_of (by omega)];have hp:=pow_le V.n5;exact impl_count_loop V hp (2 ^ o.length) k 0 (by omega) (by omega)
theorem spec_count (l:List S56) (o:List Int) {k:Nat} (hl:l.length ≤ 1048576) (ho:o.length ≤ 1048576) (hk:1200000000010 < k):spec_CountInDiagram.f k l o = some (cntD l o):=by
 unfold spec_CountInDiagram.f cntD;rw [spec_diag l o hl ho hk,Option.bind_some]
 cases h:diagB l o with
 | false=>rw [if_neg (by decide),if_neg (by decide)]
 | true =>
  have V:=vd_of h;rw [if_pos rfl,if_pos rfl];have:=V.most;exact spec_count_loop V l.length k 0 [] (by omega) (by omega) ⟨rfl,fun j hj=>by omega⟩
end Go.Proofs.YtflacbjpeecjcabGreatDoor.U
