/- Walks of Go functions and lemmas on what they compute, for the row of FnMonotone (a part of several): each call ends as the Lean function of its name tells; the conditions are those of each theorem. -/
import Derived.Test.YtgojehaneegaeabM1FnMonotone
import Derived.Test.YtgojehaneegaeabM3FnMonotone
import Derived.Test.YtgojehaneegaeabM7FnMonotone
import Derived.Test.YtgojehaneegaeabM10FnMonotone
import Derived.Test.YtgojehaneegaeabM11FnMonotone
import Derived.Test.YtgojehaneegaeabM12FnMonotone
import Derived.Test.YtgojehaneegaeabM13FnMonotone
namespace Go.Proofs.Ytgojehaneegaeab.U
open Go.RowKit Go.Proofs.YtgojehaneegaeabW.PrintWords Go.Proofs.YtgojehaneegaeabW.PrintLast Go.Proofs.YtgojehaneegaeabW.PrintMore Go.Proofs.Ytgojehaneegaeab.F Go.Proofs.Ytgojehaneegaeab.B
set_option linter.unusedVariables false
set_option linter.unusedSimpArgs false
def AnyW (o : Option (Int × Int × Int × Int)) : Prop := ∃ (a w i h : Int),o = some (a,w,i,h) ∧ 0 ≤ i ∧ (-9223372036854775808 ≤ w ∧ w ≤ 9223372036854775807)
theorem l15_some {k : Nat} {b : List Int} {i : Int} (h : Int) (hl : b.length ≤ 9223372036854775807) (hi : 0 ≤ i) (hk : 2000 < k) : AnyW (spec_l15Draw.f k b i h) := by
  obtain ⟨a,w,i1,h1,e1,hi1,q1,q2⟩ := any_some (k := k) h hl hi (by omega)
  unfold spec_l15Draw.f
  rw [e1,Option.bind_some]
  dsimp only
  rw [spec_hull a w (by omega),Option.bind_some]
  by_cases ht : isTab a w = true
  · obtain ⟨n,v,rfl,rfl,hT⟩ := tab_of ht
    obtain ⟨x,i2,h2,e2,hi2⟩ := once_some h1 4 hl hi1
    rw [if_pos ht]
    dsimp only
    rw [if_pos rfl,e2,Option.bind_some]
    dsimp only
    by_cases hx : x = true
    · rw [if_pos hx];exact ⟨_,_,_,_,rfl,hi2,q2⟩
    · have hlt := hullW_lt n v
      have hF := full_le hT.1
      rw [if_neg hx,Int.toNat_natCast,Int.toNat_natCast];exact ⟨_,_,_,_,rfl,hi2,by omega,by omega⟩
  · rw [if_neg ht]
    dsimp only
    rw [if_neg (by decide)]
    exact ⟨_,_,_,_,rfl,hi1,q2⟩
theorem drawMono_some {k : Nat} {b : List Int} (hl : b.length ≤ 9223372036854775807) (hk : 5000 < k) : ∃ a w : Int,spec_DrawIsMonotone.f k b = some (a,w) ∧ (-9223372036854775808 ≤ w ∧ w ≤ 9223372036854775807) := by
  obtain ⟨h,e⟩ := new_some hl (k := k) (by omega)
  obtain ⟨a,w,i1,h1,e1,hi1,q⟩ := l15_some (k := k) h hl (Int.le_refl 0) (by omega)
  unfold spec_DrawIsMonotone.f
  rw [e,Option.bind_some,e1,Option.bind_some]
  exact ⟨_,_,rfl,q⟩
theorem drawSelf_some {k : Nat} {b : List Int} (hl : b.length ≤ 9223372036854775807) (hk : 5000 < k) : ∃ a w : Int,spec_DrawIsSelfDual.f k b = some (a,w) ∧ (-9223372036854775808 ≤ w ∧ w ≤ 9223372036854775807) := by
  obtain ⟨h,e⟩ := new_some hl (k := k) (by omega)
  obtain ⟨x,i1,h1,e1,hi1⟩ := once_some h 2 hl (Int.le_refl 0)
  unfold spec_DrawIsSelfDual.f
  rw [e,Option.bind_some,e1,Option.bind_some]
  dsimp only
  by_cases hx : x = true
  · obtain ⟨y,i2,h2,e2,_,hy⟩ := pick_some (l := [232,170,204,150,142]) h1 hl hi1 (by decide)
    rw [if_pos hx,e2,Option.bind_some]
    refine ⟨_,_,rfl,?_⟩
    have hh : ∀ z ∈ [(232 : Int),170,204,150,142],-9223372036854775808 ≤ z ∧ z ≤ 9223372036854775807 := by decide
    exact hh y hy
  · obtain ⟨a,w,i2,h2,e2,hi2,q⟩ := l15_some (k := k) h1 hl hi1 (by omega)
    rw [if_neg hx,e2,Option.bind_some]
    exact ⟨_,_,rfl,q⟩
theorem pts_loop {b : List Int} (n : Int) (hl : b.length ≤ 9223372036854775807) : ∀ (d k : Nat) (v : List Int) (i h : Int),0 ≤ i → v.length + d ≤ 100 → d < k → ∃ l : List Int,spec_DrawTableOfPoints.l0 k n v (d : Nat) b i h = some (n,l) ∧ l.length ≤ 100 := by
  intro d
  induction d with
  | zero =>
    intro k v i h hi hv hk
    obtain ⟨k,rfl⟩ : ∃ m,k = m + 1 := ⟨k - 1,by omega⟩
    rw [spec_DrawTableOfPoints.l0,if_neg (by omega)]
    exact ⟨_,rfl,by omega⟩
  | succ d ih =>
    intro k v i h hi hv hk
    obtain ⟨k,rfl⟩ : ∃ m,k = m + 1 := ⟨k - 1,by omega⟩
    obtain ⟨x,i1,h1,e,hi1,_,_,_⟩ := below_some h 17 hl hi
    have hw : wrap64 (((d + 1 : Nat) : Int) - 1) = (d : Int) := by rw [wrap64_of (by omega) (by omega)];omega
    rw [spec_DrawTableOfPoints.l0,if_pos (by omega),e,Option.bind_some,if_pos (by omega),hw]
    exact ih k _ i1 h1 hi1 (by rw [List.length_append,List.length_singleton];omega) (by omega)
theorem drawPts_some {k : Nat} {b : List Int} (hl : b.length ≤ 9223372036854775807) (hk : 5000 < k) : ∃ (n : Int) (l : List Int),spec_DrawTableOfPoints.f k b = some (n,l) ∧ l.length ≤ 100 := by
  obtain ⟨h,e⟩ := new_some hl (k := k) (by omega)
  obtain ⟨n,i1,h1,e1,hi1,_⟩ := pick_some (l := [4,4,3,2,0,5,(-1),6]) h hl (Int.le_refl 0) (by decide)
  obtain ⟨x,i2,h2,e2,hi2,hx0,hx,_⟩ := below_some h1 4 hl hi1
  obtain ⟨x,rfl⟩ := Int.eq_ofNat_of_zero_le hx0
  have hx := hx (by decide)
  unfold spec_DrawTableOfPoints.f
  rw [e,Option.bind_some,e1,Option.bind_some]
  dsimp only
  rw [e2,Option.bind_some]
  obtain ⟨l,e3,hl3⟩ := pts_loop n hl x k [] i2 h2 hi2 (by rw [List.length_nil];omega) (by omega)
  exact ⟨n,l,e3,hl3⟩
theorem drawCntMono_some {k : Nat} {b : List Int} (hl : b.length ≤ 9223372036854775807) (hk : 5000 < k) : ∃ n : Int,spec_DrawCountMonotone.f k b = some n := by
  obtain ⟨h,e⟩ := new_some hl (k := k) (by omega)
  obtain ⟨x,i1,h1,e1,_⟩ := below_some h 6 hl (Int.le_refl 0)
  unfold spec_DrawCountMonotone.f
  rw [e,Option.bind_some,e1,Option.bind_some]
  exact ⟨_,rfl⟩
def selfI (a b : Int) : Bool := isTab a b && decide (((dualW a.toNat b.toNat : Nat) : Int) = b)
theorem impl_selfI {a b : Int} (h0 : -9223372036854775808 ≤ b) (h1 : b ≤ 9223372036854775807) : impl_IsSelfDual.f a b = some (selfI a b) := by
  unfold impl_IsSelfDual.f selfI
  rw [impl_isTable h0 h1,Option.bind_some]
  by_cases h : isTab a b = true
  · obtain ⟨n,w,rfl,rfl,ht⟩ := tab_of h
    rw [if_pos h,dual_some ht,Option.bind_some,h,Bool.true_and,Int.toNat_natCast,Int.toNat_natCast]
    simp
    rfl
  · rw [if_neg h,Bool.eq_false_iff.mpr h];rfl
theorem spec_selfI (a b : Int) {k : Nat} (hk : 32 < k) : spec_IsSelfDual.f k a b = some (selfI a b) := by
  unfold spec_IsSelfDual.f selfI
  rw [spec_dual a b hk,Option.bind_some]
  by_cases h : isTab a b = true
  · rw [if_pos h,h,Bool.true_and]
    dsimp only
    rw [if_pos rfl]
    rfl
  · rw [if_neg h,Bool.eq_false_iff.mpr h];rfl
def minI (a b : Int) : List Int := if isTab a b = true then filtN (edge a.toNat b.toNat true true) (2 ^ a.toNat) else []
def maxI (a b : Int) : List Int := if isTab a b = true then filtN (edge a.toNat b.toNat false false) (2 ^ a.toNat) else []
def dualI (a b : Int) : Int × Int × Bool := if isTab a b = true then (a,((dualW a.toNat b.toNat : Nat) : Int),true) else (0,0,false)
def hullI (a b : Int) : Int × Int × Bool := if isTab a b = true then (a,((hullW a.toNat b.toNat : Nat) : Int),true) else (0,0,false)
theorem dualI_snd (a b : Int) : (dualI a b).2.2 = isTab a b := by unfold dualI;cases h : isTab a b <;> simp
theorem mon_is {n w k : Nat} (ht : Tab n w) (hm : mono n w = true) (hk : 60000 < k) : MonIs k n w (filtN (edge n w true true) (2 ^ n)) (filtN (edge n w false false) (2 ^ n)) n ((dualW n w : Nat) : Int) (termL (filtN (edge n w true true) (2 ^ n))) true (filtN (edge n (dualW n w) true true) (2 ^ n)) := by
  have hM := pow_le ht.1
  have l1 := filtN_length (edge n w true true) (2 ^ n)
  have l2 := filtN_length (edge n w false false) (2 ^ n)
  have l3 := filtN_length (edge n (dualW n w) true true) (2 ^ n)
  have td := tab_dual ht
  have hd := td.lt63
  exact {
    n5 := ht.1
    tp := (impl_points _ _ (by omega)).trans (congrArg some (points_back ht hm))
    pr := primes_of ht hm (by omega)
    len := termL_length _
    lz := by rw [termL_length];omega
    mq := by rw [impl_minPts (by omega) (by omega) (by omega),isTab_of td,if_pos rfl,Int.toNat_natCast,Int.toNat_natCast]
    lq := least_dual ht
    one := fun e he => by
      rw [termL_length] at he
      refine ⟨rd (filtN (edge n w true true) (2 ^ n)) (e : Int),by rw [rd_term he],by rw [rd_term he],has_some (by omega) ?_ (by omega)⟩
      unfold rd
      rw [Int.toNat_natCast,List.getD_eq_getElem?_getD,List.getElem?_eq_getElem he]
      exact List.getElem_mem he
    two := fun e he => by
      obtain ⟨j,hj,hp,ej⟩ := rd_filt he
      rw [ej,wrap64_of (n := ((2 ^ n : Nat) : Int) - 1) (by omega) (by omega),wrap64_of (by omega) (by omega)]
      refine has_some (by omega) (filtN_mem.mpr ⟨2 ^ n - 1 - j,by omega,?_,by omega⟩) (by omega)
      rw [edge_dual ht (by omega),show 2 ^ n - 1 - (2 ^ n - 1 - j) = j by omega]
      exact hp }
theorem FnMonotone (l : List Int) (_ : l.length ≤ maxLen) (hy : l.length * 1 ≤ 140737488351232) (_ : ∀ x ∈ l,(Lit.int .u8 x).wf = true) : ∃ k,laws_FnMonotone.f k l = some true := by
  refine ⟨70000,?_⟩
  unfold laws_FnMonotone.f
  refine if_pos ?_
  by_cases hb : (l.length : Int) > 1048576
  · left
    unfold laws_big.f
    rw [decide_eq_true hb]
  · right
    have hl : l.length ≤ 9223372036854775807 := by omega
    obtain ⟨a,u,hd,u0,u1⟩ := drawMono_some (k := 70000) hl (by decide)
    obtain ⟨nn,pl,hdp,hpl⟩ := drawPts_some (k := 70000) hl (by decide)
    obtain ⟨m,hdm⟩ := drawCntMono_some (k := 70000) hl (by decide)
    obtain ⟨s1,s2,hds,v0,v1⟩ := drawSelf_some (k := 70000) hl (by decide)
    have hp : (minI a u).length ≤ 32 := minPts_length a u
    have hz : (maxI a u).length ≤ 32 := maxZeros_length a u
    refine ⟨a,u,isTab a u && mono a.toNat u.toNat,minI a u,maxI a u,(dualI a u).1,(dualI a u).2.1,isTab a u,(hullI a u).1,(hullI a u).2.1,(hullI a u).2.2,selfI a u,nn,pl,(pointsV nn pl).1,(pointsV nn pl).2.1,(pointsV nn pl).2.2,m,cntCountMonotone m,s1,s2,selfI s1 s2,?_⟩
    exact {
      small := by unfold laws_big.f;rw [decide_eq_false hb]
      draw := hd
      im := impl_isMono u0 u1 (by decide)
      mp := impl_minPts u0 u1 (by decide)
      mz := impl_maxZeros u0 u1 (by decide)
      im2 := spec_isMono a u (by decide)
      mp2 := spec_minPts a u (by decide)
      pp := same_ints _ (by omega) (by omega)
      mz2 := spec_maxZeros a u (by decide)
      zz := same_ints _ (by omega) (by omega)
      du := by rw [← dualI_snd];exact impl_dual a u u0 u1
      du2 := by rw [← dualI_snd];exact spec_dual a u (by decide)
      hu := impl_monoHull u0 u1
      hu2 := spec_hull a u (by decide)
      sd := impl_selfI u0 u1
      sdf := fun h => by unfold selfI;rw [h];rfl
      sdt := fun h => by unfold selfI dualI;rw [h,Bool.true_and,if_pos rfl]
      da := fun h => by unfold dualI hullI;rw [if_pos h,if_pos h];exact ⟨rfl,rfl⟩
      back := fun h => by
        obtain ⟨n,w,rfl,rfl,ht⟩ := tab_of h
        have td := tab_dual ht
        have th := tab_hull ht.1 w
        have e1 : (dualI n w).2.1 = ((dualW n w : Nat) : Int) := by unfold dualI;rw [if_pos h];rfl
        have e2 : (hullI n w).2.1 = ((hullW n w : Nat) : Int) := by unfold hullI;rw [if_pos h];rfl
        have b1 := td.lt63
        have b2 := th.lt63
        rw [e1,e2,h,Bool.true_and,Int.toNat_natCast,Int.toNat_natCast]
        refine ⟨⟨true,?_⟩,?_,?_,?_,?_⟩
        · rw [impl_dual _ _ (by omega) (by omega),if_pos (isTab_of td),Int.toNat_natCast,Int.toNat_natCast,dual_dual ht]
        · rw [impl_isMono (by omega) (by omega) (by decide),isTab_of td,Bool.true_and,Int.toNat_natCast,Int.toNat_natCast,mono_dual ht]
        · rw [impl_isMono (by omega) (by omega) (by decide),isTab_of th,Bool.true_and,Int.toNat_natCast,Int.toNat_natCast,mono_hull ht.1]
        · rw [and_cast ht.lt63 b2,hull_above ht]
        · rw [← hull_is ht,Bool.eq_iff_iff,beq_iff_eq,decide_eq_true_eq]
          omega
      mono := fun h => by
        rw [Bool.and_eq_true] at h
        obtain ⟨n,w,rfl,rfl,ht⟩ := tab_of h.1
        rw [Int.toNat_natCast,Int.toNat_natCast] at h
        have e1 : dualI n w = ((n : Int),((dualW n w : Nat) : Int),true) := by unfold dualI;rw [if_pos h.1];rfl
        have e3 : minI n w = filtN (edge n w true true) (2 ^ n) := by unfold minI;rw [if_pos h.1];rfl
        have e4 : maxI n w = filtN (edge n w false false) (2 ^ n) := by unfold maxI;rw [if_pos h.1];rfl
        rw [e1,e3,e4]
        exact ⟨n,_,_,_,rfl,mon_is ht h.2 (by decide)⟩
      dp := hdp
      tp := impl_points nn pl (by omega)
      tp2 := spec_points nn pl (by omega) (by omega)
      dm := hdm
      cm := impl_CountMonotone_some m
      cm2 := spec_CountMonotone_some m (by decide)
      ds := hds
      si := impl_selfI v0 v1
      si2 := spec_selfI s1 s2 (by decide) }
end Go.Proofs.Ytgojehaneegaeab.U
