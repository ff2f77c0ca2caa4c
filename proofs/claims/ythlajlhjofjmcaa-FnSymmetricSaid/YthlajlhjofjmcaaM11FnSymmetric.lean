/- Walks of Go functions and lemmas on what they compute, for the row of FnSymmetric (a part of several): each call ends as the Lean function of its name tells; the conditions are those of each theorem. -/
import Derived.Test.YthlajlhjofjmcaaM1FnSymmetric
import Derived.Test.YthlajlhjofjmcaaM2FnSymmetric
import Derived.Test.YthlajlhjofjmcaaM3FnSymmetric
import Derived.Test.YthlajlhjofjmcaaM4FnSymmetric
import Derived.Test.YthlajlhjofjmcaaM5FnSymmetric
import Derived.Test.YthlajlhjofjmcaaM6FnSymmetric
import Derived.Test.YthlajlhjofjmcaaM7FnSymmetric
import Derived.Test.YthlajlhjofjmcaaM8FnSymmetric
import Derived.Test.YthlajlhjofjmcaaM9FnSymmetric
import Derived.Test.YthlajlhjofjmcaaM10FnSymmetric
namespace Go.Proofs.Ythlajlhjofjmcaa.F
open Go.RowKit Go.Proofs.YthlajlhjofjmcaaW.PrintWords Go.Proofs.YthlajlhjofjmcaaW.PrintLast Go.Proofs.YthlajlhjofjmcaaW.PrintMore
attribute [local go_sem] max2_int min2_int max_two min_two max_three min_three max_four min_four 
set_option linter.unusedVariables false
set_option linter.unusedSimpArgs false
def sumLen : List (List Int) → Nat
 | [] => 0
 | l :: ls => l.length + sumLen ls
theorem sumLen_next : ∀ (g : List (List Int)) (p : Nat),p < g.length → sumLen (g.take (p + 1)) = sumLen (g.take p) + (rdL g (p : Int)).length := by
 intro g
 induction g with
 | nil => intro p h;cases h
 | cons a g ih =>
  intro p h
  cases p with
  | zero => rw [List.take_succ_cons,List.take_zero,List.take_zero];simp only [sumLen];show a.length + 0 = 0 + a.length;omega
  | succ p => rw [List.take_succ_cons,List.take_succ_cons,sumLen,sumLen,ih p (Nat.lt_of_succ_lt_succ h),rdL_succ];omega
theorem sumLen_take : ∀ (g : List (List Int)) (y : Nat),(∀ r ∈ g,r.length ≤ 64) → sumLen (g.take y) ≤ 64 * y := by
 intro g
 induction g with
 | nil => intro y _;rw [List.take_nil];exact Nat.zero_le _
 | cons a g ih =>
  intro y h
  cases y with
  | zero => exact Nat.le_refl _
  | succ y =>
   have := ih y (fun r hr => h r (List.mem_cons_of_mem _ hr))
   have := h a (List.mem_cons_self ..)
   rw [List.take_succ_cons,sumLen]
   omega
theorem rdL_in {xs : List (List Int)} {j : Nat} (h : j < xs.length) : rdL xs (j : Int) ∈ xs := by
 unfold rdL
 rw [Int.toNat_natCast,List.getD_eq_getElem?_getD,List.getElem?_eq_getElem h]
 exact List.getElem_mem h
structure SymGo (k : Nat) (code : List Int) (a u : Int) (q : List Int) (s : Bool) (g : List (List Int)) (v : List Int) (t1 t2 : Int) (t3 : Bool) (b1 b2 i j : Int) (x : Bool) (m c : Int) : Prop where
 small : laws_big.f code = some false
 draw : spec_DrawProfileOf.f k code = some (a,u)
 prof : impl_ProfileOf.f k a u = some q
 prof2 : spec_ProfileOf.f k a u = some q
 qs : laws_sameInts.f k q q = some true
 sym : impl_IsSymmetric.f k a u = some s
 sym2 : spec_IsSymmetric.f k a u = some s
 grp : impl_GroupsOf.f a u = some g
 grp2 : spec_GroupsOf.f k a u = some g
 gs : laws_sameLists.f k g g = some true
 len : s = decide ((q.length : Int) > 0)
 back : s = true → impl_SymmetricTable.f q = some (a,u,true) ∧ (a > 0 → g.length = 1)
 exch : ∀ (r : Nat),r < g.length → ∀ z : Nat,z + 1 < (rdL g (r : Int)).length → impl_AreExchangeable.f k a u (rd (rdL g (r : Int)) (z : Int)) (rd (rdL g (r : Int)) ((z + 1 : Nat) : Int)) = some true
 short : g.length ≤ 64 ∧ ∀ r ∈ g,r.length ≤ 64
 isT : ∃ T : Bool,spec_IsTable.f a u = some T ∧ (T = true → (sumLen g : Int) = a) ∧ (s = true → T = true)
 dv : spec_DrawSymmetricTable.f k code = some v
 st : impl_SymmetricTable.f v = some (t1,t2,t3)
 st2 : spec_SymmetricTable.f k v = some (t1,t2,t3)
 de : spec_DrawAreExchangeable.f k code = some (b1,b2,i,j)
 ex : impl_AreExchangeable.f k b1 b2 i j = some x
 ex2 : spec_AreExchangeable.f k b1 b2 i j = some x
 dc : spec_DrawCountSymmetric.f k code = some m
 ct : impl_CountSymmetric.f m = some c
 ct2 : spec_CountSymmetric.f k m = some c
 cnt : c < 0 ∨ 0 ≤ m ∧ c = shl .i64 2 m
open Classical in
noncomputable def laws_FnSymmetric.f (k : Nat) (code : List Int) : Option Bool :=
 if laws_big.f code = some true ∨ ∃ a u q s g v t1 t2 t3 b1 b2 i j x m c,SymGo k code a u q s g v t1 t2 t3 b1 b2 i j x m c then some true else none
set_option maxHeartbeats 8000000 in
set_option maxRecDepth 100000 in
theorem laws_FnSymmetric.calls (k : Nat) (A0 : Option Addr) (c0 : Nat) (l0 : List Int) (r : Bool) (w : World) (hr0 : Kd.C (Kd.int .u8) w A0 l0.length l0) (hc0 : l0.length ≤ c0) (h : laws_FnSymmetric.f k l0 = some r) :
  Calls Try.prog 3 #[.slice A0 l0.length c0] w fun e w' => e = .returned (.bool r) ∧ Below w.heap.size w w' := by
 have hut := Try.underlying25
 unfold laws_FnSymmetric.f at h
 split at h
 next hgo =>
  cases h
  rcases hgo with hbig | ⟨a,u,q,s,g,v,t1,t2,t3,b1,b2,i,j,x,m,c,G⟩
  ·have HB := Aside0.mk hbig
   clear hbig
   go_enter Try.func3,Try.ntmps3
   go_wp2_with (go_at_call 5;refine (laws_big.calls A0 c0 l0 true _ hr0 hc0 HB.out).mono ?_;rintro e w1 ⟨rfl,⟨nd,rfl⟩⟩)
   go_ret
   exact ⟨rfl,pw_below_drewN (Below.refl _ _) _⟩
  ·have HG := Aside0.mk G
   have HR := Aside0.mk hr0
   have HC0 := Aside0.mk hc0
   have HB := Aside0.mk (Below.refl w.heap.size w)
   clear G hr0 hc0
   go_enter Try.func3,Try.ntmps3
   go_upto_region 3 with (go_at_call 5;refine (laws_big.calls A0 c0 l0 false _ HR.out HC0.out HG.out.small).mono ?_;rintro e w1 ⟨rfl,hd⟩;have hb := hd.below;clear hd;have n_ := Aside0.mk (Kd.Heap.C (Kd.heap_int .u8) hb.block HR.out);clear HR;have HR := n_;clear n_;have n_ := Aside0.mk (below_step HB.out hb);clear HB;have HB := n_;clear n_;clear hb )
   go_upto_region 4 with (go_at_call 6;refine (spec_DrawProfileOf.calls k A0 c0 l0 a u _ HR.out HC0.out HG.out.draw).mono ?_;rintro e w2 ⟨rfl,hb⟩;have n_ := Aside0.mk (Kd.Heap.C (Kd.heap_int .u8) hb.block HR.out);clear HR;have HR := n_;clear n_;have n_ := Aside0.mk (below_step HB.out hb);clear HB;have HB := n_;clear n_;clear hb )
   have BF := Aside0.mk (blk_new w2 (.cells #[.int .i64 a,.int .i64 u] 25 (0,0)))
   have hb := below_alloc (Below.refl w2.heap.size w2) (.cells #[.int .i64 a,.int .i64 u] 25 (0,0))
   have n_ := Aside0.mk (Kd.Heap.C (Kd.heap_int .u8) hb.block HR.out)
   clear HR
   have HR := n_
   clear n_
   have n_ := Aside0.mk (below_step HB.out hb)
   clear HB
   have HB := n_
   clear n_
   clear hb
   obtain ⟨gf,hgf_⟩ : ∃ gf,gf = w2.heap.size := ⟨_,rfl⟩
   rw [← hgf_] at BF ⊢
   clear hgf_
   generalize w2.alloc (.cells #[.int .i64 a,.int .i64 u] 25 (0,0)) = w3 at HR HB BF ⊢
   have hc_BF_0 : w3.cell? ⟨gf,0,none⟩ = some (.int .i64 a) := (blk_cell BF.out 0).trans rfl
   have hc_BF_1 : w3.cell? ⟨gf,1,none⟩ = some (.int .i64 u) := (blk_cell BF.out 1).trans rfl
   have HW : Aside0 (w.heap.size ≤ w3.heap.size) := ⟨HB.out.size⟩
   go_upto_region 5 with (go_at_call 7;refine (impl_ProfileOf.calls k a u q _ HG.out.prof).mono ?_;rintro e w4 ⟨vq,rfl,hq,hb⟩;replace hq := Kd.R_lower hq HB.out.size;have n_ := Aside0.mk (Kd.Heap.C (Kd.heap_int .u8) hb.block HR.out);clear HR;have HR := n_;clear n_;have n_ := Aside0.mk (below_step HB.out hb);clear HB;have HB := n_;clear n_;have n_ := Aside0.mk (blk_below BF.out hb);clear BF;have BF := n_;clear n_;have HQ := Aside0.mk hq;clear hb hq;clear hc_BF_0 hc_BF_1;obtain ⟨Aq,cq,rfl,-,-⟩ := Kd.R_reads HQ.out;have hc_BF_0 : w4.cell? ⟨gf,0,none⟩ = some (.int .i64 a) := (blk_cell BF.out 0).trans rfl;have hc_BF_1 : w4.cell? ⟨gf,1,none⟩ = some (.int .i64 u) := (blk_cell BF.out 1).trans rfl)
   go_upto_region 6 with (go_at_call 8;refine (impl_IsSymmetric.calls k a u s _ HG.out.sym).mono ?_;rintro e w5 ⟨rfl,hb⟩;have n_ := Aside0.mk (Kd.Heap.C (Kd.heap_int .u8) hb.block HR.out);clear HR;have HR := n_;clear n_;have n_ := Aside0.mk (below_step HB.out hb);clear HB;have HB := n_;clear n_;have n_ := Aside0.mk (blk_below BF.out hb);clear BF;have BF := n_;clear n_;have n_ := Aside0.mk (Kd.R_below HQ.out hb);clear HQ;have HQ := n_;clear n_;clear hb ;clear hc_BF_0 hc_BF_1;have hc_BF_0 : w5.cell? ⟨gf,0,none⟩ = some (.int .i64 a) := (blk_cell BF.out 0).trans rfl;have hc_BF_1 : w5.cell? ⟨gf,1,none⟩ = some (.int .i64 u) := (blk_cell BF.out 1).trans rfl)
   go_upto_region 7 with (go_at_call 9;refine (impl_GroupsOf.calls a u g _ HG.out.grp).mono ?_;rintro e w6 ⟨vg,rfl,hs,hb⟩;replace hs := Kd.S_lower hs HB.out.size;have n_ := Aside0.mk (Kd.Heap.C (Kd.heap_int .u8) hb.block HR.out);clear HR;have HR := n_;clear n_;have n_ := Aside0.mk (below_step HB.out hb);clear HB;have HB := n_;clear n_;have n_ := Aside0.mk (blk_below BF.out hb);clear BF;have BF := n_;clear n_;have n_ := Aside0.mk (Kd.R_below HQ.out hb);clear HQ;have HQ := n_;clear n_;have HS := Aside0.mk hs;clear hb hs;clear hc_BF_0 hc_BF_1;obtain ⟨Ag,cg,rfl,-,-⟩ := Kd.S_reads HS.out;have hc_BF_0 : w6.cell? ⟨gf,0,none⟩ = some (.int .i64 a) := (blk_cell BF.out 0).trans rfl;have hc_BF_1 : w6.cell? ⟨gf,1,none⟩ = some (.int .i64 u) := (blk_cell BF.out 1).trans rfl)
   have HCQ : Aside0 (q.length ≤ cq) := ⟨(Kd.R_reads' HQ.out).2.1⟩
   have HCG : Aside0 (g.length ≤ cg) := ⟨(Kd.S_reads' HS.out).2.1⟩
   have HLEN := Aside0.mk HG.out.len
   cases s
   case' true =>
    have hql : 0 < q.length := by have h_ := HLEN.out;have h_2 := of_decide_eq_true h_.symm;omega
    have hqz : (0 : Int) < (q.length : Int) := by omega
    have HBACK := Aside0.mk (HG.out.back rfl)
    clear HLEN
    go_upto_region 10 with (first | (go_at_call 11;refine (spec_ProfileOf.calls k a u q _ HG.out.prof2).mono ?_;rintro e w7 ⟨vp,rfl,hp,hb⟩;have n_ := Aside0.mk (Kd.Heap.C (Kd.heap_int .u8) hb.block HR.out);clear HR;have HR := n_;clear n_;have n_ := Aside0.mk (below_step HB.out hb);clear HB;have HB := n_;clear n_;have n_ := Aside0.mk (blk_below BF.out hb);clear BF;have BF := n_;clear n_;have n_ := Aside0.mk (Kd.R_below HQ.out hb);clear HQ;have HQ := n_;clear n_;have n_ := Aside0.mk (Kd.S_below HS.out hb);clear HS;have HS := n_;clear n_;have HP := Aside0.mk hp;clear hb hp;clear hc_BF_0 hc_BF_1;obtain ⟨Ap,cp,rfl,-,-⟩ := Kd.R_reads HP.out;have hc_BF_0 : w7.cell? ⟨gf,0,none⟩ = some (.int .i64 a) := (blk_cell BF.out 0).trans rfl;have hc_BF_1 : w7.cell? ⟨gf,1,none⟩ = some (.int .i64 u) := (blk_cell BF.out 1).trans rfl) | (go_at_call 10;refine (laws_sameInts.calls k Aq cq q Ap cp q true _ (Kd.R_reads' HQ.out).2.2 HCQ.out (Kd.R_reads' HP.out).2.2 (Kd.R_reads' HP.out).2.1 HG.out.qs).mono ?_;rintro e w8 ⟨rfl,hd⟩;have hb := hd.below;clear hd;have n_ := Aside0.mk (Kd.Heap.C (Kd.heap_int .u8) hb.block HR.out);clear HR;have HR := n_;clear n_;have n_ := Aside0.mk (below_step HB.out hb);clear HB;have HB := n_;clear n_;have n_ := Aside0.mk (blk_below BF.out hb);clear BF;have BF := n_;clear n_;have n_ := Aside0.mk (Kd.R_below HQ.out hb);clear HQ;have HQ := n_;clear n_;have n_ := Aside0.mk (Kd.S_below HS.out hb);clear HS;have HS := n_;clear n_;have n_ := Aside0.mk (Kd.R_below HP.out hb);clear HP;have HP := n_;clear n_;clear hb ;clear hc_BF_0 hc_BF_1;clear HP;have hc_BF_0 : w8.cell? ⟨gf,0,none⟩ = some (.int .i64 a) := (blk_cell BF.out 0).trans rfl;have hc_BF_1 : w8.cell? ⟨gf,1,none⟩ = some (.int .i64 u) := (blk_cell BF.out 1).trans rfl) | (go_at_call 12;refine (spec_IsSymmetric.calls k a u true _ HG.out.sym2).mono ?_;rintro e w9 ⟨rfl,hb⟩;have n_ := Aside0.mk (Kd.Heap.C (Kd.heap_int .u8) hb.block HR.out);clear HR;have HR := n_;clear n_;have n_ := Aside0.mk (below_step HB.out hb);clear HB;have HB := n_;clear n_;have n_ := Aside0.mk (blk_below BF.out hb);clear BF;have BF := n_;clear n_;have n_ := Aside0.mk (Kd.R_below HQ.out hb);clear HQ;have HQ := n_;clear n_;have n_ := Aside0.mk (Kd.S_below HS.out hb);clear HS;have HS := n_;clear n_;clear hb ;clear hc_BF_0 hc_BF_1;have hc_BF_0 : w9.cell? ⟨gf,0,none⟩ = some (.int .i64 a) := (blk_cell BF.out 0).trans rfl;have hc_BF_1 : w9.cell? ⟨gf,1,none⟩ = some (.int .i64 u) := (blk_cell BF.out 1).trans rfl) | (go_at_call 14;refine (spec_GroupsOf.calls k a u g _ HG.out.grp2).mono ?_;rintro e w10 ⟨vp,rfl,hp,hb⟩;have n_ := Aside0.mk (Kd.Heap.C (Kd.heap_int .u8) hb.block HR.out);clear HR;have HR := n_;clear n_;have n_ := Aside0.mk (below_step HB.out hb);clear HB;have HB := n_;clear n_;have n_ := Aside0.mk (blk_below BF.out hb);clear BF;have BF := n_;clear n_;have n_ := Aside0.mk (Kd.R_below HQ.out hb);clear HQ;have HQ := n_;clear n_;have n_ := Aside0.mk (Kd.S_below HS.out hb);clear HS;have HS := n_;clear n_;have HP := Aside0.mk hp;clear hb hp;clear hc_BF_0 hc_BF_1;obtain ⟨Ah,ch,rfl,-,-⟩ := Kd.S_reads HP.out;have hc_BF_0 : w10.cell? ⟨gf,0,none⟩ = some (.int .i64 a) := (blk_cell BF.out 0).trans rfl;have hc_BF_1 : w10.cell? ⟨gf,1,none⟩ = some (.int .i64 u) := (blk_cell BF.out 1).trans rfl) | (go_at_call 13;refine (laws_sameLists.calls k Ag cg g Ah ch g true _ (Kd.S_reads' HS.out).2.2 HCG.out (Kd.S_reads' HP.out).2.2 (Kd.S_reads' HP.out).2.1 HG.out.gs).mono ?_;rintro e w11 ⟨rfl,hb⟩;have n_ := Aside0.mk (Kd.Heap.C (Kd.heap_int .u8) hb.block HR.out);clear HR;have HR := n_;clear n_;have n_ := Aside0.mk (below_step HB.out hb);clear HB;have HB := n_;clear n_;have n_ := Aside0.mk (blk_below BF.out hb);clear BF;have BF := n_;clear n_;have n_ := Aside0.mk (Kd.R_below HQ.out hb);clear HQ;have HQ := n_;clear n_;have n_ := Aside0.mk (Kd.S_below HS.out hb);clear HS;have HS := n_;clear n_;have n_ := Aside0.mk (Kd.S_below HP.out hb);clear HP;have HP := n_;clear n_;clear hb ;clear hc_BF_0 hc_BF_1;clear HP;have hc_BF_0 : w11.cell? ⟨gf,0,none⟩ = some (.int .i64 a) := (blk_cell BF.out 0).trans rfl;have hc_BF_1 : w11.cell? ⟨gf,1,none⟩ = some (.int .i64 u) := (blk_cell BF.out 1).trans rfl))
    clear hql hqz
    go_upto_region 11 with (go_at_call 15;refine (impl_SymmetricTable.calls Aq cq q a u true _ (Kd.R_reads' HQ.out).2.2 HCQ.out HBACK.out.1).mono ?_;rintro e w12 ⟨rfl,hb⟩;have n_ := Aside0.mk (Kd.Heap.C (Kd.heap_int .u8) hb.block HR.out);clear HR;have HR := n_;clear n_;have n_ := Aside0.mk (below_step HB.out hb);clear HB;have HB := n_;clear n_;have n_ := Aside0.mk (blk_below BF.out hb);clear BF;have BF := n_;clear n_;have n_ := Aside0.mk (Kd.R_below HQ.out hb);clear HQ;have HQ := n_;clear n_;have n_ := Aside0.mk (Kd.S_below HS.out hb);clear HS;have HS := n_;clear n_;clear hb ;clear hc_BF_0 hc_BF_1;have hc_BF_0 : w12.cell? ⟨gf,0,none⟩ = some (.int .i64 a) := (blk_cell BF.out 0).trans rfl;have hc_BF_1 : w12.cell? ⟨gf,1,none⟩ = some (.int .i64 u) := (blk_cell BF.out 1).trans rfl)
    clear hc_BF_0 hc_BF_1
    have BT := Aside0.mk (blk_new w12 (.cells #[.int .i64 a,.int .i64 u] 25 (0,0)))
    have hb := below_alloc (Below.refl w12.heap.size w12) (.cells #[.int .i64 a,.int .i64 u] 25 (0,0))
    have n_ := Aside0.mk (Kd.Heap.C (Kd.heap_int .u8) hb.block HR.out)
    clear HR
    have HR := n_
    clear n_
    have n_ := Aside0.mk (below_step HB.out hb)
    clear HB
    have HB := n_
    clear n_
    have n_ := Aside0.mk (blk_below BF.out hb)
    clear BF
    have BF := n_
    clear n_
    have n_ := Aside0.mk (Kd.R_below HQ.out hb)
    clear HQ
    have HQ := n_
    clear n_
    have n_ := Aside0.mk (Kd.S_below HS.out hb)
    clear HS
    have HS := n_
    clear n_
    clear hb
    obtain ⟨gt,hgt_⟩ : ∃ gt,gt = w12.heap.size := ⟨_,rfl⟩
    rw [← hgt_] at BT ⊢
    clear hgt_
    generalize w12.alloc (.cells #[.int .i64 a,.int .i64 u] 25 (0,0)) = wz at HR HB BF HQ HS BT ⊢
    have hc_BF_0 : wz.cell? ⟨gf,0,none⟩ = some (.int .i64 a) := (blk_cell BF.out 0).trans rfl
    have hc_BF_1 : wz.cell? ⟨gf,1,none⟩ = some (.int .i64 u) := (blk_cell BF.out 1).trans rfl
    have hc_BT_0 : wz.cell? ⟨gt,0,none⟩ = some (.int .i64 a) := (blk_cell BT.out 0).trans rfl
    have hc_BT_1 : wz.cell? ⟨gt,1,none⟩ = some (.int .i64 u) := (blk_cell BT.out 1).trans rfl
    have haa : (a != a) = false := bne_self_eq_false a
    have huu : (u != u) = false := bne_self_eq_false u
    by_cases hpos : 0 < a
    case' pos =>
     have hg1 := HBACK.out.2 hpos
     have hgz : ((g.length : Int) != 1) = false := by rw [hg1];rfl
     go_upto_region 13 with (fail)
     clear hg1 hgz
    case' neg =>
     go_upto_region 13 with (fail)
    all_goals clear haa huu hpos HBACK BT hc_BT_0 hc_BT_1
   case' false =>
    have hqz : ¬ (0 : Int) < (q.length : Int) := by have h_ := HLEN.out;have h_2 := of_decide_eq_false h_.symm;omega
    have hdq : decide (0 < q.length) = false := decide_eq_false (by omega)
    clear HLEN
    go_upto_region 13 with (first | (go_at_call 11;refine (spec_ProfileOf.calls k a u q _ HG.out.prof2).mono ?_;rintro e w7 ⟨vp,rfl,hp,hb⟩;have n_ := Aside0.mk (Kd.Heap.C (Kd.heap_int .u8) hb.block HR.out);clear HR;have HR := n_;clear n_;have n_ := Aside0.mk (below_step HB.out hb);clear HB;have HB := n_;clear n_;have n_ := Aside0.mk (blk_below BF.out hb);clear BF;have BF := n_;clear n_;have n_ := Aside0.mk (Kd.R_below HQ.out hb);clear HQ;have HQ := n_;clear n_;have n_ := Aside0.mk (Kd.S_below HS.out hb);clear HS;have HS := n_;clear n_;have HP := Aside0.mk hp;clear hb hp;clear hc_BF_0 hc_BF_1;obtain ⟨Ap,cp,rfl,-,-⟩ := Kd.R_reads HP.out;have hc_BF_0 : w7.cell? ⟨gf,0,none⟩ = some (.int .i64 a) := (blk_cell BF.out 0).trans rfl;have hc_BF_1 : w7.cell? ⟨gf,1,none⟩ = some (.int .i64 u) := (blk_cell BF.out 1).trans rfl) | (go_at_call 10;refine (laws_sameInts.calls k Aq cq q Ap cp q true _ (Kd.R_reads' HQ.out).2.2 HCQ.out (Kd.R_reads' HP.out).2.2 (Kd.R_reads' HP.out).2.1 HG.out.qs).mono ?_;rintro e w8 ⟨rfl,hd⟩;have hb := hd.below;clear hd;have n_ := Aside0.mk (Kd.Heap.C (Kd.heap_int .u8) hb.block HR.out);clear HR;have HR := n_;clear n_;have n_ := Aside0.mk (below_step HB.out hb);clear HB;have HB := n_;clear n_;have n_ := Aside0.mk (blk_below BF.out hb);clear BF;have BF := n_;clear n_;have n_ := Aside0.mk (Kd.R_below HQ.out hb);clear HQ;have HQ := n_;clear n_;have n_ := Aside0.mk (Kd.S_below HS.out hb);clear HS;have HS := n_;clear n_;have n_ := Aside0.mk (Kd.R_below HP.out hb);clear HP;have HP := n_;clear n_;clear hb ;clear hc_BF_0 hc_BF_1;clear HP;have hc_BF_0 : w8.cell? ⟨gf,0,none⟩ = some (.int .i64 a) := (blk_cell BF.out 0).trans rfl;have hc_BF_1 : w8.cell? ⟨gf,1,none⟩ = some (.int .i64 u) := (blk_cell BF.out 1).trans rfl) | (go_at_call 12;refine (spec_IsSymmetric.calls k a u false _ HG.out.sym2).mono ?_;rintro e w9 ⟨rfl,hb⟩;have n_ := Aside0.mk (Kd.Heap.C (Kd.heap_int .u8) hb.block HR.out);clear HR;have HR := n_;clear n_;have n_ := Aside0.mk (below_step HB.out hb);clear HB;have HB := n_;clear n_;have n_ := Aside0.mk (blk_below BF.out hb);clear BF;have BF := n_;clear n_;have n_ := Aside0.mk (Kd.R_below HQ.out hb);clear HQ;have HQ := n_;clear n_;have n_ := Aside0.mk (Kd.S_below HS.out hb);clear HS;have HS := n_;clear n_;clear hb ;clear hc_BF_0 hc_BF_1;have hc_BF_0 : w9.cell? ⟨gf,0,none⟩ = some (.int .i64 a) := (blk_cell BF.out 0).trans rfl;have hc_BF_1 : w9.cell? ⟨gf,1,none⟩ = some (.int .i64 u) := (blk_cell BF.out 1).trans rfl) | (go_at_call 14;refine (spec_GroupsOf.calls k a u g _ HG.out.grp2).mono ?_;rintro e w10 ⟨vp,rfl,hp,hb⟩;have n_ := Aside0.mk (Kd.Heap.C (Kd.heap_int .u8) hb.block HR.out);clear HR;have HR := n_;clear n_;have n_ := Aside0.mk (below_step HB.out hb);clear HB;have HB := n_;clear n_;have n_ := Aside0.mk (blk_below BF.out hb);clear BF;have BF := n_;clear n_;have n_ := Aside0.mk (Kd.R_below HQ.out hb);clear HQ;have HQ := n_;clear n_;have n_ := Aside0.mk (Kd.S_below HS.out hb);clear HS;have HS := n_;clear n_;have HP := Aside0.mk hp;clear hb hp;clear hc_BF_0 hc_BF_1;obtain ⟨Ah,ch,rfl,-,-⟩ := Kd.S_reads HP.out;have hc_BF_0 : w10.cell? ⟨gf,0,none⟩ = some (.int .i64 a) := (blk_cell BF.out 0).trans rfl;have hc_BF_1 : w10.cell? ⟨gf,1,none⟩ = some (.int .i64 u) := (blk_cell BF.out 1).trans rfl) | (go_at_call 13;refine (laws_sameLists.calls k Ag cg g Ah ch g true _ (Kd.S_reads' HS.out).2.2 HCG.out (Kd.S_reads' HP.out).2.2 (Kd.S_reads' HP.out).2.1 HG.out.gs).mono ?_;rintro e wz ⟨rfl,hb⟩;have n_ := Aside0.mk (Kd.Heap.C (Kd.heap_int .u8) hb.block HR.out);clear HR;have HR := n_;clear n_;have n_ := Aside0.mk (below_step HB.out hb);clear HB;have HB := n_;clear n_;have n_ := Aside0.mk (blk_below BF.out hb);clear BF;have BF := n_;clear n_;have n_ := Aside0.mk (Kd.R_below HQ.out hb);clear HQ;have HQ := n_;clear n_;have n_ := Aside0.mk (Kd.S_below HS.out hb);clear HS;have HS := n_;clear n_;have n_ := Aside0.mk (Kd.S_below HP.out hb);clear HP;have HP := n_;clear n_;clear hb ;clear hc_BF_0 hc_BF_1;clear HP;have hc_BF_0 : wz.cell? ⟨gf,0,none⟩ = some (.int .i64 a) := (blk_cell BF.out 0).trans rfl;have hc_BF_1 : wz.cell? ⟨gf,1,none⟩ = some (.int .i64 u) := (blk_cell BF.out 1).trans rfl))
    clear hqz hdq
   all_goals
    clear hc_BF_0 hc_BF_1 HQ
    have HSH := Aside0.mk HG.out.short
    have HSM : Aside0 (∀ y : Nat,sumLen (g.take y) ≤ 64 * y) := ⟨fun y => sumLen_take g y HSH.out.2⟩
    have hgl := HSH.out.1
    go_wp2_with (fail)
    go_loopg [9,10] g.length (fun gg v9 v10 wr => ∃ y : Nat,y ≤ g.length ∧ g.length - y ≤ gg ∧ v9 = .int .i64 ((sumLen (g.take y) : Nat) : Int) ∧ v10 = .int .i64 y ∧ Aside0 (Kd.C (Kd.int .u8) wr A0 l0.length l0) ∧ Aside0 (Below w.heap.size w wr) ∧ Aside0 (wr.heap[gf]? = some (.cells #[.int .i64 a,.int .i64 u] 25 (0,0))) ∧ Aside0 (Kd.S (Kd.slice 3 (Kd.int .i64)) 27 wr w.heap.size (fun _ => True) (.slice Ag g.length cg) g))
    case atStart => exact ⟨0,Nat.zero_le _,by omega,rfl,rfl,HR,HB,BF,HS⟩
    case round =>
     clear HR HB BF HS
     obtain ⟨p,hi,hg,rfl,rfl,HR,HB,BF,HS⟩ := hrel
     by_cases hlt : p < g.length
     ·have hltz : (p : Int) < (g.length : Int) := by omega
      have h0z : (0 : Int) ≤ (p : Int) := by omega
      obtain ⟨ad,A',c',rfl,hc,hlc,hCC⟩ := at_rows (Kd.S_reads' HS.out).2.2 (p : Int) h0z hltz
      rw [Int.toNat_natCast] at hc
      obtain ⟨row,hrow⟩ : ∃ row,row = rdL g (p : Int) := ⟨_,rfl⟩
      rw [← hrow] at hc hlc hCC
      have HROW := Aside0.mk hrow
      have HRL : Aside0 (row.length ≤ 64) := ⟨by rw [hrow];exact HSH.out.2 _ (rdL_in hlt)⟩
      have HST : Aside0 (sumLen (g.take (p + 1)) = sumLen (g.take p) + row.length) := ⟨by rw [hrow];exact sumLen_next g p hlt⟩
      clear hrow hlc
      have HCC := Aside0.mk hCC
      have HC := Aside0.mk hc
      clear hCC
      have HX := Aside0.mk (HG.out.exch p hlt)
      rw [← HROW.out] at HX
      have HP := Aside0.mk hlt
      have HGG := Aside0.mk hg
      go_wp2_with (fail)
      clear hc hlt hg
      go_loopg [11] 64 (fun g2 v11 wq => ∃ y z : Nat,y = z + 1 ∧ (y ≤ row.length ∨ z = 0) ∧ row.length - z ≤ g2 ∧ v11 = .int .i64 (y : Int) ∧ Aside0 (Kd.C (Kd.int .u8) wq A0 l0.length l0) ∧ Aside0 (Below w.heap.size w wq) ∧ Aside0 (wq.heap[gf]? = some (.cells #[.int .i64 a,.int .i64 u] 25 (0,0))) ∧ Aside0 (Kd.S (Kd.slice 3 (Kd.int .i64)) 27 wq w.heap.size (fun _ => True) (.slice (some ad) g.length cg) g) ∧ Aside0 (wq.cell? (ad.add p) = some (.slice A' row.length c')) ∧ Aside0 (Kd.C (Kd.int .i64) wq A' row.length row))
      case atStart => exact ⟨1,0,rfl,.inr rfl,by have := HRL.out;omega,rfl,HR,HB,BF,HS,HC,HCC⟩
      case round =>
       clear HR HB BF HS HC HCC
       obtain ⟨y,z,hyz,hz,hg2,rfl,HR,HB,BF,HS,HC,HCC⟩ := hrel
       by_cases hlt2 : y < row.length
       ·have hltz2 : (y : Int) < (row.length : Int) := by omega
        have hltz3 : (z : Int) < (row.length : Int) := by omega
        have h0z2 : (0 : Int) ≤ (y : Int) := by omega
        have h0z3 : (0 : Int) ≤ (z : Int) := by omega
        have hw1 : wrap64 ((y : Int) - 1) = (z : Int) := by have := HRL.out;rw [B.wrap64_of (by omega) (by omega)];omega
        have HX1 : Aside0 (impl_AreExchangeable.f k a u (rd row (z : Int)) (rd row (y : Int)) = some true) := ⟨by rw [hyz];exact HX.out z (by omega)⟩
        obtain ⟨a1,rfl,h1⟩ := Kd.at_int HCC.out (z : Int) h0z3 hltz3
        obtain ⟨a2,e2,h2⟩ := Kd.at_int HCC.out (y : Int) h0z2 hltz2
        obtain rfl : a1 = a2 := by injection e2
        rw [Int.toNat_natCast] at h1 h2
        have hc := HC.out
        have HZ := Aside0.mk (And.intro hyz (And.intro hlt2 hg2))
        clear e2 hlt2 hg2 hz hyz
        go_upto_region 21 with (fail)
        have C0 : Aside0 (wr.cell? ⟨gf,0,none⟩ = some (.int .i64 a)) := ⟨(blk_cell BF.out 0).trans rfl⟩
        have C1 : Aside0 (wr.cell? ⟨gf,1,none⟩ = some (.int .i64 u)) := ⟨(blk_cell BF.out 1).trans rfl⟩
        have C2 := Aside0.mk hc
        have C3 := Aside0.mk h1
        have C4 := Aside0.mk h2
        clear hc h1 h2
        have hb := below_drew (Below.refl wr.heap.size wr)
        have n_ : Aside0 (wr.drew.cell? ⟨gf,0,none⟩ = some (.int .i64 a)) := ⟨pw_cell_below hb C0.out⟩
        clear C0
        have C0 := n_
        clear n_
        have n_ : Aside0 (wr.drew.cell? ⟨gf,1,none⟩ = some (.int .i64 u)) := ⟨pw_cell_below hb C1.out⟩
        clear C1
        have C1 := n_
        clear n_
        have n_ : Aside0 (wr.drew.cell? (ad.add p) = some (.slice (some a1) row.length c')) := ⟨pw_cell_below hb C2.out⟩
        clear C2
        have C2 := n_
        clear n_
        have n_ : Aside0 (wr.drew.cell? (a1.add z) = some (.int .i64 (rd row (z : Int)))) := ⟨pw_cell_below hb C3.out⟩
        clear C3
        have C3 := n_
        clear n_
        have n_ : Aside0 (wr.drew.cell? (a1.add y) = some (.int .i64 (rd row (y : Int)))) := ⟨pw_cell_below hb C4.out⟩
        clear C4
        have C4 := n_
        clear n_
        have n_ := Aside0.mk (Kd.Heap.C (Kd.heap_int .u8) hb.block HR.out)
        clear HR
        have HR := n_
        clear n_
        have n_ := Aside0.mk (below_step HB.out hb)
        clear HB
        have HB := n_
        clear n_
        have n_ := Aside0.mk (blk_below BF.out hb)
        clear BF
        have BF := n_
        clear n_
        have n_ := Aside0.mk (Kd.S_below HS.out hb)
        clear HS
        have HS := n_
        clear n_
        have n_ := Aside0.mk (pw_cell_below hb HC.out)
        clear HC
        have HC := n_
        clear n_
        have n_ := Aside0.mk (Kd.Heap.C (Kd.heap_int .i64) hb.block HCC.out)
        clear HCC
        have HCC := n_
        clear n_
        clear hb
        refine start_ (n := 18) (S := (fun w_ => w_.cell? ⟨gf,0,none⟩ = some (.int .i64 a) ∧ w_.cell? ⟨gf,1,none⟩ = some (.int .i64 u) ∧ w_.cell? (ad.add p) = some (.slice (some a1) row.length c') ∧ w_.cell? (a1.add z) = some (.int .i64 (rd row (z : Int))) ∧ w_.cell? (a1.add y) = some (.int .i64 (rd row (y : Int))))) (ds := []) #[false,false,false,false,false,false,false,false,false,false,false,false,false,false,false,false,false,false] (by kernel_rfl) rfl rfl ⟨C0.out,C1.out,C2.out,C3.out,C4.out⟩ (fun hHeld => ?_)
        generalize wr.drew = W0_ at C0 C1 C2 C3 C4 HR HB BF HS HC HCC hHeld ⊢
        refine take_ (i := 0) (N := some 102) (v := ?_) (a' := ?_) #[true,false,false,false,false,false,false,false,false,false,false,false,false,false,false,false,false,false] rfl rfl (by kernel_rfl) (fun _ _ _ h => h) (Or.inl ⟨by rfl,?_⟩) hHeld ?_ ?_
        rotate_left
        ·rintro w' ⟨s0,s1,s2,s3,s4⟩
         go_simp
         first | done | with_reducible rfl
        rotate_left
        ·simp only [Act.put,List.setIfInBounds_toArray,List.set_cons_zero,List.set_cons_succ,i64_w,i32_w]
         rfl
        refine pure_ (i := 1) (N := some 103) (v := ?_) (a' := ?_) #[true,true,false,false,false,false,false,false,false,false,false,false,false,false,false,false,false,false] rfl rfl (by kernel_rfl) (fun _ _ _ h => h) (Or.inl ⟨by rfl,?_⟩) ?_ ?_
        rotate_left
        ·intro w'
         go_simp
         first | done | with_reducible rfl
        rotate_left
        ·simp only [Act.put,List.setIfInBounds_toArray,List.set_cons_zero,List.set_cons_succ,i64_w,i32_w]
         rfl
        refine pure_ (i := 2) (N := some 104) (v := ?_) (a' := ?_) #[true,true,true,false,false,false,false,false,false,false,false,false,false,false,false,false,false,false] rfl rfl (by kernel_rfl) (fun _ _ _ h => h) (Or.inl ⟨by rfl,?_⟩) ?_ ?_
        rotate_left
        ·intro w'
         go_simp
         first | done | with_reducible rfl
        rotate_left
        ·simp only [Act.put,List.setIfInBounds_toArray,List.set_cons_zero,List.set_cons_succ,i64_w,i32_w]
         rfl
        refine pure_ (i := 3) (N := some 105) (v := ?_) (a' := ?_) #[true,true,true,true,false,false,false,false,false,false,false,false,false,false,false,false,false,false] rfl rfl (by kernel_rfl) (fun _ _ _ h => h) (Or.inl ⟨by rfl,?_⟩) ?_ ?_
        rotate_left
        ·intro w'
         go_simp
         first | done | with_reducible rfl
        rotate_left
        ·simp only [Act.put,List.setIfInBounds_toArray,List.set_cons_zero,List.set_cons_succ,i64_w,i32_w]
         rfl
        refine take_ (i := 4) (N := some 106) (v := ?_) (a' := ?_) #[true,true,true,true,true,false,false,false,false,false,false,false,false,false,false,false,false,false] rfl rfl (by kernel_rfl) (fun _ _ _ h => h) (Or.inl ⟨by rfl,?_⟩) hHeld ?_ ?_
        rotate_left
        ·rintro w' ⟨s0,s1,s2,s3,s4⟩
         go_simp
         first | done | with_reducible rfl
        rotate_left
        ·simp only [Act.put,List.setIfInBounds_toArray,List.set_cons_zero,List.set_cons_succ,i64_w,i32_w]
         rfl
        refine pure_ (i := 5) (N := some 107) (v := ?_) (a' := ?_) #[true,true,true,true,true,true,false,false,false,false,false,false,false,false,false,false,false,false] rfl rfl (by kernel_rfl) (fun _ _ _ h => h) (Or.inl ⟨by rfl,?_⟩) ?_ ?_
        rotate_left
        ·intro w'
         go_simp
         first | done | with_reducible rfl
        rotate_left
        ·simp only [Act.put,List.setIfInBounds_toArray,List.set_cons_zero,List.set_cons_succ,i64_w,i32_w]
         rfl
        refine pure_ (i := 6) (N := some 108) (v := ?_) (a' := ?_) #[true,true,true,true,true,true,true,false,false,false,false,false,false,false,false,false,false,false] rfl rfl (by kernel_rfl) (fun _ _ _ h => h) (Or.inl ⟨by rfl,?_⟩) ?_ ?_
        rotate_left
        ·intro w'
         go_simp
         rw [i64_w,hw1]
         first | done | with_reducible rfl
        rotate_left
        ·simp only [Act.put,List.setIfInBounds_toArray,List.set_cons_zero,List.set_cons_succ,i64_w,i32_w]
         rfl
        refine pure_ (i := 7) (N := some 109) (v := ?_) (a' := ?_) #[true,true,true,true,true,true,true,true,false,false,false,false,false,false,false,false,false,false] rfl rfl (by kernel_rfl) (fun _ _ _ h => h) (Or.inl ⟨by rfl,?_⟩) ?_ ?_
        rotate_left
        ·intro w'
         go_simp
         first | done | with_reducible rfl
        rotate_left
        ·simp only [Act.put,List.setIfInBounds_toArray,List.set_cons_zero,List.set_cons_succ,i64_w,i32_w]
         rfl
        refine take_ (i := 8) (N := some 110) (v := ?_) (a' := ?_) #[true,true,true,true,true,true,true,true,true,false,false,false,false,false,false,false,false,false] rfl rfl (by kernel_rfl) (fun _ _ _ h => h) (Or.inl ⟨by rfl,?_⟩) hHeld ?_ ?_
        rotate_left
        ·rintro w' ⟨s0,s1,s2,s3,s4⟩
         go_simp
         first | done | with_reducible rfl
        rotate_left
        ·simp only [Act.put,List.setIfInBounds_toArray,List.set_cons_zero,List.set_cons_succ,i64_w,i32_w]
         rfl
        refine pure_ (i := 9) (N := some 111) (v := ?_) (a' := ?_) #[true,true,true,true,true,true,true,true,true,true,false,false,false,false,false,false,false,false] rfl rfl (by kernel_rfl) (fun _ _ _ h => h) (Or.inl ⟨by rfl,?_⟩) ?_ ?_
        rotate_left
        ·intro w'
         go_simp
         first | done | with_reducible rfl
        rotate_left
        ·simp only [Act.put,List.setIfInBounds_toArray,List.set_cons_zero,List.set_cons_succ,i64_w,i32_w]
         rfl
        refine pure_ (i := 10) (N := some 112) (v := ?_) (a' := ?_) #[true,true,true,true,true,true,true,true,true,true,true,false,false,false,false,false,false,false] rfl rfl (by kernel_rfl) (fun _ _ _ h => h) (Or.inl ⟨by rfl,?_⟩) ?_ ?_
        rotate_left
        ·intro w'
         go_simp
         first | done | with_reducible rfl
        rotate_left
        ·simp only [Act.put,List.setIfInBounds_toArray,List.set_cons_zero,List.set_cons_succ,i64_w,i32_w]
         rfl
        refine pure_ (i := 11) (N := some 113) (v := ?_) (a' := ?_) #[true,true,true,true,true,true,true,true,true,true,true,true,false,false,false,false,false,false] rfl rfl (by kernel_rfl) (fun _ _ _ h => h) (Or.inl ⟨by rfl,?_⟩) ?_ ?_
        rotate_left
        ·intro w'
         go_simp
         first | done | with_reducible rfl
        rotate_left
        ·simp only [Act.put,List.setIfInBounds_toArray,List.set_cons_zero,List.set_cons_succ,i64_w,i32_w]
         rfl
        refine take_ (i := 12) (N := some 114) (v := ?_) (a' := ?_) #[true,true,true,true,true,true,true,true,true,true,true,true,true,false,false,false,false,false] rfl rfl (by kernel_rfl) (fun _ _ _ h => h) (Or.inl ⟨by rfl,?_⟩) hHeld ?_ ?_
        rotate_left
        ·rintro w' ⟨s0,s1,s2,s3,s4⟩
         go_simp
         first | done | with_reducible rfl
        rotate_left
        ·simp only [Act.put,List.setIfInBounds_toArray,List.set_cons_zero,List.set_cons_succ,i64_w,i32_w]
         rfl
        refine pure_ (i := 13) (N := some 115) (v := ?_) (a' := ?_) #[true,true,true,true,true,true,true,true,true,true,true,true,true,true,false,false,false,false] rfl rfl (by kernel_rfl) (fun _ _ _ h => h) (Or.inl ⟨by rfl,?_⟩) ?_ ?_
        rotate_left
        ·intro w'
         go_simp
         first | done | with_reducible rfl
        rotate_left
        ·simp only [Act.put,List.setIfInBounds_toArray,List.set_cons_zero,List.set_cons_succ,i64_w,i32_w]
         rfl
        refine pure_ (i := 14) (N := some 116) (v := ?_) (a' := ?_) #[true,true,true,true,true,true,true,true,true,true,true,true,true,true,true,false,false,false] rfl rfl (by kernel_rfl) (fun _ _ _ h => h) (Or.inl ⟨by rfl,?_⟩) ?_ ?_
        rotate_left
        ·intro w'
         go_simp
         first | done | with_reducible rfl
        rotate_left
        ·simp only [Act.put,List.setIfInBounds_toArray,List.set_cons_zero,List.set_cons_succ,i64_w,i32_w]
         rfl
        refine take_ (i := 15) (N := some 117) (v := ?_) (a' := ?_) #[true,true,true,true,true,true,true,true,true,true,true,true,true,true,true,true,false,false] rfl rfl (by kernel_rfl) (fun _ _ _ h => h) (Or.inl ⟨by rfl,?_⟩) hHeld ?_ ?_
        rotate_left
        ·rintro w' ⟨s0,s1,s2,s3,s4⟩
         go_simp
         first | done | with_reducible rfl
        rotate_left
        ·simp only [Act.put,List.setIfInBounds_toArray,List.set_cons_zero,List.set_cons_succ,i64_w,i32_w]
         rfl
        refine one_ (i := 16) (N := some 118) #[true,true,true,true,true,true,true,true,true,true,true,true,true,true,true,true,true,false] rfl rfl (by kernel_rfl) (by decide) (fun K hK => ?_)
        refine goes_ Try.func16 (by kernel_rfl) rfl #[.agg #[.int .i64 a,.int .i64 u],.int .i64 (rd row (z : Int)),.int .i64 (rd row (y : Int))] (by rfl) rfl rfl (by (try simp only [List.map_toArray,List.map_cons,List.map_nil]);first | done | rfl | (simp only [List.length_drop,List.length_take];rfl)) ?_
        with_reducible refine (impl_AreExchangeable.calls k a u _ _ true _ HX1.out).mono ?_
        rintro e W1_ ⟨rfl,hb⟩
        refine ⟨_,rfl,?_⟩
        have n_ : Aside0 (W1_.cell? ⟨gf,0,none⟩ = some (.int .i64 a)) := ⟨pw_cell_below hb C0.out⟩
        clear C0
        have C0 := n_
        clear n_
        have n_ : Aside0 (W1_.cell? ⟨gf,1,none⟩ = some (.int .i64 u)) := ⟨pw_cell_below hb C1.out⟩
        clear C1
        have C1 := n_
        clear n_
        have n_ : Aside0 (W1_.cell? (ad.add p) = some (.slice (some a1) row.length c')) := ⟨pw_cell_below hb C2.out⟩
        clear C2
        have C2 := n_
        clear n_
        have n_ : Aside0 (W1_.cell? (a1.add z) = some (.int .i64 (rd row (z : Int)))) := ⟨pw_cell_below hb C3.out⟩
        clear C3
        have C3 := n_
        clear n_
        have n_ : Aside0 (W1_.cell? (a1.add y) = some (.int .i64 (rd row (y : Int)))) := ⟨pw_cell_below hb C4.out⟩
        clear C4
        have C4 := n_
        clear n_
        have n_ := Aside0.mk (Kd.Heap.C (Kd.heap_int .u8) hb.block HR.out)
        clear HR
        have HR := n_
        clear n_
        have n_ := Aside0.mk (below_step HB.out hb)
        clear HB
        have HB := n_
        clear n_
        have n_ := Aside0.mk (blk_below BF.out hb)
        clear BF
        have BF := n_
        clear n_
        have n_ := Aside0.mk (Kd.S_below HS.out hb)
        clear HS
        have HS := n_
        clear n_
        have n_ := Aside0.mk (pw_cell_below hb HC.out)
        clear HC
        have HC := n_
        clear n_
        have n_ := Aside0.mk (Kd.Heap.C (Kd.heap_int .i64) hb.block HCC.out)
        clear HCC
        have HCC := n_
        clear n_
        clear hb
        refine hK.out _ _ ⟨C0.out,C1.out,C2.out,C3.out,C4.out⟩ (fun hHeld => ?_)
        clear hK K
        refine norm_ (a' := ?_) ?_ ?_
        rotate_left
        ·show Act.put _ (some 118) _ = _
         simp only [Act.put,List.setIfInBounds_toArray,List.set_cons_zero,List.set_cons_succ,i64_w,i32_w]
         rfl
        refine pure_ (i := 17) (N := some 119) (v := ?_) (a' := ?_) #[true,true,true,true,true,true,true,true,true,true,true,true,true,true,true,true,true,true] rfl rfl (by kernel_rfl) (fun _ _ _ h => h) (Or.inl ⟨by rfl,?_⟩) ?_ ?_
        rotate_left
        ·intro w'
         go_simp
         first | done | with_reducible rfl
        rotate_left
        ·simp only [Act.put,List.setIfInBounds_toArray,List.set_cons_zero,List.set_cons_succ,i64_w,i32_w]
         rfl
        refine done_ (by kernel_rfl) ?_
        clear C0 C1 C2 C3 C4
        go_wp2_with (fail)
        go_roundg (row.length - (z + 1))
        case measure => have := HZ.out;omega
        case rel => exact ⟨y + 1,z + 1,by have := HZ.out;omega,by have := HZ.out;omega,by omega,by have := HRL.out;have := HZ.out;rw [B.wrap64_of (by omega) (by omega)];congr 1,HR,HB,BF,HS,HC,HCC⟩
       ·have hltz2 : ¬ (y : Int) < (row.length : Int) := by omega
        have hc := HC.out
        have hw2 : wrap64 (((sumLen (g.take p) : Nat) : Int) + (row.length : Int)) = ((sumLen (g.take (p + 1)) : Nat) : Int) := by have := HSM.out p;have := HRL.out;have := HP.out;have := HSH.out.1;rw [HST.out,B.wrap64_of (by omega) (by omega)];omega
        have hp9 : p < 64 := by have := HP.out;have := HSH.out.1;omega
        go_wp2_with (fail)
        go_roundg (g.length - (p + 1))
        case measure => have := HP.out;have := HGG.out;omega
        case rel => exact ⟨p + 1,HP.out,Nat.le_refl _,by go_simp,by go_num,HR,HB,BF,HS⟩
     ·have hltz : ¬ (p : Int) < (g.length : Int) := by omega
      obtain rfl : p = g.length := by omega
      rw [List.take_length]
      obtain ⟨T,hT,hTn,hTs⟩ := HG.out.isT
      have HTT := Aside0.mk hT
      have HIR : Aside0 (T = true → ((sumLen g : Nat) : Int) = a) := ⟨hTn⟩
      clear hT hTn hi hg hlt
      have hc_BF_0 : wr.cell? ⟨gf,0,none⟩ = some (.int .i64 a) := (blk_cell BF.out 0).trans rfl
      have hc_BF_1 : wr.cell? ⟨gf,1,none⟩ = some (.int .i64 u) := (blk_cell BF.out 1).trans rfl
      cases T
      case' false =>
       first
        | (exact absurd (hTs rfl) (by decide))
        | (go_upto_region 25 with (go_at_call 17;refine (spec_IsTable.calls a u false _ HTT.out).mono ?_;rintro e wt ⟨rfl,hb⟩;have n_ := Aside0.mk (Kd.Heap.C (Kd.heap_int .u8) hb.block HR.out);clear HR;have HR := n_;clear n_;have n_ := Aside0.mk (below_step HB.out hb);clear HB;have HB := n_;clear n_;have n_ := Aside0.mk (blk_below BF.out hb);clear BF;have BF := n_;clear n_;have n_ := Aside0.mk (Kd.S_below HS.out hb);clear HS;have HS := n_;clear n_;clear hb ;clear hc_BF_0 hc_BF_1;have hc_BF_0 : wt.cell? ⟨gf,0,none⟩ = some (.int .i64 a) := (blk_cell BF.out 0).trans rfl;have hc_BF_1 : wt.cell? ⟨gf,1,none⟩ = some (.int .i64 u) := (blk_cell BF.out 1).trans rfl))
      case' true =>
       have hsa : (((sumLen g : Nat) : Int) != a) = false := by rw [HIR.out rfl];exact bne_self_eq_false a
       go_upto_region 25 with (go_at_call 17;refine (spec_IsTable.calls a u true _ HTT.out).mono ?_;rintro e wt ⟨rfl,hb⟩;have n_ := Aside0.mk (Kd.Heap.C (Kd.heap_int .u8) hb.block HR.out);clear HR;have HR := n_;clear n_;have n_ := Aside0.mk (below_step HB.out hb);clear HB;have HB := n_;clear n_;have n_ := Aside0.mk (blk_below BF.out hb);clear BF;have BF := n_;clear n_;have n_ := Aside0.mk (Kd.S_below HS.out hb);clear HS;have HS := n_;clear n_;clear hb ;clear hc_BF_0 hc_BF_1;have hc_BF_0 : wt.cell? ⟨gf,0,none⟩ = some (.int .i64 a) := (blk_cell BF.out 0).trans rfl;have hc_BF_1 : wt.cell? ⟨gf,1,none⟩ = some (.int .i64 u) := (blk_cell BF.out 1).trans rfl)
       clear hsa
      all_goals
       clear hTs
       clear hc_BF_0 hc_BF_1 BF HS
       go_upto_region 26 with (go_at_call 18;refine (spec_DrawSymmetricTable.calls k A0 c0 l0 v _ HR.out HC0.out HG.out.dv).mono ?_;rintro e w7 ⟨vq,rfl,hq,hb⟩;replace hq := Kd.R_lower hq HB.out.size;have n_ := Aside0.mk (Kd.Heap.C (Kd.heap_int .u8) hb.block HR.out);clear HR;have HR := n_;clear n_;have n_ := Aside0.mk (below_step HB.out hb);clear HB;have HB := n_;clear n_;have HV := Aside0.mk hq;clear hb hq;obtain ⟨Av,cv,rfl,-,-⟩ := Kd.R_reads HV.out)
       have HCV : Aside0 (v.length ≤ cv) := ⟨(Kd.R_reads' HV.out).2.1⟩
       go_upto_region 27 with (go_at_call 15;refine (impl_SymmetricTable.calls Av cv v t1 t2 t3 _ (Kd.R_reads' HV.out).2.2 HCV.out HG.out.st).mono ?_;rintro e w8 ⟨rfl,hb⟩;have n_ := Aside0.mk (Kd.Heap.C (Kd.heap_int .u8) hb.block HR.out);clear HR;have HR := n_;clear n_;have n_ := Aside0.mk (below_step HB.out hb);clear HB;have HB := n_;clear n_;have n_ := Aside0.mk (Kd.R_below HV.out hb);clear HV;have HV := n_;clear n_;clear hb )
       have B1 := Aside0.mk (blk_new w8 (.cells #[.int .i64 t1,.int .i64 t2] 25 (0,0)))
       have hb := below_alloc (Below.refl w8.heap.size w8) (.cells #[.int .i64 t1,.int .i64 t2] 25 (0,0))
       have n_ := Aside0.mk (Kd.Heap.C (Kd.heap_int .u8) hb.block HR.out)
       clear HR
       have HR := n_
       clear n_
       have n_ := Aside0.mk (below_step HB.out hb)
       clear HB
       have HB := n_
       clear n_
       have n_ := Aside0.mk (Kd.R_below HV.out hb)
       clear HV
       have HV := n_
       clear n_
       clear hb
       obtain ⟨g1,hg1_⟩ : ∃ g1,g1 = w8.heap.size := ⟨_,rfl⟩
       rw [← hg1_] at B1 ⊢
       clear hg1_
       generalize w8.alloc (.cells #[.int .i64 t1,.int .i64 t2] 25 (0,0)) = w9 at HR HB HV B1 ⊢
       have hc_B1_0 : w9.cell? ⟨g1,0,none⟩ = some (.int .i64 t1) := (blk_cell B1.out 0).trans rfl
       have hc_B1_1 : w9.cell? ⟨g1,1,none⟩ = some (.int .i64 t2) := (blk_cell B1.out 1).trans rfl
       go_upto_region 28 with (go_at_call 19;refine (spec_SymmetricTable.calls k Av cv v t1 t2 t3 _ (Kd.R_reads' HV.out).2.2 HCV.out HG.out.st2).mono ?_;rintro e w10 ⟨rfl,hb⟩;have n_ := Aside0.mk (Kd.Heap.C (Kd.heap_int .u8) hb.block HR.out);clear HR;have HR := n_;clear n_;have n_ := Aside0.mk (below_step HB.out hb);clear HB;have HB := n_;clear n_;have n_ := Aside0.mk (Kd.R_below HV.out hb);clear HV;have HV := n_;clear n_;have n_ := Aside0.mk (blk_below B1.out hb);clear B1;have B1 := n_;clear n_;clear hb ;clear hc_B1_0 hc_B1_1;have hc_B1_0 : w10.cell? ⟨g1,0,none⟩ = some (.int .i64 t1) := (blk_cell B1.out 0).trans rfl;have hc_B1_1 : w10.cell? ⟨g1,1,none⟩ = some (.int .i64 t2) := (blk_cell B1.out 1).trans rfl)
       clear hc_B1_0 hc_B1_1
       have B2 := Aside0.mk (blk_new w10 (.cells #[.int .i64 t1,.int .i64 t2] 25 (0,0)))
       have hb := below_alloc (Below.refl w10.heap.size w10) (.cells #[.int .i64 t1,.int .i64 t2] 25 (0,0))
       have n_ := Aside0.mk (Kd.Heap.C (Kd.heap_int .u8) hb.block HR.out)
       clear HR
       have HR := n_
       clear n_
       have n_ := Aside0.mk (below_step HB.out hb)
       clear HB
       have HB := n_
       clear n_
       have n_ := Aside0.mk (Kd.R_below HV.out hb)
       clear HV
       have HV := n_
       clear n_
       have n_ := Aside0.mk (blk_below B1.out hb)
       clear B1
       have B1 := n_
       clear n_
       clear hb
       obtain ⟨g2,hg2_⟩ : ∃ g2,g2 = w10.heap.size := ⟨_,rfl⟩
       rw [← hg2_] at B2 ⊢
       clear hg2_
       generalize w10.alloc (.cells #[.int .i64 t1,.int .i64 t2] 25 (0,0)) = w11 at HR HB HV B1 B2 ⊢
       have hc_B1_0 : w11.cell? ⟨g1,0,none⟩ = some (.int .i64 t1) := (blk_cell B1.out 0).trans rfl
       have hc_B1_1 : w11.cell? ⟨g1,1,none⟩ = some (.int .i64 t2) := (blk_cell B1.out 1).trans rfl
       have hc_B2_0 : w11.cell? ⟨g2,0,none⟩ = some (.int .i64 t1) := (blk_cell B2.out 0).trans rfl
       have hc_B2_1 : w11.cell? ⟨g2,1,none⟩ = some (.int .i64 t2) := (blk_cell B2.out 1).trans rfl
       clear HV
       go_upto_region 29 with (go_at_call 20;refine (spec_DrawAreExchangeable.calls k A0 c0 l0 b1 b2 i j _ HR.out HC0.out HG.out.de).mono ?_;rintro e w12 ⟨rfl,hb⟩;have n_ := Aside0.mk (Kd.Heap.C (Kd.heap_int .u8) hb.block HR.out);clear HR;have HR := n_;clear n_;have n_ := Aside0.mk (below_step HB.out hb);clear HB;have HB := n_;clear n_;have n_ := Aside0.mk (blk_below B1.out hb);clear B1;have B1 := n_;clear n_;have n_ := Aside0.mk (blk_below B2.out hb);clear B2;have B2 := n_;clear n_;clear hb ;clear hc_B1_0 hc_B1_1 hc_B2_0 hc_B2_1;have hc_B1_0 : w12.cell? ⟨g1,0,none⟩ = some (.int .i64 t1) := (blk_cell B1.out 0).trans rfl;have hc_B1_1 : w12.cell? ⟨g1,1,none⟩ = some (.int .i64 t2) := (blk_cell B1.out 1).trans rfl;have hc_B2_0 : w12.cell? ⟨g2,0,none⟩ = some (.int .i64 t1) := (blk_cell B2.out 0).trans rfl;have hc_B2_1 : w12.cell? ⟨g2,1,none⟩ = some (.int .i64 t2) := (blk_cell B2.out 1).trans rfl)
       clear hc_B1_0 hc_B1_1 hc_B2_0 hc_B2_1
       have B3 := Aside0.mk (blk_new w12 (.cells #[.int .i64 b1,.int .i64 b2] 25 (0,0)))
       have hb := below_alloc (Below.refl w12.heap.size w12) (.cells #[.int .i64 b1,.int .i64 b2] 25 (0,0))
       have n_ := Aside0.mk (Kd.Heap.C (Kd.heap_int .u8) hb.block HR.out)
       clear HR
       have HR := n_
       clear n_
       have n_ := Aside0.mk (below_step HB.out hb)
       clear HB
       have HB := n_
       clear n_
       have n_ := Aside0.mk (blk_below B1.out hb)
       clear B1
       have B1 := n_
       clear n_
       have n_ := Aside0.mk (blk_below B2.out hb)
       clear B2
       have B2 := n_
       clear n_
       clear hb
       obtain ⟨g3,hg3_⟩ : ∃ g3,g3 = w12.heap.size := ⟨_,rfl⟩
       rw [← hg3_] at B3 ⊢
       clear hg3_
       generalize w12.alloc (.cells #[.int .i64 b1,.int .i64 b2] 25 (0,0)) = w13 at HR HB B1 B2 B3 ⊢
       have hc_B1_0 : w13.cell? ⟨g1,0,none⟩ = some (.int .i64 t1) := (blk_cell B1.out 0).trans rfl
       have hc_B1_1 : w13.cell? ⟨g1,1,none⟩ = some (.int .i64 t2) := (blk_cell B1.out 1).trans rfl
       have hc_B2_0 : w13.cell? ⟨g2,0,none⟩ = some (.int .i64 t1) := (blk_cell B2.out 0).trans rfl
       have hc_B2_1 : w13.cell? ⟨g2,1,none⟩ = some (.int .i64 t2) := (blk_cell B2.out 1).trans rfl
       have hc_B3_0 : w13.cell? ⟨g3,0,none⟩ = some (.int .i64 b1) := (blk_cell B3.out 0).trans rfl
       have hc_B3_1 : w13.cell? ⟨g3,1,none⟩ = some (.int .i64 b2) := (blk_cell B3.out 1).trans rfl
       go_upto_region 30 with (go_at_call 21;refine (spec_DrawCountSymmetric.calls k A0 c0 l0 m _ HR.out HC0.out HG.out.dc).mono ?_;rintro e w14 ⟨rfl,hb⟩;have n_ := Aside0.mk (Kd.Heap.C (Kd.heap_int .u8) hb.block HR.out);clear HR;have HR := n_;clear n_;have n_ := Aside0.mk (below_step HB.out hb);clear HB;have HB := n_;clear n_;have n_ := Aside0.mk (blk_below B1.out hb);clear B1;have B1 := n_;clear n_;have n_ := Aside0.mk (blk_below B2.out hb);clear B2;have B2 := n_;clear n_;have n_ := Aside0.mk (blk_below B3.out hb);clear B3;have B3 := n_;clear n_;clear hb ;clear hc_B1_0 hc_B1_1 hc_B2_0 hc_B2_1 hc_B3_0 hc_B3_1;have hc_B1_0 : w14.cell? ⟨g1,0,none⟩ = some (.int .i64 t1) := (blk_cell B1.out 0).trans rfl;have hc_B1_1 : w14.cell? ⟨g1,1,none⟩ = some (.int .i64 t2) := (blk_cell B1.out 1).trans rfl;have hc_B2_0 : w14.cell? ⟨g2,0,none⟩ = some (.int .i64 t1) := (blk_cell B2.out 0).trans rfl;have hc_B2_1 : w14.cell? ⟨g2,1,none⟩ = some (.int .i64 t2) := (blk_cell B2.out 1).trans rfl;have hc_B3_0 : w14.cell? ⟨g3,0,none⟩ = some (.int .i64 b1) := (blk_cell B3.out 0).trans rfl;have hc_B3_1 : w14.cell? ⟨g3,1,none⟩ = some (.int .i64 b2) := (blk_cell B3.out 1).trans rfl)
       go_upto_region 31 with (go_at_call 22;refine (impl_CountSymmetric.calls m c _ HG.out.ct).mono ?_;rintro e w15 ⟨rfl,hb⟩;have n_ := Aside0.mk (Kd.Heap.C (Kd.heap_int .u8) hb.block HR.out);clear HR;have HR := n_;clear n_;have n_ := Aside0.mk (below_step HB.out hb);clear HB;have HB := n_;clear n_;have n_ := Aside0.mk (blk_below B1.out hb);clear B1;have B1 := n_;clear n_;have n_ := Aside0.mk (blk_below B2.out hb);clear B2;have B2 := n_;clear n_;have n_ := Aside0.mk (blk_below B3.out hb);clear B3;have B3 := n_;clear n_;clear hb ;clear hc_B1_0 hc_B1_1 hc_B2_0 hc_B2_1 hc_B3_0 hc_B3_1;have hc_B1_0 : w15.cell? ⟨g1,0,none⟩ = some (.int .i64 t1) := (blk_cell B1.out 0).trans rfl;have hc_B1_1 : w15.cell? ⟨g1,1,none⟩ = some (.int .i64 t2) := (blk_cell B1.out 1).trans rfl;have hc_B2_0 : w15.cell? ⟨g2,0,none⟩ = some (.int .i64 t1) := (blk_cell B2.out 0).trans rfl;have hc_B2_1 : w15.cell? ⟨g2,1,none⟩ = some (.int .i64 t2) := (blk_cell B2.out 1).trans rfl;have hc_B3_0 : w15.cell? ⟨g3,0,none⟩ = some (.int .i64 b1) := (blk_cell B3.out 0).trans rfl;have hc_B3_1 : w15.cell? ⟨g3,1,none⟩ = some (.int .i64 b2) := (blk_cell B3.out 1).trans rfl)
       have C0 := Aside0.mk hc_B1_0
       have C1 := Aside0.mk hc_B1_1
       have C2 := Aside0.mk hc_B2_0
       have C3 := Aside0.mk hc_B2_1
       have C4 := Aside0.mk hc_B3_0
       have C5 := Aside0.mk hc_B3_1
       clear HR B1 B2 B3 hc_B1_0 hc_B1_1 hc_B2_0 hc_B2_1 hc_B3_0 hc_B3_1
       have hxx : (x == x) = true := beq_self_eq_true x
       have hcc : (c == c) = true := beq_self_eq_true c
       have ht1 : (t1 == t1) = true := beq_self_eq_true t1
       have ht2 : (t2 == t2) = true := beq_self_eq_true t2
       have ht3 : (t3 == t3) = true := beq_self_eq_true t3
       have hb := below_drew (Below.refl w15.heap.size w15)
       have n_ : Aside0 (w15.drew.cell? ⟨g1,0,none⟩ = some (.int .i64 t1)) := ⟨pw_cell_below hb C0.out⟩
       clear C0
       have C0 := n_
       clear n_
       have n_ : Aside0 (w15.drew.cell? ⟨g1,1,none⟩ = some (.int .i64 t2)) := ⟨pw_cell_below hb C1.out⟩
       clear C1
       have C1 := n_
       clear n_
       have n_ : Aside0 (w15.drew.cell? ⟨g2,0,none⟩ = some (.int .i64 t1)) := ⟨pw_cell_below hb C2.out⟩
       clear C2
       have C2 := n_
       clear n_
       have n_ : Aside0 (w15.drew.cell? ⟨g2,1,none⟩ = some (.int .i64 t2)) := ⟨pw_cell_below hb C3.out⟩
       clear C3
       have C3 := n_
       clear n_
       have n_ : Aside0 (w15.drew.cell? ⟨g3,0,none⟩ = some (.int .i64 b1)) := ⟨pw_cell_below hb C4.out⟩
       clear C4
       have C4 := n_
       clear n_
       have n_ : Aside0 (w15.drew.cell? ⟨g3,1,none⟩ = some (.int .i64 b2)) := ⟨pw_cell_below hb C5.out⟩
       clear C5
       have C5 := n_
       clear n_
       have n_ := Aside0.mk (below_step HB.out hb)
       clear HB
       have HB := n_
       clear n_
       clear hb
       refine start_ (n := 36) (S := (fun w_ => w_.cell? ⟨g1,0,none⟩ = some (.int .i64 t1) ∧ w_.cell? ⟨g1,1,none⟩ = some (.int .i64 t2) ∧ w_.cell? ⟨g2,0,none⟩ = some (.int .i64 t1) ∧ w_.cell? ⟨g2,1,none⟩ = some (.int .i64 t2) ∧ w_.cell? ⟨g3,0,none⟩ = some (.int .i64 b1) ∧ w_.cell? ⟨g3,1,none⟩ = some (.int .i64 b2))) (ds := []) #[false,false,false,false,false,false,false,false,false,false,false,false,false,false,false,false,false,false,false,false,false,false,false,false,false,false,false,false,false,false,false,false,false,false,false,false] (by kernel_rfl) rfl rfl ⟨C0.out,C1.out,C2.out,C3.out,C4.out,C5.out⟩ (fun hHeld => ?_)
       generalize w15.drew = W0_ at C0 C1 C2 C3 C4 C5 HB hHeld ⊢
       refine take_ (i := 0) (N := some 150) (v := ?_) (a' := ?_) #[true,false,false,false,false,false,false,false,false,false,false,false,false,false,false,false,false,false,false,false,false,false,false,false,false,false,false,false,false,false,false,false,false,false,false,false] rfl rfl (by kernel_rfl) (fun _ _ _ h => h) (Or.inl ⟨by rfl,?_⟩) hHeld ?_ ?_
       rotate_left
       ·rintro w' ⟨s0,s1,s2,s3,s4,s5⟩
        go_simp
        first | done | with_reducible rfl
       rotate_left
       ·simp only [Act.put,List.setIfInBounds_toArray,List.set_cons_zero,List.set_cons_succ,i64_w,i32_w]
        rfl
       refine take_ (i := 1) (N := some 151) (v := ?_) (a' := ?_) #[true,true,false,false,false,false,false,false,false,false,false,false,false,false,false,false,false,false,false,false,false,false,false,false,false,false,false,false,false,false,false,false,false,false,false,false] rfl rfl (by kernel_rfl) (fun _ _ _ h => h) (Or.inl ⟨by rfl,?_⟩) hHeld ?_ ?_
       rotate_left
       ·rintro w' ⟨s0,s1,s2,s3,s4,s5⟩
        go_simp
        first | done | with_reducible rfl
       rotate_left
       ·simp only [Act.put,List.setIfInBounds_toArray,List.set_cons_zero,List.set_cons_succ,i64_w,i32_w]
        rfl
       refine pure_ (i := 2) (N := some 152) (v := ?_) (a' := ?_) #[true,true,true,false,false,false,false,false,false,false,false,false,false,false,false,false,false,false,false,false,false,false,false,false,false,false,false,false,false,false,false,false,false,false,false,false] rfl rfl (by kernel_rfl) (fun _ _ _ h => h) (Or.inl ⟨by rfl,?_⟩) ?_ ?_
       rotate_left
       ·intro w'
        go_simp
        first | done | with_reducible rfl
       rotate_left
       ·simp only [Act.put,List.setIfInBounds_toArray,List.set_cons_zero,List.set_cons_succ,i64_w,i32_w]
        rfl
       refine pure_ (i := 3) (N := some 153) (v := ?_) (a' := ?_) #[true,true,true,true,false,false,false,false,false,false,false,false,false,false,false,false,false,false,false,false,false,false,false,false,false,false,false,false,false,false,false,false,false,false,false,false] rfl rfl (by kernel_rfl) (fun _ _ _ h => h) (Or.inl ⟨by rfl,?_⟩) ?_ ?_
       rotate_left
       ·intro w'
        go_simp
        first | done | with_reducible rfl
       rotate_left
       ·simp only [Act.put,List.setIfInBounds_toArray,List.set_cons_zero,List.set_cons_succ,i64_w,i32_w]
        rfl
       refine pure_ (i := 4) (N := some 154) (v := ?_) (a' := ?_) #[true,true,true,true,true,false,false,false,false,false,false,false,false,false,false,false,false,false,false,false,false,false,false,false,false,false,false,false,false,false,false,false,false,false,false,false] rfl rfl (by kernel_rfl) (fun _ _ _ h => h) (Or.inl ⟨by rfl,?_⟩) ?_ ?_
       rotate_left
       ·intro w'
        go_simp
        first | done | with_reducible rfl
       rotate_left
       ·simp only [Act.put,List.setIfInBounds_toArray,List.set_cons_zero,List.set_cons_succ,i64_w,i32_w]
        rfl
       refine pure_ (i := 5) (N := some 155) (v := ?_) (a' := ?_) #[true,true,true,true,true,true,false,false,false,false,false,false,false,false,false,false,false,false,false,false,false,false,false,false,false,false,false,false,false,false,false,false,false,false,false,false] rfl rfl (by kernel_rfl) (fun _ _ _ h => h) (Or.inl ⟨by rfl,?_⟩) ?_ ?_
       rotate_left
       ·intro w'
        go_simp
        first | done | with_reducible rfl
       rotate_left
       ·simp only [Act.put,List.setIfInBounds_toArray,List.set_cons_zero,List.set_cons_succ,i64_w,i32_w]
        rfl
       refine pure_ (i := 6) (N := some 156) (v := ?_) (a' := ?_) #[true,true,true,true,true,true,true,false,false,false,false,false,false,false,false,false,false,false,false,false,false,false,false,false,false,false,false,false,false,false,false,false,false,false,false,false] rfl rfl (by kernel_rfl) (fun _ _ _ h => h) (Or.inl ⟨by rfl,?_⟩) ?_ ?_
       rotate_left
       ·intro w'
        go_simp
        first | done | with_reducible rfl
       rotate_left
       ·simp only [Act.put,List.setIfInBounds_toArray,List.set_cons_zero,List.set_cons_succ,i64_w,i32_w]
        rfl
       refine pure_ (i := 7) (N := some 157) (v := ?_) (a' := ?_) #[true,true,true,true,true,true,true,true,false,false,false,false,false,false,false,false,false,false,false,false,false,false,false,false,false,false,false,false,false,false,false,false,false,false,false,false] rfl rfl (by kernel_rfl) (fun _ _ _ h => h) (Or.inl ⟨by rfl,?_⟩) ?_ ?_
       rotate_left
       ·intro w'
        go_simp
        first | done | with_reducible rfl
       rotate_left
       ·simp only [Act.put,List.setIfInBounds_toArray,List.set_cons_zero,List.set_cons_succ,i64_w,i32_w]
        rfl
       refine pure_ (i := 8) (N := some 158) (v := ?_) (a' := ?_) #[true,true,true,true,true,true,true,true,true,false,false,false,false,false,false,false,false,false,false,false,false,false,false,false,false,false,false,false,false,false,false,false,false,false,false,false] rfl rfl (by kernel_rfl) (fun _ _ _ h => h) (Or.inl ⟨by rfl,?_⟩) ?_ ?_
       rotate_left
       ·intro w'
        go_simp
        first | done | with_reducible rfl
       rotate_left
       ·simp only [Act.put,List.setIfInBounds_toArray,List.set_cons_zero,List.set_cons_succ,i64_w,i32_w]
        rfl
       refine take_ (i := 9) (N := some 159) (v := ?_) (a' := ?_) #[true,true,true,true,true,true,true,true,true,true,false,false,false,false,false,false,false,false,false,false,false,false,false,false,false,false,false,false,false,false,false,false,false,false,false,false] rfl rfl (by kernel_rfl) (fun _ _ _ h => h) (Or.inl ⟨by rfl,?_⟩) hHeld ?_ ?_
       rotate_left
       ·rintro w' ⟨s0,s1,s2,s3,s4,s5⟩
        go_simp
        first | done | with_reducible rfl
       rotate_left
       ·simp only [Act.put,List.setIfInBounds_toArray,List.set_cons_zero,List.set_cons_succ,i64_w,i32_w]
        rfl
       refine pure_ (i := 10) (N := some 160) (v := ?_) (a' := ?_) #[true,true,true,true,true,true,true,true,true,true,true,false,false,false,false,false,false,false,false,false,false,false,false,false,false,false,false,false,false,false,false,false,false,false,false,false] rfl rfl (by kernel_rfl) (fun _ _ _ h => h) (Or.inl ⟨by rfl,?_⟩) ?_ ?_
       rotate_left
       ·intro w'
        go_simp
        first | done | with_reducible rfl
       rotate_left
       ·simp only [Act.put,List.setIfInBounds_toArray,List.set_cons_zero,List.set_cons_succ,i64_w,i32_w]
        rfl
       refine pure_ (i := 11) (N := some 161) (v := ?_) (a' := ?_) #[true,true,true,true,true,true,true,true,true,true,true,true,false,false,false,false,false,false,false,false,false,false,false,false,false,false,false,false,false,false,false,false,false,false,false,false] rfl rfl (by kernel_rfl) (fun _ _ _ h => h) (Or.inl ⟨by rfl,?_⟩) ?_ ?_
       rotate_left
       ·intro w'
        go_simp
        first | done | with_reducible rfl
       rotate_left
       ·simp only [Act.put,List.setIfInBounds_toArray,List.set_cons_zero,List.set_cons_succ,i64_w,i32_w]
        rfl
       refine take_ (i := 13) (N := some 163) (v := ?_) (a' := ?_) #[true,true,true,true,true,true,true,true,true,true,true,true,false,true,false,false,false,false,false,false,false,false,false,false,false,false,false,false,false,false,false,false,false,false,false,false] rfl rfl (by kernel_rfl) (fun _ _ _ h => h) (Or.inl ⟨by rfl,?_⟩) hHeld ?_ ?_
       rotate_left
       ·rintro w' ⟨s0,s1,s2,s3,s4,s5⟩
        go_simp
        first | done | with_reducible rfl
       rotate_left
       ·simp only [Act.put,List.setIfInBounds_toArray,List.set_cons_zero,List.set_cons_succ,i64_w,i32_w]
        rfl
       refine pure_ (i := 14) (N := some 164) (v := ?_) (a' := ?_) #[true,true,true,true,true,true,true,true,true,true,true,true,false,true,true,false,false,false,false,false,false,false,false,false,false,false,false,false,false,false,false,false,false,false,false,false] rfl rfl (by kernel_rfl) (fun _ _ _ h => h) (Or.inl ⟨by rfl,?_⟩) ?_ ?_
       rotate_left
       ·intro w'
        go_simp
        first | done | with_reducible rfl
       rotate_left
       ·simp only [Act.put,List.setIfInBounds_toArray,List.set_cons_zero,List.set_cons_succ,i64_w,i32_w]
        rfl
       refine pure_ (i := 15) (N := some 165) (v := ?_) (a' := ?_) #[true,true,true,true,true,true,true,true,true,true,true,true,false,true,true,true,false,false,false,false,false,false,false,false,false,false,false,false,false,false,false,false,false,false,false,false] rfl rfl (by kernel_rfl) (fun _ _ _ h => h) (Or.inl ⟨by rfl,?_⟩) ?_ ?_
       rotate_left
       ·intro w'
        go_simp
        first | done | with_reducible rfl
       rotate_left
       ·simp only [Act.put,List.setIfInBounds_toArray,List.set_cons_zero,List.set_cons_succ,i64_w,i32_w]
        rfl
       refine one_ (i := 12) (N := some 162) #[true,true,true,true,true,true,true,true,true,true,true,true,true,true,true,true,false,false,false,false,false,false,false,false,false,false,false,false,false,false,false,false,false,false,false,false] rfl rfl (by kernel_rfl) (by decide) (fun K hK => ?_)
       refine goes_ Try.func16 (by kernel_rfl) rfl #[.agg #[.int .i64 b1,.int .i64 b2],.int .i64 i,.int .i64 j] (by rfl) rfl rfl (by (try simp only [List.map_toArray,List.map_cons,List.map_nil]);first | done | rfl | (simp only [List.length_drop,List.length_take];rfl)) ?_
       with_reducible refine (impl_AreExchangeable.calls k b1 b2 i j x _ HG.out.ex).mono ?_
       rintro e W1_ ⟨rfl,hb⟩
       refine ⟨_,rfl,?_⟩
       have n_ : Aside0 (W1_.cell? ⟨g1,0,none⟩ = some (.int .i64 t1)) := ⟨pw_cell_below hb C0.out⟩
       clear C0
       have C0 := n_
       clear n_
       have n_ : Aside0 (W1_.cell? ⟨g1,1,none⟩ = some (.int .i64 t2)) := ⟨pw_cell_below hb C1.out⟩
       clear C1
       have C1 := n_
       clear n_
       have n_ : Aside0 (W1_.cell? ⟨g2,0,none⟩ = some (.int .i64 t1)) := ⟨pw_cell_below hb C2.out⟩
       clear C2
       have C2 := n_
       clear n_
       have n_ : Aside0 (W1_.cell? ⟨g2,1,none⟩ = some (.int .i64 t2)) := ⟨pw_cell_below hb C3.out⟩
       clear C3
       have C3 := n_
       clear n_
       have n_ : Aside0 (W1_.cell? ⟨g3,0,none⟩ = some (.int .i64 b1)) := ⟨pw_cell_below hb C4.out⟩
       clear C4
       have C4 := n_
       clear n_
       have n_ : Aside0 (W1_.cell? ⟨g3,1,none⟩ = some (.int .i64 b2)) := ⟨pw_cell_below hb C5.out⟩
       clear C5
       have C5 := n_
       clear n_
       have n_ := Aside0.mk (below_step HB.out hb)
       clear HB
       have HB := n_
       clear n_
       clear hb
       refine hK.out _ _ ⟨C0.out,C1.out,C2.out,C3.out,C4.out,C5.out⟩ (fun hHeld => ?_)
       clear hK K
       refine norm_ (a' := ?_) ?_ ?_
       rotate_left
       ·show Act.put _ (some 162) _ = _
        simp only [Act.put,List.setIfInBounds_toArray,List.set_cons_zero,List.set_cons_succ,i64_w,i32_w]
        rfl
       refine one_ (i := 16) (N := some 166) #[true,true,true,true,true,true,true,true,true,true,true,true,true,true,true,true,true,false,false,false,false,false,false,false,false,false,false,false,false,false,false,false,false,false,false,false] rfl rfl (by kernel_rfl) (by decide) (fun K hK => ?_)
       refine goes_ Try.func23 (by kernel_rfl) rfl #[.agg #[.int .i64 b1,.int .i64 b2],.int .i64 i,.int .i64 j] (by rfl) rfl rfl (by (try simp only [List.map_toArray,List.map_cons,List.map_nil]);first | done | rfl | (simp only [List.length_drop,List.length_take];rfl)) ?_
       with_reducible refine (spec_AreExchangeable.calls k b1 b2 i j x _ HG.out.ex2).mono ?_
       rintro e W2_ ⟨rfl,hb⟩
       refine ⟨_,rfl,?_⟩
       have n_ : Aside0 (W2_.cell? ⟨g1,0,none⟩ = some (.int .i64 t1)) := ⟨pw_cell_below hb C0.out⟩
       clear C0
       have C0 := n_
       clear n_
       have n_ : Aside0 (W2_.cell? ⟨g1,1,none⟩ = some (.int .i64 t2)) := ⟨pw_cell_below hb C1.out⟩
       clear C1
       have C1 := n_
       clear n_
       have n_ : Aside0 (W2_.cell? ⟨g2,0,none⟩ = some (.int .i64 t1)) := ⟨pw_cell_below hb C2.out⟩
       clear C2
       have C2 := n_
       clear n_
       have n_ : Aside0 (W2_.cell? ⟨g2,1,none⟩ = some (.int .i64 t2)) := ⟨pw_cell_below hb C3.out⟩
       clear C3
       have C3 := n_
       clear n_
       have n_ : Aside0 (W2_.cell? ⟨g3,0,none⟩ = some (.int .i64 b1)) := ⟨pw_cell_below hb C4.out⟩
       clear C4
       have C4 := n_
       clear n_
       have n_ : Aside0 (W2_.cell? ⟨g3,1,none⟩ = some (.int .i64 b2)) := ⟨pw_cell_below hb C5.out⟩
       clear C5
       have C5 := n_
       clear n_
       have n_ := Aside0.mk (below_step HB.out hb)
       clear HB
       have HB := n_
       clear n_
       clear hb
       refine hK.out _ _ ⟨C0.out,C1.out,C2.out,C3.out,C4.out,C5.out⟩ (fun hHeld => ?_)
       clear hK K
       refine norm_ (a' := ?_) ?_ ?_
       rotate_left
       ·show Act.put _ (some 166) _ = _
        simp only [Act.put,List.setIfInBounds_toArray,List.set_cons_zero,List.set_cons_succ,i64_w,i32_w]
        rfl
       refine pure_ (i := 17) (N := some 167) (v := ?_) (a' := ?_) #[true,true,true,true,true,true,true,true,true,true,true,true,true,true,true,true,true,true,false,false,false,false,false,false,false,false,false,false,false,false,false,false,false,false,false,false] rfl rfl (by kernel_rfl) (fun _ _ _ h => h) (Or.inl ⟨by rfl,?_⟩) ?_ ?_
       rotate_left
       ·intro w'
        go_simp
        first | done | with_reducible rfl
       rotate_left
       ·simp only [Act.put,List.setIfInBounds_toArray,List.set_cons_zero,List.set_cons_succ,i64_w,i32_w]
        rfl
       refine pure_ (i := 18) (N := some 168) (v := ?_) (a' := ?_) #[true,true,true,true,true,true,true,true,true,true,true,true,true,true,true,true,true,true,true,false,false,false,false,false,false,false,false,false,false,false,false,false,false,false,false,false] rfl rfl (by kernel_rfl) (fun _ _ _ h => h) (Or.inl ⟨by rfl,?_⟩) ?_ ?_
       rotate_left
       ·intro w'
        go_simp
        first | done | with_reducible rfl
       rotate_left
       ·simp only [Act.put,List.setIfInBounds_toArray,List.set_cons_zero,List.set_cons_succ,i64_w,i32_w]
        rfl
       refine pure_ (i := 19) (N := some 169) (v := ?_) (a' := ?_) #[true,true,true,true,true,true,true,true,true,true,true,true,true,true,true,true,true,true,true,true,false,false,false,false,false,false,false,false,false,false,false,false,false,false,false,false] rfl rfl (by kernel_rfl) (fun _ _ _ h => h) (Or.inl ⟨by rfl,?_⟩) ?_ ?_
       rotate_left
       ·intro w'
        go_simp
        first | done | with_reducible rfl
       rotate_left
       ·simp only [Act.put,List.setIfInBounds_toArray,List.set_cons_zero,List.set_cons_succ,i64_w,i32_w]
        rfl
       refine pure_ (i := 20) (N := some 170) (v := ?_) (a' := ?_) #[true,true,true,true,true,true,true,true,true,true,true,true,true,true,true,true,true,true,true,true,true,false,false,false,false,false,false,false,false,false,false,false,false,false,false,false] rfl rfl (by kernel_rfl) (fun _ _ _ h => h) (Or.inl ⟨by rfl,?_⟩) ?_ ?_
       rotate_left
       ·intro w'
        go_simp
        first | done | with_reducible rfl
       rotate_left
       ·simp only [Act.put,List.setIfInBounds_toArray,List.set_cons_zero,List.set_cons_succ,i64_w,i32_w]
        rfl
       refine pure_ (i := 21) (N := some 171) (v := ?_) (a' := ?_) #[true,true,true,true,true,true,true,true,true,true,true,true,true,true,true,true,true,true,true,true,true,true,false,false,false,false,false,false,false,false,false,false,false,false,false,false] rfl rfl (by kernel_rfl) (fun _ _ _ h => h) (Or.inl ⟨by rfl,?_⟩) ?_ ?_
       rotate_left
       ·intro w'
        go_simp
        first | done | with_reducible rfl
       rotate_left
       ·simp only [Act.put,List.setIfInBounds_toArray,List.set_cons_zero,List.set_cons_succ,i64_w,i32_w]
        rfl
       refine one_ (i := 22) (N := some 172) #[true,true,true,true,true,true,true,true,true,true,true,true,true,true,true,true,true,true,true,true,true,true,true,false,false,false,false,false,false,false,false,false,false,false,false,false] rfl rfl (by kernel_rfl) (by decide) (fun K hK => ?_)
       refine goes_ Try.func24 (by kernel_rfl) rfl #[.int .i64 m] (by rfl) rfl rfl (by (try simp only [List.map_toArray,List.map_cons,List.map_nil]);first | done | rfl | (simp only [List.length_drop,List.length_take];rfl)) ?_
       with_reducible refine (spec_CountSymmetric.calls k m c _ HG.out.ct2).mono ?_
       rintro e W3_ ⟨rfl,hb⟩
       refine ⟨_,rfl,?_⟩
       have n_ : Aside0 (W3_.cell? ⟨g1,0,none⟩ = some (.int .i64 t1)) := ⟨pw_cell_below hb C0.out⟩
       clear C0
       have C0 := n_
       clear n_
       have n_ : Aside0 (W3_.cell? ⟨g1,1,none⟩ = some (.int .i64 t2)) := ⟨pw_cell_below hb C1.out⟩
       clear C1
       have C1 := n_
       clear n_
       have n_ : Aside0 (W3_.cell? ⟨g2,0,none⟩ = some (.int .i64 t1)) := ⟨pw_cell_below hb C2.out⟩
       clear C2
       have C2 := n_
       clear n_
       have n_ : Aside0 (W3_.cell? ⟨g2,1,none⟩ = some (.int .i64 t2)) := ⟨pw_cell_below hb C3.out⟩
       clear C3
       have C3 := n_
       clear n_
       have n_ : Aside0 (W3_.cell? ⟨g3,0,none⟩ = some (.int .i64 b1)) := ⟨pw_cell_below hb C4.out⟩
       clear C4
       have C4 := n_
       clear n_
       have n_ : Aside0 (W3_.cell? ⟨g3,1,none⟩ = some (.int .i64 b2)) := ⟨pw_cell_below hb C5.out⟩
       clear C5
       have C5 := n_
       clear n_
       have n_ := Aside0.mk (below_step HB.out hb)
       clear HB
       have HB := n_
       clear n_
       clear hb
       refine hK.out _ _ ⟨C0.out,C1.out,C2.out,C3.out,C4.out,C5.out⟩ (fun hHeld => ?_)
       clear hK K
       refine norm_ (a' := ?_) ?_ ?_
       rotate_left
       ·show Act.put _ (some 172) _ = _
        simp only [Act.put,List.setIfInBounds_toArray,List.set_cons_zero,List.set_cons_succ,i64_w,i32_w]
        rfl
       refine pure_ (i := 23) (N := some 173) (v := ?_) (a' := ?_) #[true,true,true,true,true,true,true,true,true,true,true,true,true,true,true,true,true,true,true,true,true,true,true,true,false,false,false,false,false,false,false,false,false,false,false,false] rfl rfl (by kernel_rfl) (fun _ _ _ h => h) (Or.inl ⟨by rfl,?_⟩) ?_ ?_
       rotate_left
       ·intro w'
        go_simp
        first | done | with_reducible rfl
       rotate_left
       ·simp only [Act.put,List.setIfInBounds_toArray,List.set_cons_zero,List.set_cons_succ,i64_w,i32_w]
        rfl
       refine pure_ (i := 24) (N := some 174) (v := ?_) (a' := ?_) #[true,true,true,true,true,true,true,true,true,true,true,true,true,true,true,true,true,true,true,true,true,true,true,true,true,false,false,false,false,false,false,false,false,false,false,false] rfl rfl (by kernel_rfl) (fun _ _ _ h => h) (Or.inl ⟨by rfl,?_⟩) ?_ ?_
       rotate_left
       ·intro w'
        go_simp
        first | done | with_reducible rfl
       rotate_left
       ·simp only [Act.put,List.setIfInBounds_toArray,List.set_cons_zero,List.set_cons_succ,i64_w,i32_w]
        rfl
       refine pure_ (i := 25) (N := some 175) (v := ?_) (a' := ?_) #[true,true,true,true,true,true,true,true,true,true,true,true,true,true,true,true,true,true,true,true,true,true,true,true,true,true,false,false,false,false,false,false,false,false,false,false] rfl rfl (by kernel_rfl) (fun _ _ _ h => h) (Or.inl ⟨by rfl,?_⟩) ?_ ?_
       rotate_left
       ·intro w'
        go_simp
        first | done | with_reducible rfl
       rotate_left
       ·simp only [Act.put,List.setIfInBounds_toArray,List.set_cons_zero,List.set_cons_succ,i64_w,i32_w]
        rfl
       refine pure_ (i := 26) (N := some 176) (v := ?_) (a' := ?_) #[true,true,true,true,true,true,true,true,true,true,true,true,true,true,true,true,true,true,true,true,true,true,true,true,true,true,true,false,false,false,false,false,false,false,false,false] rfl rfl (by kernel_rfl) (fun _ _ _ h => h) (Or.inl ⟨by rfl,?_⟩) ?_ ?_
       rotate_left
       ·intro w'
        go_simp
        first | done | with_reducible rfl
       rotate_left
       ·simp only [Act.put,List.setIfInBounds_toArray,List.set_cons_zero,List.set_cons_succ,i64_w,i32_w]
        rfl
       by_cases hneg : c < 0
       ·have hneg2 : decide (c < 0) = true := decide_eq_true hneg
        refine pure_ (i := 27) (N := some 177) (v := ?_) (a' := ?_) #[true,true,true,true,true,true,true,true,true,true,true,true,true,true,true,true,true,true,true,true,true,true,true,true,true,true,true,true,false,false,false,false,false,false,false,false] rfl rfl (by kernel_rfl) (fun _ _ _ h => h) (Or.inl ⟨by rfl,?_⟩) ?_ ?_
        rotate_left
        ·intro w'
         go_simp
         first | done | with_reducible rfl
        rotate_left
        ·simp only [Act.put,List.setIfInBounds_toArray,List.set_cons_zero,List.set_cons_succ,i64_w,i32_w]
         rfl
        refine pure_ (i := 28) (N := some 178) (v := ?_) (a' := ?_) #[true,true,true,true,true,true,true,true,true,true,true,true,true,true,true,true,true,true,true,true,true,true,true,true,true,true,true,true,true,false,false,false,false,false,false,false] rfl rfl (by kernel_rfl) (fun _ _ _ h => h) (Or.inl ⟨by rfl,?_⟩) ?_ ?_
        rotate_left
        ·intro w'
         go_simp
         first | done | with_reducible rfl
        rotate_left
        ·simp only [Act.put,List.setIfInBounds_toArray,List.set_cons_zero,List.set_cons_succ,i64_w,i32_w]
         rfl
        refine pure_ (i := 29) (N := some 179) (v := undef) (a' := ?_) #[true,true,true,true,true,true,true,true,true,true,true,true,true,true,true,true,true,true,true,true,true,true,true,true,true,true,true,true,true,true,false,false,false,false,false,false] rfl rfl (by kernel_rfl) (fun _ _ _ h => h) (Or.inr ⟨by rfl,rfl⟩) ?_ ?_
        rotate_left
        ·simp only [Act.put,List.setIfInBounds_toArray,List.set_cons_zero,List.set_cons_succ,i64_w,i32_w]
         rfl
        refine pure_ (i := 30) (N := some 180) (v := undef) (a' := ?_) #[true,true,true,true,true,true,true,true,true,true,true,true,true,true,true,true,true,true,true,true,true,true,true,true,true,true,true,true,true,true,true,false,false,false,false,false] rfl rfl (by kernel_rfl) (fun _ _ _ h => h) (Or.inr ⟨by rfl,rfl⟩) ?_ ?_
        rotate_left
        ·simp only [Act.put,List.setIfInBounds_toArray,List.set_cons_zero,List.set_cons_succ,i64_w,i32_w]
         rfl
        refine pure_ (i := 31) (N := some 181) (v := undef) (a' := ?_) #[true,true,true,true,true,true,true,true,true,true,true,true,true,true,true,true,true,true,true,true,true,true,true,true,true,true,true,true,true,true,true,true,false,false,false,false] rfl rfl (by kernel_rfl) (fun _ _ _ h => h) (Or.inr ⟨by rfl,rfl⟩) ?_ ?_
        rotate_left
        ·simp only [Act.put,List.setIfInBounds_toArray,List.set_cons_zero,List.set_cons_succ,i64_w,i32_w]
         rfl
        refine pure_ (i := 32) (N := some 182) (v := undef) (a' := ?_) #[true,true,true,true,true,true,true,true,true,true,true,true,true,true,true,true,true,true,true,true,true,true,true,true,true,true,true,true,true,true,true,true,true,false,false,false] rfl rfl (by kernel_rfl) (fun _ _ _ h => h) (Or.inr ⟨by rfl,rfl⟩) ?_ ?_
        rotate_left
        ·simp only [Act.put,List.setIfInBounds_toArray,List.set_cons_zero,List.set_cons_succ,i64_w,i32_w]
         rfl
        refine pure_ (i := 33) (N := some 183) (v := ?_) (a' := ?_) #[true,true,true,true,true,true,true,true,true,true,true,true,true,true,true,true,true,true,true,true,true,true,true,true,true,true,true,true,true,true,true,true,true,true,false,false] rfl rfl (by kernel_rfl) (fun _ _ _ h => h) (Or.inl ⟨by rfl,?_⟩) ?_ ?_
        rotate_left
        ·intro w'
         go_simp
         first | done | with_reducible rfl
        rotate_left
        ·simp only [Act.put,List.setIfInBounds_toArray,List.set_cons_zero,List.set_cons_succ,i64_w,i32_w]
         rfl
        refine pure_ (i := 34) (N := some 184) (v := ?_) (a' := ?_) #[true,true,true,true,true,true,true,true,true,true,true,true,true,true,true,true,true,true,true,true,true,true,true,true,true,true,true,true,true,true,true,true,true,true,true,false] rfl rfl (by kernel_rfl) (fun _ _ _ h => h) (Or.inl ⟨by rfl,?_⟩) ?_ ?_
        rotate_left
        ·intro w'
         go_simp
         first | done | with_reducible rfl
        rotate_left
        ·simp only [Act.put,List.setIfInBounds_toArray,List.set_cons_zero,List.set_cons_succ,i64_w,i32_w]
         rfl
        refine pure_ (i := 35) (N := some 2) (v := ?_) (a' := ?_) #[true,true,true,true,true,true,true,true,true,true,true,true,true,true,true,true,true,true,true,true,true,true,true,true,true,true,true,true,true,true,true,true,true,true,true,true] rfl rfl (by kernel_rfl) (fun _ _ _ h => h) (Or.inl ⟨by rfl,?_⟩) ?_ ?_
        rotate_left
        ·intro w'
         go_simp
         first | done | with_reducible rfl
        rotate_left
        ·simp only [Act.put,List.setIfInBounds_toArray,List.set_cons_zero,List.set_cons_succ,i64_w,i32_w]
         rfl
        refine done_ (by kernel_rfl) ?_
        clear C0 C1 C2 C3 C4 C5
        go_wp2_with (fail)
        go_ret
        exact ⟨rfl,HB.out⟩
       ·have hneg2 : decide (c < 0) = false := decide_eq_false hneg
        obtain ⟨hm0,hcm⟩ := HG.out.cnt.resolve_left hneg
        have HCM := Aside0.mk hcm
        clear hcm hneg
        refine pure_ (i := 27) (N := some 177) (v := ?_) (a' := ?_) #[true,true,true,true,true,true,true,true,true,true,true,true,true,true,true,true,true,true,true,true,true,true,true,true,true,true,true,true,false,false,false,false,false,false,false,false] rfl rfl (by kernel_rfl) (fun _ _ _ h => h) (Or.inl ⟨by rfl,?_⟩) ?_ ?_
        rotate_left
        ·intro w'
         go_simp
         first | done | with_reducible rfl
        rotate_left
        ·simp only [Act.put,List.setIfInBounds_toArray,List.set_cons_zero,List.set_cons_succ,i64_w,i32_w]
         rfl
        refine pure_ (i := 28) (N := some 178) (v := ?_) (a' := ?_) #[true,true,true,true,true,true,true,true,true,true,true,true,true,true,true,true,true,true,true,true,true,true,true,true,true,true,true,true,true,false,false,false,false,false,false,false] rfl rfl (by kernel_rfl) (fun _ _ _ h => h) (Or.inl ⟨by rfl,?_⟩) ?_ ?_
        rotate_left
        ·intro w'
         go_simp
         first | done | with_reducible rfl
        rotate_left
        ·simp only [Act.put,List.setIfInBounds_toArray,List.set_cons_zero,List.set_cons_succ,i64_w,i32_w]
         rfl
        refine pure_ (i := 29) (N := some 179) (v := ?_) (a' := ?_) #[true,true,true,true,true,true,true,true,true,true,true,true,true,true,true,true,true,true,true,true,true,true,true,true,true,true,true,true,true,true,false,false,false,false,false,false] rfl rfl (by kernel_rfl) (fun _ _ _ h => h) (Or.inl ⟨by rfl,?_⟩) ?_ ?_
        rotate_left
        ·intro w'
         go_simp
         first | done | with_reducible rfl
        rotate_left
        ·simp only [Act.put,List.setIfInBounds_toArray,List.set_cons_zero,List.set_cons_succ,i64_w,i32_w]
         rfl
        refine pure_ (i := 30) (N := some 180) (v := ?_) (a' := ?_) #[true,true,true,true,true,true,true,true,true,true,true,true,true,true,true,true,true,true,true,true,true,true,true,true,true,true,true,true,true,true,true,false,false,false,false,false] rfl rfl (by kernel_rfl) (fun _ _ _ h => h) (Or.inl ⟨by rfl,?_⟩) ?_ ?_
        rotate_left
        ·intro w'
         go_simp
         first | done | with_reducible rfl
        rotate_left
        ·simp only [Act.put,List.setIfInBounds_toArray,List.set_cons_zero,List.set_cons_succ,i64_w,i32_w]
         rfl
        refine pure_ (i := 31) (N := some 181) (v := ?_) (a' := ?_) #[true,true,true,true,true,true,true,true,true,true,true,true,true,true,true,true,true,true,true,true,true,true,true,true,true,true,true,true,true,true,true,true,false,false,false,false] rfl rfl (by kernel_rfl) (fun _ _ _ h => h) (Or.inl ⟨by rfl,?_⟩) ?_ ?_
        rotate_left
        ·intro w'
         go_simp
         rw [show (IntKind.i64.wrap (2 * 2 ^ min m.toNat 64) : Int) = c from HCM.out.symm]
         first | done | with_reducible rfl
        rotate_left
        ·simp only [Act.put,List.setIfInBounds_toArray,List.set_cons_zero,List.set_cons_succ,i64_w,i32_w]
         rfl
        refine pure_ (i := 32) (N := some 182) (v := ?_) (a' := ?_) #[true,true,true,true,true,true,true,true,true,true,true,true,true,true,true,true,true,true,true,true,true,true,true,true,true,true,true,true,true,true,true,true,true,false,false,false] rfl rfl (by kernel_rfl) (fun _ _ _ h => h) (Or.inl ⟨by rfl,?_⟩) ?_ ?_
        rotate_left
        ·intro w'
         go_simp
         first | done | with_reducible rfl
        rotate_left
        ·simp only [Act.put,List.setIfInBounds_toArray,List.set_cons_zero,List.set_cons_succ,i64_w,i32_w]
         rfl
        refine pure_ (i := 33) (N := some 183) (v := ?_) (a' := ?_) #[true,true,true,true,true,true,true,true,true,true,true,true,true,true,true,true,true,true,true,true,true,true,true,true,true,true,true,true,true,true,true,true,true,true,false,false] rfl rfl (by kernel_rfl) (fun _ _ _ h => h) (Or.inl ⟨by rfl,?_⟩) ?_ ?_
        rotate_left
        ·intro w'
         go_simp
         first | done | with_reducible rfl
        rotate_left
        ·simp only [Act.put,List.setIfInBounds_toArray,List.set_cons_zero,List.set_cons_succ,i64_w,i32_w]
         rfl
        refine pure_ (i := 34) (N := some 184) (v := ?_) (a' := ?_) #[true,true,true,true,true,true,true,true,true,true,true,true,true,true,true,true,true,true,true,true,true,true,true,true,true,true,true,true,true,true,true,true,true,true,true,false] rfl rfl (by kernel_rfl) (fun _ _ _ h => h) (Or.inl ⟨by rfl,?_⟩) ?_ ?_
        rotate_left
        ·intro w'
         go_simp
         first | done | with_reducible rfl
        rotate_left
        ·simp only [Act.put,List.setIfInBounds_toArray,List.set_cons_zero,List.set_cons_succ,i64_w,i32_w]
         rfl
        refine pure_ (i := 35) (N := some 2) (v := ?_) (a' := ?_) #[true,true,true,true,true,true,true,true,true,true,true,true,true,true,true,true,true,true,true,true,true,true,true,true,true,true,true,true,true,true,true,true,true,true,true,true] rfl rfl (by kernel_rfl) (fun _ _ _ h => h) (Or.inl ⟨by rfl,?_⟩) ?_ ?_
        rotate_left
        ·intro w'
         go_simp
         first | done | with_reducible rfl
        rotate_left
        ·simp only [Act.put,List.setIfInBounds_toArray,List.set_cons_zero,List.set_cons_succ,i64_w,i32_w]
         rfl
        refine done_ (by kernel_rfl) ?_
        clear C0 C1 C2 C3 C4 C5
        go_wp2_with (fail)
        go_ret
        exact ⟨rfl,HB.out⟩
 next => cases h
end Go.Proofs.Ythlajlhjofjmcaa.F
namespace Go.Proofs.Ythlajlhjofjmcaa.U
open Go.RowKit Go.Proofs.YthlajlhjofjmcaaW.PrintWords Go.Proofs.YthlajlhjofjmcaaW.PrintLast Go.Proofs.YthlajlhjofjmcaaW.PrintMore Go.Proofs.Ythlajlhjofjmcaa.F Go.Proofs.Ythlajlhjofjmcaa.B
set_option linter.unusedVariables false
set_option linter.unusedSimpArgs false
def isTab (a b : Int) : Bool := decide (0 ≤ a ∧ a ≤ 5 ∧ 0 ≤ b ∧ b < 2 ^ 2 ^ a.toNat)
theorem isTab_of {n w : Nat} (h : Tab n w) : isTab n w = true := by
  unfold isTab
  have h2 : (w : Int) < 2 ^ 2 ^ n := by exact_mod_cast h.2
  exact decide_eq_true ⟨by omega,by have := h.1;omega,by omega,by simpa using h2⟩
theorem tab_of {a b : Int} (h : isTab a b = true) : ∃ n w : Nat,a = n ∧ b = w ∧ Tab n w := by
  have h := of_decide_eq_true h
  obtain ⟨n,rfl⟩ := Int.eq_ofNat_of_zero_le h.1
  obtain ⟨w,rfl⟩ := Int.eq_ofNat_of_zero_le h.2.2.1
  refine ⟨n,w,rfl,rfl,by omega,?_⟩
  have h2 := h.2.2.2
  rw [Int.toNat_natCast] at h2
  exact_mod_cast h2
theorem spec_isTable (a b : Int) : spec_IsTable.f a b = some (isTab a b) := rfl
theorem size_some {n : Nat} (v : Int) (hn : n ≤ 62) : impl_Table_size.f n v = some ((2 ^ n : Nat) : Int) := by
  unfold impl_Table_size.f
  rw [if_pos (by omega),shl1_of (by omega)]
theorem at_some' {n : Int} {w x : Nat} (hw : w < 9223372036854775808) (hx : x ≤ 64) : impl_Table_at.f n w x = some ((bitN w x : Nat) : Int) := by
  unfold impl_Table_at.f
  rw [if_pos (by omega),bit_cast hw hx]
theorem shr_zero_iff {w m : Nat} : w >>> m = 0 ↔ w < 2 ^ m := by
  rw [Nat.shiftRight_eq_div_pow,Nat.div_eq_zero_iff]
  have := pow_pos m
  omega
theorem impl_isTable {a b : Int} (h0 : -9223372036854775808 ≤ b) (h1 : b ≤ 9223372036854775807) : impl_IsTable.f a b = some (isTab a b) := by
  have hb : impl_isBits.f a = some (decide (0 ≤ a ∧ a ≤ 5)) := by
    unfold impl_isBits.f
    by_cases h : a ≥ 0
    · rw [if_pos h];congr 1;exact decide_eq_decide.mpr (by omega)
    · rw [if_neg h];congr 1;symm;exact decide_eq_false (by omega)
  unfold impl_IsTable.f
  rw [hb]
  simp only [Option.bind_some,decide_eq_true_eq]
  by_cases h : 0 ≤ a ∧ a ≤ 5
  · rw [if_pos h]
    by_cases hb0 : b ≥ 0
    · rw [if_pos hb0]
      obtain ⟨n,rfl⟩ := Int.eq_ofNat_of_zero_le h.1
      obtain ⟨w,rfl⟩ := Int.eq_ofNat_of_zero_le hb0
      have hM := pow_le (n := n) (by omega)
      rw [size_some _ (by omega)]
      simp only [Option.bind_some]
      rw [if_pos (Int.natCast_nonneg _),shr_cast w _ (by omega)]
      congr 1
      unfold isTab
      apply Bool.eq_iff_iff.mpr
      rw [beq_iff_eq,decide_eq_true_eq,Int.toNat_natCast]
      have e := @shr_zero_iff w (2 ^ n)
      constructor
      · intro hz
        have hz : w >>> 2 ^ n = 0 := by exact_mod_cast hz
        have := e.mp hz
        exact ⟨h.1,h.2,hb0,by exact_mod_cast this⟩
      · intro hh
        have hh := hh.2.2.2
        have := e.mpr (by exact_mod_cast hh)
        exact_mod_cast this
    · rw [if_neg hb0]
      congr 1;symm
      exact decide_eq_false (by omega)
  · rw [if_neg h]
    congr 1;symm
    exact decide_eq_false (by omega)
end Go.Proofs.Ythlajlhjofjmcaa.U
namespace Go.Proofs.Ythlajlhjofjmcaa.U
open Go.RowKit Go.Proofs.YthlajlhjofjmcaaW.PrintWords Go.Proofs.YthlajlhjofjmcaaW.PrintLast Go.Proofs.YthlajlhjofjmcaaW.PrintMore Go.Proofs.Ythlajlhjofjmcaa.F Go.Proofs.Ythlajlhjofjmcaa.B
set_option linter.unusedVariables false
set_option linter.unusedSimpArgs false
theorem full_some {n : Nat} (hn : n ≤ 5) : spec_l2Full.f n = some (((2 ^ 2 ^ n - 1 : Nat)) : Int) := by
  unfold spec_l2Full.f
  rw [if_pos (by omega),Int.toNat_natCast]
  congr 1
  have := pow_pos (2 ^ n)
  rw [Int.natCast_sub (by omega)]
  simp
end Go.Proofs.Ythlajlhjofjmcaa.U
namespace Go.Proofs.Ythlajlhjofjmcaa.U
open Go.RowKit Go.Proofs.YthlajlhjofjmcaaW.PrintWords Go.Proofs.YthlajlhjofjmcaaW.PrintLast Go.Proofs.YthlajlhjofjmcaaW.PrintMore Go.Proofs.Ythlajlhjofjmcaa.F Go.Proofs.Ythlajlhjofjmcaa.B
set_option linter.unusedVariables false
set_option linter.unusedSimpArgs false
def cnt (w : Nat) : Nat := cntN (fun i => w.testBit i) 32
theorem cntN_add (p : Nat → Bool) (m : Nat) : ∀ n,cntN p (m + n) = cntN p m + cntN (fun i => p (m + i)) n := by
  intro n
  induction n with
  | zero => rfl
  | succ n ih => rw [← Nat.add_assoc,cntN,cntN,ih];omega
theorem cntN_first (p : Nat → Bool) (n : Nat) : cntN p (n + 1) = (p 0).toNat + cntN (fun i => p (i + 1)) n := by
  rw [Nat.add_comm,cntN_add]
  simp only [cntN,Nat.zero_add]
  congr 2
  funext i
  rw [Nat.add_comm]
theorem cntN_zero {p : Nat → Bool} (h : ∀ i,p i = false) : ∀ n,cntN p n = 0 := by
  intro n
  induction n with
  | zero => rfl
  | succ n ih => rw [cntN,ih,h];rfl
theorem ref_loop : ∀ (n k a x : Nat),x < 2 ^ n → n < k → a + n < 9223372036854775808 → x < 9223372036854775808 →
    spec_l2Count.l0 k (a : Int) (x : Int) = some ((a + cntN (fun i => x.testBit i) n : Nat) : Int) := by
  intro n
  induction n with
  | zero =>
    intro k a x hx hk ha _
    obtain ⟨k,rfl⟩ : ∃ m,k = m + 1 := ⟨k - 1,by omega⟩
    obtain rfl : x = 0 := by simpa using hx
    simp only [spec_l2Count.l0]
    rw [if_neg (by omega)]
    rfl
  | succ n ih =>
    intro k a x hx hk ha hx63
    obtain ⟨k,rfl⟩ : ∃ m,k = m + 1 := ⟨k - 1,by omega⟩
    simp only [spec_l2Count.l0]
    by_cases h0 : (x : Int) > 0
    · have hb : Go.bits .and .i64 (x : Int) 1 = ((bitN x 0 : Nat) : Int) := by
        rw [← shr_and_one,Nat.shiftRight_zero]
        exact and_cast (b := 1) hx63 (by decide)
      have h1 := bitN_le x 0
      rw [if_pos h0,hb,show wrap64 ((a : Int) + ((bitN x 0 : Nat) : Int)) = ((a + bitN x 0 : Nat) : Int) by rw [wrap64_of (by omega) (by omega)];omega,show ((x : Int) / 2) = ((x / 2 : Nat) : Int) by simp]
      rw [ih k (a + bitN x 0) (x / 2) (by rw [Nat.pow_succ] at hx;omega) (by omega) (by omega) (by omega),cntN_first]
      congr 2
      have e : (fun i => (x / 2).testBit i) = fun i => x.testBit (i + 1) := by funext i;rw [Nat.testBit_succ]
      rw [e]
      show a + (x.testBit 0).toNat + _ = _
      omega
    · obtain rfl : x = 0 := by omega
      rw [if_neg h0,cntN_zero (fun i => Nat.zero_testBit i)]
      rfl
theorem cnt_ref {x k : Nat} (hx : x < 4294967296) (hk : 33 ≤ k) : spec_l2Count.f k x = some ((cnt x : Nat) : Int) := by
  have h := ref_loop 32 k 0 x hx (by omega) (by omega) (by omega)
  rw [Nat.zero_add] at h
  exact h
def t1 (a : Nat) : Nat := (a / 2 &&& 85) + (a &&& 85)
def t2 (a : Nat) : Nat := (a / 4 &&& 51) + (a &&& 51)
def t3 (a : Nat) : Nat := (a / 16 + a) &&& 15
def resW (m w i b : Nat) : Nat := tabN (fun x => w.testBit (ins x i b)) (2 ^ m)
end Go.Proofs.Ythlajlhjofjmcaa.U
namespace Go.Proofs.Ythlajlhjofjmcaa.U
open Go.RowKit Go.Proofs.YthlajlhjofjmcaaW.PrintWords Go.Proofs.YthlajlhjofjmcaaW.PrintLast Go.Proofs.YthlajlhjofjmcaaW.PrintMore Go.Proofs.Ythlajlhjofjmcaa.F Go.Proofs.Ythlajlhjofjmcaa.B
set_option linter.unusedVariables false
set_option linter.unusedSimpArgs false
end Go.Proofs.Ythlajlhjofjmcaa.U
namespace Go.Proofs.Ythlajlhjofjmcaa.U
open Go.RowKit Go.Proofs.YthlajlhjofjmcaaW.PrintWords Go.Proofs.YthlajlhjofjmcaaW.PrintLast Go.Proofs.YthlajlhjofjmcaaW.PrintMore Go.Proofs.Ythlajlhjofjmcaa.F Go.Proofs.Ythlajlhjofjmcaa.B
set_option linter.unusedVariables false
set_option linter.unusedSimpArgs false
end Go.Proofs.Ythlajlhjofjmcaa.U
namespace Go.Proofs.Ythlajlhjofjmcaa.U
open Go.RowKit Go.Proofs.YthlajlhjofjmcaaW.PrintWords Go.Proofs.YthlajlhjofjmcaaW.PrintLast Go.Proofs.YthlajlhjofjmcaaW.PrintMore Go.Proofs.Ythlajlhjofjmcaa.F Go.Proofs.Ythlajlhjofjmcaa.B
set_option linter.unusedVariables false
set_option linter.unusedSimpArgs false
set_option maxRecDepth 100000
end Go.Proofs.Ythlajlhjofjmcaa.U
namespace Go.Proofs.Ythlajlhjofjmcaa.U
open Go.RowKit Go.Proofs.YthlajlhjofjmcaaW.PrintWords Go.Proofs.YthlajlhjofjmcaaW.PrintLast Go.Proofs.YthlajlhjofjmcaaW.PrintMore Go.Proofs.Ythlajlhjofjmcaa.F Go.Proofs.Ythlajlhjofjmcaa.B
set_option linter.unusedVariables false
set_option linter.unusedSimpArgs false
set_option maxRecDepth 100000
end Go.Proofs.Ythlajlhjofjmcaa.U
namespace Go.Proofs.Ythlajlhjofjmcaa.U
open Go.RowKit Go.Proofs.YthlajlhjofjmcaaW.PrintWords Go.Proofs.YthlajlhjofjmcaaW.PrintLast Go.Proofs.YthlajlhjofjmcaaW.PrintMore Go.Proofs.Ythlajlhjofjmcaa.F Go.Proofs.Ythlajlhjofjmcaa.B
set_option linter.unusedVariables false
set_option linter.unusedSimpArgs false
def monoAt (n w i : Nat) : Bool := ldiff (resW (n - 1) w i 0) (resW (n - 1) w i 1) == 0
def mono (n w : Nat) : Bool := allN (monoAt n w) n
end Go.Proofs.Ythlajlhjofjmcaa.U
namespace Go.Proofs.Ythlajlhjofjmcaa.U
open Go.RowKit Go.Proofs.YthlajlhjofjmcaaW.PrintWords Go.Proofs.YthlajlhjofjmcaaW.PrintLast Go.Proofs.YthlajlhjofjmcaaW.PrintMore Go.Proofs.Ythlajlhjofjmcaa.F Go.Proofs.Ythlajlhjofjmcaa.B
set_option linter.unusedVariables false
set_option linter.unusedSimpArgs false
theorem pred_cast' {m : Nat} (h0 : 0 < m) (h1 : m < 9223372036854775808) : wrap64 (((m : Nat) : Int) - 1) = ((m - 1 : Nat) : Int) := by rw [wrap64_of (by omega) (by omega)];omega
theorem upred_cast {m : Nat} (h0 : 0 < m) (h1 : m < 9223372036854775808) : IntKind.u64.wrap (((m : Nat) : Int) - 1) = ((m - 1 : Nat) : Int) := by rw [wrapu_of (by omega) (by omega)];omega
theorem bit_eq_one {w x : Nat} : ((((bitN w x : Nat) : Int)) = 1) ↔ w.testBit x = true := by
  rw [← bitN_eq_one]
  exact ⟨fun h => by exact_mod_cast h,fun h => by exact_mod_cast h⟩
def varW (n i : Nat) : Nat := tabN (fun x => x.testBit i) (2 ^ n)
theorem varW_lt (n i : Nat) : varW n i < 2 ^ 2 ^ n := tabN_lt _ _
theorem var_loop {n i : Nat} (hn : n ≤ 5) (hi : i < 5) : ∀ d k x,x + d = 2 ^ n → d < k →
    spec_l2Variable.l0 k n i ((tabN (fun x => x.testBit i) x : Nat) : Int) x = some ((varW n i : Nat) : Int) := by
  have hM := pow_le hn
  intro d
  induction d with
  | zero =>
    intro k x hx hk
    obtain ⟨k,rfl⟩ : ∃ m,k = m + 1 := ⟨k - 1,by omega⟩
    obtain rfl : x = 2 ^ n := by omega
    simp only [spec_l2Variable.l0]
    rw [if_pos (by omega),shl1_of (by omega),if_neg (by omega)]
    rfl
  | succ d ih =>
    intro k x hx hk
    obtain ⟨k,rfl⟩ : ∃ m,k = m + 1 := ⟨k - 1,by omega⟩
    have hlt : x < 2 ^ n := by omega
    have hl := tabN_lt63 (fun x => x.testBit i) (m := x) (by omega)
    have hp := pow_lt (n := x) (m := 32) (by omega)
    have e := ih k (x + 1) (by omega) (by omega)
    simp only [spec_l2Variable.l0]
    rw [if_pos (by omega),shl1_of (by omega),if_pos (by exact_mod_cast hlt),if_pos (by omega),bit_cast (by omega) (by omega),wrap64_succ (by omega)]
    cases hb : x.testBit i with
    | true =>
      rw [tabN_true (p := fun x => x.testBit i) hb] at e
      rw [if_pos (bit_eq_one.mpr hb),if_pos (by omega),shl1_of (by omega),or_cast hl (by omega)]
      exact e
    | false =>
      rw [tabN_false (p := fun x => x.testBit i) hb] at e
      rw [if_neg (by rw [bit_eq_one,hb];decide)]
      exact e
theorem spec_var {n i k : Nat} (hn : n ≤ 5) (hi : i < 5) (hk : 32 < k) : spec_l2Variable.f k n i = some ((varW n i : Nat) : Int) := by
  have := pow_le hn
  exact var_loop hn hi (2 ^ n) k 0 (by omega) (by omega)
theorem and255 (a : Int) : ∃ x : Nat,x < 256 ∧ Go.bits .and .i64 a 255 = (x : Int) := by
  have hlt : (BitVec.ofInt 64 a).toNat &&& 255 < 256 := Nat.lt_of_le_of_lt Nat.and_le_right (by decide)
  refine ⟨(BitVec.ofInt 64 a).toNat &&& 255,hlt,?_⟩
  have e : (BitVec.ofInt 64 a &&& BitVec.ofInt 64 255).toNat = (BitVec.ofInt 64 a).toNat &&& 255 := by rw [BitVec.toNat_and];rfl
  simp only [Go.bits,IntKind.bits]
  exact (congrArg (fun m : Nat => IntKind.i64.wrap (m : Int)) e).trans (wrap_of (by omega) (by omega))
theorem byte_some {b : List Int} {i : Int} (h : Int) (hb : b.length ≤ 9223372036854775807) (hi : 0 ≤ i) : ∃ (x : Nat) (i' h' : Int),spec_l1Byte.f b i h = some ((x : Int),i',h') ∧ x < 256 ∧ 0 ≤ i' := by
  unfold spec_l1Byte.f
  by_cases hl : i < (b.length : Int)
  · rw [if_pos hl,if_pos hi]
    obtain ⟨x,hx,e⟩ := and255 (wrap64 ((Go.bits .and .i64 (Go.bits .xor .i64 ((wrap64 ((wrap64 (h * 6364136223846793005)) + 1442695040888963407)) / 8589934592) ((wrap64 ((wrap64 (h * 6364136223846793005)) + 1442695040888963407)) / 35184372088832)) 255) + (wrap64 (rd b i))))
    rw [e]
    exact ⟨x,_,_,rfl,hx,by rw [wrap64_of (by omega) (by omega)];omega⟩
  · rw [if_neg hl]
    obtain ⟨x,hx,e⟩ := and255 (Go.bits .xor .i64 ((wrap64 ((wrap64 (h * 6364136223846793005)) + 1442695040888963407)) / 8589934592) ((wrap64 ((wrap64 (h * 6364136223846793005)) + 1442695040888963407)) / 35184372088832))
    rw [e]
    exact ⟨x,_,_,rfl,hx,hi⟩
theorem four_bytes {x y z v : Nat} (hx : x < 256) (hy : y < 256) (hz : z < 256) (hv : v < 256) : 0 ≤ wrap64 ((wrap64 ((wrap64 ((wrap64 ((x : Int) * 16777216)) + (wrap64 ((y : Int) * 65536)))) + (wrap64 ((z : Int) * 256)))) + (v : Int)) := by
  obtain ⟨p,hp⟩ : ∃ p : Int,p = (x : Int) * 16777216 := ⟨_,rfl⟩
  obtain ⟨q,hq⟩ : ∃ q : Int,q = (y : Int) * 65536 := ⟨_,rfl⟩
  obtain ⟨r,hr⟩ : ∃ r : Int,r = (z : Int) * 256 := ⟨_,rfl⟩
  have p1 : 0 ≤ p ∧ p ≤ 4278190080 := by omega
  have q1 : 0 ≤ q ∧ q ≤ 16711680 := by omega
  have r1 : 0 ≤ r ∧ r ≤ 65280 := by omega
  rw [← hp,← hq,← hr,wrap64_of (n := p) (by omega) (by omega),wrap64_of (n := q) (by omega) (by omega),wrap64_of (n := r) (by omega) (by omega),wrap64_of (n := p + q) (by omega) (by omega),wrap64_of (n := p + q + r) (by omega) (by omega),wrap64_of (n := p + q + r + (v : Int)) (by omega) (by omega)]
  omega
theorem below_some {b : List Int} {i : Int} (h n : Int) (hb : b.length ≤ 9223372036854775807) (hi : 0 ≤ i) : ∃ (x i' h' : Int),spec_l1Below.f b i h n = some (x,i',h') ∧ 0 ≤ i' ∧ 0 ≤ x ∧ (0 < n → x < n) ∧ (n ≤ 0 → x = 0) := by
  unfold spec_l1Below.f
  by_cases h0 : n ≤ 0
  · rw [if_pos h0];exact ⟨0,i,h,rfl,hi,by omega,fun q => by omega,fun _ => rfl⟩
  · rw [if_neg h0]
    have hp : 0 < n := by omega
    by_cases h1 : n ≤ 256
    · obtain ⟨x,i1,h1',e,hx,hi1⟩ := byte_some h hb hi
      rw [if_pos h1,e,Option.bind_some,if_neg (by omega)]
      exact ⟨_,_,_,rfl,hi1,Int.tmod_nonneg n (Int.natCast_nonneg x),fun _ => Int.tmod_lt_of_pos _ hp,fun q => absurd q h0⟩
    · obtain ⟨x,i1,h1',e1,hx,hi1⟩ := byte_some h hb hi
      obtain ⟨y,i2,h2',e2,hy,hi2⟩ := byte_some h1' hb hi1
      obtain ⟨z,i3,h3',e3,hz,hi3⟩ := byte_some h2' hb hi2
      obtain ⟨v,i4,h4',e4,hv,hi4⟩ := byte_some h3' hb hi3
      rw [if_neg h1,e1,Option.bind_some,e2,Option.bind_some,e3,Option.bind_some,e4,Option.bind_some,if_neg (by omega)]
      exact ⟨_,_,_,rfl,hi4,Int.tmod_nonneg n (four_bytes hx hy hz hv),fun _ => Int.tmod_lt_of_pos _ hp,fun q => absurd q h0⟩
theorem once_some {b : List Int} {i : Int} (h n : Int) (hb : b.length ≤ 9223372036854775807) (hi : 0 ≤ i) : ∃ (x : Bool) (i' h' : Int),spec_l1Once.f b i h n = some (x,i',h') ∧ 0 ≤ i' := by
  obtain ⟨x,i1,h1,e,hi1,_⟩ := below_some h n hb hi
  unfold spec_l1Once.f
  rw [e,Option.bind_some]
  exact ⟨_,_,_,rfl,hi1⟩
theorem pick_some {b l : List Int} {i : Int} (h : Int) (hb : b.length ≤ 9223372036854775807) (hi : 0 ≤ i) (hl : 0 < l.length) : ∃ (x i' h' : Int),spec_l1PickInt.f b i h l = some (x,i',h') ∧ 0 ≤ i' ∧ x ∈ l := by
  obtain ⟨x,i1,h1,e,hi1,hx,hxl,_⟩ := below_some h (l.length : Int) hb hi
  have hlt := hxl (by omega)
  unfold spec_l1PickInt.f
  rw [e,Option.bind_some,if_pos hx,if_pos hlt]
  refine ⟨_,_,_,rfl,hi1,?_⟩
  obtain ⟨m,rfl⟩ := Int.eq_ofNat_of_zero_le hx
  show rd l (m : Int) ∈ l
  unfold rd
  have hm : m < l.length := by omega
  rw [Int.toNat_natCast,List.getD_eq_getElem?_getD,List.getElem?_eq_getElem hm]
  exact List.getElem_mem hm
theorem new_loop {b : List Int} (hb : b.length ≤ 9223372036854775807) : ∀ (d k : Nat) (h : Int) (x : Nat),x + d = 4000 → d < k → ∃ h' : Int,spec_l1New.l0 k b h x = some (b,0,h') := by
  intro d
  induction d with
  | zero =>
    intro k h x hx hk
    obtain ⟨k,rfl⟩ : ∃ m,k = m + 1 := ⟨k - 1,by omega⟩
    rw [spec_l1New.l0]
    by_cases hl : (x : Int) < (b.length : Int)
    · rw [if_pos hl,if_neg (by omega)];exact ⟨h,rfl⟩
    · rw [if_neg hl];exact ⟨h,rfl⟩
  | succ d ih =>
    intro k h x hx hk
    obtain ⟨k,rfl⟩ : ∃ m,k = m + 1 := ⟨k - 1,by omega⟩
    rw [spec_l1New.l0]
    by_cases hl : (x : Int) < (b.length : Int)
    · rw [if_pos hl,if_pos (by omega),if_pos (Int.natCast_nonneg _),wrap64_succ (by omega)]
      exact ih k _ (x + 1) (by omega) (by omega)
    · rw [if_neg hl];exact ⟨h,rfl⟩
theorem new_some {b : List Int} (hb : b.length ≤ 9223372036854775807) {k : Nat} (hk : 4000 < k) : ∃ h' : Int,spec_l1New.f k b = some (b,0,h') := new_loop hb 4000 k _ 0 (by omega) (by omega)
def TabR (n : Nat) (o : Option (Int × Int × Int × Int)) : Prop := ∃ (w i h : Int),o = some ((n : Int),w,i,h) ∧ 0 ≤ i ∧ 0 ≤ w ∧ w ≤ 4294967295
theorem end_some {n : Nat} {w i h : Int} (hn : n ≤ 5) (hi : 0 ≤ i) (x : Nat) (hw : w = (x : Int)) (hx : x < 4294967296) : TabR n (if (n : Int) = 0 then ((spec_l2Full.f n).bind fun t => (some ((n : Int),Go.bits .and .i64 (Go.bits .and .i64 w 1) t,i,h))) else ((spec_l2Full.f n).bind fun t => (some ((n : Int),Go.bits .and .i64 w t,i,h)))) := by
  subst hw
  have hF := full_le hn
  have e1 : Go.bits .and .i64 ((x : Nat) : Int) 1 = ((x &&& 1 : Nat) : Int) := and_cast (b := 1) (by omega) (by decide)
  have l1 : x &&& 1 ≤ x := Nat.and_le_left
  split
  · rw [full_some hn,Option.bind_some,e1,and_cast (by omega) (by omega)]
    have l2 : (x &&& 1) &&& (2 ^ 2 ^ n - 1) ≤ x &&& 1 := Nat.and_le_left
    exact ⟨_,i,h,rfl,hi,Int.natCast_nonneg _,by omega⟩
  · rw [full_some hn,Option.bind_some,and_cast (by omega) (by omega)]
    have l2 : x &&& (2 ^ 2 ^ n - 1) ≤ x := Nat.and_le_left
    exact ⟨_,i,h,rfl,hi,Int.natCast_nonneg _,by omega⟩
theorem or_lt32 {a b : Nat} (ha : a < 4294967296) (hb : b < 4294967296) : a ||| b < 4294967296 := Nat.or_lt_two_pow (n := 32) ha hb
theorem bit_lt32 {x : Nat} (hx : x < 32) : 2 ^ x < 4294967296 := Nat.lt_of_lt_of_le (Nat.pow_lt_pow_right (by decide) hx) (by decide)
theorem draw_l0 {n : Nat} {b : List Int} (hn : n ≤ 5) : ∀ (d k w x : Nat) (i h : Int),x + d = 2 ^ n → w < 4294967296 → 0 ≤ i → d + 40 < k → TabR n (spec_l2Draw.l0 k n w x b i h) := by
  have hp := pow_le hn
  intro d
  induction d with
  | zero =>
    intro k w x i h hx hw hi hk
    obtain ⟨k,rfl⟩ : ∃ m,k = m + 1 := ⟨k - 1,by omega⟩
    rw [spec_l2Draw.l0,if_pos (Int.natCast_nonneg _),shl1_of (by omega),if_neg (by omega)]
    exact end_some hn hi w rfl hw
  | succ d ih =>
    intro k w x i h hx hw hi hk
    obtain ⟨k,rfl⟩ : ∃ m,k = m + 1 := ⟨k - 1,by omega⟩
    have hx32 : x < 32 := by omega
    have hb := bit_lt32 hx32
    rw [spec_l2Draw.l0,if_pos (Int.natCast_nonneg _),shl1_of (by omega),if_pos (by omega),cnt_ref (by omega) (by omega),Option.bind_some,wrap64_succ (by omega)]
    split
    · rw [if_pos (Int.natCast_nonneg _),shl1_of (by omega),or_cast (by omega) (by omega)]
      exact ih k (w ||| 2 ^ x) (x + 1) i h (by omega) (or_lt32 hw hb) hi (by omega)
    · exact ih k w (x + 1) i h (by omega) hw hi (by omega)
theorem draw_l1 {n : Nat} {b : List Int} (hn : n ≤ 5) : ∀ (d k w x : Nat) (i h : Int),x + d = 2 ^ n → w < 4294967296 → 0 ≤ i → d + 40 < k → TabR n (spec_l2Draw.l1 k n w x b i h) := by
  have hp := pow_le hn
  intro d
  induction d with
  | zero =>
    intro k w x i h hx hw hi hk
    obtain ⟨k,rfl⟩ : ∃ m,k = m + 1 := ⟨k - 1,by omega⟩
    rw [spec_l2Draw.l1,if_pos (Int.natCast_nonneg _),shl1_of (by omega),if_neg (by omega)]
    exact end_some hn hi w rfl hw
  | succ d ih =>
    intro k w x i h hx hw hi hk
    obtain ⟨k,rfl⟩ : ∃ m,k = m + 1 := ⟨k - 1,by omega⟩
    have hx32 : x < 32 := by omega
    have hb := bit_lt32 hx32
    rw [spec_l2Draw.l1,if_pos (Int.natCast_nonneg _),shl1_of (by omega),if_pos (by omega),cnt_ref (by omega) (by omega),Option.bind_some,wrap64_succ (by omega)]
    split
    · rw [if_pos (Int.natCast_nonneg _),shl1_of (by omega),or_cast (by omega) (by omega)]
      exact ih k (w ||| 2 ^ x) (x + 1) i h (by omega) (or_lt32 hw hb) hi (by omega)
    · exact ih k w (x + 1) i h (by omega) hw hi (by omega)
theorem draw_l2 {n : Nat} {b : List Int} (c : Int) (hn : n ≤ 5) : ∀ (d k w x : Nat) (i h : Int),x + d = 2 ^ n → w < 4294967296 → 0 ≤ i → d + 40 < k → TabR n (spec_l2Draw.l2 k n w c x b i h) := by
  have hp := pow_le hn
  intro d
  induction d with
  | zero =>
    intro k w x i h hx hw hi hk
    obtain ⟨k,rfl⟩ : ∃ m,k = m + 1 := ⟨k - 1,by omega⟩
    rw [spec_l2Draw.l2,if_pos (Int.natCast_nonneg _),shl1_of (by omega),if_neg (by omega)]
    exact end_some hn hi w rfl hw
  | succ d ih =>
    intro k w x i h hx hw hi hk
    obtain ⟨k,rfl⟩ : ∃ m,k = m + 1 := ⟨k - 1,by omega⟩
    have hx32 : x < 32 := by omega
    have hb := bit_lt32 hx32
    rw [spec_l2Draw.l2,if_pos (Int.natCast_nonneg _),shl1_of (by omega),if_pos (by omega),wrap64_succ (by omega)]
    split
    · rw [if_pos (Int.natCast_nonneg _),shl1_of (by omega),or_cast (by omega) (by omega)]
      exact ih k (w ||| 2 ^ x) (x + 1) i h (by omega) (or_lt32 hw hb) hi (by omega)
    · exact ih k w (x + 1) i h (by omega) hw hi (by omega)
theorem draw_l3 {n : Nat} {b : List Int} (hl : b.length ≤ 9223372036854775807) (hn : n ≤ 5) : ∀ (d k w x : Nat) (i h : Int),x + d = 2 ^ n → w < 4294967296 → 0 ≤ i → d + 40 < k → TabR n (spec_l2Draw.l3 k n w x b i h) := by
  have hp := pow_le hn
  intro d
  induction d with
  | zero =>
    intro k w x i h hx hw hi hk
    obtain ⟨k,rfl⟩ : ∃ m,k = m + 1 := ⟨k - 1,by omega⟩
    rw [spec_l2Draw.l3,if_pos (Int.natCast_nonneg _),shl1_of (by omega),if_neg (by omega)]
    exact end_some hn hi w rfl hw
  | succ d ih =>
    intro k w x i h hx hw hi hk
    obtain ⟨k,rfl⟩ : ∃ m,k = m + 1 := ⟨k - 1,by omega⟩
    have hx32 : x < 32 := by omega
    have hb := bit_lt32 hx32
    obtain ⟨v,i1,h1,e,hi1,hv0,hv2,_⟩ := below_some h 2 hl hi
    obtain ⟨m,rfl⟩ := Int.eq_ofNat_of_zero_le hv0
    have hm : m < 2 := by have := hv2 (by decide);omega
    have hs : m <<< x < 4294967296 := by
      rw [Nat.shiftLeft_eq]
      have : m * 2 ^ x ≤ 1 * 2 ^ x := Nat.mul_le_mul_right _ (by omega)
      omega
    have hsc : shl .i64 (m : Int) (x : Int) = ((m <<< x : Nat) : Int) := shl_cast (by omega) (by omega)
    rw [spec_l2Draw.l3,if_pos (Int.natCast_nonneg _),shl1_of (by omega),if_pos (by omega),e,Option.bind_some,if_pos (Int.natCast_nonneg _),wrap64_succ (by omega)]
    dsimp only
    rw [hsc,or_cast (by omega) (by omega)]
    exact ih k (w ||| m <<< x) (x + 1) i1 h1 (by omega) (or_lt32 hw hs) hi1 (by omega)
theorem draw_some {n k : Nat} {b : List Int} {i : Int} (h : Int) (hl : b.length ≤ 9223372036854775807) (hn : n ≤ 5) (hi : 0 ≤ i) (hk : 100 < k) : TabR n (spec_l2Draw.f k b i h n) := by
  have hp := pow_le hn
  obtain ⟨c,i1,h1,e,hi1,_,_,_⟩ := below_some h 6 hl hi
  unfold spec_l2Draw.f
  rw [e,Option.bind_some]
  dsimp only
  by_cases c0 : c = 0
  · rw [if_pos c0]
    obtain ⟨v,i2,h2,e2,hi2,hv0,hvn,_⟩ := below_some h1 (mx 1 n) hl hi1
    obtain ⟨m,rfl⟩ := Int.eq_ofNat_of_zero_le hv0
    have hm : m < 5 := by
      have hmx : 1 ≤ mx 1 n ∧ mx 1 n ≤ 5 := by unfold mx;split <;> omega
      have := hvn (by omega)
      omega
    have hw := varW_lt n m
    have hF := full_le hn
    rw [e2,Option.bind_some,spec_var hn hm (by omega),Option.bind_some]
    exact end_some hn hi2 (varW n m) rfl (by omega)
  · rw [if_neg c0]
    by_cases c1 : c = 1
    · rw [if_pos c1];exact draw_l0 hn (2 ^ n) k 0 0 i1 h1 (by omega) (by decide) hi1 (by omega)
    · rw [if_neg c1]
      by_cases c2 : c = 2
      · rw [if_pos c2];exact draw_l1 hn (2 ^ n) k 0 0 i1 h1 (by omega) (by decide) hi1 (by omega)
      · rw [if_neg c2]
        by_cases c3 : c = 3
        · obtain ⟨v,i2,h2,e2,hi2,_,_,_⟩ := below_some h1 (shl .i64 1 n) hl hi1
          rw [if_pos c3,if_pos (Int.natCast_nonneg _),e2,Option.bind_some]
          exact draw_l2 v hn (2 ^ n) k 0 0 i2 h2 (by omega) (by decide) hi2 (by omega)
        · rw [if_neg c3];exact draw_l3 hl hn (2 ^ n) k 0 0 i1 h1 (by omega) (by decide) hi1 (by omega)
def AnyR (o : Option (Int × Int × Int × Int)) : Prop := ∃ (a w i h : Int),o = some (a,w,i,h) ∧ 0 ≤ i ∧ (-9223372036854775808 ≤ a ∧ a ≤ 9223372036854775807) ∧ (-9223372036854775808 ≤ w ∧ w ≤ 9223372036854775807)
theorem any_some {k : Nat} {b : List Int} {i : Int} (h : Int) (hl : b.length ≤ 9223372036854775807) (hi : 0 ≤ i) (hk : 100 < k) : AnyR (spec_l2Any.f k b i h) := by
  obtain ⟨n,i1,h1,e,hi1,hn0,hn5,_⟩ := below_some h 5 hl hi
  obtain ⟨n,rfl⟩ := Int.eq_ofNat_of_zero_le hn0
  have hn : n ≤ 5 := by have := hn5 (by decide);omega
  obtain ⟨w,i2,h2,e2,hi2,hw0,hw1⟩ := draw_some (n := n) (k := k) h1 hl hn hi1 hk
  obtain ⟨c,i3,h3,e3,hi3,_,_,_⟩ := below_some h2 14 hl hi2
  unfold spec_l2Any.f
  rw [e,Option.bind_some,e2,Option.bind_some,e3,Option.bind_some]
  dsimp only
  by_cases c0 : c = 0
  · obtain ⟨v,i4,h4,e4,hi4,hv⟩ := pick_some (l := [(-1),6,5,0,9223372036854775807]) h3 hl hi3 (by decide)
    rw [if_pos c0,e4,Option.bind_some]
    refine ⟨_,_,_,_,rfl,hi4,?_,by omega⟩
    simp only [List.mem_cons,List.not_mem_nil,or_false] at hv
    dsimp only
    omega
  · rw [if_neg c0]
    by_cases c1 : c = 1
    · obtain ⟨v,i4,h4,e4,hi4,hv⟩ := pick_some (l := [(-1),0,1,65536,9223372036854775807]) h3 hl hi3 (by decide)
      rw [if_pos c1,e4,Option.bind_some]
      refine ⟨_,_,_,_,rfl,hi4,by omega,?_⟩
      simp only [List.mem_cons,List.not_mem_nil,or_false] at hv
      dsimp only
      omega
    · rw [if_neg c1]
      exact ⟨_,_,_,_,rfl,hi3,by omega,by omega⟩
end Go.Proofs.Ythlajlhjofjmcaa.U
