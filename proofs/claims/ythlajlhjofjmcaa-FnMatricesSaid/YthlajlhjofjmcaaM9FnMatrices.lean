/- Walks of Go functions and lemmas on what they compute, for the row of FnMatrices (a part of several): each call ends as the Lean function of its name tells; the conditions are those of each theorem. -/
import Derived.Test.YthlajlhjofjmcaaM1FnMatrices
import Derived.Test.YthlajlhjofjmcaaM2FnMatrices
import Derived.Test.YthlajlhjofjmcaaM3FnMatrices
import Derived.Test.YthlajlhjofjmcaaM4FnMatrices
import Derived.Test.YthlajlhjofjmcaaM6FnMatrices
import Derived.Test.YthlajlhjofjmcaaM7FnMatrices
import Derived.Test.YthlajlhjofjmcaaM8FnMatrices
namespace Go.Proofs.Ythlajlhjofjmcaa.F
open Go.RowKit Go.Proofs.YthlajlhjofjmcaaW.PrintWords Go.Proofs.YthlajlhjofjmcaaW.PrintLast Go.Proofs.YthlajlhjofjmcaaW.PrintMore
attribute [local go_sem] max2_int min2_int max_two min_two max_three min_three max_four min_four 
set_option linter.unusedVariables false
set_option linter.unusedSimpArgs false
set_option maxHeartbeats 400000 in
set_option maxRecDepth 100000 in
theorem impl_grow_1.any (n u s v x y : Int) (r : Bool) (bv : Value) (ha : impl_Table_apartBy.f n u s v y x = some r) (g1 g2 gs : Nat) (pt : TypeId) (W : World) (h1 : W.heap[g1]? = some (.cells #[.pointer (some ⟨gs,0,none⟩)] pt (0,0))) (h2 : W.heap[g2]? = some (.cells #[.int .i64 x] 3 (0,0)))
  (h3 : W.heap[gs]? = some (.cells #[.int .i64 n,.int .i64 u,.int .i64 s,.int .i64 v,bv] 82 (0,0))) :
  Gives Try.prog 89 #[.pointer (some ⟨g1,0,none⟩),.pointer (some ⟨g2,0,none⟩)] #[.int .i64 y] (.bool (!r)) W := by
 show Calls Try.prog 89 #[.int .i64 y,.pointer (some ⟨g1,0,none⟩),.pointer (some ⟨g2,0,none⟩)] W _
 have hu := Try.underlying82
 have hut := Try.underlying25
 have C0 : Aside0 (W.cell? ⟨g1,0,none⟩ = some (.pointer (some ⟨gs,0,none⟩))) := ⟨(blk_cell h1 0).trans rfl⟩
 have C1 : Aside0 (W.cell? ⟨gs,0,none⟩ = some (.int .i64 n)) := ⟨(blk_cell h3 0).trans rfl⟩
 have C2 : Aside0 (W.cell? ⟨gs,1,none⟩ = some (.int .i64 u)) := ⟨(blk_cell h3 1).trans rfl⟩
 have C3 : Aside0 (W.cell? ⟨gs,2,none⟩ = some (.int .i64 s)) := ⟨(blk_cell h3 2).trans rfl⟩
 have C4 : Aside0 (W.cell? ⟨gs,3,none⟩ = some (.int .i64 v)) := ⟨(blk_cell h3 3).trans rfl⟩
 have C5 : Aside0 (W.cell? ⟨g2,0,none⟩ = some (.int .i64 x)) := ⟨(blk_cell h2 0).trans rfl⟩
 have HA := aZ_ ha
 clear h1 h2 h3 ha
 go_enter Try.func89,Try.ntmps89
 go_wp2
 have HB := aZ_ (Below.refl W.heap.size W)
 have n0_ : Aside0 (W.drew.cell? ⟨g1,0,none⟩ = some (.pointer (some ⟨gs,0,none⟩))) := C0
 clear C0
 have C0 := n0_
 clear n0_
 have n1_ : Aside0 (W.drew.cell? ⟨gs,0,none⟩ = some (.int .i64 n)) := C1
 clear C1
 have C1 := n1_
 clear n1_
 have n2_ : Aside0 (W.drew.cell? ⟨gs,1,none⟩ = some (.int .i64 u)) := C2
 clear C2
 have C2 := n2_
 clear n2_
 have n3_ : Aside0 (W.drew.cell? ⟨gs,2,none⟩ = some (.int .i64 s)) := C3
 clear C3
 have C3 := n3_
 clear n3_
 have n4_ : Aside0 (W.drew.cell? ⟨gs,3,none⟩ = some (.int .i64 v)) := C4
 clear C4
 have C4 := n4_
 clear n4_
 have n5_ : Aside0 (W.drew.cell? ⟨g2,0,none⟩ = some (.int .i64 x)) := C5
 clear C5
 have C5 := n5_
 clear n5_
 have n_ := aZ_ (below_drew1 HB.out)
 clear HB
 have HB := n_
 clear n_
 refine start_ (n := 17) (S := (fun w_ => w_.cell? ⟨g1,0,none⟩ = some (.pointer (some ⟨gs,0,none⟩)) ∧ w_.cell? ⟨gs,0,none⟩ = some (.int .i64 n) ∧ w_.cell? ⟨gs,1,none⟩ = some (.int .i64 u) ∧ w_.cell? ⟨gs,2,none⟩ = some (.int .i64 s) ∧ w_.cell? ⟨gs,3,none⟩ = some (.int .i64 v) ∧ w_.cell? ⟨g2,0,none⟩ = some (.int .i64 x))) (ds := []) #[false,false,false,false,false,false,false,false,false,false,false,false,false,false,false,false,false] T15_ rfl rfl ⟨C0.out,C1.out,C2.out,C3.out,C4.out,C5.out⟩ (fun hHeld => ?_)
 generalize W.drew = W0_ at C0 C1 C2 C3 C4 C5 HB hHeld ⊢
 refine tZ6_ 0 (some 5) #[true,false,false,false,false,false,false,false,false,false,false,false,false,false,false,false,false] hHeld ?_
 refine pZ_ 1 (some 6) #[true,true,false,false,false,false,false,false,false,false,false,false,false,false,false,false,false] ?_
 refine pZ_ 2 (some 7) #[true,true,true,false,false,false,false,false,false,false,false,false,false,false,false,false,false] ?_
 refine tZ6_ 3 (some 8) #[true,true,true,true,false,false,false,false,false,false,false,false,false,false,false,false,false] hHeld ?_
 refine tZ6_ 4 (some 9) #[true,true,true,true,true,false,false,false,false,false,false,false,false,false,false,false,false] hHeld ?_
 refine pZ_ 5 (some 10) #[true,true,true,true,true,true,false,false,false,false,false,false,false,false,false,false,false] ?_
 refine pZ_ 6 (some 11) #[true,true,true,true,true,true,true,false,false,false,false,false,false,false,false,false,false] ?_
 refine tZ6_ 7 (some 12) #[true,true,true,true,true,true,true,true,false,false,false,false,false,false,false,false,false] hHeld ?_
 refine tZ6_ 8 (some 13) #[true,true,true,true,true,true,true,true,true,false,false,false,false,false,false,false,false] hHeld ?_
 refine pZ_ 9 (some 14) #[true,true,true,true,true,true,true,true,true,true,false,false,false,false,false,false,false] ?_
 refine pZ_ 10 (some 15) #[true,true,true,true,true,true,true,true,true,true,true,false,false,false,false,false,false] ?_
 refine tZ6_ 11 (some 16) #[true,true,true,true,true,true,true,true,true,true,true,true,false,false,false,false,false] hHeld ?_
 refine pZ_ 12 (some 17) #[true,true,true,true,true,true,true,true,true,true,true,true,true,false,false,false,false] ?_
 refine tZ6_ 13 (some 18) #[true,true,true,true,true,true,true,true,true,true,true,true,true,true,false,false,false] hHeld ?_
 refine one_ (i := 14) (N := some 19) #[true,true,true,true,true,true,true,true,true,true,true,true,true,true,true,false,false] rfl rfl T15_ T48_ (fun K hK => ?_)
 refine gZ_ Try.func79 #[.agg #[.int .i64 n,.int .i64 u],.int .i64 s,.int .i64 v,.int .i64 y,.int .i64 x] ?_
 with_reducible refine (impl_Table_apartBy.calls n u s v y x r _ HA.out).mono ?_
 rintro e W1_ ⟨rfl,hb⟩
 refine ⟨_,rfl,?_⟩
 have n0_ : Aside0 (W1_.cell? ⟨g1,0,none⟩ = some (.pointer (some ⟨gs,0,none⟩))) := ⟨pw_cell_below hb C0.out⟩
 clear C0
 have C0 := n0_
 clear n0_
 have n1_ : Aside0 (W1_.cell? ⟨gs,0,none⟩ = some (.int .i64 n)) := ⟨pw_cell_below hb C1.out⟩
 clear C1
 have C1 := n1_
 clear n1_
 have n2_ : Aside0 (W1_.cell? ⟨gs,1,none⟩ = some (.int .i64 u)) := ⟨pw_cell_below hb C2.out⟩
 clear C2
 have C2 := n2_
 clear n2_
 have n3_ : Aside0 (W1_.cell? ⟨gs,2,none⟩ = some (.int .i64 s)) := ⟨pw_cell_below hb C3.out⟩
 clear C3
 have C3 := n3_
 clear n3_
 have n4_ : Aside0 (W1_.cell? ⟨gs,3,none⟩ = some (.int .i64 v)) := ⟨pw_cell_below hb C4.out⟩
 clear C4
 have C4 := n4_
 clear n4_
 have n5_ : Aside0 (W1_.cell? ⟨g2,0,none⟩ = some (.int .i64 x)) := ⟨pw_cell_below hb C5.out⟩
 clear C5
 have C5 := n5_
 clear n5_
 have n_ := aZ_ (below_step HB.out hb)
 clear HB hb
 have HB := n_
 clear n_
 refine hK.out _ _ ⟨C0.out,C1.out,C2.out,C3.out,C4.out,C5.out⟩ (fun hHeld => ?_)
 clear hK K
 refine norm_ (a' := ?_) ?_ ?_
 rotate_left
 ·show Act.put _ (some 19) _ = _
  simp only [Act.put,List.setIfInBounds_toArray,List.set_cons_zero,List.set_cons_succ,i64_w,i32_w]
  rfl
 refine pZ_ 15 (some 20) #[true,true,true,true,true,true,true,true,true,true,true,true,true,true,true,true,false] ?_
 refine pZ_ 16 (some 4) #[true,true,true,true,true,true,true,true,true,true,true,true,true,true,true,true,true] ?_
 refine done_ T15_ ?_
 try go_wp2
 go_ret
 exact ⟨rfl,HB.out⟩
def growOk (at_ : Nat → Int) (ap : Nat → Nat → Bool) (v : Int) (l : List Int) (x : Nat) : Bool := decide (at_ x = v) && !(B.exN (fun i => !(ap (rd l i).toNat x)) l.length)
theorem grow_one {w : World} {g : Nat} {x : Int} {t : TypeId} (h : w.heap[g]? = some (.cells #[.int .i64 x] t (0,0))) : Kd.C (Kd.int .i64) w (some ⟨g,0,none⟩) 1 [x] := by
 refine ⟨rfl,by omega,fun _ => ⟨_,rfl,fun j p hj => ?_⟩⟩
 cases j with
 | zero => cases hj;exact ⟨_,rfl,rfl,fun i u hu => by
   cases i with
   | zero => cases hu;exact (blk_cell h 0).trans rfl
   | succ i => cases hu⟩
 | succ j => cases hj
structure GrowAt (n u s v : Int) (Bs gs gb : Nat) (w : World) (lv : Value) (l : List Int) (bv : Value) (b : List Int) (W : World) : Prop where
 blk : W.heap[gs]? = some (.cells #[.int .i64 n,.int .i64 u,.int .i64 s,.int .i64 v,bv] 82 (0,0))
 ptr : W.heap[gb]? = some (.cells #[.pointer (some ⟨gs,0,none⟩)] 80 (0,0))
 own : Kd.R (Kd.int .i64) 3 W Bs (fun k => k ≠ gs) bv b
 lst : Kd.R (Kd.int .i64) 3 W Bs (fun k => k ≠ gs) lv l
 grown : w.grownBy W (some gs)
 base : Bs ≤ w.heap.size
theorem GrowAt.below {n u s v : Int} {Bs gs gb : Nat} {w : World} {lv : Value} {l : List Int} {bv : Value} {b : List Int} {W W' : World} (h : GrowAt n u s v Bs gs gb w lv l bv b W) (hb : Below W.heap.size W W') : GrowAt n u s v Bs gs gb w lv l bv b W' :=
 ⟨blk_below h.blk hb,blk_below h.ptr hb,Kd.R_below h.own hb,Kd.R_below h.lst hb,h.grown.trans (grown_of_below hb _),h.base⟩
theorem grown_set (W : World) (g j : Nat) (u : Value) : W.grownBy (W.setCell ⟨g,j,none⟩ u) (some g) :=
 ⟨rfl,rfl,rfl,by simp [World.setCell],fun k hk hne => Below.heap_setCell _ _ _ _ (fun e => hne (by rw [e]))⟩
theorem GrowAt.store {n u s v : Int} {Bs gs gb : Nat} {w : World} {lv : Value} {l : List Int} {bv bv' : Value} {b b' : List Int} {W : World} (h : GrowAt n u s v Bs gs gb w lv l bv b W) (hg : gb ≠ gs) (hr : Kd.R (Kd.int .i64) 3 W Bs (fun k => k ≠ gs) bv' b') : GrowAt n u s v Bs gs gb w lv l bv' b' (W.setCell ⟨gs,4,none⟩ bv') :=
 ⟨(blk_set h.blk 4 bv').trans rfl,blk_far h.ptr hg _,Kd.R_far hr (fun _ hk => hk) _,Kd.R_far h.lst (fun _ hk => hk) _,h.grown.trans (grown_set _ _ _ _),h.base⟩
def GrowPost (n u s v : Int) (Bs gs : Nat) (w : World) (T : List Int) (e : Ending) (w' : World) : Prop :=
 e = .returned (.tuple #[]) ∧ ∃ bv : Value,w'.heap[gs]? = some (.cells #[.int .i64 n,.int .i64 u,.int .i64 s,.int .i64 v,bv] 82 (0,0)) ∧ Kd.R (Kd.int .i64) 3 w' Bs (fun k => k ≠ gs) bv T ∧ w.grownBy w' (some gs)
theorem GrowAt.fresh {n u s v : Int} {Bs gs gb : Nat} {w : World} {lv : Value} {l : List Int} {bv : Value} {b : List Int} {W W' : World} {v0 : Value} {r : List Int} (h : GrowAt n u s v Bs gs gb w lv l bv b W) (hr : Kd.R (Kd.int .i64) 3 W' W.heap.size (fun _ => True) v0 r) : Kd.R (Kd.int .i64) 3 W' Bs (fun k => k ≠ gs) v0 r :=
 Kd.R_lower (Kd.R_mono (Kd.R_bound hr) (fun k hk => by have := blk_lt h.blk;have := hk.2.1;omega)) (Nat.le_trans h.base h.grown.size)
theorem GrowAt.called {n u s v : Int} {Bs gs gb : Nat} {w : World} {lv : Value} {l : List Int} {bv bv' : Value} {b b' : List Int} {W W' : World} (h : GrowAt n u s v Bs gs gb w lv l bv b W) (hg : gb ≠ gs) (hk : W'.heap[gs]? = some (.cells #[.int .i64 n,.int .i64 u,.int .i64 s,.int .i64 v,bv'] 82 (0,0))) (ho : Kd.R (Kd.int .i64) 3 W' Bs (fun k => k ≠ gs) bv' b') (hgr : W.grownBy W' (some gs)) : GrowAt n u s v Bs gs gb w lv l bv' b' W' :=
 ⟨hk,blk_grown h.ptr hgr (by intro e;exact hg (Option.some.inj e)),ho,Kd.R_grown h.lst hgr (fun k hk e => hk (Option.some.inj e)),h.grown.trans hgr,h.base⟩
theorem rd_left {l m : List Int} {i : Nat} (h : i < l.length) : rd (l ++ m) i = rd l i := by
 unfold rd
 rw [Int.toNat_natCast,List.getD_eq_getElem?_getD,List.getD_eq_getElem?_getD,List.getElem?_append_left h]
theorem rd_last (l : List Int) (x : Int) : rd (l ++ [x]) (l.length : Int) = x := by
 unfold rd
 rw [Int.toNat_natCast,List.getD_eq_getElem?_getD,List.getElem?_append_right (Nat.le_refl _),Nat.sub_self]
 rfl
theorem grow_contains {n u s v : Int} {Bs gs gb gx x : Nat} {w : World} {A : Option Addr} {c : Nat} {l : List Int} {bv : Value} {b : List Int} {W : World} {ap : Nat → Nat → Bool} {r : Bool} (h : GrowAt n u s v Bs gs gb w (.slice A l.length c) l bv b W) (hx : W.heap[gx]? = some (.cells #[.int .i64 x] 3 (0,0))) (hl : l.length ≤ 64)
  (ha : ∀ i : Nat,i < l.length → impl_Table_apartBy.f n u s v (rd l i) x = some (ap (rd l i).toNat x)) (hr : B.exN (fun i => !(ap (rd l i).toNat x)) l.length = r) :
  Calls Try.prog 53 #[.slice A l.length c,.func (.func 89) #[] #[.pointer (some ⟨gb,0,none⟩),.pointer (some ⟨gx,0,none⟩)]] W fun e w'' => e = .returned (.bool r) ∧ Below W.heap.size W w'' := by
 subst hr
 exact slices_ContainsFunc_int.any A c l (fun y => !(ap y.toNat x)) 89 _ (enters_of Try.func89 T15_ rfl) W (Kd.R_reads' h.lst).2.2 (fun W' i hi hb => impl_grow_1.any n u s v x (rd l i) _ bv (ha i hi) gb gx gs _ W' (blk_below h.ptr hb) (blk_below hx hb) (blk_below h.blk hb)) T44_
set_option maxHeartbeats 1000000 in
set_option maxRecDepth 100000 in
theorem impl_grow.any (n u s v : Int) (N : Nat) (hN : N ≤ 64) (at_ : Nat → Int) (ap : Nat → Nat → Bool)
  (hz : impl_Table_size.f n u = some (N : Int)) (hat : ∀ x : Nat,x < N → impl_Table_at.f n u x = some (at_ x)) (hap : ∀ x y : Nat,x < N → y < N → impl_Table_apartBy.f n u s v y x = some (ap y x)) (Bs gs : Nat) :
  ∀ (d x0 : Nat) (l best : List Int) (lv bv : Value) (w : World),Bs ≤ w.heap.size → x0 + d = N → l.length ≤ x0 → (∀ i : Nat,i < l.length → ∃ y : Nat,rd l i = y ∧ y < N) →
   Kd.R (Kd.int .i64) 3 w Bs (fun k => k ≠ gs) lv l → Kd.R (Kd.int .i64) 3 w Bs (fun k => k ≠ gs) bv best → w.heap[gs]? = some (.cells #[.int .i64 n,.int .i64 u,.int .i64 s,.int .i64 v,bv] 82 (0,0)) →
   Calls Try.prog 75 #[.pointer (some ⟨gs,0,none⟩),lv,.int .i64 x0] w (GrowPost n u s v Bs gs w (U.cutF (growOk at_ ap v) d x0 l (U.pick l best))) := by
 have HZ := aZ_ hz
 have HAT := aZ_ hat
 have HAP := aZ_ hap
 clear hz hat hap
 intro d
 induction d using Nat.strongRecOn with
 | _ d ih =>
 intro x0 l best lv bv w hB hx hlx hlr hl hbs hg
 obtain ⟨A,c,rfl,hlc,hlC⟩ := Kd.R_reads hl
 obtain ⟨Ab,cb,rfl,hbc,hbC⟩ := Kd.R_reads hbs
 obtain ⟨T,hT⟩ : ∃ T,T = U.cutF (growOk at_ ap v) d x0 l (U.pick l best) := ⟨_,rfl⟩
 have IH := aZ_ ih
 have HX := aZ_ hx
 have HBS := aZ_ hB
 have HLX := aZ_ hlx
 have HLR := aZ_ hlr
 have HL := aZ_ hl
 have HS := aZ_ hbs
 have BG := aZ_ hg
 have HT := aZ_ hT
 have HLC := aZ_ hlc
 have HL64 : Aside0 (l.length ≤ 64) := ⟨by omega⟩
 rw [← hT]
 have GSLT : Aside0 (gs < w.heap.size) := ⟨blk_lt hg⟩
 clear ih hx hB hlr hl hbs hg hT hlC hbC hlc hbc hlx
 have hu := Try.underlying82
 have hut := Try.underlying25
 go_enter Try.func75,Try.ntmps75
 go_upto_if 14 with (first | ((with_reducible refine gate_dst (N := 3) rfl ?_);refine box_event ?hg (N := 3) ?hd (cs := #[.pointer (some ⟨gs,0,none⟩)]) (t := 80) ?hr ?_;(case hd => rfl);(case hg => rfl);(case hr => first | (go_simp;done) | (go_simp;rfl));intro gb hgb w1 hbox hb;have HGA : Aside0 (GrowAt n u s v Bs gs gb w (.slice A l.length c) l (.slice Ab best.length cb) best w1) := ⟨⟨blk_below BG.out hb,hbox,Kd.R_below HS.out hb,Kd.R_below HL.out hb,grown_of_below hb _,HBS.out⟩⟩;clear BG HL HS;have hc4 : w1.cell? ⟨gs,4,none⟩ = some _ := (blk_cell HGA.out.blk 4).trans rfl;have hc0 : w1.cell? ⟨gb,0,none⟩ = some _ := (blk_cell HGA.out.ptr 0).trans rfl;have GB : Aside0 (gb ≠ gs) := ⟨by have := GSLT.out;omega⟩;clear hgb hb hbox))
 go_cut [] (fun wx => ∃ (Ab2 : Option Addr) (cb2 : Nat),Aside0 (GrowAt n u s v Bs gs gb w (.slice A l.length c) l (.slice Ab2 (U.pick l best).length cb2) (U.pick l best) wx))
 case first =>
  by_cases h1 : best.length < l.length
  ·have HPK : Aside0 (U.pick l best = l) := ⟨if_pos h1⟩
   have d2 : decide ((best.length : Int) < (l.length : Int)) = true := decide_eq_true T44_
   have d1 : decide (best.length < l.length) = true := decide_eq_true h1
   have HCL : Aside0 (slices_Clone_int_int.f l = some l) := ⟨if_pos (by have := HLX.out;have := HX.out;omega)⟩
   clear h1 hc4 hc0
   rw [d1]
   go_wp2_with (fail)
   have C0 : Aside0 (w1.cell? ⟨gb,0,none⟩ = some (.pointer (some ⟨gs,0,none⟩))) := ⟨(blk_cell HGA.out.ptr 0).trans rfl⟩
   have hb := below_drew (Below.refl w1.heap.size w1)
   have n_ : Aside0 (w1.drew.cell? ⟨gb,0,none⟩ = some (.pointer (some ⟨gs,0,none⟩))) := ⟨pw_cell_below hb C0.out⟩
   clear C0
   have C0 := n_
   clear n_
   have n_ := aZ_ (GrowAt.below HGA.out hb)
   clear HGA
   have HGA := n_
   clear n_
   clear hb
   refine start_ (n := 6) (S := (fun w_ => w_.cell? ⟨gb,0,none⟩ = some (.pointer (some ⟨gs,0,none⟩)))) (ds := []) #[false,false,false,false,false,false] T15_ rfl rfl C0.out (fun hHeld => ?_)
   generalize w1.drew = W0_ at C0 HGA hHeld ⊢
   refine tZ1_ 0 (some 15) #[true,false,false,false,false,false] hHeld ?_
   refine pZ_ 1 (some 16) #[true,true,false,false,false,false] ?_
   refine one_ (i := 2) (N := some 17) #[true,true,true,false,false,false] rfl rfl T15_ T48_ (fun K hK => ?_)
   refine gZ_ Try.func88 #[.slice A l.length c] ?_
   with_reducible refine (slices_Clone_int_int.calls A c l l _ (Kd.R_reads' HGA.out.lst).2.2 HLC.out HCL.out).mono ?_
   rintro e W1_ ⟨v0,rfl,hr0,hb⟩
   obtain ⟨A3,c3,rfl,hlc3,_⟩ := Kd.R_reads hr0
   have HR0 := aZ_ (GrowAt.fresh HGA.out hr0)
   clear hr0 hlc3
   refine ⟨_,rfl,?_⟩
   have n_ : Aside0 (W1_.cell? ⟨gb,0,none⟩ = some (.pointer (some ⟨gs,0,none⟩))) := ⟨pw_cell_below hb C0.out⟩
   clear C0
   have C0 := n_
   clear n_
   have n_ := aZ_ (GrowAt.below HGA.out hb)
   clear HGA
   have HGA := n_
   clear n_
   clear hb
   refine hK.out _ _ C0.out (fun hHeld => ?_)
   clear hK K
   refine norm_ (a' := ?_) ?_ ?_
   rotate_left
   ·show Act.put _ (some 17) _ = _
    simp only [Act.put,List.setIfInBounds_toArray,List.set_cons_zero,List.set_cons_succ,i64_w,i32_w]
    rfl
   refine pZ_ 3 (some 18) #[true,true,true,true,false,false] ?_
   refine pZ_ 4 (some 19) #[true,true,true,true,true,false] ?_
   refine one_ (i := 5) (N := none) #[true,true,true,true,true,true] rfl rfl T15_ T48_ (fun K hK => ?_)
   have hc4 : W1_.cell? ⟨gs,4,none⟩ = some _ := (blk_cell HGA.out.blk 4).trans rfl
   have hf4 : W1_.frozen? ⟨gs,4,none⟩ = false := blk_frozen HGA.out.blk 4
   refine skip_ (w1 := ?_) (by rfl) rfl ?_ ?_
   rotate_left
   ·go_simp
    rfl
   have HGB := aZ_ (GrowAt.store HGA.out GB.out HR0.out)
   clear HGA hc4 hf4 C0 HR0
   have C0 : Aside0 ((W1_.setCell ⟨gs,4,none⟩ (.slice A3 l.length c3)).cell? ⟨gb,0,none⟩ = some (.pointer (some ⟨gs,0,none⟩))) := ⟨(blk_cell HGB.out.ptr 0).trans rfl⟩
   refine hK.out _ _ C0.out (fun hHeld => ?_)
   clear hK K
   refine done_ T15_ ?_
   (try go_wp2)
   go_meet
   exact ⟨A3,c3,by rw [HPK.out];exact HGB⟩

  ·have HPK : Aside0 (U.pick l best = best) := ⟨if_neg h1⟩
   have d2 : decide ((best.length : Int) < (l.length : Int)) = false := decide_eq_false T44_
   have d1 : decide (best.length < l.length) = false := decide_eq_false h1
   clear h1
   rw [d1]
   go_wp2
   go_meet
   exact ⟨Ab,cb,by rw [HPK.out];exact HGA⟩
 case rest =>
  clear HGA hc4 hc0
  obtain ⟨Ab2,cb2,HGA⟩ := hcut
  go_wp2
  go_loopg [6] N (fun gg v6 wr => ∃ (x gx : Nat) (b : List Int) (A2 : Option Addr) (c2 : Nat),x ≤ N ∧ N - x ≤ gg ∧ v6 = .pointer (some ⟨gx,0,none⟩) ∧ Aside0 (x0 ≤ x) ∧ Aside0 (gx ≠ gs) ∧ Aside0 (wr.heap[gx]? = some (.cells #[.int .i64 x] 3 (0,0))) ∧ Aside0 (GrowAt n u s v Bs gs gb w (.slice A l.length c) l (.slice A2 b.length c2) b wr) ∧ Aside0 (U.cutF (growOk at_ ap v) (N - x) x l b = T))
  case atStart => exact ⟨x0,_,_,Ab2,cb2,by have := HX.out;omega,by omega,rfl,⟨Nat.le_refl _⟩,⟨by have := GSLT.out;have := HGA.out.grown.size;omega⟩,⟨by first | exact blk_new _ _ | simpa using blk_new _ _⟩,⟨GrowAt.below HGA.out (below_alloc (Below.refl _ _) _)⟩,⟨by rw [HT.out];congr 1;have := HX.out;omega⟩⟩
  case round =>
   clear HGA HT
   obtain ⟨x,gx,b,A2,c2,hxN,hgg,rfl,HX0,GX,BX,HGA,HT⟩ := hrel
   by_cases hlt : x < N
   ·have dx : decide ((x : Int) < (N : Int)) = true := decide_eq_true T44_
    have dy : decide (x < N) = true := decide_eq_true T44_
    obtain ⟨m1,hm1⟩ : ∃ m : Nat,m = l.length + N := ⟨_,rfl⟩
    obtain ⟨m2,hm2⟩ : ∃ m : Nat,m = m1 - x := ⟨_,rfl⟩
    have HM : Aside0 (m2 = l.length + (N - x)) := ⟨by omega⟩
    have HLX2 : Aside0 (l.length ≤ x) := ⟨by have := HLX.out;have := HX0.out;omega⟩
    have E1 : IntKind.i64.wrap ((l.length : Int) + (N : Int)) = (m1 : Int) := by have := HLX2.out;rw [B.wrap_of T44_ T44_];omega
    have E2 : IntKind.i64.wrap ((m1 : Int) - (x : Int)) = (m2 : Int) := by have := HLX2.out;rw [B.wrap_of T44_ T44_];omega
    have HLT := aZ_ hlt
    clear hm1 hm2 hlt hxN
    by_cases hbd : b.length < m2
    ·have d3 : decide ((b.length : Int) < (m2 : Int)) = true := decide_eq_true T44_
     have d4 : decide (b.length < m2) = true := decide_eq_true T44_
     have HT2 : Aside0 ((if growOk at_ ap v l x = true then U.cutF (growOk at_ ap v) (N - (x + 1)) (x + 1) l (U.cutF (growOk at_ ap v) (N - (x + 1)) (x + 1) (l ++ [(x : Int)]) (U.pick (l ++ [(x : Int)]) b)) else U.cutF (growOk at_ ap v) (N - (x + 1)) (x + 1) l b) = T) := ⟨by
      have h := HT.out
      rw [show N - x = (N - (x + 1)) + 1 by have := HLT.out;omega,U.cutF,if_pos (by have := HM.out;have := HLT.out;omega)] at h
      exact h⟩
     clear HT hbd
     go_wp2_with (fail)
     have C0 : Aside0 (wr.cell? ⟨gb,0,none⟩ = some (.pointer (some ⟨gs,0,none⟩))) := ⟨(blk_cell HGA.out.ptr 0).trans rfl⟩
     have C1 : Aside0 (wr.cell? ⟨gs,0,none⟩ = some (.int .i64 n)) := ⟨(blk_cell HGA.out.blk 0).trans rfl⟩
     have C2 : Aside0 (wr.cell? ⟨gs,1,none⟩ = some (.int .i64 u)) := ⟨(blk_cell HGA.out.blk 1).trans rfl⟩
     have C3 : Aside0 (wr.cell? ⟨gs,3,none⟩ = some (.int .i64 v)) := ⟨(blk_cell HGA.out.blk 3).trans rfl⟩
     have C4 : Aside0 (wr.cell? ⟨gs,4,none⟩ = some (.slice A2 b.length c2)) := ⟨(blk_cell HGA.out.blk 4).trans rfl⟩
     have C5 : Aside0 (wr.cell? ⟨gx,0,none⟩ = some (.int .i64 x)) := ⟨(blk_cell BX.out 0).trans rfl⟩
     have hb := below_drew (Below.refl wr.heap.size wr)
     have n_ : Aside0 (wr.drew.cell? ⟨gb,0,none⟩ = some (.pointer (some ⟨gs,0,none⟩))) := ⟨pw_cell_below hb C0.out⟩
     clear C0
     have C0 := n_
     clear n_
     have n_ : Aside0 (wr.drew.cell? ⟨gs,0,none⟩ = some (.int .i64 n)) := ⟨pw_cell_below hb C1.out⟩
     clear C1
     have C1 := n_
     clear n_
     have n_ : Aside0 (wr.drew.cell? ⟨gs,1,none⟩ = some (.int .i64 u)) := ⟨pw_cell_below hb C2.out⟩
     clear C2
     have C2 := n_
     clear n_
     have n_ : Aside0 (wr.drew.cell? ⟨gs,3,none⟩ = some (.int .i64 v)) := ⟨pw_cell_below hb C3.out⟩
     clear C3
     have C3 := n_
     clear n_
     have n_ : Aside0 (wr.drew.cell? ⟨gs,4,none⟩ = some (.slice A2 b.length c2)) := ⟨pw_cell_below hb C4.out⟩
     clear C4
     have C4 := n_
     clear n_
     have n_ : Aside0 (wr.drew.cell? ⟨gx,0,none⟩ = some (.int .i64 x)) := ⟨pw_cell_below hb C5.out⟩
     clear C5
     have C5 := n_
     clear n_
     have n_ := aZ_ (GrowAt.below HGA.out hb)
     clear HGA
     have HGA := n_
     clear n_
     have n_ := aZ_ (blk_below BX.out hb)
     clear BX
     have BX := n_
     clear n_
     clear hb
     refine start_ (n := 25) (S := (fun w_ => w_.cell? ⟨gb,0,none⟩ = some (.pointer (some ⟨gs,0,none⟩)) ∧ w_.cell? ⟨gs,0,none⟩ = some (.int .i64 n) ∧ w_.cell? ⟨gs,1,none⟩ = some (.int .i64 u) ∧ w_.cell? ⟨gs,3,none⟩ = some (.int .i64 v) ∧ w_.cell? ⟨gs,4,none⟩ = some (.slice A2 b.length c2) ∧ w_.cell? ⟨gx,0,none⟩ = some (.int .i64 x))) (ds := []) #[false,false,false,false,false,false,false,false,false,false,false,false,false,false,false,false,false,false,false,false,false,false,false,false,false] T15_ rfl rfl ⟨C0.out,C1.out,C2.out,C3.out,C4.out,C5.out⟩ (fun hHeld => ?_)
     generalize wr.drew = W0_ at C0 C1 C2 C3 C4 C5 HGA BX hHeld ⊢
     refine tZ6_ 0 (some 21) #[true,false,false,false,false,false,false,false,false,false,false,false,false,false,false,false,false,false,false,false,false,false,false,false,false] hHeld ?_
     refine tZ6_ 1 (some 22) #[true,true,false,false,false,false,false,false,false,false,false,false,false,false,false,false,false,false,false,false,false,false,false,false,false] hHeld ?_
     refine pZ_ 2 (some 23) #[true,true,true,false,false,false,false,false,false,false,false,false,false,false,false,false,false,false,false,false,false,false,false,false,false] ?_
     refine pZ_ 3 (some 24) #[true,true,true,true,false,false,false,false,false,false,false,false,false,false,false,false,false,false,false,false,false,false,false,false,false] ?_
     refine tZ6_ 4 (some 25) #[true,true,true,true,true,false,false,false,false,false,false,false,false,false,false,false,false,false,false,false,false,false,false,false,false] hHeld ?_
     refine one_ (i := 5) (N := some 26) #[true,true,true,true,true,true,false,false,false,false,false,false,false,false,false,false,false,false,false,false,false,false,false,false,false] rfl rfl T15_ T48_ (fun K hK => ?_)
     refine gZ_ Try.func80 #[.agg #[.int .i64 n,.int .i64 u]] ?_
     with_reducible refine (impl_Table_size.calls n u N _ HZ.out).mono ?_
     rintro e W1_ ⟨rfl,hb⟩
     refine ⟨_,rfl,?_⟩
     have n_ : Aside0 (W1_.cell? ⟨gb,0,none⟩ = some (.pointer (some ⟨gs,0,none⟩))) := ⟨pw_cell_below hb C0.out⟩
     clear C0
     have C0 := n_
     clear n_
     have n_ : Aside0 (W1_.cell? ⟨gs,0,none⟩ = some (.int .i64 n)) := ⟨pw_cell_below hb C1.out⟩
     clear C1
     have C1 := n_
     clear n_
     have n_ : Aside0 (W1_.cell? ⟨gs,1,none⟩ = some (.int .i64 u)) := ⟨pw_cell_below hb C2.out⟩
     clear C2
     have C2 := n_
     clear n_
     have n_ : Aside0 (W1_.cell? ⟨gs,3,none⟩ = some (.int .i64 v)) := ⟨pw_cell_below hb C3.out⟩
     clear C3
     have C3 := n_
     clear n_
     have n_ : Aside0 (W1_.cell? ⟨gs,4,none⟩ = some (.slice A2 b.length c2)) := ⟨pw_cell_below hb C4.out⟩
     clear C4
     have C4 := n_
     clear n_
     have n_ : Aside0 (W1_.cell? ⟨gx,0,none⟩ = some (.int .i64 x)) := ⟨pw_cell_below hb C5.out⟩
     clear C5
     have C5 := n_
     clear n_
     have n_ := aZ_ (GrowAt.below HGA.out hb)
     clear HGA
     have HGA := n_
     clear n_
     have n_ := aZ_ (blk_below BX.out hb)
     clear BX
     have BX := n_
     clear n_
     clear hb
     refine hK.out _ _ ⟨C0.out,C1.out,C2.out,C3.out,C4.out,C5.out⟩ (fun hHeld => ?_)
     clear hK K
     refine norm_ (a' := ?_) ?_ ?_
     rotate_left
     ·show Act.put _ (some 26) _ = _
      simp only [Act.put,List.setIfInBounds_toArray,List.set_cons_zero,List.set_cons_succ,i64_w,i32_w]
      rfl
     refine pZ_ 6 (some 27) #[true,true,true,true,true,true,true,false,false,false,false,false,false,false,false,false,false,false,false,false,false,false,false,false,false] ?_
     refine pZ_ 7 (some 28) #[true,true,true,true,true,true,true,true,false,false,false,false,false,false,false,false,false,false,false,false,false,false,false,false,false] ?_
     refine pZ_ 8 (some 29) #[true,true,true,true,true,true,true,true,true,false,false,false,false,false,false,false,false,false,false,false,false,false,false,false,false] ?_
     refine pZ_ 9 (some 30) #[true,true,true,true,true,true,true,true,true,true,false,false,false,false,false,false,false,false,false,false,false,false,false,false,false] ?_
     refine tZ6_ 10 (some 31) #[true,true,true,true,true,true,true,true,true,true,true,false,false,false,false,false,false,false,false,false,false,false,false,false,false] hHeld ?_
     refine pZ_ 11 (some 32) #[true,true,true,true,true,true,true,true,true,true,true,true,false,false,false,false,false,false,false,false,false,false,false,false,false] ?_
     refine pZ_ 12 (some 33) #[true,true,true,true,true,true,true,true,true,true,true,true,true,false,false,false,false,false,false,false,false,false,false,false,false] ?_
     refine tZ6_ 13 (some 34) #[true,true,true,true,true,true,true,true,true,true,true,true,true,true,false,false,false,false,false,false,false,false,false,false,false] hHeld ?_
     refine tZ6_ 16 (some 37) #[true,true,true,true,true,true,true,true,true,true,true,true,true,true,false,false,true,false,false,false,false,false,false,false,false] hHeld ?_
     refine tZ6_ 18 (some 39) #[true,true,true,true,true,true,true,true,true,true,true,true,true,true,false,false,true,false,true,false,false,false,false,false,false] hHeld ?_
     refine pZ_ 19 (some 40) #[true,true,true,true,true,true,true,true,true,true,true,true,true,true,false,false,true,false,true,true,false,false,false,false,false] ?_
     refine pZ_ 20 (some 41) #[true,true,true,true,true,true,true,true,true,true,true,true,true,true,false,false,true,false,true,true,true,false,false,false,false] ?_
     refine tZ6_ 21 (some 42) #[true,true,true,true,true,true,true,true,true,true,true,true,true,true,false,false,true,false,true,true,true,true,false,false,false] hHeld ?_
     refine pZ_ 22 (some 43) #[true,true,true,true,true,true,true,true,true,true,true,true,true,true,false,false,true,false,true,true,true,true,true,false,false] ?_
     refine one_ (i := 14) (N := some 35) #[true,true,true,true,true,true,true,true,true,true,true,true,true,true,true,false,true,false,true,true,true,true,true,false,false] rfl rfl T15_ T48_ (fun K hK => ?_)
     refine gZ_ Try.func80 #[.agg #[.int .i64 n,.int .i64 u]] ?_
     with_reducible refine (impl_Table_size.calls n u N _ HZ.out).mono ?_
     rintro e W2_ ⟨rfl,hb⟩
     refine ⟨_,rfl,?_⟩
     have n_ : Aside0 (W2_.cell? ⟨gb,0,none⟩ = some (.pointer (some ⟨gs,0,none⟩))) := ⟨pw_cell_below hb C0.out⟩
     clear C0
     have C0 := n_
     clear n_
     have n_ : Aside0 (W2_.cell? ⟨gs,0,none⟩ = some (.int .i64 n)) := ⟨pw_cell_below hb C1.out⟩
     clear C1
     have C1 := n_
     clear n_
     have n_ : Aside0 (W2_.cell? ⟨gs,1,none⟩ = some (.int .i64 u)) := ⟨pw_cell_below hb C2.out⟩
     clear C2
     have C2 := n_
     clear n_
     have n_ : Aside0 (W2_.cell? ⟨gs,3,none⟩ = some (.int .i64 v)) := ⟨pw_cell_below hb C3.out⟩
     clear C3
     have C3 := n_
     clear n_
     have n_ : Aside0 (W2_.cell? ⟨gs,4,none⟩ = some (.slice A2 b.length c2)) := ⟨pw_cell_below hb C4.out⟩
     clear C4
     have C4 := n_
     clear n_
     have n_ : Aside0 (W2_.cell? ⟨gx,0,none⟩ = some (.int .i64 x)) := ⟨pw_cell_below hb C5.out⟩
     clear C5
     have C5 := n_
     clear n_
     have n_ := aZ_ (GrowAt.below HGA.out hb)
     clear HGA
     have HGA := n_
     clear n_
     have n_ := aZ_ (blk_below BX.out hb)
     clear BX
     have BX := n_
     clear n_
     clear hb
     refine hK.out _ _ ⟨C0.out,C1.out,C2.out,C3.out,C4.out,C5.out⟩ (fun hHeld => ?_)
     clear hK K
     refine norm_ (a' := ?_) ?_ ?_
     rotate_left
     ·show Act.put _ (some 35) _ = _
      simp only [Act.put,List.setIfInBounds_toArray,List.set_cons_zero,List.set_cons_succ,i64_w,i32_w]
      rfl
     refine pZ_ 15 (some 36) #[true,true,true,true,true,true,true,true,true,true,true,true,true,true,true,true,true,false,true,true,true,true,true,false,false] ?_
     refine pZ_ 17 (some 38) #[true,true,true,true,true,true,true,true,true,true,true,true,true,true,true,true,true,true,true,true,true,true,true,false,false] ?_
     refine pZ_ 23 (some 44) #[true,true,true,true,true,true,true,true,true,true,true,true,true,true,true,true,true,true,true,true,true,true,true,true,false] ?_
     refine pZ_ 24 (some 45) #[true,true,true,true,true,true,true,true,true,true,true,true,true,true,true,true,true,true,true,true,true,true,true,true,true] ?_
     refine done_ T15_ ?_
     clear C0 C1 C2 C3 C4 C5

     go_upto_block 1 with (fail)
     clear dx dy E1 E2 d3 d4
     go_cut [] (fun wx => ∃ (b : List Int) (A2 : Option Addr) (c2 : Nat),Aside0 (wx.heap[gx]? = some (.cells #[.int .i64 x] 3 (0,0))) ∧ Aside0 (GrowAt n u s v Bs gs gb w (.slice A l.length c) l (.slice A2 b.length c2) b wx) ∧ Aside0 (U.cutF (growOk at_ ap v) (N - (x + 1)) (x + 1) l b = T))
     case first =>
      obtain ⟨q,hq⟩ : ∃ q,q = at_ x := ⟨_,rfl⟩
      have HQ : Aside0 (impl_Table_at.f n u x = some q) := ⟨by rw [hq];exact HAT.out x HLT.out⟩
      have HAPX : Aside0 (∀ i : Nat,i < l.length → impl_Table_apartBy.f n u s v (rd l i) x = some (ap (rd l i).toNat x)) := ⟨by
       intro i hi
       obtain ⟨y,hy,hyN⟩ := HLR.out i hi
       rw [hy]
       exact HAP.out x y HLT.out hyN⟩
      cases hqv : (q == v) with
      | false =>
       have HOK : Aside0 (growOk at_ ap v l x = false) := ⟨by unfold growOk;rw [← hq,decide_eq_false (by simpa using hqv),Bool.false_and]⟩
       clear hq
       go_wp2_with (fail)
       have C0 : Aside0 (W2_.cell? ⟨gb,0,none⟩ = some (.pointer (some ⟨gs,0,none⟩))) := ⟨(blk_cell HGA.out.ptr 0).trans rfl⟩
       have C1 : Aside0 (W2_.cell? ⟨gs,0,none⟩ = some (.int .i64 n)) := ⟨(blk_cell HGA.out.blk 0).trans rfl⟩
       have C2 : Aside0 (W2_.cell? ⟨gs,1,none⟩ = some (.int .i64 u)) := ⟨(blk_cell HGA.out.blk 1).trans rfl⟩
       have C3 : Aside0 (W2_.cell? ⟨gs,3,none⟩ = some (.int .i64 v)) := ⟨(blk_cell HGA.out.blk 3).trans rfl⟩
       have C4 : Aside0 (W2_.cell? ⟨gs,4,none⟩ = some (.slice A2 b.length c2)) := ⟨(blk_cell HGA.out.blk 4).trans rfl⟩
       have C5 : Aside0 (W2_.cell? ⟨gx,0,none⟩ = some (.int .i64 x)) := ⟨(blk_cell BX.out 0).trans rfl⟩
       have hb := below_drew (Below.refl W2_.heap.size W2_)
       have n_ : Aside0 (W2_.drew.cell? ⟨gb,0,none⟩ = some (.pointer (some ⟨gs,0,none⟩))) := ⟨pw_cell_below hb C0.out⟩
       clear C0
       have C0 := n_
       clear n_
       have n_ : Aside0 (W2_.drew.cell? ⟨gs,0,none⟩ = some (.int .i64 n)) := ⟨pw_cell_below hb C1.out⟩
       clear C1
       have C1 := n_
       clear n_
       have n_ : Aside0 (W2_.drew.cell? ⟨gs,1,none⟩ = some (.int .i64 u)) := ⟨pw_cell_below hb C2.out⟩
       clear C2
       have C2 := n_
       clear n_
       have n_ : Aside0 (W2_.drew.cell? ⟨gs,3,none⟩ = some (.int .i64 v)) := ⟨pw_cell_below hb C3.out⟩
       clear C3
       have C3 := n_
       clear n_
       have n_ : Aside0 (W2_.drew.cell? ⟨gs,4,none⟩ = some (.slice A2 b.length c2)) := ⟨pw_cell_below hb C4.out⟩
       clear C4
       have C4 := n_
       clear n_
       have n_ : Aside0 (W2_.drew.cell? ⟨gx,0,none⟩ = some (.int .i64 x)) := ⟨pw_cell_below hb C5.out⟩
       clear C5
       have C5 := n_
       clear n_
       have n_ := aZ_ (GrowAt.below HGA.out hb)
       clear HGA
       have HGA := n_
       clear n_
       have n_ := aZ_ (blk_below BX.out hb)
       clear BX
       have BX := n_
       clear n_
       clear hb
       refine start_ (n := 17) (S := (fun w_ => w_.cell? ⟨gb,0,none⟩ = some (.pointer (some ⟨gs,0,none⟩)) ∧ w_.cell? ⟨gs,0,none⟩ = some (.int .i64 n) ∧ w_.cell? ⟨gs,1,none⟩ = some (.int .i64 u) ∧ w_.cell? ⟨gs,3,none⟩ = some (.int .i64 v) ∧ w_.cell? ⟨gs,4,none⟩ = some (.slice A2 b.length c2) ∧ w_.cell? ⟨gx,0,none⟩ = some (.int .i64 x))) (ds := []) #[false,false,false,false,false,false,false,false,false,false,false,false,false,false,false,false,false] T15_ rfl rfl ⟨C0.out,C1.out,C2.out,C3.out,C4.out,C5.out⟩ (fun hHeld => ?_)
       generalize W2_.drew = W0_ at C0 C1 C2 C3 C4 C5 HGA BX hHeld ⊢
       refine tZ6_ 0 (some 48) #[true,false,false,false,false,false,false,false,false,false,false,false,false,false,false,false,false] hHeld ?_
       refine pZ_ 1 (some 49) #[true,true,false,false,false,false,false,false,false,false,false,false,false,false,false,false,false] ?_
       refine pZ_ 2 (some 50) #[true,true,true,false,false,false,false,false,false,false,false,false,false,false,false,false,false] ?_
       refine tZ6_ 3 (some 51) #[true,true,true,true,false,false,false,false,false,false,false,false,false,false,false,false,false] hHeld ?_
       refine tZ6_ 4 (some 52) #[true,true,true,true,true,false,false,false,false,false,false,false,false,false,false,false,false] hHeld ?_
       refine tZ6_ 6 (some 54) #[true,true,true,true,true,false,true,false,false,false,false,false,false,false,false,false,false] hHeld ?_
       refine pZ_ 7 (some 55) #[true,true,true,true,true,false,true,true,false,false,false,false,false,false,false,false,false] ?_
       refine pZ_ 8 (some 56) #[true,true,true,true,true,false,true,true,true,false,false,false,false,false,false,false,false] ?_
       refine tZ6_ 9 (some 57) #[true,true,true,true,true,false,true,true,true,true,false,false,false,false,false,false,false] hHeld ?_
       refine one_ (i := 5) (N := some 53) #[true,true,true,true,true,true,true,true,true,true,false,false,false,false,false,false,false] rfl rfl T15_ T48_ (fun K hK => ?_)
       refine gZ_ Try.func78 #[.agg #[.int .i64 n,.int .i64 u],.int .i64 x] ?_
       with_reducible refine (impl_Table_at.calls n u x q _ HQ.out).mono ?_
       rintro e W1_ ⟨rfl,hb⟩
       refine ⟨_,rfl,?_⟩
       have n_ : Aside0 (W1_.cell? ⟨gb,0,none⟩ = some (.pointer (some ⟨gs,0,none⟩))) := ⟨pw_cell_below hb C0.out⟩
       clear C0
       have C0 := n_
       clear n_
       have n_ : Aside0 (W1_.cell? ⟨gs,0,none⟩ = some (.int .i64 n)) := ⟨pw_cell_below hb C1.out⟩
       clear C1
       have C1 := n_
       clear n_
       have n_ : Aside0 (W1_.cell? ⟨gs,1,none⟩ = some (.int .i64 u)) := ⟨pw_cell_below hb C2.out⟩
       clear C2
       have C2 := n_
       clear n_
       have n_ : Aside0 (W1_.cell? ⟨gs,3,none⟩ = some (.int .i64 v)) := ⟨pw_cell_below hb C3.out⟩
       clear C3
       have C3 := n_
       clear n_
       have n_ : Aside0 (W1_.cell? ⟨gs,4,none⟩ = some (.slice A2 b.length c2)) := ⟨pw_cell_below hb C4.out⟩
       clear C4
       have C4 := n_
       clear n_
       have n_ : Aside0 (W1_.cell? ⟨gx,0,none⟩ = some (.int .i64 x)) := ⟨pw_cell_below hb C5.out⟩
       clear C5
       have C5 := n_
       clear n_
       have n_ := aZ_ (GrowAt.below HGA.out hb)
       clear HGA
       have HGA := n_
       clear n_
       have n_ := aZ_ (blk_below BX.out hb)
       clear BX
       have BX := n_
       clear n_
       clear hb
       refine hK.out _ _ ⟨C0.out,C1.out,C2.out,C3.out,C4.out,C5.out⟩ (fun hHeld => ?_)
       clear hK K
       refine norm_ (a' := ?_) ?_ ?_
       rotate_left
       ·show Act.put _ (some 53) _ = _
        simp only [Act.put,List.setIfInBounds_toArray,List.set_cons_zero,List.set_cons_succ,i64_w,i32_w]
        rfl
       refine pZ_ 10 (some 58) #[true,true,true,true,true,true,true,true,true,true,true,false,false,false,false,false,false] ?_
       refine pZ_ 11 (some 59) #[true,true,true,true,true,true,true,true,true,true,true,true,false,false,false,false,false] ?_
       refine oZ_ 12 (some 60) #[true,true,true,true,true,true,true,true,true,true,true,true,true,false,false,false,false] ?_
       refine oZ_ 13 (some 61) #[true,true,true,true,true,true,true,true,true,true,true,true,true,true,false,false,false] ?_
       refine oZ_ 14 (some 62) #[true,true,true,true,true,true,true,true,true,true,true,true,true,true,true,false,false] ?_
       refine oZ_ 15 (some 63) #[true,true,true,true,true,true,true,true,true,true,true,true,true,true,true,true,false] ?_
       refine pZ_ 16 (some 64) #[true,true,true,true,true,true,true,true,true,true,true,true,true,true,true,true,true] ?_
       refine done_ T15_ ?_
       clear C0 C1 C2 C3 C4 C5

       go_wp2
       go_meet
       exact ⟨b,A2,c2,BX,HGA,⟨by have h := HT2.out;rw [HOK.out,if_neg T48_] at h;exact h⟩⟩
      | true =>
       cases hex : B.exN (fun i => !(ap (rd l i).toNat x)) l.length with
       | true =>
        have HEX := aZ_ hex
        have HOK : Aside0 (growOk at_ ap v l x = false) := ⟨by unfold growOk;rw [hex,Bool.not_true,Bool.and_false]⟩
        clear hq hex
        go_wp2_with (fail)
        have C0 : Aside0 (W2_.cell? ⟨gb,0,none⟩ = some (.pointer (some ⟨gs,0,none⟩))) := ⟨(blk_cell HGA.out.ptr 0).trans rfl⟩
        have C1 : Aside0 (W2_.cell? ⟨gs,0,none⟩ = some (.int .i64 n)) := ⟨(blk_cell HGA.out.blk 0).trans rfl⟩
        have C2 : Aside0 (W2_.cell? ⟨gs,1,none⟩ = some (.int .i64 u)) := ⟨(blk_cell HGA.out.blk 1).trans rfl⟩
        have C3 : Aside0 (W2_.cell? ⟨gs,3,none⟩ = some (.int .i64 v)) := ⟨(blk_cell HGA.out.blk 3).trans rfl⟩
        have C4 : Aside0 (W2_.cell? ⟨gs,4,none⟩ = some (.slice A2 b.length c2)) := ⟨(blk_cell HGA.out.blk 4).trans rfl⟩
        have C5 : Aside0 (W2_.cell? ⟨gx,0,none⟩ = some (.int .i64 x)) := ⟨(blk_cell BX.out 0).trans rfl⟩
        have hb := below_drew (Below.refl W2_.heap.size W2_)
        have n_ : Aside0 (W2_.drew.cell? ⟨gb,0,none⟩ = some (.pointer (some ⟨gs,0,none⟩))) := ⟨pw_cell_below hb C0.out⟩
        clear C0
        have C0 := n_
        clear n_
        have n_ : Aside0 (W2_.drew.cell? ⟨gs,0,none⟩ = some (.int .i64 n)) := ⟨pw_cell_below hb C1.out⟩
        clear C1
        have C1 := n_
        clear n_
        have n_ : Aside0 (W2_.drew.cell? ⟨gs,1,none⟩ = some (.int .i64 u)) := ⟨pw_cell_below hb C2.out⟩
        clear C2
        have C2 := n_
        clear n_
        have n_ : Aside0 (W2_.drew.cell? ⟨gs,3,none⟩ = some (.int .i64 v)) := ⟨pw_cell_below hb C3.out⟩
        clear C3
        have C3 := n_
        clear n_
        have n_ : Aside0 (W2_.drew.cell? ⟨gs,4,none⟩ = some (.slice A2 b.length c2)) := ⟨pw_cell_below hb C4.out⟩
        clear C4
        have C4 := n_
        clear n_
        have n_ : Aside0 (W2_.drew.cell? ⟨gx,0,none⟩ = some (.int .i64 x)) := ⟨pw_cell_below hb C5.out⟩
        clear C5
        have C5 := n_
        clear n_
        have n_ := aZ_ (GrowAt.below HGA.out hb)
        clear HGA
        have HGA := n_
        clear n_
        have n_ := aZ_ (blk_below BX.out hb)
        clear BX
        have BX := n_
        clear n_
        clear hb
        refine start_ (n := 17) (S := (fun w_ => w_.cell? ⟨gb,0,none⟩ = some (.pointer (some ⟨gs,0,none⟩)) ∧ w_.cell? ⟨gs,0,none⟩ = some (.int .i64 n) ∧ w_.cell? ⟨gs,1,none⟩ = some (.int .i64 u) ∧ w_.cell? ⟨gs,3,none⟩ = some (.int .i64 v) ∧ w_.cell? ⟨gs,4,none⟩ = some (.slice A2 b.length c2) ∧ w_.cell? ⟨gx,0,none⟩ = some (.int .i64 x))) (ds := []) #[false,false,false,false,false,false,false,false,false,false,false,false,false,false,false,false,false] T15_ rfl rfl ⟨C0.out,C1.out,C2.out,C3.out,C4.out,C5.out⟩ (fun hHeld => ?_)
        generalize W2_.drew = W0_ at C0 C1 C2 C3 C4 C5 HGA BX hHeld ⊢
        refine tZ6_ 0 (some 48) #[true,false,false,false,false,false,false,false,false,false,false,false,false,false,false,false,false] hHeld ?_
        refine pZ_ 1 (some 49) #[true,true,false,false,false,false,false,false,false,false,false,false,false,false,false,false,false] ?_
        refine pZ_ 2 (some 50) #[true,true,true,false,false,false,false,false,false,false,false,false,false,false,false,false,false] ?_
        refine tZ6_ 3 (some 51) #[true,true,true,true,false,false,false,false,false,false,false,false,false,false,false,false,false] hHeld ?_
        refine tZ6_ 4 (some 52) #[true,true,true,true,true,false,false,false,false,false,false,false,false,false,false,false,false] hHeld ?_
        refine tZ6_ 6 (some 54) #[true,true,true,true,true,false,true,false,false,false,false,false,false,false,false,false,false] hHeld ?_
        refine pZ_ 7 (some 55) #[true,true,true,true,true,false,true,true,false,false,false,false,false,false,false,false,false] ?_
        refine pZ_ 8 (some 56) #[true,true,true,true,true,false,true,true,true,false,false,false,false,false,false,false,false] ?_
        refine tZ6_ 9 (some 57) #[true,true,true,true,true,false,true,true,true,true,false,false,false,false,false,false,false] hHeld ?_
        refine one_ (i := 5) (N := some 53) #[true,true,true,true,true,true,true,true,true,true,false,false,false,false,false,false,false] rfl rfl T15_ T48_ (fun K hK => ?_)
        refine gZ_ Try.func78 #[.agg #[.int .i64 n,.int .i64 u],.int .i64 x] ?_
        with_reducible refine (impl_Table_at.calls n u x q _ HQ.out).mono ?_
        rintro e W1_ ⟨rfl,hb⟩
        refine ⟨_,rfl,?_⟩
        have n_ : Aside0 (W1_.cell? ⟨gb,0,none⟩ = some (.pointer (some ⟨gs,0,none⟩))) := ⟨pw_cell_below hb C0.out⟩
        clear C0
        have C0 := n_
        clear n_
        have n_ : Aside0 (W1_.cell? ⟨gs,0,none⟩ = some (.int .i64 n)) := ⟨pw_cell_below hb C1.out⟩
        clear C1
        have C1 := n_
        clear n_
        have n_ : Aside0 (W1_.cell? ⟨gs,1,none⟩ = some (.int .i64 u)) := ⟨pw_cell_below hb C2.out⟩
        clear C2
        have C2 := n_
        clear n_
        have n_ : Aside0 (W1_.cell? ⟨gs,3,none⟩ = some (.int .i64 v)) := ⟨pw_cell_below hb C3.out⟩
        clear C3
        have C3 := n_
        clear n_
        have n_ : Aside0 (W1_.cell? ⟨gs,4,none⟩ = some (.slice A2 b.length c2)) := ⟨pw_cell_below hb C4.out⟩
        clear C4
        have C4 := n_
        clear n_
        have n_ : Aside0 (W1_.cell? ⟨gx,0,none⟩ = some (.int .i64 x)) := ⟨pw_cell_below hb C5.out⟩
        clear C5
        have C5 := n_
        clear n_
        have n_ := aZ_ (GrowAt.below HGA.out hb)
        clear HGA
        have HGA := n_
        clear n_
        have n_ := aZ_ (blk_below BX.out hb)
        clear BX
        have BX := n_
        clear n_
        clear hb
        refine hK.out _ _ ⟨C0.out,C1.out,C2.out,C3.out,C4.out,C5.out⟩ (fun hHeld => ?_)
        clear hK K
        refine norm_ (a' := ?_) ?_ ?_
        rotate_left
        ·show Act.put _ (some 53) _ = _
         simp only [Act.put,List.setIfInBounds_toArray,List.set_cons_zero,List.set_cons_succ,i64_w,i32_w]
         rfl
        refine pZ_ 10 (some 58) #[true,true,true,true,true,true,true,true,true,true,true,false,false,false,false,false,false] ?_
        refine pZ_ 11 (some 59) #[true,true,true,true,true,true,true,true,true,true,true,true,false,false,false,false,false] ?_
        refine pZ_ 12 (some 60) #[true,true,true,true,true,true,true,true,true,true,true,true,true,false,false,false,false] ?_
        refine pZ_ 13 (some 61) #[true,true,true,true,true,true,true,true,true,true,true,true,true,true,false,false,false] ?_
        refine one_ (i := 14) (N := some 62) #[true,true,true,true,true,true,true,true,true,true,true,true,true,true,true,false,false] rfl rfl T15_ T48_ (fun K hK => ?_)
        refine gZ_ Try.func53 #[.slice A l.length c,.func (.func 89) #[] #[.pointer (some ⟨gb,0,none⟩),.pointer (some ⟨gx,0,none⟩)]] ?_
        with_reducible refine (grow_contains HGA.out BX.out HL64.out HAPX.out HEX.out).mono ?_
        rintro e W2_ ⟨rfl,hb⟩
        refine ⟨_,rfl,?_⟩
        have n_ : Aside0 (W2_.cell? ⟨gb,0,none⟩ = some (.pointer (some ⟨gs,0,none⟩))) := ⟨pw_cell_below hb C0.out⟩
        clear C0
        have C0 := n_
        clear n_
        have n_ : Aside0 (W2_.cell? ⟨gs,0,none⟩ = some (.int .i64 n)) := ⟨pw_cell_below hb C1.out⟩
        clear C1
        have C1 := n_
        clear n_
        have n_ : Aside0 (W2_.cell? ⟨gs,1,none⟩ = some (.int .i64 u)) := ⟨pw_cell_below hb C2.out⟩
        clear C2
        have C2 := n_
        clear n_
        have n_ : Aside0 (W2_.cell? ⟨gs,3,none⟩ = some (.int .i64 v)) := ⟨pw_cell_below hb C3.out⟩
        clear C3
        have C3 := n_
        clear n_
        have n_ : Aside0 (W2_.cell? ⟨gs,4,none⟩ = some (.slice A2 b.length c2)) := ⟨pw_cell_below hb C4.out⟩
        clear C4
        have C4 := n_
        clear n_
        have n_ : Aside0 (W2_.cell? ⟨gx,0,none⟩ = some (.int .i64 x)) := ⟨pw_cell_below hb C5.out⟩
        clear C5
        have C5 := n_
        clear n_
        have n_ := aZ_ (GrowAt.below HGA.out hb)
        clear HGA
        have HGA := n_
        clear n_
        have n_ := aZ_ (blk_below BX.out hb)
        clear BX
        have BX := n_
        clear n_
        clear hb
        refine hK.out _ _ ⟨C0.out,C1.out,C2.out,C3.out,C4.out,C5.out⟩ (fun hHeld => ?_)
        clear hK K
        refine norm_ (a' := ?_) ?_ ?_
        rotate_left
        ·show Act.put _ (some 62) _ = _
         simp only [Act.put,List.setIfInBounds_toArray,List.set_cons_zero,List.set_cons_succ,i64_w,i32_w]
         rfl
        refine pZ_ 15 (some 63) #[true,true,true,true,true,true,true,true,true,true,true,true,true,true,true,true,false] ?_
        refine pZ_ 16 (some 64) #[true,true,true,true,true,true,true,true,true,true,true,true,true,true,true,true,true] ?_
        refine done_ T15_ ?_
        clear C0 C1 C2 C3 C4 C5

        go_wp2
        go_meet
        exact ⟨b,A2,c2,BX,HGA,⟨by have h := HT2.out;rw [HOK.out,if_neg T48_] at h;exact h⟩⟩
       | false =>
        have HEX := aZ_ hex
        have HOK : Aside0 (growOk at_ ap v l x = true) := ⟨by unfold growOk;rw [hex,← hq,decide_eq_true (by simpa using hqv)];rfl⟩
        clear hq hex
        go_wp2_with (fail)
        have C0 : Aside0 (W2_.cell? ⟨gb,0,none⟩ = some (.pointer (some ⟨gs,0,none⟩))) := ⟨(blk_cell HGA.out.ptr 0).trans rfl⟩
        have C1 : Aside0 (W2_.cell? ⟨gs,0,none⟩ = some (.int .i64 n)) := ⟨(blk_cell HGA.out.blk 0).trans rfl⟩
        have C2 : Aside0 (W2_.cell? ⟨gs,1,none⟩ = some (.int .i64 u)) := ⟨(blk_cell HGA.out.blk 1).trans rfl⟩
        have C3 : Aside0 (W2_.cell? ⟨gs,3,none⟩ = some (.int .i64 v)) := ⟨(blk_cell HGA.out.blk 3).trans rfl⟩
        have C4 : Aside0 (W2_.cell? ⟨gs,4,none⟩ = some (.slice A2 b.length c2)) := ⟨(blk_cell HGA.out.blk 4).trans rfl⟩
        have C5 : Aside0 (W2_.cell? ⟨gx,0,none⟩ = some (.int .i64 x)) := ⟨(blk_cell BX.out 0).trans rfl⟩
        have hb := below_drew (Below.refl W2_.heap.size W2_)
        have n_ : Aside0 (W2_.drew.cell? ⟨gb,0,none⟩ = some (.pointer (some ⟨gs,0,none⟩))) := ⟨pw_cell_below hb C0.out⟩
        clear C0
        have C0 := n_
        clear n_
        have n_ : Aside0 (W2_.drew.cell? ⟨gs,0,none⟩ = some (.int .i64 n)) := ⟨pw_cell_below hb C1.out⟩
        clear C1
        have C1 := n_
        clear n_
        have n_ : Aside0 (W2_.drew.cell? ⟨gs,1,none⟩ = some (.int .i64 u)) := ⟨pw_cell_below hb C2.out⟩
        clear C2
        have C2 := n_
        clear n_
        have n_ : Aside0 (W2_.drew.cell? ⟨gs,3,none⟩ = some (.int .i64 v)) := ⟨pw_cell_below hb C3.out⟩
        clear C3
        have C3 := n_
        clear n_
        have n_ : Aside0 (W2_.drew.cell? ⟨gs,4,none⟩ = some (.slice A2 b.length c2)) := ⟨pw_cell_below hb C4.out⟩
        clear C4
        have C4 := n_
        clear n_
        have n_ : Aside0 (W2_.drew.cell? ⟨gx,0,none⟩ = some (.int .i64 x)) := ⟨pw_cell_below hb C5.out⟩
        clear C5
        have C5 := n_
        clear n_
        have n_ := aZ_ (GrowAt.below HGA.out hb)
        clear HGA
        have HGA := n_
        clear n_
        have n_ := aZ_ (blk_below BX.out hb)
        clear BX
        have BX := n_
        clear n_
        clear hb
        refine start_ (n := 17) (S := (fun w_ => w_.cell? ⟨gb,0,none⟩ = some (.pointer (some ⟨gs,0,none⟩)) ∧ w_.cell? ⟨gs,0,none⟩ = some (.int .i64 n) ∧ w_.cell? ⟨gs,1,none⟩ = some (.int .i64 u) ∧ w_.cell? ⟨gs,3,none⟩ = some (.int .i64 v) ∧ w_.cell? ⟨gs,4,none⟩ = some (.slice A2 b.length c2) ∧ w_.cell? ⟨gx,0,none⟩ = some (.int .i64 x))) (ds := []) #[false,false,false,false,false,false,false,false,false,false,false,false,false,false,false,false,false] T15_ rfl rfl ⟨C0.out,C1.out,C2.out,C3.out,C4.out,C5.out⟩ (fun hHeld => ?_)
        generalize W2_.drew = W0_ at C0 C1 C2 C3 C4 C5 HGA BX hHeld ⊢
        refine tZ6_ 0 (some 48) #[true,false,false,false,false,false,false,false,false,false,false,false,false,false,false,false,false] hHeld ?_
        refine pZ_ 1 (some 49) #[true,true,false,false,false,false,false,false,false,false,false,false,false,false,false,false,false] ?_
        refine pZ_ 2 (some 50) #[true,true,true,false,false,false,false,false,false,false,false,false,false,false,false,false,false] ?_
        refine tZ6_ 3 (some 51) #[true,true,true,true,false,false,false,false,false,false,false,false,false,false,false,false,false] hHeld ?_
        refine tZ6_ 4 (some 52) #[true,true,true,true,true,false,false,false,false,false,false,false,false,false,false,false,false] hHeld ?_
        refine tZ6_ 6 (some 54) #[true,true,true,true,true,false,true,false,false,false,false,false,false,false,false,false,false] hHeld ?_
        refine pZ_ 7 (some 55) #[true,true,true,true,true,false,true,true,false,false,false,false,false,false,false,false,false] ?_
        refine pZ_ 8 (some 56) #[true,true,true,true,true,false,true,true,true,false,false,false,false,false,false,false,false] ?_
        refine tZ6_ 9 (some 57) #[true,true,true,true,true,false,true,true,true,true,false,false,false,false,false,false,false] hHeld ?_
        refine one_ (i := 5) (N := some 53) #[true,true,true,true,true,true,true,true,true,true,false,false,false,false,false,false,false] rfl rfl T15_ T48_ (fun K hK => ?_)
        refine gZ_ Try.func78 #[.agg #[.int .i64 n,.int .i64 u],.int .i64 x] ?_
        with_reducible refine (impl_Table_at.calls n u x q _ HQ.out).mono ?_
        rintro e W1_ ⟨rfl,hb⟩
        refine ⟨_,rfl,?_⟩
        have n_ : Aside0 (W1_.cell? ⟨gb,0,none⟩ = some (.pointer (some ⟨gs,0,none⟩))) := ⟨pw_cell_below hb C0.out⟩
        clear C0
        have C0 := n_
        clear n_
        have n_ : Aside0 (W1_.cell? ⟨gs,0,none⟩ = some (.int .i64 n)) := ⟨pw_cell_below hb C1.out⟩
        clear C1
        have C1 := n_
        clear n_
        have n_ : Aside0 (W1_.cell? ⟨gs,1,none⟩ = some (.int .i64 u)) := ⟨pw_cell_below hb C2.out⟩
        clear C2
        have C2 := n_
        clear n_
        have n_ : Aside0 (W1_.cell? ⟨gs,3,none⟩ = some (.int .i64 v)) := ⟨pw_cell_below hb C3.out⟩
        clear C3
        have C3 := n_
        clear n_
        have n_ : Aside0 (W1_.cell? ⟨gs,4,none⟩ = some (.slice A2 b.length c2)) := ⟨pw_cell_below hb C4.out⟩
        clear C4
        have C4 := n_
        clear n_
        have n_ : Aside0 (W1_.cell? ⟨gx,0,none⟩ = some (.int .i64 x)) := ⟨pw_cell_below hb C5.out⟩
        clear C5
        have C5 := n_
        clear n_
        have n_ := aZ_ (GrowAt.below HGA.out hb)
        clear HGA
        have HGA := n_
        clear n_
        have n_ := aZ_ (blk_below BX.out hb)
        clear BX
        have BX := n_
        clear n_
        clear hb
        refine hK.out _ _ ⟨C0.out,C1.out,C2.out,C3.out,C4.out,C5.out⟩ (fun hHeld => ?_)
        clear hK K
        refine norm_ (a' := ?_) ?_ ?_
        rotate_left
        ·show Act.put _ (some 53) _ = _
         simp only [Act.put,List.setIfInBounds_toArray,List.set_cons_zero,List.set_cons_succ,i64_w,i32_w]
         rfl
        refine pZ_ 10 (some 58) #[true,true,true,true,true,true,true,true,true,true,true,false,false,false,false,false,false] ?_
        refine pZ_ 11 (some 59) #[true,true,true,true,true,true,true,true,true,true,true,true,false,false,false,false,false] ?_
        refine pZ_ 12 (some 60) #[true,true,true,true,true,true,true,true,true,true,true,true,true,false,false,false,false] ?_
        refine pZ_ 13 (some 61) #[true,true,true,true,true,true,true,true,true,true,true,true,true,true,false,false,false] ?_
        refine one_ (i := 14) (N := some 62) #[true,true,true,true,true,true,true,true,true,true,true,true,true,true,true,false,false] rfl rfl T15_ T48_ (fun K hK => ?_)
        refine gZ_ Try.func53 #[.slice A l.length c,.func (.func 89) #[] #[.pointer (some ⟨gb,0,none⟩),.pointer (some ⟨gx,0,none⟩)]] ?_
        with_reducible refine (grow_contains HGA.out BX.out HL64.out HAPX.out HEX.out).mono ?_
        rintro e W2_ ⟨rfl,hb⟩
        refine ⟨_,rfl,?_⟩
        have n_ : Aside0 (W2_.cell? ⟨gb,0,none⟩ = some (.pointer (some ⟨gs,0,none⟩))) := ⟨pw_cell_below hb C0.out⟩
        clear C0
        have C0 := n_
        clear n_
        have n_ : Aside0 (W2_.cell? ⟨gs,0,none⟩ = some (.int .i64 n)) := ⟨pw_cell_below hb C1.out⟩
        clear C1
        have C1 := n_
        clear n_
        have n_ : Aside0 (W2_.cell? ⟨gs,1,none⟩ = some (.int .i64 u)) := ⟨pw_cell_below hb C2.out⟩
        clear C2
        have C2 := n_
        clear n_
        have n_ : Aside0 (W2_.cell? ⟨gs,3,none⟩ = some (.int .i64 v)) := ⟨pw_cell_below hb C3.out⟩
        clear C3
        have C3 := n_
        clear n_
        have n_ : Aside0 (W2_.cell? ⟨gs,4,none⟩ = some (.slice A2 b.length c2)) := ⟨pw_cell_below hb C4.out⟩
        clear C4
        have C4 := n_
        clear n_
        have n_ : Aside0 (W2_.cell? ⟨gx,0,none⟩ = some (.int .i64 x)) := ⟨pw_cell_below hb C5.out⟩
        clear C5
        have C5 := n_
        clear n_
        have n_ := aZ_ (GrowAt.below HGA.out hb)
        clear HGA
        have HGA := n_
        clear n_
        have n_ := aZ_ (blk_below BX.out hb)
        clear BX
        have BX := n_
        clear n_
        clear hb
        refine hK.out _ _ ⟨C0.out,C1.out,C2.out,C3.out,C4.out,C5.out⟩ (fun hHeld => ?_)
        clear hK K
        refine norm_ (a' := ?_) ?_ ?_
        rotate_left
        ·show Act.put _ (some 62) _ = _
         simp only [Act.put,List.setIfInBounds_toArray,List.set_cons_zero,List.set_cons_succ,i64_w,i32_w]
         rfl
        refine pZ_ 15 (some 63) #[true,true,true,true,true,true,true,true,true,true,true,true,true,true,true,true,false] ?_
        refine pZ_ 16 (some 64) #[true,true,true,true,true,true,true,true,true,true,true,true,true,true,true,true,true] ?_
        refine done_ T15_ ?_
        clear C0 C1 C2 C3 C4 C5

        go_wp2_with (fail)
        have HCL : Aside0 (slices_Clone_int_int.f l = some l) := ⟨if_pos (by have := HLX2.out;have := HLT.out;omega)⟩
        have E3 : IntKind.i64.wrap ((x : Int) + 1) = ((x + 1 : Nat) : Int) := by have := HLT.out;rw [B.wrap_of T44_ T44_];omega
        obtain ⟨x1,hx1⟩ : ∃ x1,x1 = x + 1 := ⟨_,rfl⟩
        rw [← hx1] at E3
        have HX1 := aZ_ hx1
        clear hx1
        have C0 : Aside0 (W2_.cell? ⟨gb,0,none⟩ = some (.pointer (some ⟨gs,0,none⟩))) := ⟨(blk_cell HGA.out.ptr 0).trans rfl⟩
        have C1 : Aside0 (W2_.cell? ⟨gx,0,none⟩ = some (.int .i64 x)) := ⟨(blk_cell BX.out 0).trans rfl⟩
        have hb := below_drew (Below.refl W2_.heap.size W2_)
        have n_ : Aside0 (W2_.drew.cell? ⟨gb,0,none⟩ = some (.pointer (some ⟨gs,0,none⟩))) := ⟨pw_cell_below hb C0.out⟩
        clear C0
        have C0 := n_
        clear n_
        have n_ : Aside0 (W2_.drew.cell? ⟨gx,0,none⟩ = some (.int .i64 x)) := ⟨pw_cell_below hb C1.out⟩
        clear C1
        have C1 := n_
        clear n_
        have n_ := aZ_ (GrowAt.below HGA.out hb)
        clear HGA
        have HGA := n_
        clear n_
        have n_ := aZ_ (blk_below BX.out hb)
        clear BX
        have BX := n_
        clear n_
        clear hb
        refine start_ (n := 9) (S := (fun w_ => w_.cell? ⟨gb,0,none⟩ = some (.pointer (some ⟨gs,0,none⟩)) ∧ w_.cell? ⟨gx,0,none⟩ = some (.int .i64 x))) (ds := []) #[false,false,false,false,false,false,false,false,false] T15_ rfl rfl ⟨C0.out,C1.out⟩ (fun hHeld => ?_)
        generalize W2_.drew = V0_ at C0 C1 HGA BX hHeld ⊢
        have HB0 : Aside0 (Below V0_.heap.size V0_ V0_) := ⟨Below.refl _ _⟩
        refine tZ2_ 0 (some 65) #[true,false,false,false,false,false,false,false,false] hHeld ?_
        refine pZ_ 1 (some 66) #[true,true,false,false,false,false,false,false,false] ?_
        refine tZ2_ 3 (some 68) #[true,true,false,true,false,false,false,false,false] hHeld ?_
        refine tZ2_ 6 (some 71) #[true,true,false,true,false,false,true,false,false] hHeld ?_
        refine pZ_ 7 (some 72) #[true,true,false,true,false,false,true,true,false] ?_
        refine join_ (σ := Option Addr × Nat × Nat) 2 #[true,true,true,true,true,false,true,true,false] (fun s => [(67,.slice s.1 l.length s.2.1),(69,.slice (some ⟨s.2.2,0,none⟩) 1 1)]) (fun s W' => Below V0_.heap.size V0_ W' ∧ Kd.R (Kd.int .i64) 3 W' V0_.heap.size (fun _ => True) (.slice s.1 l.length s.2.1) l ∧ W'.heap[s.2.2]? = some (.cells #[.int .i64 x] 3 (0,0))) ?_ ?_
        rotate_left
        ·intro hCont
         refine two_ (i := 2) (j := 4) (Ni := some 67) (Nj := some 69) #[true,true,true,true,false,false,true,true,false] #[true,true,false,true,true,false,true,true,false] rfl rfl rfl rfl T15_ T48_ T48_ (fun K hK => ?_) (fun K hK => ?_)
         ·skip
          refine goes_ Try.func88 T15_ rfl #[.slice A l.length c] (by rfl) rfl rfl T70_ ?_
          with_reducible refine (slices_Clone_int_int.calls A c l l _ (Kd.R_reads' HGA.out.lst).2.2 HLC.out HCL.out).mono ?_
          rintro e V1_ ⟨v0,rfl,hr0,hb⟩
          obtain ⟨A3,c3,rfl,hlc3,_⟩ := Kd.R_reads hr0
          have HR0 := aZ_ hr0
          clear hr0 hlc3
          have HB1 := aZ_ (below_step HB0.out hb)
          refine ⟨_,rfl,?_⟩
          refine hK.out _ _ ⟨pw_cell_below HB1.out C0.out,pw_cell_below HB1.out C1.out⟩ (fun hHeld => ?_)
          clear hK K
          refine norm_ (a' := ?_) ?_ ?_
          rotate_left
          ·show Act.put _ (some 67) _ = _
           simp only [Act.put,List.setIfInBounds_toArray,List.set_cons_zero,List.set_cons_succ,i64_w,i32_w]
           rfl
          clear hb HB0
          have HB0 := HB1
          clear HB1
          refine one_ (i := 4) (N := some 69) #[true,true,true,true,true,false,true,true,false] rfl rfl T15_ T48_ (fun K hK => ?_)
          refine value_ (w1 := ?_) (v := ?_) (by rfl) rfl ?_ ?_
          rotate_left 2
          ·go_simp
           constructor
           ·rfl
           ·rfl
          have HB1 := aZ_ (below_alloc HB0.out (.cells #[.int .i64 x] 3 (0,0)))
          refine hK.out _ _ ⟨pw_cell_below HB1.out C0.out,pw_cell_below HB1.out C1.out⟩ (fun hHeld => ?_)
          clear hK K
          refine norm_ (a' := ?_) ?_ ?_
          rotate_left
          ·show Act.put _ (some 69) _ = _
           simp only [Act.put,List.setIfInBounds_toArray,List.set_cons_zero,List.set_cons_succ,i64_w,i32_w]
           rfl
          exact norm_ (by simp only [putAll,Act.put,List.setIfInBounds_toArray,List.set_cons_zero,List.set_cons_succ]) (hCont (A3,c3,V1_.heap.size) _ ⟨HB1.out,Kd.R_alloc HR0.out _,blk_new V1_ _⟩)
         ·skip
          refine value_ (w1 := ?_) (v := ?_) (by rfl) rfl ?_ ?_
          rotate_left 2
          ·go_simp
           constructor
           ·rfl
           ·rfl
          have HB1 := aZ_ (below_alloc HB0.out (.cells #[.int .i64 x] 3 (0,0)))
          refine hK.out _ _ ⟨pw_cell_below HB1.out C0.out,pw_cell_below HB1.out C1.out⟩ (fun hHeld => ?_)
          clear hK K
          refine norm_ (a' := ?_) ?_ ?_
          rotate_left
          ·show Act.put _ (some 69) _ = _
           simp only [Act.put,List.setIfInBounds_toArray,List.set_cons_zero,List.set_cons_succ,i64_w,i32_w]
           rfl
          have BY := aZ_ (blk_new V0_ (.cells #[.int .i64 x] 3 (0,0)))
          have hsz : V0_.heap.size ≤ (V0_.alloc (.cells #[.int .i64 x] 3 (0,0))).heap.size := HB1.out.size
          clear HB0
          have HB0 := HB1
          clear HB1
          have HGL := aZ_ (Kd.R_below HGA.out.lst HB0.out)
          generalize V0_.alloc (.cells #[.int .i64 x] 3 (0,0)) = V1_ at HB0 BY HGL hsz hHeld ⊢
          refine one_ (i := 2) (N := some 67) #[true,true,true,true,true,false,true,true,false] rfl rfl T15_ T48_ (fun K hK => ?_)
          refine goes_ Try.func88 T15_ rfl #[.slice A l.length c] (by rfl) rfl rfl T70_ ?_
          with_reducible refine (slices_Clone_int_int.calls A c l l _ (Kd.R_reads' HGL.out).2.2 HLC.out HCL.out).mono ?_
          rintro e V2_ ⟨v0,rfl,hr0,hb⟩
          obtain ⟨A3,c3,rfl,hlc3,_⟩ := Kd.R_reads hr0
          have HR0 := aZ_ (Kd.R_lower hr0 hsz)
          clear hr0 hlc3
          have HB1 := aZ_ (below_step HB0.out hb)
          refine ⟨_,rfl,?_⟩
          refine hK.out _ _ ⟨pw_cell_below HB1.out C0.out,pw_cell_below HB1.out C1.out⟩ (fun hHeld => ?_)
          clear hK K
          refine norm_ (a' := ?_) ?_ ?_
          rotate_left
          ·show Act.put _ (some 67) _ = _
           simp only [Act.put,List.setIfInBounds_toArray,List.set_cons_zero,List.set_cons_succ,i64_w,i32_w]
           rfl
          exact norm_ (by simp only [putAll,Act.put,List.setIfInBounds_toArray,List.set_cons_zero,List.set_cons_succ]) (hCont (A3,c3,V0_.heap.size) _ ⟨HB1.out,HR0.out,blk_below BY.out hb⟩)
        rintro ⟨A3,c3,g4⟩ V2_ ⟨hb0,hr0,hy0⟩
        clear HB0
        refine norm_ (a' := ?_) ?_ ?_
        rotate_left
        ·simp only [putAll,Act.put,List.setIfInBounds_toArray,List.set_cons_zero,List.set_cons_succ]
         rfl
        have HR0 := aZ_ hr0
        have HB0 := aZ_ hb0
        have BY := aZ_ hy0
        clear hr0 hb0 hy0
        refine one_ (i := 5) (N := some 70) #[true,true,true,true,true,true,true,true,false] rfl rfl T15_ T48_ (fun K hK => ?_)
        refine Kd.R_append_rows_step (Kd.int .i64) (w0 := V0_) V0_.heap.size (by rfl) (.tmp 67) (.tmp 69) 27 3 (.int .i64 0) 8 (by rfl) Try.underlying27 info3 (by rfl) T48_ T48_ (.slice A3 l.length c3) l [(x : Int)] (some ⟨g4,0,none⟩) 1 1 (fun _ => True) (fun _ => False) (by rfl) (by rfl) HR0.out (grow_one BY.out) (fun _ _ h_ => h_) (fun _ h_ => h_.elim) (fun _ _ => trivial) HB0.out HB0.out.size (by have := HLX2.out;have := HLT.out;omega) ?_
        intro v1 V3_ hr1 hb1 _ _
        have HR1 := aZ_ (GrowAt.fresh HGA.out hr1)
        have hb := hb1
        clear hr1 hb1 HR0 HB0 BY
        have n_ : Aside0 (V3_.cell? ⟨gb,0,none⟩ = some (.pointer (some ⟨gs,0,none⟩))) := ⟨pw_cell_below hb C0.out⟩
        clear C0
        have C0 := n_
        clear n_
        have n_ : Aside0 (V3_.cell? ⟨gx,0,none⟩ = some (.int .i64 x)) := ⟨pw_cell_below hb C1.out⟩
        clear C1
        have C1 := n_
        clear n_
        have n_ := aZ_ (GrowAt.below HGA.out hb)
        clear HGA
        have HGA := n_
        clear n_
        have n_ := aZ_ (blk_below BX.out hb)
        clear BX
        have BX := n_
        clear n_
        clear hb
        refine hK.out _ _ ⟨C0.out,C1.out⟩ (fun hHeld => ?_)
        clear hK K
        refine norm_ (a' := ?_) ?_ ?_
        rotate_left
        ·show Act.put _ (some 70) _ = _
         simp only [Act.put,List.setIfInBounds_toArray,List.set_cons_zero,List.set_cons_succ,i64_w,i32_w]
         rfl
        refine one_ (i := 8) (N := some 73) #[true,true,true,true,true,true,true,true,true] rfl rfl T15_ T48_ (fun K hK => ?_)
        refine goes_ Try.func75 T15_ rfl #[.pointer (some ⟨gs,0,none⟩),v1,.int .i64 x1] (by rfl) rfl rfl T70_ ?_
        with_reducible refine (IH.out (N - x1) (by have := HX1.out;have := HX.out;have := HX0.out;have := HLT.out;omega) x1 (l ++ [(x : Int)]) b v1 _ _ (Nat.le_trans HGA.out.base HGA.out.grown.size) (by have := HX1.out;have := HLT.out;omega) (by rw [List.length_append,List.length_singleton];have := HX1.out;have := HLX2.out;omega) ?_ HR1.out HGA.out.own HGA.out.blk).mono ?_
        ·intro i hi
         rw [List.length_append,List.length_singleton] at hi
         by_cases h : i < l.length
         ·obtain ⟨y,hy,hyN⟩ := HLR.out i h
          exact ⟨y,by rw [rd_left h];exact hy,hyN⟩
         ·obtain rfl : i = l.length := by omega
          exact ⟨x,rd_last l x,HLT.out⟩
        rintro e V4_ ⟨rfl,bv2,hblk,hown,hgr⟩
        obtain ⟨A4,c4,rfl,_,_⟩ := Kd.R_reads hown
        refine ⟨_,rfl,?_⟩
        have BX4 := aZ_ (blk_grown BX.out hgr (by intro e;exact GX.out (Option.some.inj e)))
        have HGA4 := aZ_ (GrowAt.called HGA.out GB.out hblk hown hgr)
        clear hblk hown hgr BX HGA C0 C1
        have BX := BX4
        have HGA := HGA4
        clear BX4 HGA4
        generalize hb3 : U.cutF (growOk at_ ap v) (N - x1) x1 (l ++ [(x : Int)]) (U.pick (l ++ [(x : Int)]) b) = b3 at HGA
        have HB3 := aZ_ hb3
        clear hb3
        have C0 : Aside0 (V4_.cell? ⟨gb,0,none⟩ = some (.pointer (some ⟨gs,0,none⟩))) := ⟨(blk_cell HGA.out.ptr 0).trans rfl⟩
        have C1 : Aside0 (V4_.cell? ⟨gx,0,none⟩ = some (.int .i64 x)) := ⟨(blk_cell BX.out 0).trans rfl⟩
        refine hK.out _ _ ⟨C0.out,C1.out⟩ (fun hHeld => ?_)
        clear hK K
        refine norm_ (a' := ?_) ?_ ?_
        rotate_left
        ·show Act.put _ (some 73) _ = _
         simp only [Act.put,List.setIfInBounds_toArray,List.set_cons_zero,List.set_cons_succ,i64_w,i32_w]
         rfl
        refine done_ T15_ ?_
        clear C0 C1
        go_wp2
        go_meet
        exact ⟨b3,A4,c4,BX,HGA,⟨by have h := HT2.out;rw [HOK.out,if_pos rfl,← HX1.out,HB3.out,HX1.out] at h;exact h⟩⟩

     case rest =>
      clear BX HGA HT2
      obtain ⟨b,A2,c2,BX,HGA,HT⟩ := hcut
      have hc0 : wc.cell? ⟨gx,0,none⟩ = some (.int .i64 x) := (blk_cell BX.out 0).trans rfl
      go_wp2
      go_roundg (N - (x + 1))
      case measure => have := HLT.out;omega
      case rel => exact ⟨x + 1,_,b,A2,c2,by have := HLT.out;omega,by omega,rfl,⟨by have := HX0.out;omega⟩,⟨by have := GSLT.out;have := HGA.out.grown.size;omega⟩,⟨by rw [show ((x + 1 : Nat) : Int) = wrap64 ((x : Int) + 1) by have := HLT.out;rw [B.wrap64_of T44_ T44_];omega];exact blk_new _ _⟩,⟨GrowAt.below HGA.out (below_alloc (Below.refl _ _) _)⟩,HT⟩
    ·have d3 : decide ((b.length : Int) < (m2 : Int)) = false := decide_eq_false T44_
     have d4 : decide (b.length < m2) = false := decide_eq_false T44_
     have HT2 : Aside0 (b = T) := ⟨by
      have h := HT.out
      rw [show N - x = (N - (x + 1)) + 1 by have := HLT.out;omega,U.cutF,if_neg (by have := HM.out;have := HLT.out;omega)] at h
      exact h⟩
     clear HT hbd
     go_wp2_with (fail)
     have C0 : Aside0 (wr.cell? ⟨gb,0,none⟩ = some (.pointer (some ⟨gs,0,none⟩))) := ⟨(blk_cell HGA.out.ptr 0).trans rfl⟩
     have C1 : Aside0 (wr.cell? ⟨gs,0,none⟩ = some (.int .i64 n)) := ⟨(blk_cell HGA.out.blk 0).trans rfl⟩
     have C2 : Aside0 (wr.cell? ⟨gs,1,none⟩ = some (.int .i64 u)) := ⟨(blk_cell HGA.out.blk 1).trans rfl⟩
     have C3 : Aside0 (wr.cell? ⟨gs,3,none⟩ = some (.int .i64 v)) := ⟨(blk_cell HGA.out.blk 3).trans rfl⟩
     have C4 : Aside0 (wr.cell? ⟨gs,4,none⟩ = some (.slice A2 b.length c2)) := ⟨(blk_cell HGA.out.blk 4).trans rfl⟩
     have C5 : Aside0 (wr.cell? ⟨gx,0,none⟩ = some (.int .i64 x)) := ⟨(blk_cell BX.out 0).trans rfl⟩
     have hb := below_drew (Below.refl wr.heap.size wr)
     have n_ : Aside0 (wr.drew.cell? ⟨gb,0,none⟩ = some (.pointer (some ⟨gs,0,none⟩))) := ⟨pw_cell_below hb C0.out⟩
     clear C0
     have C0 := n_
     clear n_
     have n_ : Aside0 (wr.drew.cell? ⟨gs,0,none⟩ = some (.int .i64 n)) := ⟨pw_cell_below hb C1.out⟩
     clear C1
     have C1 := n_
     clear n_
     have n_ : Aside0 (wr.drew.cell? ⟨gs,1,none⟩ = some (.int .i64 u)) := ⟨pw_cell_below hb C2.out⟩
     clear C2
     have C2 := n_
     clear n_
     have n_ : Aside0 (wr.drew.cell? ⟨gs,3,none⟩ = some (.int .i64 v)) := ⟨pw_cell_below hb C3.out⟩
     clear C3
     have C3 := n_
     clear n_
     have n_ : Aside0 (wr.drew.cell? ⟨gs,4,none⟩ = some (.slice A2 b.length c2)) := ⟨pw_cell_below hb C4.out⟩
     clear C4
     have C4 := n_
     clear n_
     have n_ : Aside0 (wr.drew.cell? ⟨gx,0,none⟩ = some (.int .i64 x)) := ⟨pw_cell_below hb C5.out⟩
     clear C5
     have C5 := n_
     clear n_
     have n_ := aZ_ (GrowAt.below HGA.out hb)
     clear HGA
     have HGA := n_
     clear n_
     have n_ := aZ_ (blk_below BX.out hb)
     clear BX
     have BX := n_
     clear n_
     clear hb
     refine start_ (n := 25) (S := (fun w_ => w_.cell? ⟨gb,0,none⟩ = some (.pointer (some ⟨gs,0,none⟩)) ∧ w_.cell? ⟨gs,0,none⟩ = some (.int .i64 n) ∧ w_.cell? ⟨gs,1,none⟩ = some (.int .i64 u) ∧ w_.cell? ⟨gs,3,none⟩ = some (.int .i64 v) ∧ w_.cell? ⟨gs,4,none⟩ = some (.slice A2 b.length c2) ∧ w_.cell? ⟨gx,0,none⟩ = some (.int .i64 x))) (ds := []) #[false,false,false,false,false,false,false,false,false,false,false,false,false,false,false,false,false,false,false,false,false,false,false,false,false] T15_ rfl rfl ⟨C0.out,C1.out,C2.out,C3.out,C4.out,C5.out⟩ (fun hHeld => ?_)
     generalize wr.drew = W0_ at C0 C1 C2 C3 C4 C5 HGA BX hHeld ⊢
     refine tZ6_ 0 (some 21) #[true,false,false,false,false,false,false,false,false,false,false,false,false,false,false,false,false,false,false,false,false,false,false,false,false] hHeld ?_
     refine tZ6_ 1 (some 22) #[true,true,false,false,false,false,false,false,false,false,false,false,false,false,false,false,false,false,false,false,false,false,false,false,false] hHeld ?_
     refine pZ_ 2 (some 23) #[true,true,true,false,false,false,false,false,false,false,false,false,false,false,false,false,false,false,false,false,false,false,false,false,false] ?_
     refine pZ_ 3 (some 24) #[true,true,true,true,false,false,false,false,false,false,false,false,false,false,false,false,false,false,false,false,false,false,false,false,false] ?_
     refine tZ6_ 4 (some 25) #[true,true,true,true,true,false,false,false,false,false,false,false,false,false,false,false,false,false,false,false,false,false,false,false,false] hHeld ?_
     refine one_ (i := 5) (N := some 26) #[true,true,true,true,true,true,false,false,false,false,false,false,false,false,false,false,false,false,false,false,false,false,false,false,false] rfl rfl T15_ T48_ (fun K hK => ?_)
     refine gZ_ Try.func80 #[.agg #[.int .i64 n,.int .i64 u]] ?_
     with_reducible refine (impl_Table_size.calls n u N _ HZ.out).mono ?_
     rintro e W1_ ⟨rfl,hb⟩
     refine ⟨_,rfl,?_⟩
     have n_ : Aside0 (W1_.cell? ⟨gb,0,none⟩ = some (.pointer (some ⟨gs,0,none⟩))) := ⟨pw_cell_below hb C0.out⟩
     clear C0
     have C0 := n_
     clear n_
     have n_ : Aside0 (W1_.cell? ⟨gs,0,none⟩ = some (.int .i64 n)) := ⟨pw_cell_below hb C1.out⟩
     clear C1
     have C1 := n_
     clear n_
     have n_ : Aside0 (W1_.cell? ⟨gs,1,none⟩ = some (.int .i64 u)) := ⟨pw_cell_below hb C2.out⟩
     clear C2
     have C2 := n_
     clear n_
     have n_ : Aside0 (W1_.cell? ⟨gs,3,none⟩ = some (.int .i64 v)) := ⟨pw_cell_below hb C3.out⟩
     clear C3
     have C3 := n_
     clear n_
     have n_ : Aside0 (W1_.cell? ⟨gs,4,none⟩ = some (.slice A2 b.length c2)) := ⟨pw_cell_below hb C4.out⟩
     clear C4
     have C4 := n_
     clear n_
     have n_ : Aside0 (W1_.cell? ⟨gx,0,none⟩ = some (.int .i64 x)) := ⟨pw_cell_below hb C5.out⟩
     clear C5
     have C5 := n_
     clear n_
     have n_ := aZ_ (GrowAt.below HGA.out hb)
     clear HGA
     have HGA := n_
     clear n_
     have n_ := aZ_ (blk_below BX.out hb)
     clear BX
     have BX := n_
     clear n_
     clear hb
     refine hK.out _ _ ⟨C0.out,C1.out,C2.out,C3.out,C4.out,C5.out⟩ (fun hHeld => ?_)
     clear hK K
     refine norm_ (a' := ?_) ?_ ?_
     rotate_left
     ·show Act.put _ (some 26) _ = _
      simp only [Act.put,List.setIfInBounds_toArray,List.set_cons_zero,List.set_cons_succ,i64_w,i32_w]
      rfl
     refine pZ_ 6 (some 27) #[true,true,true,true,true,true,true,false,false,false,false,false,false,false,false,false,false,false,false,false,false,false,false,false,false] ?_
     refine pZ_ 7 (some 28) #[true,true,true,true,true,true,true,true,false,false,false,false,false,false,false,false,false,false,false,false,false,false,false,false,false] ?_
     refine pZ_ 8 (some 29) #[true,true,true,true,true,true,true,true,true,false,false,false,false,false,false,false,false,false,false,false,false,false,false,false,false] ?_
     refine pZ_ 9 (some 30) #[true,true,true,true,true,true,true,true,true,true,false,false,false,false,false,false,false,false,false,false,false,false,false,false,false] ?_
     refine tZ6_ 10 (some 31) #[true,true,true,true,true,true,true,true,true,true,true,false,false,false,false,false,false,false,false,false,false,false,false,false,false] hHeld ?_
     refine pZ_ 11 (some 32) #[true,true,true,true,true,true,true,true,true,true,true,true,false,false,false,false,false,false,false,false,false,false,false,false,false] ?_
     refine pZ_ 12 (some 33) #[true,true,true,true,true,true,true,true,true,true,true,true,true,false,false,false,false,false,false,false,false,false,false,false,false] ?_
     refine tZ6_ 13 (some 34) #[true,true,true,true,true,true,true,true,true,true,true,true,true,true,false,false,false,false,false,false,false,false,false,false,false] hHeld ?_
     refine tZ6_ 16 (some 37) #[true,true,true,true,true,true,true,true,true,true,true,true,true,true,false,false,true,false,false,false,false,false,false,false,false] hHeld ?_
     refine tZ6_ 18 (some 39) #[true,true,true,true,true,true,true,true,true,true,true,true,true,true,false,false,true,false,true,false,false,false,false,false,false] hHeld ?_
     refine pZ_ 19 (some 40) #[true,true,true,true,true,true,true,true,true,true,true,true,true,true,false,false,true,false,true,true,false,false,false,false,false] ?_
     refine pZ_ 20 (some 41) #[true,true,true,true,true,true,true,true,true,true,true,true,true,true,false,false,true,false,true,true,true,false,false,false,false] ?_
     refine tZ6_ 21 (some 42) #[true,true,true,true,true,true,true,true,true,true,true,true,true,true,false,false,true,false,true,true,true,true,false,false,false] hHeld ?_
     refine pZ_ 22 (some 43) #[true,true,true,true,true,true,true,true,true,true,true,true,true,true,false,false,true,false,true,true,true,true,true,false,false] ?_
     refine one_ (i := 14) (N := some 35) #[true,true,true,true,true,true,true,true,true,true,true,true,true,true,true,false,true,false,true,true,true,true,true,false,false] rfl rfl T15_ T48_ (fun K hK => ?_)
     refine gZ_ Try.func80 #[.agg #[.int .i64 n,.int .i64 u]] ?_
     with_reducible refine (impl_Table_size.calls n u N _ HZ.out).mono ?_
     rintro e W2_ ⟨rfl,hb⟩
     refine ⟨_,rfl,?_⟩
     have n_ : Aside0 (W2_.cell? ⟨gb,0,none⟩ = some (.pointer (some ⟨gs,0,none⟩))) := ⟨pw_cell_below hb C0.out⟩
     clear C0
     have C0 := n_
     clear n_
     have n_ : Aside0 (W2_.cell? ⟨gs,0,none⟩ = some (.int .i64 n)) := ⟨pw_cell_below hb C1.out⟩
     clear C1
     have C1 := n_
     clear n_
     have n_ : Aside0 (W2_.cell? ⟨gs,1,none⟩ = some (.int .i64 u)) := ⟨pw_cell_below hb C2.out⟩
     clear C2
     have C2 := n_
     clear n_
     have n_ : Aside0 (W2_.cell? ⟨gs,3,none⟩ = some (.int .i64 v)) := ⟨pw_cell_below hb C3.out⟩
     clear C3
     have C3 := n_
     clear n_
     have n_ : Aside0 (W2_.cell? ⟨gs,4,none⟩ = some (.slice A2 b.length c2)) := ⟨pw_cell_below hb C4.out⟩
     clear C4
     have C4 := n_
     clear n_
     have n_ : Aside0 (W2_.cell? ⟨gx,0,none⟩ = some (.int .i64 x)) := ⟨pw_cell_below hb C5.out⟩
     clear C5
     have C5 := n_
     clear n_
     have n_ := aZ_ (GrowAt.below HGA.out hb)
     clear HGA
     have HGA := n_
     clear n_
     have n_ := aZ_ (blk_below BX.out hb)
     clear BX
     have BX := n_
     clear n_
     clear hb
     refine hK.out _ _ ⟨C0.out,C1.out,C2.out,C3.out,C4.out,C5.out⟩ (fun hHeld => ?_)
     clear hK K
     refine norm_ (a' := ?_) ?_ ?_
     rotate_left
     ·show Act.put _ (some 35) _ = _
      simp only [Act.put,List.setIfInBounds_toArray,List.set_cons_zero,List.set_cons_succ,i64_w,i32_w]
      rfl
     refine pZ_ 15 (some 36) #[true,true,true,true,true,true,true,true,true,true,true,true,true,true,true,true,true,false,true,true,true,true,true,false,false] ?_
     refine pZ_ 17 (some 38) #[true,true,true,true,true,true,true,true,true,true,true,true,true,true,true,true,true,true,true,true,true,true,true,false,false] ?_
     refine pZ_ 23 (some 44) #[true,true,true,true,true,true,true,true,true,true,true,true,true,true,true,true,true,true,true,true,true,true,true,true,false] ?_
     refine pZ_ 24 (some 45) #[true,true,true,true,true,true,true,true,true,true,true,true,true,true,true,true,true,true,true,true,true,true,true,true,true] ?_
     refine done_ T15_ ?_
     clear C0 C1 C2 C3 C4 C5

     go_wp2
     go_end0
     exact ⟨rfl,_,HGA.out.blk,by rw [← HT2.out];exact HGA.out.own,HGA.out.grown⟩
   ·have dx : decide ((x : Int) < (N : Int)) = false := decide_eq_false T44_
    have dy : decide (x < N) = false := decide_eq_false T44_
    have HT2 : Aside0 (b = T) := ⟨by
     have h := HT.out
     rw [show N - x = 0 by omega,U.cutF] at h
     exact h⟩
    clear HT
    go_wp2_with (fail)
    have C0 : Aside0 (wr.cell? ⟨gb,0,none⟩ = some (.pointer (some ⟨gs,0,none⟩))) := ⟨(blk_cell HGA.out.ptr 0).trans rfl⟩
    have C1 : Aside0 (wr.cell? ⟨gs,0,none⟩ = some (.int .i64 n)) := ⟨(blk_cell HGA.out.blk 0).trans rfl⟩
    have C2 : Aside0 (wr.cell? ⟨gs,1,none⟩ = some (.int .i64 u)) := ⟨(blk_cell HGA.out.blk 1).trans rfl⟩
    have C3 : Aside0 (wr.cell? ⟨gs,3,none⟩ = some (.int .i64 v)) := ⟨(blk_cell HGA.out.blk 3).trans rfl⟩
    have C4 : Aside0 (wr.cell? ⟨gs,4,none⟩ = some (.slice A2 b.length c2)) := ⟨(blk_cell HGA.out.blk 4).trans rfl⟩
    have C5 : Aside0 (wr.cell? ⟨gx,0,none⟩ = some (.int .i64 x)) := ⟨(blk_cell BX.out 0).trans rfl⟩
    have hb := below_drew (Below.refl wr.heap.size wr)
    have n_ : Aside0 (wr.drew.cell? ⟨gb,0,none⟩ = some (.pointer (some ⟨gs,0,none⟩))) := ⟨pw_cell_below hb C0.out⟩
    clear C0
    have C0 := n_
    clear n_
    have n_ : Aside0 (wr.drew.cell? ⟨gs,0,none⟩ = some (.int .i64 n)) := ⟨pw_cell_below hb C1.out⟩
    clear C1
    have C1 := n_
    clear n_
    have n_ : Aside0 (wr.drew.cell? ⟨gs,1,none⟩ = some (.int .i64 u)) := ⟨pw_cell_below hb C2.out⟩
    clear C2
    have C2 := n_
    clear n_
    have n_ : Aside0 (wr.drew.cell? ⟨gs,3,none⟩ = some (.int .i64 v)) := ⟨pw_cell_below hb C3.out⟩
    clear C3
    have C3 := n_
    clear n_
    have n_ : Aside0 (wr.drew.cell? ⟨gs,4,none⟩ = some (.slice A2 b.length c2)) := ⟨pw_cell_below hb C4.out⟩
    clear C4
    have C4 := n_
    clear n_
    have n_ : Aside0 (wr.drew.cell? ⟨gx,0,none⟩ = some (.int .i64 x)) := ⟨pw_cell_below hb C5.out⟩
    clear C5
    have C5 := n_
    clear n_
    have n_ := aZ_ (GrowAt.below HGA.out hb)
    clear HGA
    have HGA := n_
    clear n_
    have n_ := aZ_ (blk_below BX.out hb)
    clear BX
    have BX := n_
    clear n_
    clear hb
    refine start_ (n := 25) (S := (fun w_ => w_.cell? ⟨gb,0,none⟩ = some (.pointer (some ⟨gs,0,none⟩)) ∧ w_.cell? ⟨gs,0,none⟩ = some (.int .i64 n) ∧ w_.cell? ⟨gs,1,none⟩ = some (.int .i64 u) ∧ w_.cell? ⟨gs,3,none⟩ = some (.int .i64 v) ∧ w_.cell? ⟨gs,4,none⟩ = some (.slice A2 b.length c2) ∧ w_.cell? ⟨gx,0,none⟩ = some (.int .i64 x))) (ds := []) #[false,false,false,false,false,false,false,false,false,false,false,false,false,false,false,false,false,false,false,false,false,false,false,false,false] T15_ rfl rfl ⟨C0.out,C1.out,C2.out,C3.out,C4.out,C5.out⟩ (fun hHeld => ?_)
    generalize wr.drew = W0_ at C0 C1 C2 C3 C4 C5 HGA BX hHeld ⊢
    refine tZ6_ 0 (some 21) #[true,false,false,false,false,false,false,false,false,false,false,false,false,false,false,false,false,false,false,false,false,false,false,false,false] hHeld ?_
    refine tZ6_ 1 (some 22) #[true,true,false,false,false,false,false,false,false,false,false,false,false,false,false,false,false,false,false,false,false,false,false,false,false] hHeld ?_
    refine pZ_ 2 (some 23) #[true,true,true,false,false,false,false,false,false,false,false,false,false,false,false,false,false,false,false,false,false,false,false,false,false] ?_
    refine pZ_ 3 (some 24) #[true,true,true,true,false,false,false,false,false,false,false,false,false,false,false,false,false,false,false,false,false,false,false,false,false] ?_
    refine tZ6_ 4 (some 25) #[true,true,true,true,true,false,false,false,false,false,false,false,false,false,false,false,false,false,false,false,false,false,false,false,false] hHeld ?_
    refine one_ (i := 5) (N := some 26) #[true,true,true,true,true,true,false,false,false,false,false,false,false,false,false,false,false,false,false,false,false,false,false,false,false] rfl rfl T15_ T48_ (fun K hK => ?_)
    refine gZ_ Try.func80 #[.agg #[.int .i64 n,.int .i64 u]] ?_
    with_reducible refine (impl_Table_size.calls n u N _ HZ.out).mono ?_
    rintro e W1_ ⟨rfl,hb⟩
    refine ⟨_,rfl,?_⟩
    have n_ : Aside0 (W1_.cell? ⟨gb,0,none⟩ = some (.pointer (some ⟨gs,0,none⟩))) := ⟨pw_cell_below hb C0.out⟩
    clear C0
    have C0 := n_
    clear n_
    have n_ : Aside0 (W1_.cell? ⟨gs,0,none⟩ = some (.int .i64 n)) := ⟨pw_cell_below hb C1.out⟩
    clear C1
    have C1 := n_
    clear n_
    have n_ : Aside0 (W1_.cell? ⟨gs,1,none⟩ = some (.int .i64 u)) := ⟨pw_cell_below hb C2.out⟩
    clear C2
    have C2 := n_
    clear n_
    have n_ : Aside0 (W1_.cell? ⟨gs,3,none⟩ = some (.int .i64 v)) := ⟨pw_cell_below hb C3.out⟩
    clear C3
    have C3 := n_
    clear n_
    have n_ : Aside0 (W1_.cell? ⟨gs,4,none⟩ = some (.slice A2 b.length c2)) := ⟨pw_cell_below hb C4.out⟩
    clear C4
    have C4 := n_
    clear n_
    have n_ : Aside0 (W1_.cell? ⟨gx,0,none⟩ = some (.int .i64 x)) := ⟨pw_cell_below hb C5.out⟩
    clear C5
    have C5 := n_
    clear n_
    have n_ := aZ_ (GrowAt.below HGA.out hb)
    clear HGA
    have HGA := n_
    clear n_
    have n_ := aZ_ (blk_below BX.out hb)
    clear BX
    have BX := n_
    clear n_
    clear hb
    refine hK.out _ _ ⟨C0.out,C1.out,C2.out,C3.out,C4.out,C5.out⟩ (fun hHeld => ?_)
    clear hK K
    refine norm_ (a' := ?_) ?_ ?_
    rotate_left
    ·show Act.put _ (some 26) _ = _
     simp only [Act.put,List.setIfInBounds_toArray,List.set_cons_zero,List.set_cons_succ,i64_w,i32_w]
     rfl
    refine pZ_ 6 (some 27) #[true,true,true,true,true,true,true,false,false,false,false,false,false,false,false,false,false,false,false,false,false,false,false,false,false] ?_
    refine pZ_ 7 (some 28) #[true,true,true,true,true,true,true,true,false,false,false,false,false,false,false,false,false,false,false,false,false,false,false,false,false] ?_
    refine oZ_ 8 (some 29) #[true,true,true,true,true,true,true,true,true,false,false,false,false,false,false,false,false,false,false,false,false,false,false,false,false] ?_
    refine oZ_ 9 (some 30) #[true,true,true,true,true,true,true,true,true,true,false,false,false,false,false,false,false,false,false,false,false,false,false,false,false] ?_
    refine oZ_ 10 (some 31) #[true,true,true,true,true,true,true,true,true,true,true,false,false,false,false,false,false,false,false,false,false,false,false,false,false] ?_
    refine oZ_ 11 (some 32) #[true,true,true,true,true,true,true,true,true,true,true,true,false,false,false,false,false,false,false,false,false,false,false,false,false] ?_
    refine oZ_ 12 (some 33) #[true,true,true,true,true,true,true,true,true,true,true,true,true,false,false,false,false,false,false,false,false,false,false,false,false] ?_
    refine oZ_ 13 (some 34) #[true,true,true,true,true,true,true,true,true,true,true,true,true,true,false,false,false,false,false,false,false,false,false,false,false] ?_
    refine oZ_ 14 (some 35) #[true,true,true,true,true,true,true,true,true,true,true,true,true,true,true,false,false,false,false,false,false,false,false,false,false] ?_
    refine oZ_ 15 (some 36) #[true,true,true,true,true,true,true,true,true,true,true,true,true,true,true,true,false,false,false,false,false,false,false,false,false] ?_
    refine oZ_ 16 (some 37) #[true,true,true,true,true,true,true,true,true,true,true,true,true,true,true,true,true,false,false,false,false,false,false,false,false] ?_
    refine oZ_ 17 (some 38) #[true,true,true,true,true,true,true,true,true,true,true,true,true,true,true,true,true,true,false,false,false,false,false,false,false] ?_
    refine oZ_ 18 (some 39) #[true,true,true,true,true,true,true,true,true,true,true,true,true,true,true,true,true,true,true,false,false,false,false,false,false] ?_
    refine oZ_ 19 (some 40) #[true,true,true,true,true,true,true,true,true,true,true,true,true,true,true,true,true,true,true,true,false,false,false,false,false] ?_
    refine oZ_ 20 (some 41) #[true,true,true,true,true,true,true,true,true,true,true,true,true,true,true,true,true,true,true,true,true,false,false,false,false] ?_
    refine oZ_ 21 (some 42) #[true,true,true,true,true,true,true,true,true,true,true,true,true,true,true,true,true,true,true,true,true,true,false,false,false] ?_
    refine oZ_ 22 (some 43) #[true,true,true,true,true,true,true,true,true,true,true,true,true,true,true,true,true,true,true,true,true,true,true,false,false] ?_
    refine oZ_ 23 (some 44) #[true,true,true,true,true,true,true,true,true,true,true,true,true,true,true,true,true,true,true,true,true,true,true,true,false] ?_
    refine pZ_ 24 (some 45) #[true,true,true,true,true,true,true,true,true,true,true,true,true,true,true,true,true,true,true,true,true,true,true,true,true] ?_
    refine done_ T15_ ?_
    clear C0 C1 C2 C3 C4 C5

    go_wp2
    go_end0
    exact ⟨rfl,_,HGA.out.blk,by rw [← HT2.out];exact HGA.out.own,HGA.out.grown⟩
def growAt_ (a b : Int) (x : Nat) : Int := (impl_Table_at.f a b x).getD 0
def growAp (a b s v : Int) (y x : Nat) : Bool := (impl_Table_apartBy.f a b s v y x).getD false
def growDom (a b s v : Int) (N : Nat) : Bool := ((impl_Table_size.f a b == some (N : Int)) && decide (N ≤ 64)) && B.allN (fun x => (impl_Table_at.f a b x).isSome && B.allN (fun y => (impl_Table_apartBy.f a b s v y x).isSome) N) N
def impl_LargestFooling.f (a0_0 a0_1 a1 a2 : Int) : Option (List Int × Bool) :=
 (impl_isSplit.f a0_0 a0_1 a1).bind fun t => if t = true then (if a0_0 > 4 then some ([],false) else (impl_isBit.f a2).bind fun t2 => if t2 = true then (if growDom a0_0 a0_1 a1 a2 (2 ^ a0_0.toNat) = true then some (U.cutF (growOk (growAt_ a0_0 a0_1) (growAp a0_0 a0_1 a1 a2) a2) (2 ^ a0_0.toNat) 0 [] [],true) else none) else some ([],false)) else some ([],false)
set_option maxHeartbeats 1000000 in
set_option maxRecDepth 100000 in
theorem impl_LargestFooling.calls (a0_0 a0_1 a1 a2 : Int) (r1 : List Int) (r2 : Bool) (w : World) (h : impl_LargestFooling.f a0_0 a0_1 a1 a2 = some (r1,r2)) :
  Calls Try.prog 32 #[.agg #[.int .i64 a0_0,.int .i64 a0_1],.int .i64 a1,.int .i64 a2] w fun e w' => ∃ v0_ : Value,e = .returned (.tuple #[v0_,.bool r2]) ∧ Kd.R (Kd.int .i64) 3 w' w.heap.size (fun _ => True) v0_ r1 ∧ Below w.heap.size w w' := by
 have hu := Try.underlying82
 have hut := Try.underlying25
 unfold impl_LargestFooling.f at h
 obtain ⟨t,ht,h⟩ := Option.bind_eq_some_iff.mp h
 have HT := aZ_ ht
 clear ht
 have kb := below_alloc (Below.refl w.heap.size w) (.cells #[.int .i64 a0_0,.int .i64 a0_1] 25 (0,0))
 have KB := aZ_ kb
 have K1 := aZ_ (blk_new w (.cells #[.int .i64 a0_0,.int .i64 a0_1] 25 (0,0)))
 clear kb
 cases t with
 | false =>
  rw [if_neg T48_] at h
  cases h
  go_enter Try.func32,Try.ntmps32
  go_wp2_with (go_at_call 69;refine (impl_isSplit.calls a0_0 a0_1 a1 false _ HT.out).mono ?_;rintro e w1 ⟨rfl,hd⟩;have HB := aZ_ (below_step KB.out hd);clear hd)
  go_ret2
  exact ⟨_,rfl,Kd.R_nil _ _ _ _ _,HB.out⟩
 | true =>
  rw [if_pos rfl] at h
  by_cases h4 : a0_0 > 4
  ·rw [if_pos h4] at h
   cases h
   have d4 : decide ((4 : Int) < a0_0) = true := decide_eq_true h4
   clear h4
   go_enter Try.func32,Try.ntmps32
   go_wp2_with (go_at_call 69;refine (impl_isSplit.calls a0_0 a0_1 a1 true _ HT.out).mono ?_;rintro e w1 ⟨rfl,hd⟩;have HB := aZ_ (below_step KB.out hd);have K2 := blk_below K1.out hd;have hc0 : w1.cell? ⟨w.heap.size,0,none⟩ = some (.int .i64 a0_0) := (blk_cell K2 0).trans rfl;clear hd K2)
   go_ret2
   exact ⟨_,rfl,Kd.R_nil _ _ _ _ _,HB.out⟩
  ·rw [if_neg h4] at h
   have d4 : decide ((4 : Int) < a0_0) = false := decide_eq_false h4
   clear h4
   obtain ⟨t2,ht2,h⟩ := Option.bind_eq_some_iff.mp h
   have HT2 := aZ_ ht2
   clear ht2
   cases t2 with
   | false =>
    rw [if_neg T48_] at h
    cases h
    go_enter Try.func32,Try.ntmps32
    go_wp2_with (first | (go_at_call 69;refine (impl_isSplit.calls a0_0 a0_1 a1 true _ HT.out).mono ?_;rintro e w1 ⟨rfl,hd⟩;have HB := aZ_ (below_step KB.out hd);have K2 := blk_below K1.out hd;have hc0 : w1.cell? ⟨w.heap.size,0,none⟩ = some (.int .i64 a0_0) := (blk_cell K2 0).trans rfl;clear hd K2) | (go_at_call 55;refine (impl_isBit.calls a2 false _ HT2.out).mono ?_;rintro e w2 ⟨rfl,hd⟩;have HB2 := aZ_ (below_step HB.out hd.below);clear hd))
    go_ret2
    exact ⟨_,rfl,Kd.R_nil _ _ _ _ _,HB2.out⟩
   | true =>
    rw [if_pos rfl] at h
    split at h
    next hdom =>
     cases h
     obtain ⟨N,hN⟩ : ∃ N,N = 2 ^ a0_0.toNat := ⟨_,rfl⟩
     rw [← hN] at hdom ⊢
     unfold growDom at hdom
     rw [Bool.and_eq_true,Bool.and_eq_true,beq_iff_eq,decide_eq_true_eq,B.allN_iff] at hdom
     have HD := aZ_ hdom
     clear hdom hN
     have HGR : Aside0 (∀ (gs : Nat) (w' : World),w.heap.size ≤ w'.heap.size → w'.heap[gs]? = some (.cells #[.int .i64 a0_0,.int .i64 a0_1,.int .i64 a1,.int .i64 a2,.slice none 0 0] 82 (0,0)) →
       Calls Try.prog 75 #[.pointer (some ⟨gs,0,none⟩),.slice none 0 0,.int .i64 0] w' (GrowPost a0_0 a0_1 a1 a2 w.heap.size gs w' (U.cutF (growOk (growAt_ a0_0 a0_1) (growAp a0_0 a0_1 a1 a2) a2) N 0 [] []))) := ⟨fun gs w' hw hb => by
      have h := impl_grow.any a0_0 a0_1 a1 a2 N HD.out.1.2 (growAt_ a0_0 a0_1) (growAp a0_0 a0_1 a1 a2) HD.out.1.1 (fun x hx => by
        have := HD.out.2 x hx
        rw [Bool.and_eq_true] at this
        obtain ⟨q,hq⟩ := Option.isSome_iff_exists.mp this.1
        unfold growAt_
        rw [hq]
        rfl) (fun x y hx hy => by
        have := HD.out.2 x hx
        rw [Bool.and_eq_true,B.allN_iff] at this
        obtain ⟨q,hq⟩ := Option.isSome_iff_exists.mp (this.2 y hy)
        unfold growAp
        rw [hq]
        rfl) w.heap.size gs N 0 [] [] (.slice none 0 0) (.slice none 0 0) w' hw T44_ (Nat.le_refl _) (fun i hi => absurd hi (Nat.not_lt_zero _)) (Kd.R_nil _ _ _ _ _) (Kd.R_nil _ _ _ _ _) hb
      exact h⟩
     go_enter Try.func32,Try.ntmps32
     go_wp2_with (first | (go_at_call 69;refine (impl_isSplit.calls a0_0 a0_1 a1 true _ HT.out).mono ?_;rintro e w1 ⟨rfl,hd⟩;have HB := aZ_ (below_step KB.out hd);have K2 := aZ_ (blk_below K1.out hd);have hc0 : w1.cell? ⟨w.heap.size,0,none⟩ = some (.int .i64 a0_0) := (blk_cell K2.out 0).trans rfl;clear hd) | (go_at_call 55;refine (impl_isBit.calls a2 true _ HT2.out).mono ?_;rintro e w2 ⟨rfl,hd⟩;clear hc0;have HB2 := aZ_ (below_step HB.out hd.below);have K3 := aZ_ (blk_below K2.out hd.below);have hc0 : w2.cell? ⟨w.heap.size,0,none⟩ = some (.int .i64 a0_0) := (blk_cell K3.out 0).trans rfl;have hc1 : w2.cell? ⟨w.heap.size,1,none⟩ = some (.int .i64 a0_1) := (blk_cell K3.out 1).trans rfl;clear hd) | (go_at_call 75;refine (HGR.out _ _ (by have := HB2.out.size;simp;omega) (blk_new _ _)).mono ?_;rintro e w3 ⟨rfl,bv,hblk,hown,hgr⟩;obtain ⟨A4,c4,rfl,_,_⟩ := Kd.R_reads hown;have HO := aZ_ hown;have HB3 : Aside0 (Below w.heap.size w w3) := ⟨pw_below_grown (below_alloc HB2.out _) _ (by have := HB2.out.size;simp;omega) hgr (fun k hk => by cases hk;exact HB2.out.size)⟩;have hc4 : w3.cell? ⟨w2.heap.size,4,none⟩ = some _ := (blk_cell hblk 4).trans rfl;clear hblk hown hgr))
     go_ret2
     exact ⟨_,rfl,Kd.R_mono HO.out (fun _ _ => trivial),HB3.out⟩
    next => cases h
end Go.Proofs.Ythlajlhjofjmcaa.F
