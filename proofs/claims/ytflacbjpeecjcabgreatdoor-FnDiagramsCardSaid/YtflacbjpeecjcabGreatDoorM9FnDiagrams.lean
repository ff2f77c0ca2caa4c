/- Walks of Go functions and lemmas on what they compute, for the row of FnDiagrams (a part of several): each call ends as the Lean function of its name tells; the conditions are those of each theorem. -/
import Derived.Test.YtflacbjpeecjcabGreatDoorM8FnDiagrams
set_option linter.unusedVariables false
set_option linter.unusedSimpArgs false
set_option maxHeartbeats 16000000
set_option maxRecDepth 100000
open Go.RowKit Go.Proofs.YtflacbjpeecjcabGreatDoorW.PrintWords Go.Proofs.YtflacbjpeecjcabGreatDoorW.PrintLast Go.Proofs.YtflacbjpeecjcabGreatDoorW.PrintMore
namespace Go.Proofs.YtflacbjpeecjcabGreatDoor.F
attribute [local go_sem] max2_int min2_int max_two min_two max_three min_three max_four min_four 
theorem impl_IsDiagram_1.any (K:Nat) (o:List Int) (n0 n1 n2 p:Int) (A:Option Addr) (c g:Nat) (W:World) (hr:Kd.C (Kd.int .i64) W A o.length o) (hc:o.length ≤ c) (h1:W.heap[g]? = some (.cells #[.slice A o.length c] 26 (0,0))) (h:slices_Index_int_int.f K o n0 = some p) :
  Calls Tryz.prog 40 #[.agg #[.int .i64 n0,.int .i64 n1,.int .i64 n2],.pointer (some ⟨g,0,none⟩)] W fun e w'=>e = .returned (.int .i64 p) ∧ Below W.heap.size W w':=by
 have hu:=Tryz.underlying56;have HR:=aZ_ hr;have H:=aZ_ h;have HC:=aZ_ hc;clear hr h hc;have hd0:(W.alloc (.cells #[.int .i64 n0,.int .i64 n1,.int .i64 n2] 56 (0,0))).cell? ⟨W.heap.size,0,none⟩ = some (.int .i64 n0):=(blk_cell (blk_new _ _) 0).trans rfl;have hd1:(W.alloc (.cells #[.int .i64 n0,.int .i64 n1,.int .i64 n2] 56 (0,0))).cell? ⟨g,0,none⟩ = some (.slice A o.length c):=(blk_cell (blk_alloc h1 _) 0).trans rfl;go_enter Tryz.func40,Tryz.ntmps40
 go_wp2_with (go_at_call 41;refine (slices_Index_int_int.calls K A c o n0 p _ (Kd.C_alloc HR.out _) HC.out H.out).mono ?_;rintro e w' ⟨rfl,hb⟩;have HB:=aZ_ (hb.below);clear hb)
 go_ret;exact ⟨rfl,below_step (below_alloc (Below.refl _ _) _) HB.out⟩
def impl_IsDiagram.bad (K:Nat) (l:List S56) (o:List Int) (i p t:Int):Option Bool :=
 if t < -2 then some true else if i ≤ t then some true else if 0 ≤ t then (slices_Index_int_int.f K o (rd_T56 l t).f0).bind fun q=>some (decide (q ≤ p)) else some false
def impl_IsDiagram.first (K:Nat) (l:List S56) (i n0 n1 n2 p:Int):Option Bool :=
 if p < 0 then some true else if n1 = n2 then some true else (impl_Node.f K l n0 n1 n2).bind fun q=>some (q != i)
def impl_IsDiagram.ends (K:Nat) (l:List S56) (o:List Int) (i p:Int) (c:Option Bool):List Int → Option Bool
 | []=>c
 | t :: ts=>(impl_IsDiagram.bad K l o i p t).bind fun b=>if b = true then some false else impl_IsDiagram.ends K l o i p c ts
def impl_IsDiagram.one (K:Nat) (l:List S56) (o:List Int) (i n0 n1 n2:Int) (c:Option Bool):Option Bool :=
 (slices_Index_int_int.f K o n0).bind fun p=>(impl_IsDiagram.first K l i n0 n1 n2 p).bind fun b=>if b = true then some false else impl_IsDiagram.ends K l o i p c [n1,n2]
def impl_IsDiagram.l0 (K:Nat) (l:List S56) (o:List Int):Nat → Nat → Option Bool
 | 0,_=>some true
 | d + 1,i=>impl_IsDiagram.one K l o i (rd_T56 l i).f0 (rd_T56 l i).f1 (rd_T56 l i).f2 (impl_IsDiagram.l0 K l o d (i + 1))
def impl_IsDiagram.g (K:Nat) (l:List S56) (o:List Int):Option Bool :=
 if 5 < o.length then some false else (impl_isOrder.f K o o.length).bind fun t=>if t = true then (if l.length < 1 then some false else if 31 < l.length then some false else impl_IsDiagram.l0 K l o l.length 0) else some false
theorem impl_IsDiagram.no (K:Nat) (A0:Option Addr) (c0:Nat) (l:List S56) (A1:Option Addr) (c1:Nat) (o:List Int) (w:World) (hr1:Kd.C (Kd.int .i64) w A1 o.length o) (hc1:o.length ≤ c1) (hl0:l.length ≤ 9223372036854775807) (hl1:o.length ≤ 9223372036854775807)
  (h:5 < o.length ∨ (o.length ≤ 5 ∧ impl_isOrder.f K o o.length = some false) ∨ (o.length ≤ 5 ∧ impl_isOrder.f K o o.length = some true ∧ (l.length < 1 ∨ 31 < l.length))) :
  Calls Tryz.prog 12 #[.slice A0 l.length c0,.slice A1 o.length c1] w fun e w'=>e = .returned (.bool false) ∧ Below w.heap.size w w':=by
 have BK:=blk_new w (.cells #[.slice A1 o.length c1] 26 (0,0));have HB:=aZ_ (below_alloc (Below.refl w.heap.size w) (.cells #[.slice A1 o.length c1] 26 (0,0)));have hd1:(w.alloc (.cells #[.slice A1 o.length c1] 26 (0,0))).cell? ⟨w.heap.size,0,none⟩ = some (.slice A1 o.length c1):=(blk_cell BK 0).trans rfl;have HR:=aZ_ hr1;have HC:=aZ_ hc1;clear hr1 hc1;rcases h with h5 | ⟨h5,h6⟩ | ⟨h5,h6,h7⟩
 ·have d1:decide ((5:Int) < (o.length:Int)) = true:=decide_eq_true T73_
  have d2:decide (5 < o.length) = true:=decide_eq_true h5;go_enter Tryz.func12,Tryz.ntmps12;go_wp2;go_ret;exact ⟨rfl,HB.out⟩
 ·have d1:decide ((5:Int) < (o.length:Int)) = false:=decide_eq_false T73_
  have d2:decide (5 < o.length) = false:=decide_eq_false T73_;have H6:=aZ_ h6;clear h6;go_enter Tryz.func12,Tryz.ntmps12
  go_wp2_with (go_at_call 33;refine (impl_isOrder.calls K A1 c1 o o.length false _ (Kd.C_alloc HR.out _) HC.out H6.out).mono ?_;rintro e w' ⟨rfl,hb⟩;have HB':=aZ_ (below_step HB.out hb.below);clear hb)
  go_ret;exact ⟨rfl,HB'.out⟩
 ·have d1:decide ((5:Int) < (o.length:Int)) = false:=decide_eq_false T73_
  have d2:decide (5 < o.length) = false:=decide_eq_false T73_;have H6:=aZ_ h6;clear h6
  by_cases h8:l.length < 1
  ·have e1:decide ((l.length:Int) < 1) = true:=decide_eq_true T73_
   have e2:decide (l.length < 1) = true:=decide_eq_true h8;have e3:decide (l.length = 0) = true:=decide_eq_true T73_;go_enter Tryz.func12,Tryz.ntmps12
   go_wp2_with (go_at_call 33;refine (impl_isOrder.calls K A1 c1 o o.length true _ (Kd.C_alloc HR.out _) HC.out H6.out).mono ?_;rintro e w' ⟨rfl,hb⟩;have HB':=aZ_ (below_step HB.out hb.below);clear hb)
   go_ret;exact ⟨rfl,HB'.out⟩
  ·have h9:31 < l.length:=by omega
   have e1:decide ((l.length:Int) < 1) = false:=decide_eq_false T73_;have e2:decide (l.length < 1) = false:=decide_eq_false h8;have e3:decide (l.length = 0) = false:=decide_eq_false T73_;have e4:decide ((31:Int) < (l.length:Int)) = true:=decide_eq_true T73_;have e5:decide (31 < l.length) = true:=decide_eq_true h9;go_enter Tryz.func12,Tryz.ntmps12
   go_wp2_with (go_at_call 33;refine (impl_isOrder.calls K A1 c1 o o.length true _ (Kd.C_alloc HR.out _) HC.out H6.out).mono ?_;rintro e w' ⟨rfl,hb⟩;have HB':=aZ_ (below_step HB.out hb.below);clear hb)
   go_ret;exact ⟨rfl,HB'.out⟩
theorem impl_IsDiagram.yes (KN:Nat) (A0:Option Addr) (c0:Nat) (l:List S56) (A1:Option Addr) (c1:Nat) (o:List Int) (r:Bool) (w:World) (hr0:Kd.C k56 w A0 l.length l) (hc0:l.length ≤ c0) (hr1:Kd.C (Kd.int .i64) w A1 o.length o) (hc1:o.length ≤ c1)
  (h5:o.length ≤ 5) (h6:impl_isOrder.f KN o o.length = some true) (h7:1 ≤ l.length) (h8:l.length ≤ 31) (h:impl_IsDiagram.l0 KN l o l.length 0 = some r) :
  Calls Tryz.prog 12 #[.slice A0 l.length c0,.slice A1 o.length c1] w fun e w'=>e = .returned (.bool r) ∧ Below w.heap.size w w':=by
 have hu:=Tryz.underlying56;have BK:=blk_new w (.cells #[.slice A1 o.length c1] 26 (0,0));have HB:=aZ_ (below_alloc (Below.refl w.heap.size w) (.cells #[.slice A1 o.length c1] 26 (0,0)));have hd1:(w.alloc (.cells #[.slice A1 o.length c1] 26 (0,0))).cell? ⟨w.heap.size,0,none⟩ = some (.slice A1 o.length c1):=(blk_cell BK 0).trans rfl;have HR:=aZ_ hr1;have HC:=aZ_ hc1;have HR0:=aZ_ hr0;have HC0:=aZ_ hc0;have H6:=aZ_ h6;have HBK:=aZ_ BK;have H0:=aZ_ h;clear hr1 hc1 hr0 hc0 h6 BK h;obtain ⟨M,hM⟩:∃ M:Nat,M = l.length:=⟨_,rfl⟩;obtain ⟨O,hO⟩:∃ O:Nat,O = o.length:=⟨_,rfl⟩;have eg:=enters_of Tryz.func40 T22_ rfl;have EG:=aZ_ eg;clear eg;have d1:decide ((5:Int) < (o.length:Int)) = false:=decide_eq_false T73_;have d2:decide (5 < o.length) = false:=decide_eq_false T73_;have e1:decide ((l.length:Int) < 1) = false:=decide_eq_false T73_;have e2:decide (l.length < 1) = false:=decide_eq_false T73_;have e3:decide (l.length = 0) = false:=decide_eq_false T73_;have e4:decide ((31:Int) < (l.length:Int)) = false:=decide_eq_false T73_;have e5:decide (31 < l.length) = false:=decide_eq_false T73_;go_enter Tryz.func12,Tryz.ntmps12
 go_wp2_with (go_at_call 33;refine (impl_isOrder.calls KN A1 c1 o o.length true _ (Kd.C_alloc HR.out _) HC.out H6.out).mono ?_;rintro e w1 ⟨rfl,hb⟩;have BK1:=aZ_ (blk_below HBK.out hb.below);have HB1:=aZ_ (below_step HB.out hb.below);clear hb)
 clear d1 d2 e1 e2 e3 e4 e5 hd1
 go_loopg [33] l.length (fun gg v33 wr=>∃ x d:Nat,x + d = l.length ∧ d ≤ gg ∧ v33 = .int .i64 x ∧ Aside0 (impl_IsDiagram.l0 KN l o d x = some r) ∧ Aside0 (wr.heap[w.heap.size]? = some (.cells #[.slice A1 o.length c1] 26 (0,0))) ∧ Aside0 (Below w.heap.size w wr))
 case atStart=>exact ⟨0,l.length,by omega,by omega,rfl,H0,BK1,HB1⟩
 case round =>
  clear H0 BK1 HB1 HB HBK;obtain ⟨x,d,hx,hg,rfl,H0,BK,HB⟩:=hrel
  cases d with
  | zero =>
   have hltz:¬ (x:Int) < (l.length:Int):=by omega
   obtain rfl:=Option.some.inj H0.out;go_wp2;go_ret;exact ⟨rfl,HB.out⟩
  | succ d =>
   have hltz:(x:Int) < (l.length:Int):=by omega
   have h0z:(0:Int) ≤ (x:Int):=by omega
   have H1:=H0.out;rw [impl_IsDiagram.l0,impl_IsDiagram.one] at H1;obtain ⟨p,hp,H2⟩:=Option.bind_eq_some_iff.mp H1;obtain ⟨b,hbb,H3⟩:=Option.bind_eq_some_iff.mp H2;have HP:=aZ_ hp;have HBB:=aZ_ hbb;have H4:=aZ_ H3;clear H0 H1 H2 H3 hp hbb;obtain ⟨ad,eA,q0,q1,q2⟩:=at_T56 HR0.out (x:Int) h0z hltz;replace q0:=(HB.out.cell (World.block_lt_of_cell? w _ q0)).trans q0;replace q1:=(HB.out.cell (World.block_lt_of_cell? w _ q1)).trans q1;replace q2:=(HB.out.cell (World.block_lt_of_cell? w _ q2)).trans q2;rw [Int.toNat_natCast] at q0 q1 q2
   cases eA
   generalize (rd_T56 l (x:Int)).f0 = n0 at HP HBB H4 q0;generalize (rd_T56 l (x:Int)).f1 = n1 at HP HBB H4 q1;generalize (rd_T56 l (x:Int)).f2 = n2 at HP HBB H4 q2;have GS:w.heap.size ≤ wr.heap.size:=below_size HB.out;have HBn:=aZ_ (below_alloc HB.out (.cells #[.int .i64 n0,.int .i64 n1,.int .i64 n2] 56 (0,0)));have BKn:=aZ_ (blk_alloc BK.out (.cells #[.int .i64 n0,.int .i64 n1,.int .i64 n2] 56 (0,0)));have BNn:=aZ_ (blk_new wr (.cells #[.int .i64 n0,.int .i64 n1,.int .i64 n2] 56 (0,0)));have hz0:(wr.alloc (.cells #[.int .i64 n0,.int .i64 n1,.int .i64 n2] 56 (0,0))).cell? ⟨wr.heap.size,0,none⟩ = some (.int .i64 n0):=(blk_cell BNn.out 0).trans rfl;have hz1:(wr.alloc (.cells #[.int .i64 n0,.int .i64 n1,.int .i64 n2] 56 (0,0))).cell? ⟨wr.heap.size,1,none⟩ = some (.int .i64 n1):=(blk_cell BNn.out 1).trans rfl;have hz2:(wr.alloc (.cells #[.int .i64 n0,.int .i64 n1,.int .i64 n2] 56 (0,0))).cell? ⟨wr.heap.size,2,none⟩ = some (.int .i64 n2):=(blk_cell BNn.out 2).trans rfl
   go_upto_region 7 with (fail)
   clear q0 q1 q2;have H5:=HBB.out;unfold impl_IsDiagram.first at H5
   by_cases f1:p < 0
   ·rw [if_pos f1] at H5
    obtain rfl:=Option.some.inj H5;have H6:=H4.out;rw [if_pos rfl] at H6;obtain rfl:=Option.some.inj H6;have f2:decide (p < 0) = true:=decide_eq_true f1;clear H4 HBB
    go_wp2_with (with_reducible refine (impl_IsDiagram_1.any KN o n0 n1 n2 p A1 c1 w.heap.size _ (Kd.C_below HR.out HBn.out) HC.out BKn.out HP.out).mono ?_;rintro e w2 ⟨rfl,hb⟩;have BK2:=aZ_ (blk_below BKn.out hb);have BN2:=aZ_ (blk_below BNn.out hb);have HB2:=aZ_ (below_step HBn.out hb);clear hb hz0 hz1 hz2;have hy0:w2.cell? ⟨wr.heap.size,0,none⟩ = some (.int .i64 n0):=(blk_cell BN2.out 0).trans rfl;have hy1:w2.cell? ⟨wr.heap.size,1,none⟩ = some (.int .i64 n1):=(blk_cell BN2.out 1).trans rfl;have hy2:w2.cell? ⟨wr.heap.size,2,none⟩ = some (.int .i64 n2):=(blk_cell BN2.out 2).trans rfl)
    go_ret;exact ⟨rfl,HB2.out⟩
   ·rw [if_neg f1] at H5
    have f2:decide (p < 0) = false:=decide_eq_false f1
    by_cases f3:n1 = n2
    ·rw [if_pos f3] at H5
     obtain rfl:=Option.some.inj H5;have H6:=H4.out;rw [if_pos rfl] at H6;obtain rfl:=Option.some.inj H6;subst f3;clear H4 HBB
     go_wp2_with (with_reducible refine (impl_IsDiagram_1.any KN o n0 n1 n1 p A1 c1 w.heap.size _ (Kd.C_below HR.out HBn.out) HC.out BKn.out HP.out).mono ?_;rintro e w2 ⟨rfl,hb⟩;have BK2:=aZ_ (blk_below BKn.out hb);have BN2:=aZ_ (blk_below BNn.out hb);have HB2:=aZ_ (below_step HBn.out hb);clear hb hz0 hz1 hz2;have hy0:w2.cell? ⟨wr.heap.size,0,none⟩ = some (.int .i64 n0):=(blk_cell BN2.out 0).trans rfl;have hy1:w2.cell? ⟨wr.heap.size,1,none⟩ = some (.int .i64 n1):=(blk_cell BN2.out 1).trans rfl;have hy2:w2.cell? ⟨wr.heap.size,2,none⟩ = some (.int .i64 n1):=(blk_cell BN2.out 2).trans rfl)
     go_ret;exact ⟨rfl,HB2.out⟩
    ·rw [if_neg f3] at H5
     obtain ⟨q,hq,H7⟩:=Option.bind_eq_some_iff.mp H5;obtain rfl:=Option.some.inj H7;have HQ:=aZ_ hq;have f4:decide (n1 = n2) = false:=decide_eq_false f3;have f5:(n1 == n2) = false:=beq_eq_false_iff_ne.mpr f3;clear H5 H7 hq HBB
     by_cases f6:q = (x:Int)
     ·subst f6
      have H6:=H4.out;rw [if_neg T64_] at H6;have H8:=aZ_ H6;clear H4 H6
      go_upto_region 9 with (first | (with_reducible refine (impl_IsDiagram_1.any KN o n0 n1 n2 p A1 c1 w.heap.size _ (Kd.C_below HR.out HBn.out) HC.out BKn.out HP.out).mono ?_;rintro e w2 ⟨rfl,hb⟩;have BK2:=aZ_ (blk_below BKn.out hb);have BN2:=aZ_ (blk_below BNn.out hb);have HB2:=aZ_ (below_step HBn.out hb);clear hb hz0 hz1 hz2;have hy0:w2.cell? ⟨wr.heap.size,0,none⟩ = some (.int .i64 n0):=(blk_cell BN2.out 0).trans rfl;have hy1:w2.cell? ⟨wr.heap.size,1,none⟩ = some (.int .i64 n1):=(blk_cell BN2.out 1).trans rfl;have hy2:w2.cell? ⟨wr.heap.size,2,none⟩ = some (.int .i64 n2):=(blk_cell BN2.out 2).trans rfl) | (go_at_call 42;refine (impl_Node.calls KN _ c0 l n0 n1 n2 _ _ (Kd.C_below HR0.out HB2.out) HC0.out HQ.out).mono ?_;rintro e w3 ⟨rfl,hb⟩;have BK3:=aZ_ (blk_below BK2.out hb);have BN3:=aZ_ (blk_below BN2.out hb);have HB3:=aZ_ (below_step HB2.out hb);clear hb hy0 hy1 hy2;have hx0:w3.cell? ⟨wr.heap.size,0,none⟩ = some (.int .i64 n0):=(blk_cell BN3.out 0).trans rfl;have hx1:w3.cell? ⟨wr.heap.size,1,none⟩ = some (.int .i64 n1):=(blk_cell BN3.out 1).trans rfl;have hx2:w3.cell? ⟨wr.heap.size,2,none⟩ = some (.int .i64 n2):=(blk_cell BN3.out 2).trans rfl))
      go_wp2;have BK4:=aZ_ (blk_alloc BK3.out (.cells #[.int .i64 n1,.int .i64 n2] 3 (0,0)));have BN4:=aZ_ (blk_alloc BN3.out (.cells #[.int .i64 n1,.int .i64 n2] 3 (0,0)));have BE4:=aZ_ (blk_new w3 (.cells #[.int .i64 n1,.int .i64 n2] 3 (0,0)));have HB4:=aZ_ (below_alloc HB3.out (.cells #[.int .i64 n1,.int .i64 n2] 3 (0,0)));clear hx0 hx1 hx2 BK2 BN2 HB2 BK3 BN3 HB3 BKn HBn BNn BK HB HQ f2 f4 f5;generalize wr.heap.size = Gn at BN4 ⊢;generalize w3.heap.size = Ge at BE4 ⊢
      go_loopg [62] 2 (fun gi v62 ws=>∃ y:Int,(y = 0 ∨ y = 1 ∨ y = 2) ∧ 2 - y.toNat ≤ gi ∧ v62 = .int .i64 y ∧ Aside0 (impl_IsDiagram.ends KN l o x p (impl_IsDiagram.l0 KN l o d (x + 1)) (([n1,n2]:List Int).drop y.toNat) = some r) ∧ Aside0 (ws.heap[w.heap.size]? = some (.cells #[.slice A1 o.length c1] 26 (0,0))) ∧ Aside0 (ws.heap[Gn]? = some (.cells #[.int .i64 n0,.int .i64 n1,.int .i64 n2] 56 (0,0))) ∧ Aside0 (ws.heap[Ge]? = some (.cells #[.int .i64 n1,.int .i64 n2] 3 (0,0))) ∧ Aside0 (Below w.heap.size w ws))
      case atStart=>exact ⟨0,by omega,by decide,rfl,H8,BK4,BN4,BE4,HB4⟩
      case round =>
       clear H8 BK4 BN4 BE4 HB4;obtain ⟨y,hy,hgi,rfl,HE,BK,BN,BE,HB⟩:=hrel;rcases hy with rfl | rfl | rfl
       ·replace hgi:2 ≤ _:=hgi
        have hE0:wr.cell? ⟨Ge,0,none⟩ = some (.int .i64 n1):=(blk_cell BE.out 0).trans rfl;have H1:(impl_IsDiagram.bad KN l o x p n1).bind (fun b=>if b = true then some false else impl_IsDiagram.ends KN l o x p (impl_IsDiagram.l0 KN l o d (x + 1)) [n2]) = some r:=HE.out;obtain ⟨b,hb,H2⟩:=Option.bind_eq_some_iff.mp H1;clear HE H1;unfold impl_IsDiagram.bad at hb
        by_cases g1:n1 < -2
        ·rw [if_pos g1] at hb
         obtain rfl:=Option.some.inj hb;rw [if_pos rfl] at H2;obtain rfl:=Option.some.inj H2;have g2:decide (n1 < -2) = true:=decide_eq_true g1;go_wp2
         repeat (go_quiet (fail);try go_wp2)
         go_ret;exact ⟨rfl,T2_⟩
        ·rw [if_neg g1] at hb
         have g2:decide (n1 < -2) = false:=decide_eq_false g1
         by_cases g3:(x:Int) ≤ n1
         ·rw [if_pos g3] at hb
          obtain rfl:=Option.some.inj hb;rw [if_pos rfl] at H2;obtain rfl:=Option.some.inj H2;have g4:decide ((x:Int) ≤ n1) = true:=decide_eq_true g3;go_wp2
          repeat (go_quiet (fail);try go_wp2)
          go_ret;exact ⟨rfl,T2_⟩
         ·rw [if_neg g3] at hb
          have g4:decide ((x:Int) ≤ n1) = false:=decide_eq_false g3
          by_cases g5:0 ≤ n1
          ·rw [if_pos g5] at hb
           have g6:decide (0 ≤ n1) = true:=decide_eq_true g5;obtain ⟨q,hq,hb⟩:=Option.bind_eq_some_iff.mp hb;obtain rfl:=Option.some.inj hb;obtain ⟨tn,rfl⟩:=Int.eq_ofNat_of_zero_le g5;have g4n:decide (x ≤ tn) = false:=decide_eq_false T73_;have hz9:(tn:Int) < (l.length:Int):=by omega
           obtain ⟨ad',eA,C0,C1,C2⟩:=at_T56 HR0.out (tn:Int) g5 hz9
           cases eA
           rw [Int.toNat_natCast] at C0 C1 C2;have C0:=aZ_ ((HB.out.cell (World.block_lt_of_cell? w _ C0)).trans C0);have C1:=aZ_ ((HB.out.cell (World.block_lt_of_cell? w _ C1)).trans C1);have C2:=aZ_ ((HB.out.cell (World.block_lt_of_cell? w _ C2)).trans C2);generalize (rd_T56 l (tn:Int)).f0 = m0 at C0 hq;generalize (rd_T56 l (tn:Int)).f1 = m1 at C1;generalize (rd_T56 l (tn:Int)).f2 = m2 at C2;have HQ2:=aZ_ hq;clear hq hb;have C3:Aside0 (wr.cell? ⟨Gn,0,none⟩ = some (.int .i64 n0)):=⟨(blk_cell BN.out 0).trans rfl⟩;have C4:Aside0 (wr.cell? ⟨Gn,1,none⟩ = some (.int .i64 (tn:Int))):=⟨(blk_cell BN.out 1).trans rfl⟩;have C5:Aside0 (wr.cell? ⟨Gn,2,none⟩ = some (.int .i64 n2)):=⟨(blk_cell BN.out 2).trans rfl⟩;go_wp2;replace C0:Aside0 (wr.drew.cell? (ad.add (tn * 3)) = some (.int .i64 m0)):=C0;replace C1:Aside0 (wr.drew.cell? ⟨(ad.add (tn * 3)).block,(ad.add (tn * 3)).off + 1,none⟩ = some (.int .i64 m1)):=C1;replace C2:Aside0 (wr.drew.cell? ⟨(ad.add (tn * 3)).block,(ad.add (tn * 3)).off + 2,none⟩ = some (.int .i64 m2)):=C2;replace C3:Aside0 (wr.drew.cell? ⟨Gn,0,none⟩ = some (.int .i64 n0)):=C3;replace C4:Aside0 (wr.drew.cell? ⟨Gn,1,none⟩ = some (.int .i64 (tn:Int))):=C4;replace C5:Aside0 (wr.drew.cell? ⟨Gn,2,none⟩ = some (.int .i64 n2)):=C5;replace HB:=aZ_ (below_drew1 HB.out);replace BK:=aZ_ (blk_drew BK.out);replace BN:=aZ_ (blk_drew BN.out);replace BE:=aZ_ (blk_drew BE.out);refine start_ (n:=23) (S:=(fun w_=>w_.cell? (ad.add (tn * 3)) = some (.int .i64 m0) ∧ w_.cell? ⟨(ad.add (tn * 3)).block,(ad.add (tn * 3)).off + 1,none⟩ = some (.int .i64 m1) ∧ w_.cell? ⟨(ad.add (tn * 3)).block,(ad.add (tn * 3)).off + 2,none⟩ = some (.int .i64 m2) ∧ w_.cell? ⟨Gn,0,none⟩ = some (.int .i64 n0) ∧ w_.cell? ⟨Gn,1,none⟩ = some (.int .i64 (tn:Int)) ∧ w_.cell? ⟨Gn,2,none⟩ = some (.int .i64 n2))) (ds:=[]) (bA 23 0) T22_ rfl rfl ⟨C0.out,C1.out,C2.out,C3.out,C4.out,C5.out⟩ (fun hHeld=>?_);generalize wr.drew = W0_ at C0 C1 C2 C3 C4 C5 HB BK BN BE hHeld ⊢;refine pZ_ 0 (some 66) (bA 23 1) ?_;refine pure_ (i:=1) (N:=some 67) (v:=?_) (a':=?_) (bA 23 3) rfl rfl T22_ (fun _ _ _ h=>h) (Or.inl ⟨by rfl,?_⟩) ?_ ?_;rotate_left
           ·intro w'
            go_simp
            first | rw [g2] | skip
            with_reducible rfl
           rotate_left
           ·simp only [Act.put,List.setIfInBounds_toArray,List.set_cons_zero,List.set_cons_succ,i64_w,i32_w]
            rfl
           refine pZ_ 2 (some 68) (bA 23 7) ?_;refine pZ_ 3 (some 69) (bA 23 15) ?_;refine pZ_ 4 (some 70) (bA 23 31) ?_;refine pure_ (i:=5) (N:=some 71) (v:=?_) (a':=?_) (bA 23 63) rfl rfl T22_ (fun _ _ _ h=>h) (Or.inl ⟨by rfl,?_⟩) ?_ ?_;rotate_left
           ·intro w'
            go_simp
            first | rw [g4] | rw [g4n] | skip
            with_reducible rfl
           rotate_left
           ·simp only [Act.put,List.setIfInBounds_toArray,List.set_cons_zero,List.set_cons_succ,i64_w,i32_w]
            rfl
           refine pZ_ 6 (some 72) (bA 23 127) ?_;refine pZ_ 7 (some 73) (bA 23 255) ?_;refine pZ_ 8 (some 74) (bA 23 511) ?_;refine pure_ (i:=9) (N:=some 75) (v:=?_) (a':=?_) (bA 23 1023) rfl rfl T22_ (fun _ _ _ h=>h) (Or.inl ⟨by rfl,?_⟩) ?_ ?_;rotate_left
           ·intro w'
            go_simp
            first | done | rw [g6] | skip
            with_reducible rfl
           rotate_left
           ·simp only [Act.put,List.setIfInBounds_toArray,List.set_cons_zero,List.set_cons_succ,i64_w,i32_w]
            rfl
           refine pZ_ 10 (some 76) (bA 23 2047) ?_;refine pZ_ 11 (some 77) (bA 23 4095) ?_;refine pZ_ 12 (some 78) (bA 23 8191) ?_;refine pZ_ 13 (some 79) (bA 23 16383) ?_;refine pZ_ 14 (some 80) (bA 23 32767) ?_;refine tZ6_ 15 (some 81) (bA 23 65535) hHeld ?_;refine pZ_ 17 (some 83) (bA 23 196607) ?_;refine tZ6_ 18 (some 84) (bA 23 458751) hHeld ?_;refine one_ (i:=16) (N:=some 82) (bA 23 524287) rfl rfl T22_ T55_ (fun K hK=>?_);refine call_ 40 #[.agg #[.int .i64 m0,.int .i64 m1,.int .i64 m2],.pointer (some ⟨w.heap.size,0,none⟩)] (by rfl) rfl T81_ ?_;with_reducible refine (impl_IsDiagram_1.any KN o m0 m1 m2 q A1 c1 w.heap.size _ (Kd.C_below HR.out HB.out) HC.out BK.out HQ2.out).mono ?_
           rintro e W1_ ⟨rfl,hb⟩;refine ⟨_,rfl,?_⟩;replace C0:Aside0 (W1_.cell? (ad.add (tn * 3)) = some (.int .i64 m0)):=⟨pw_cell_below hb C0.out⟩;replace C1:Aside0 (W1_.cell? ⟨(ad.add (tn * 3)).block,(ad.add (tn * 3)).off + 1,none⟩ = some (.int .i64 m1)):=⟨pw_cell_below hb C1.out⟩;replace C2:Aside0 (W1_.cell? ⟨(ad.add (tn * 3)).block,(ad.add (tn * 3)).off + 2,none⟩ = some (.int .i64 m2)):=⟨pw_cell_below hb C2.out⟩;replace C3:Aside0 (W1_.cell? ⟨Gn,0,none⟩ = some (.int .i64 n0)):=⟨pw_cell_below hb C3.out⟩;replace C4:Aside0 (W1_.cell? ⟨Gn,1,none⟩ = some (.int .i64 (tn:Int))):=⟨pw_cell_below hb C4.out⟩;replace C5:Aside0 (W1_.cell? ⟨Gn,2,none⟩ = some (.int .i64 n2)):=⟨pw_cell_below hb C5.out⟩;replace BK:=aZ_ (blk_below BK.out hb);replace BN:=aZ_ (blk_below BN.out hb);replace BE:=aZ_ (blk_below BE.out hb);replace HB:=aZ_ (below_step HB.out hb);clear hb;refine hK.out _ _ ⟨C0.out,C1.out,C2.out,C3.out,C4.out,C5.out⟩ (fun hHeld=>?_);clear hK K;refine nZ_ (some 82) ?_;refine one_ (i:=19) (N:=some 85) (bA 23 1048575) rfl rfl T22_ T55_ (fun K hK=>?_);refine call_ 40 #[.agg #[.int .i64 n0,.int .i64 (tn:Int),.int .i64 n2],.pointer (some ⟨w.heap.size,0,none⟩)] (by rfl) rfl (by have he_:=enters_ Tryz.func40 T22_ rfl #[.agg #[.int .i64 n0,.int .i64 (tn:Int),.int .i64 n2],.pointer (some ⟨w.heap.size,0,none⟩)] W1_;unfold execOp;first | (simp [resolve,Deferred.ofValue,invoke,Act.eval];done) | (simp [resolve,Deferred.ofValue,invoke,Act.eval,he_];done)) ?_;with_reducible refine (impl_IsDiagram_1.any KN o n0 (tn:Int) n2 p A1 c1 w.heap.size _ (Kd.C_below HR.out HB.out) HC.out BK.out HP.out).mono ?_
           rintro e W2_ ⟨rfl,hb⟩;refine ⟨_,rfl,?_⟩;replace C0:Aside0 (W2_.cell? (ad.add (tn * 3)) = some (.int .i64 m0)):=⟨pw_cell_below hb C0.out⟩;replace C1:Aside0 (W2_.cell? ⟨(ad.add (tn * 3)).block,(ad.add (tn * 3)).off + 1,none⟩ = some (.int .i64 m1)):=⟨pw_cell_below hb C1.out⟩;replace C2:Aside0 (W2_.cell? ⟨(ad.add (tn * 3)).block,(ad.add (tn * 3)).off + 2,none⟩ = some (.int .i64 m2)):=⟨pw_cell_below hb C2.out⟩;replace C3:Aside0 (W2_.cell? ⟨Gn,0,none⟩ = some (.int .i64 n0)):=⟨pw_cell_below hb C3.out⟩;replace C4:Aside0 (W2_.cell? ⟨Gn,1,none⟩ = some (.int .i64 (tn:Int))):=⟨pw_cell_below hb C4.out⟩;replace C5:Aside0 (W2_.cell? ⟨Gn,2,none⟩ = some (.int .i64 n2)):=⟨pw_cell_below hb C5.out⟩;replace BK:=aZ_ (blk_below BK.out hb);replace BN:=aZ_ (blk_below BN.out hb);replace BE:=aZ_ (blk_below BE.out hb);replace HB:=aZ_ (below_step HB.out hb);clear hb;refine hK.out _ _ ⟨C0.out,C1.out,C2.out,C3.out,C4.out,C5.out⟩ (fun hHeld=>?_);clear hK K;refine nZ_ (some 85) ?_;refine pZ_ 20 (some 86) (bA 23 2097151) ?_;refine pZ_ 21 (some 87) (bA 23 4194303) ?_;refine pZ_ 22 (some 88) (bA 23 8388607) ?_;refine done_ T22_ ?_
           by_cases g7:q ≤ p
           ·have g8:decide (q ≤ p) = true:=decide_eq_true g7
            rw [g8] at H2;rw [if_pos rfl] at H2;obtain rfl:=Option.some.inj H2;go_wp2;go_ret;exact ⟨rfl,T2_⟩
           ·have g8:decide (q ≤ p) = false:=decide_eq_false g7
            rw [g8] at H2;have H3:=H2;rw [if_neg T55_] at H3;have HN:=aZ_ H3;clear H2 H3;go_wp2
            go_roundg (2 - (0 + 1))
            case measure=>omega
            case rel=>exact ⟨1,by omega,by decide,by first | rfl | (simp;done),HN,⟨BK.out⟩,⟨BN.out⟩,⟨BE.out⟩,⟨T2_⟩⟩
          ·rw [if_neg g5] at hb
           obtain rfl:=Option.some.inj hb;have g6:decide (0 ≤ n1) = false:=decide_eq_false g5;have H3:=H2;rw [if_neg T55_] at H3;have HN:=aZ_ H3;clear H2 H3;go_wp2
           repeat (go_quiet (fail);try go_wp2)
           go_roundg (2 - (0 + 1))
           case measure=>omega
           case rel=>exact ⟨1,by omega,by decide,by first | rfl | (simp;done),HN,⟨(by repeat (first | exact BK.out | (with_reducible refine blk_drew ?_) | (with_reducible refine blk_drewN ?_)))⟩,⟨(by repeat (first | exact BN.out | (with_reducible refine blk_drew ?_) | (with_reducible refine blk_drewN ?_)))⟩,⟨(by repeat (first | exact BE.out | (with_reducible refine blk_drew ?_) | (with_reducible refine blk_drewN ?_)))⟩,⟨T2_⟩⟩

       ·replace hgi:1 ≤ _:=hgi
        have hE0:wr.cell? ⟨Ge,1,none⟩ = some (.int .i64 n2):=(blk_cell BE.out 1).trans rfl;have H1:(impl_IsDiagram.bad KN l o x p n2).bind (fun b=>if b = true then some false else impl_IsDiagram.ends KN l o x p (impl_IsDiagram.l0 KN l o d (x + 1)) []) = some r:=HE.out;obtain ⟨b,hb,H2⟩:=Option.bind_eq_some_iff.mp H1;clear HE H1;unfold impl_IsDiagram.bad at hb
        by_cases g1:n2 < -2
        ·rw [if_pos g1] at hb
         obtain rfl:=Option.some.inj hb;rw [if_pos rfl] at H2;obtain rfl:=Option.some.inj H2;have g2:decide (n2 < -2) = true:=decide_eq_true g1;go_wp2
         repeat (go_quiet (fail);try go_wp2)
         go_ret;exact ⟨rfl,T2_⟩
        ·rw [if_neg g1] at hb
         have g2:decide (n2 < -2) = false:=decide_eq_false g1
         by_cases g3:(x:Int) ≤ n2
         ·rw [if_pos g3] at hb
          obtain rfl:=Option.some.inj hb;rw [if_pos rfl] at H2;obtain rfl:=Option.some.inj H2;have g4:decide ((x:Int) ≤ n2) = true:=decide_eq_true g3;go_wp2
          repeat (go_quiet (fail);try go_wp2)
          go_ret;exact ⟨rfl,T2_⟩
         ·rw [if_neg g3] at hb
          have g4:decide ((x:Int) ≤ n2) = false:=decide_eq_false g3
          by_cases g5:0 ≤ n2
          ·rw [if_pos g5] at hb
           have g6:decide (0 ≤ n2) = true:=decide_eq_true g5;obtain ⟨q,hq,hb⟩:=Option.bind_eq_some_iff.mp hb;obtain rfl:=Option.some.inj hb;obtain ⟨tn,rfl⟩:=Int.eq_ofNat_of_zero_le g5;have g4n:decide (x ≤ tn) = false:=decide_eq_false T73_;have hz9:(tn:Int) < (l.length:Int):=by omega
           obtain ⟨ad',eA,C0,C1,C2⟩:=at_T56 HR0.out (tn:Int) g5 hz9
           cases eA
           rw [Int.toNat_natCast] at C0 C1 C2;have C0:=aZ_ ((HB.out.cell (World.block_lt_of_cell? w _ C0)).trans C0);have C1:=aZ_ ((HB.out.cell (World.block_lt_of_cell? w _ C1)).trans C1);have C2:=aZ_ ((HB.out.cell (World.block_lt_of_cell? w _ C2)).trans C2);generalize (rd_T56 l (tn:Int)).f0 = m0 at C0 hq;generalize (rd_T56 l (tn:Int)).f1 = m1 at C1;generalize (rd_T56 l (tn:Int)).f2 = m2 at C2;have HQ2:=aZ_ hq;clear hq hb;have C3:Aside0 (wr.cell? ⟨Gn,0,none⟩ = some (.int .i64 n0)):=⟨(blk_cell BN.out 0).trans rfl⟩;have C4:Aside0 (wr.cell? ⟨Gn,1,none⟩ = some (.int .i64 n1)):=⟨(blk_cell BN.out 1).trans rfl⟩;have C5:Aside0 (wr.cell? ⟨Gn,2,none⟩ = some (.int .i64 (tn:Int))):=⟨(blk_cell BN.out 2).trans rfl⟩;go_wp2;replace C0:Aside0 (wr.drew.cell? (ad.add (tn * 3)) = some (.int .i64 m0)):=C0;replace C1:Aside0 (wr.drew.cell? ⟨(ad.add (tn * 3)).block,(ad.add (tn * 3)).off + 1,none⟩ = some (.int .i64 m1)):=C1;replace C2:Aside0 (wr.drew.cell? ⟨(ad.add (tn * 3)).block,(ad.add (tn * 3)).off + 2,none⟩ = some (.int .i64 m2)):=C2;replace C3:Aside0 (wr.drew.cell? ⟨Gn,0,none⟩ = some (.int .i64 n0)):=C3;replace C4:Aside0 (wr.drew.cell? ⟨Gn,1,none⟩ = some (.int .i64 n1)):=C4;replace C5:Aside0 (wr.drew.cell? ⟨Gn,2,none⟩ = some (.int .i64 (tn:Int))):=C5;replace HB:=aZ_ (below_drew1 HB.out);replace BK:=aZ_ (blk_drew BK.out);replace BN:=aZ_ (blk_drew BN.out);replace BE:=aZ_ (blk_drew BE.out);refine start_ (n:=23) (S:=(fun w_=>w_.cell? (ad.add (tn * 3)) = some (.int .i64 m0) ∧ w_.cell? ⟨(ad.add (tn * 3)).block,(ad.add (tn * 3)).off + 1,none⟩ = some (.int .i64 m1) ∧ w_.cell? ⟨(ad.add (tn * 3)).block,(ad.add (tn * 3)).off + 2,none⟩ = some (.int .i64 m2) ∧ w_.cell? ⟨Gn,0,none⟩ = some (.int .i64 n0) ∧ w_.cell? ⟨Gn,1,none⟩ = some (.int .i64 n1) ∧ w_.cell? ⟨Gn,2,none⟩ = some (.int .i64 (tn:Int)))) (ds:=[]) (bA 23 0) T22_ rfl rfl ⟨C0.out,C1.out,C2.out,C3.out,C4.out,C5.out⟩ (fun hHeld=>?_);generalize wr.drew = W0_ at C0 C1 C2 C3 C4 C5 HB BK BN BE hHeld ⊢;refine pZ_ 0 (some 66) (bA 23 1) ?_;refine pure_ (i:=1) (N:=some 67) (v:=?_) (a':=?_) (bA 23 3) rfl rfl T22_ (fun _ _ _ h=>h) (Or.inl ⟨by rfl,?_⟩) ?_ ?_;rotate_left
           ·intro w'
            go_simp
            first | rw [g2] | skip
            with_reducible rfl
           rotate_left
           ·simp only [Act.put,List.setIfInBounds_toArray,List.set_cons_zero,List.set_cons_succ,i64_w,i32_w]
            rfl
           refine pZ_ 2 (some 68) (bA 23 7) ?_;refine pZ_ 3 (some 69) (bA 23 15) ?_;refine pZ_ 4 (some 70) (bA 23 31) ?_;refine pure_ (i:=5) (N:=some 71) (v:=?_) (a':=?_) (bA 23 63) rfl rfl T22_ (fun _ _ _ h=>h) (Or.inl ⟨by rfl,?_⟩) ?_ ?_;rotate_left
           ·intro w'
            go_simp
            first | rw [g4] | rw [g4n] | skip
            with_reducible rfl
           rotate_left
           ·simp only [Act.put,List.setIfInBounds_toArray,List.set_cons_zero,List.set_cons_succ,i64_w,i32_w]
            rfl
           refine pZ_ 6 (some 72) (bA 23 127) ?_;refine pZ_ 7 (some 73) (bA 23 255) ?_;refine pZ_ 8 (some 74) (bA 23 511) ?_;refine pure_ (i:=9) (N:=some 75) (v:=?_) (a':=?_) (bA 23 1023) rfl rfl T22_ (fun _ _ _ h=>h) (Or.inl ⟨by rfl,?_⟩) ?_ ?_;rotate_left
           ·intro w'
            go_simp
            first | done | rw [g6] | skip
            with_reducible rfl
           rotate_left
           ·simp only [Act.put,List.setIfInBounds_toArray,List.set_cons_zero,List.set_cons_succ,i64_w,i32_w]
            rfl
           refine pZ_ 10 (some 76) (bA 23 2047) ?_;refine pZ_ 11 (some 77) (bA 23 4095) ?_;refine pZ_ 12 (some 78) (bA 23 8191) ?_;refine pZ_ 13 (some 79) (bA 23 16383) ?_;refine pZ_ 14 (some 80) (bA 23 32767) ?_;refine tZ6_ 15 (some 81) (bA 23 65535) hHeld ?_;refine pZ_ 17 (some 83) (bA 23 196607) ?_;refine tZ6_ 18 (some 84) (bA 23 458751) hHeld ?_;refine one_ (i:=16) (N:=some 82) (bA 23 524287) rfl rfl T22_ T55_ (fun K hK=>?_);refine call_ 40 #[.agg #[.int .i64 m0,.int .i64 m1,.int .i64 m2],.pointer (some ⟨w.heap.size,0,none⟩)] (by rfl) rfl T81_ ?_;with_reducible refine (impl_IsDiagram_1.any KN o m0 m1 m2 q A1 c1 w.heap.size _ (Kd.C_below HR.out HB.out) HC.out BK.out HQ2.out).mono ?_
           rintro e W1_ ⟨rfl,hb⟩;refine ⟨_,rfl,?_⟩;replace C0:Aside0 (W1_.cell? (ad.add (tn * 3)) = some (.int .i64 m0)):=⟨pw_cell_below hb C0.out⟩;replace C1:Aside0 (W1_.cell? ⟨(ad.add (tn * 3)).block,(ad.add (tn * 3)).off + 1,none⟩ = some (.int .i64 m1)):=⟨pw_cell_below hb C1.out⟩;replace C2:Aside0 (W1_.cell? ⟨(ad.add (tn * 3)).block,(ad.add (tn * 3)).off + 2,none⟩ = some (.int .i64 m2)):=⟨pw_cell_below hb C2.out⟩;replace C3:Aside0 (W1_.cell? ⟨Gn,0,none⟩ = some (.int .i64 n0)):=⟨pw_cell_below hb C3.out⟩;replace C4:Aside0 (W1_.cell? ⟨Gn,1,none⟩ = some (.int .i64 n1)):=⟨pw_cell_below hb C4.out⟩;replace C5:Aside0 (W1_.cell? ⟨Gn,2,none⟩ = some (.int .i64 (tn:Int))):=⟨pw_cell_below hb C5.out⟩;replace BK:=aZ_ (blk_below BK.out hb);replace BN:=aZ_ (blk_below BN.out hb);replace BE:=aZ_ (blk_below BE.out hb);replace HB:=aZ_ (below_step HB.out hb);clear hb;refine hK.out _ _ ⟨C0.out,C1.out,C2.out,C3.out,C4.out,C5.out⟩ (fun hHeld=>?_);clear hK K;refine nZ_ (some 82) ?_;refine one_ (i:=19) (N:=some 85) (bA 23 1048575) rfl rfl T22_ T55_ (fun K hK=>?_);refine call_ 40 #[.agg #[.int .i64 n0,.int .i64 n1,.int .i64 (tn:Int)],.pointer (some ⟨w.heap.size,0,none⟩)] (by rfl) rfl (by have he_:=enters_ Tryz.func40 T22_ rfl #[.agg #[.int .i64 n0,.int .i64 n1,.int .i64 (tn:Int)],.pointer (some ⟨w.heap.size,0,none⟩)] W1_;unfold execOp;first | (simp [resolve,Deferred.ofValue,invoke,Act.eval];done) | (simp [resolve,Deferred.ofValue,invoke,Act.eval,he_];done)) ?_;with_reducible refine (impl_IsDiagram_1.any KN o n0 n1 (tn:Int) p A1 c1 w.heap.size _ (Kd.C_below HR.out HB.out) HC.out BK.out HP.out).mono ?_
           rintro e W2_ ⟨rfl,hb⟩;refine ⟨_,rfl,?_⟩;replace C0:Aside0 (W2_.cell? (ad.add (tn * 3)) = some (.int .i64 m0)):=⟨pw_cell_below hb C0.out⟩;replace C1:Aside0 (W2_.cell? ⟨(ad.add (tn * 3)).block,(ad.add (tn * 3)).off + 1,none⟩ = some (.int .i64 m1)):=⟨pw_cell_below hb C1.out⟩;replace C2:Aside0 (W2_.cell? ⟨(ad.add (tn * 3)).block,(ad.add (tn * 3)).off + 2,none⟩ = some (.int .i64 m2)):=⟨pw_cell_below hb C2.out⟩;replace C3:Aside0 (W2_.cell? ⟨Gn,0,none⟩ = some (.int .i64 n0)):=⟨pw_cell_below hb C3.out⟩;replace C4:Aside0 (W2_.cell? ⟨Gn,1,none⟩ = some (.int .i64 n1)):=⟨pw_cell_below hb C4.out⟩;replace C5:Aside0 (W2_.cell? ⟨Gn,2,none⟩ = some (.int .i64 (tn:Int))):=⟨pw_cell_below hb C5.out⟩;replace BK:=aZ_ (blk_below BK.out hb);replace BN:=aZ_ (blk_below BN.out hb);replace BE:=aZ_ (blk_below BE.out hb);replace HB:=aZ_ (below_step HB.out hb);clear hb;refine hK.out _ _ ⟨C0.out,C1.out,C2.out,C3.out,C4.out,C5.out⟩ (fun hHeld=>?_);clear hK K;refine nZ_ (some 85) ?_;refine pZ_ 20 (some 86) (bA 23 2097151) ?_;refine pZ_ 21 (some 87) (bA 23 4194303) ?_;refine pZ_ 22 (some 88) (bA 23 8388607) ?_;refine done_ T22_ ?_
           by_cases g7:q ≤ p
           ·have g8:decide (q ≤ p) = true:=decide_eq_true g7
            rw [g8] at H2;rw [if_pos rfl] at H2;obtain rfl:=Option.some.inj H2;go_wp2;go_ret;exact ⟨rfl,T2_⟩
           ·have g8:decide (q ≤ p) = false:=decide_eq_false g7
            rw [g8] at H2;have H3:=H2;rw [if_neg T55_] at H3;have HN:=aZ_ H3;clear H2 H3;go_wp2
            go_roundg (2 - (1 + 1))
            case measure=>omega
            case rel=>exact ⟨2,by omega,by decide,by first | rfl | (simp;done),HN,⟨BK.out⟩,⟨BN.out⟩,⟨BE.out⟩,⟨T2_⟩⟩
          ·rw [if_neg g5] at hb
           obtain rfl:=Option.some.inj hb;have g6:decide (0 ≤ n2) = false:=decide_eq_false g5;have H3:=H2;rw [if_neg T55_] at H3;have HN:=aZ_ H3;clear H2 H3;go_wp2
           repeat (go_quiet (fail);try go_wp2)
           go_roundg (2 - (1 + 1))
           case measure=>omega
           case rel=>exact ⟨2,by omega,by decide,by first | rfl | (simp;done),HN,⟨(by repeat (first | exact BK.out | (with_reducible refine blk_drew ?_) | (with_reducible refine blk_drewN ?_)))⟩,⟨(by repeat (first | exact BN.out | (with_reducible refine blk_drew ?_) | (with_reducible refine blk_drewN ?_)))⟩,⟨(by repeat (first | exact BE.out | (with_reducible refine blk_drew ?_) | (with_reducible refine blk_drewN ?_)))⟩,⟨T2_⟩⟩

       ·have HN:Aside0 (impl_IsDiagram.l0 KN l o d (x + 1) = some r):=HE
        go_wp2
        go_roundg d
        case measure=>omega
        case rel=>exact ⟨x + 1,d,by omega,by omega,by go_num,HN,BK,HB⟩
     ·have f7:(q != (x:Int)) = true:=bne_iff_ne.mpr f6
      have f8:decide (q = (x:Int)) = false:=decide_eq_false f6;have f9:(q == (x:Int)) = false:=beq_eq_false_iff_ne.mpr f6;have H6:=H4.out;rw [f7,if_pos rfl] at H6;obtain rfl:=Option.some.inj H6;clear H4
      go_wp2_with (first | (with_reducible refine (impl_IsDiagram_1.any KN o n0 n1 n2 p A1 c1 w.heap.size _ (Kd.C_below HR.out HBn.out) HC.out BKn.out HP.out).mono ?_;rintro e w2 ⟨rfl,hb⟩;have BK2:=aZ_ (blk_below BKn.out hb);have BN2:=aZ_ (blk_below BNn.out hb);have HB2:=aZ_ (below_step HBn.out hb);clear hb hz0 hz1 hz2;have hy0:w2.cell? ⟨wr.heap.size,0,none⟩ = some (.int .i64 n0):=(blk_cell BN2.out 0).trans rfl;have hy1:w2.cell? ⟨wr.heap.size,1,none⟩ = some (.int .i64 n1):=(blk_cell BN2.out 1).trans rfl;have hy2:w2.cell? ⟨wr.heap.size,2,none⟩ = some (.int .i64 n2):=(blk_cell BN2.out 2).trans rfl) | (go_at_call 42;refine (impl_Node.calls KN _ c0 l n0 n1 n2 _ _ (Kd.C_below HR0.out HB2.out) HC0.out HQ.out).mono ?_;rintro e w3 ⟨rfl,hb⟩;have BK3:=aZ_ (blk_below BK2.out hb);have BN3:=aZ_ (blk_below BN2.out hb);have HB3:=aZ_ (below_step HB2.out hb);clear hb hy0 hy1 hy2;have hx0:w3.cell? ⟨wr.heap.size,0,none⟩ = some (.int .i64 n0):=(blk_cell BN3.out 0).trans rfl;have hx1:w3.cell? ⟨wr.heap.size,1,none⟩ = some (.int .i64 n1):=(blk_cell BN3.out 1).trans rfl;have hx2:w3.cell? ⟨wr.heap.size,2,none⟩ = some (.int .i64 n2):=(blk_cell BN3.out 2).trans rfl))
      go_ret;exact ⟨rfl,HB3.out⟩
def impl_IsDiagram.f (l0:List S56) (l1:List Int):Option Bool:=impl_IsDiagram.g 100 l0 l1
theorem impl_IsDiagram.calls (A0:Option Addr) (c0:Nat) (l0:List S56) (A1:Option Addr) (c1:Nat) (l1:List Int) (r:Bool) (w:World) (hr0:Kd.C k56 w A0 l0.length l0) (hc0:l0.length ≤ c0) (hr1:Kd.C (Kd.int .i64) w A1 l1.length l1) (hc1:l1.length ≤ c1) (h:impl_IsDiagram.f l0 l1 = some r) :
  Calls Tryz.prog 12 #[.slice A0 l0.length c0,.slice A1 l1.length c1] w fun e w'=>e = .returned (.bool r) ∧ Below w.heap.size w w':=by
 unfold impl_IsDiagram.f impl_IsDiagram.g at h
 split at h
 next h5 =>
  cases h
  exact impl_IsDiagram.no 100 A0 c0 l0 A1 c1 l1 w hr1 hc1 hr0.2.1 hr1.2.1 (.inl h5)
 next h5 =>
  obtain ⟨t,ht,h⟩:=Option.bind_eq_some_iff.mp h
  cases t with
  | false =>
   rw [if_neg T55_] at h
   cases h
   exact impl_IsDiagram.no 100 A0 c0 l0 A1 c1 l1 w hr1 hc1 hr0.2.1 hr1.2.1 (.inr (.inl ⟨by omega,ht⟩))
  | true =>
   rw [if_pos rfl] at h
   split at h
   next h7 =>
    cases h
    exact impl_IsDiagram.no 100 A0 c0 l0 A1 c1 l1 w hr1 hc1 hr0.2.1 hr1.2.1 (.inr (.inr ⟨by omega,ht,.inl h7⟩))
   next h7 =>
    split at h
    next h8 =>
     cases h
     exact impl_IsDiagram.no 100 A0 c0 l0 A1 c1 l1 w hr1 hc1 hr0.2.1 hr1.2.1 (.inr (.inr ⟨by omega,ht,.inr h8⟩))
    next h8=>exact impl_IsDiagram.yes 100 A0 c0 l0 A1 c1 l1 r w hr0 hc0 hr1 hc1 T73_ ht T73_ T73_ h
mutual
def impl_ValueInDiagram.j0:Nat → List (S56) → Int → Bool → Option (Int)
 | 0,_,_,_=>none
 | k + 1,x0,x1,x20=>if x20 = true then (some (-1)) else (impl_ValueInDiagram.l0 k x0 x1 (wrap64 ((x0.length:Int) - 1)))
def impl_ValueInDiagram.l0:Nat → List (S56) → Int → Int → Option (Int)
 | 0,_,_,_=>none
 | k + 1,x0,x1,x5=>if x5 ≥ 0 then (if 0 ≤ x5 then (if x5 < (x0.length:Int) then (if ((rd_T56 x0 x5).f0) < 0 then (impl_ValueInDiagram.j2 k x0 x1 x5 true ((rd_T56 x0 x5).f0) ((rd_T56 x0 x5).f1) ((rd_T56 x0 x5).f2)) else (impl_ValueInDiagram.j2 k x0 x1 x5 (decide (((rd_T56 x0 x5).f0) ≥ 5)) ((rd_T56 x0 x5).f0) ((rd_T56 x0 x5).f1) ((rd_T56 x0 x5).f2))) else (none)) else (none)) else (some (wrap64 (x5 - (-2))))
def impl_ValueInDiagram.j2:Nat → List (S56) → Int → Int → Bool → Int → Int → Int → Option (Int)
 | 0,_,_,_,_,_,_,_=>none
 | k + 1,x0,x1,x5,x37,x104000,x104001,x104002=>if x37 = true then (some (-1)) else (if 0 ≤ x104000 then (if (Go.bits .and .i64 (shr .i64 x1 x104000) 1) = 1 then (if x104002 < (-2) then (some (-1)) else (if x104002 ≥ x5 then (some (-1)) else (impl_ValueInDiagram.l0 k x0 x1 x104002))) else (if x104001 < (-2) then (some (-1)) else (if x104001 ≥ x5 then (some (-1)) else (impl_ValueInDiagram.l0 k x0 x1 x104001)))) else (none))
end
def impl_ValueInDiagram.f (k:Nat) (l0:List (S56)) (a1:Int):Option (Int):=if (l0.length:Int) < 1 then (impl_ValueInDiagram.j0 k l0 a1 true) else (if (l0.length:Int) > 31 then (impl_ValueInDiagram.j0 k l0 a1 true) else ((impl_isInput.f 5 a1).bind fun t101=>(impl_ValueInDiagram.j0 k l0 a1 (!t101))))
theorem impl_ValueInDiagram.calls (k:Nat) (A0:Option Addr) (c0:Nat) (l0:List (S56)) (a1:Int) (r:Int) (w:World) (hr0:Kd.C k56 w A0 l0.length l0) (hc0:l0.length ≤ c0) (h:impl_ValueInDiagram.f k l0 a1 = some r) :
  Calls Tryz.prog 15 #[.slice A0 l0.length c0,.int .i64 a1] w fun e w'=>e = .returned (.int .i64 r) ∧ Below w.heap.size w w':=by
 have hu56:=Tryz.underlying56;have HR0:=aZ_ hr0;have HC0:=aZ_ hc0;clear hr0 hc0;have HB:=aZ_ (Below.refl w.heap.size w);have H:(if (l0.length:Int) < 1 then (impl_ValueInDiagram.j0 k l0 a1 true) else (if (l0.length:Int) > 31 then (impl_ValueInDiagram.j0 k l0 a1 true) else ((impl_isInput.f 5 a1).bind fun t101=>(impl_ValueInDiagram.j0 k l0 a1 (!t101))))) = some r:=h;clear h;have HC3:=aZ_ H;clear H;go_enter Tryz.func15,Tryz.ntmps15
 go_upto_region 1 with (fail)
 go_cut [20] (fun v20 wc=>∃ (kq:Nat) (x20_2:Bool),v20 = .bool x20_2 ∧ Aside0 (impl_ValueInDiagram.j0 kq l0 a1 x20_2 = some r) ∧ Aside0 (kq ≤ k) ∧ Aside0 (Below w.heap.size w wc))
 case first =>
  have H:=HC3.out;clear HC3
  by_cases c4:(l0.length:Int) < 1
  ·rw [if_pos c4] at H
   have c4b0:decide ((l0.length:Int) < 1) = true:=decide_eq_true c4;have c4b1:decide (l0.length < 1) = true:=decide_eq_true T73_;clear c4
   (first | rw [c4b0] | (simp only [i64_w,i32_w];rw [c4b0]) | skip)
   have H':=aZ_ H;clear H;go_wp2;go_meet
   case rel=>exact ⟨_,(true),T11_,H',⟨T89_⟩,⟨T2_⟩⟩
  ·rw [if_neg c4] at H
   have c4b0:decide ((l0.length:Int) < 1) = false:=decide_eq_false c4;have c4b1:decide (l0.length < 1) = false:=decide_eq_false T73_;clear c4
   (first | rw [c4b0] | (simp only [i64_w,i32_w];rw [c4b0]) | skip)
   by_cases c5:(l0.length:Int) > 31
   ·rw [if_pos c5] at H
    have c5b0:decide (31 < (l0.length:Int)) = true:=decide_eq_true c5;have c5b1:decide (31 < l0.length) = true:=decide_eq_true T73_;clear c5;have H':=aZ_ H;clear H;go_wp2;go_meet
    case rel=>exact ⟨_,(true),T11_,H',⟨T89_⟩,⟨T2_⟩⟩
   ·rw [if_neg c5] at H
    have c5b0:decide (31 < (l0.length:Int)) = false:=decide_eq_false c5;have c5b1:decide (31 < l0.length) = false:=decide_eq_false T73_;clear c5;replace H:=Option.bind_eq_some_iff.mp H;obtain ⟨t101,A60,H⟩:=H;replace H:(impl_ValueInDiagram.j0 k l0 a1 (!t101)) = some r:=H;have A6:=aZ_ A60;clear A60;have H':=aZ_ H;clear H
    go_wp2_with (first | (go_at_call 44;(with_reducible refine (impl_isInput.calls 5 a1 t101 _ A6.out).mono ?_);rintro e w' ⟨rfl,⟨nd,rfl⟩⟩))
    go_meet
    case rel=>exact ⟨_,(!t101),T11_,H',⟨T89_⟩,⟨T2_⟩⟩
 case rest =>
  clear HC3
  repeat (first | clear c1 | clear p2 | clear c4 | clear c4b0 | clear c4b1 | clear c5 | clear c5b0 | clear c5b1)
  obtain ⟨kq,x20_2,rfl,HA,HJ2,HB⟩:=hcut
  cases kq with
  | zero=>exact absurd HA.out (by simp [impl_ValueInDiagram.j0])
  | succ kj2 =>
   have H:=HA.out;clear HA;simp only [impl_ValueInDiagram.j0] at H
   by_cases c7:x20_2 = true
   ·subst c7
    have H1:(some (-1)) = some r:=by rw [if_pos rfl] at H;exact H
    clear H;have H:=H1;clear H1;obtain rfl:=Option.some.inj H;go_wp2;go_ret;exact ⟨T13_,T2_⟩
   ·replace c7:=Bool.eq_false_iff.mpr c7
    subst c7;have H1:(impl_ValueInDiagram.l0 kj2 l0 a1 (wrap64 ((l0.length:Int) - 1))) = some r:=by rw [if_neg (show ¬ (false = true) by decide)] at H;exact H
    clear H;have H:=H1;clear H1;have H':=aZ_ H;clear H;go_wp2
    go_loopg [5] kj2 (fun kq v5 w'=>∃ (x5_2:Int),v5 = .int .i64 x5_2 ∧ Aside0 (impl_ValueInDiagram.l0 kq l0 a1 x5_2 = some r) ∧ Aside0 (kq ≤ kj2) ∧ Aside0 (Below w.heap.size w w'))
    case atStart=>exact ⟨(wrap64 ((l0.length:Int) - 1)),T11_,H',⟨Nat.le_refl _⟩,⟨T2_⟩⟩
    case round =>
     clear H'
     repeat (first | clear c1 | clear p2 | clear c4 | clear c4b0 | clear c4b1 | clear c5 | clear c5b0 | clear c5b1 | clear p6 | clear c7)
     obtain ⟨x5_2,rfl,HA,HK2,HB⟩:=hrel
     cases gk with
     | zero=>exact absurd HA.out (by simp [impl_ValueInDiagram.l0])
     | succ k2 =>
      have H:=HA.out;clear HA;simp only [impl_ValueInDiagram.l0] at H
      by_cases c8:x5_2 ≥ 0
      ·rw [if_pos c8] at H
       have c8b0:decide (0 ≤ x5_2) = true:=decide_eq_true c8;clear c8
       by_cases c9:0 ≤ x5_2
       ·rw [if_pos c9] at H
        have c9b0:decide (0 ≤ x5_2) = true:=decide_eq_true c9;clear c9
        by_cases c10:x5_2 < (l0.length:Int)
        ·rw [if_pos c10] at H
         have c10b0:decide (x5_2 < (l0.length:Int)) = true:=decide_eq_true c10;clear c10;have HC11:=aZ_ H;clear H;have p102:0 ≤ (x5_2:Int):=of_decide_eq_true T14_;have q102:x5_2 < (l0.length:Int):=of_decide_eq_true T14_;obtain ⟨ad102,e102,hx102_0,hx102_1,hx102_2⟩:=at_T56 HR0.out x5_2 p102 q102
         cases e102
         replace hx102_0:=(HB.out.cell (World.block_lt_of_cell? w _ hx102_0)).trans hx102_0;replace hx102_1:=(HB.out.cell (World.block_lt_of_cell? w _ hx102_1)).trans hx102_1;replace hx102_2:=(HB.out.cell (World.block_lt_of_cell? w _ hx102_2)).trans hx102_2;replace p102:=eq_true p102;replace q102:=eq_true q102
         go_upto_region 6 with (first | ((with_reducible refine gate_dst (N:=6) rfl ?_);(try (refine gate_guard (by rfl) ?_;dsimp only));refine box_event ?hg (N:=6) ?hd (cs:=#[.int .i64 0,.int .i64 0,.int .i64 0]) (t:=56) ?hr ?_;(case hd=>rfl);(case hg=>rfl);(case hr=>exact T19_);intro gb103 hg w12 hbox hb;have BK103:=aZ_ (hbox);have GW103:=aZ_ ((T3_:w.heap.size ≤ gb103));have GE103:=aZ_ ((T3_:w.heap.size ≤ gb103));replace HB:=aZ_ (below_step T2_ hb);clear hb hbox hg;obtain ⟨⟨hcz13_0,hcz13_1,hcz13_2⟩,hfz13_0,hfz13_1,hfz13_2⟩:=bc3_ BK103.out))
         (try simp only [Act.put,List.setIfInBounds_toArray,List.set_cons_zero,List.set_cons_succ])
         go_cut [37] (fun v37 wc=>∃ (kq:Nat) (x37_10:Bool),v37 = .bool x37_10 ∧ Aside0 (impl_ValueInDiagram.j2 kq l0 a1 x5_2 x37_10 ((rd_T56 l0 x5_2).f0) ((rd_T56 l0 x5_2).f1) ((rd_T56 l0 x5_2).f2) = some r) ∧ Aside0 (kq ≤ k2) ∧ Aside0 (wc.heap[gb103]? = some (.cells #[.int .i64 ((rd_T56 l0 x5_2).f0),.int .i64 ((rd_T56 l0 x5_2).f1),.int .i64 ((rd_T56 l0 x5_2).f2)] 56 (0,0))) ∧ Aside0 (Below w.heap.size w wc))
         case first =>
          have H:=HC11.out;clear HC11
          by_cases c14:((rd_T56 l0 x5_2).f0) < 0
          ·rw [if_pos c14] at H
           have c14b0:decide (((rd_T56 l0 x5_2).f0) < 0) = true:=decide_eq_true c14;clear c14
           (first | rw [c14b0] | (simp only [i64_w,i32_w];rw [c14b0]) | skip)
           have H':=aZ_ H;clear H;obtain ⟨⟨hcz15_0,hcz15_1,hcz15_2⟩,hfz15_0,hfz15_1,hfz15_2⟩:=bc3_ BK103.out;go_wp2;go_meet
           case rel=>exact ⟨_,(true),T11_,H',⟨T84_⟩,⟨by (with_reducible repeat (first | refine blk_drewN ?_ _ | refine blk_drew ?_ | refine blk_alloc ?_ _));refine blk_put (cs:=#[.int .i64 ((rd_T56 l0 x5_2).f0),.int .i64 ((rd_T56 l0 x5_2).f1),.int .i64 0]) ?_ 2 _ rfl;(with_reducible repeat (first | refine blk_drewN ?_ _ | refine blk_drew ?_ | refine blk_alloc ?_ _));refine blk_put (cs:=#[.int .i64 ((rd_T56 l0 x5_2).f0),.int .i64 0,.int .i64 0]) ?_ 1 _ rfl;(with_reducible repeat (first | refine blk_drewN ?_ _ | refine blk_drew ?_ | refine blk_alloc ?_ _));refine blk_put (cs:=#[.int .i64 0,.int .i64 0,.int .i64 0]) ?_ 0 _ rfl;(with_reducible repeat (first | refine blk_drewN ?_ _ | refine blk_drew ?_ | refine blk_alloc ?_ _));exact BK103.out⟩,⟨T31_⟩⟩
          ·rw [if_neg c14] at H
           have c14b0:decide (((rd_T56 l0 x5_2).f0) < 0) = false:=decide_eq_false c14;clear c14
           (first | rw [c14b0] | (simp only [i64_w,i32_w];rw [c14b0]) | skip)
           have H':=aZ_ H;clear H;obtain ⟨⟨hcz16_0,hcz16_1,hcz16_2⟩,hfz16_0,hfz16_1,hfz16_2⟩:=bc3_ BK103.out;go_wp2;go_meet
           case rel=>exact ⟨_,(decide (((rd_T56 l0 x5_2).f0) ≥ 5)),T11_,H',⟨T84_⟩,⟨by (with_reducible repeat (first | refine blk_drewN ?_ _ | refine blk_drew ?_ | refine blk_alloc ?_ _));refine blk_put (cs:=#[.int .i64 ((rd_T56 l0 x5_2).f0),.int .i64 ((rd_T56 l0 x5_2).f1),.int .i64 0]) ?_ 2 _ rfl;(with_reducible repeat (first | refine blk_drewN ?_ _ | refine blk_drew ?_ | refine blk_alloc ?_ _));refine blk_put (cs:=#[.int .i64 ((rd_T56 l0 x5_2).f0),.int .i64 0,.int .i64 0]) ?_ 1 _ rfl;(with_reducible repeat (first | refine blk_drewN ?_ _ | refine blk_drew ?_ | refine blk_alloc ?_ _));refine blk_put (cs:=#[.int .i64 0,.int .i64 0,.int .i64 0]) ?_ 0 _ rfl;(with_reducible repeat (first | refine blk_drewN ?_ _ | refine blk_drew ?_ | refine blk_alloc ?_ _));exact BK103.out⟩,⟨T31_⟩⟩
         case rest =>
          clear HC11
          repeat (first | clear c1 | clear p1 | clear q1 | clear hx1 | clear p2 | clear c4 | clear c4b0 | clear c4b1 | clear c5 | clear c5b0 | clear c5b1 | clear p6 | clear c7 | clear c8 | clear c8b0 | clear c9 | clear c9b0 | clear c10 | clear c10b0 | clear p10 | clear q10 | clear hx10 | clear c14 | clear c14b0 | clear c15 | clear hcz13_0 | clear hcz13_1 | clear hcz13_2 | clear hcz15_0 | clear hcz15_1 | clear hcz15_2 | clear hcz16_0 | clear hcz16_1 | clear hcz16_2 | clear hfz13_0 | clear hfz13_1 | clear hfz13_2 | clear hfz15_0 | clear hfz15_1 | clear hfz15_2 | clear hfz16_0 | clear hfz16_1 | clear hfz16_2 | clear hx102_0 | clear hx102_1 | clear hx102_2 | clear p102 | clear q102)
          obtain ⟨kq,x37_10,rfl,HA,HJ10,BK103,HB⟩:=hcut
          cases kq with
          | zero=>exact absurd HA.out (by simp [impl_ValueInDiagram.j2])
          | succ kj10 =>
           have H:=HA.out;clear HA;simp only [impl_ValueInDiagram.j2] at H
           by_cases c17:x37_10 = true
           ·subst c17
            have H1:(some (-1)) = some r:=by rw [if_pos rfl] at H;exact H
            clear H;have H:=H1;clear H1;obtain rfl:=Option.some.inj H;go_wp2;go_ret;exact ⟨T13_,T31_⟩
           ·replace c17:=Bool.eq_false_iff.mpr c17
            subst c17;have H1:(if 0 ≤ ((rd_T56 l0 x5_2).f0) then (if (Go.bits .and .i64 (shr .i64 a1 ((rd_T56 l0 x5_2).f0)) 1) = 1 then (if ((rd_T56 l0 x5_2).f2) < (-2) then (some (-1)) else (if ((rd_T56 l0 x5_2).f2) ≥ x5_2 then (some (-1)) else (impl_ValueInDiagram.l0 kj10 l0 a1 ((rd_T56 l0 x5_2).f2)))) else (if ((rd_T56 l0 x5_2).f1) < (-2) then (some (-1)) else (if ((rd_T56 l0 x5_2).f1) ≥ x5_2 then (some (-1)) else (impl_ValueInDiagram.l0 kj10 l0 a1 ((rd_T56 l0 x5_2).f1))))) else (none)) = some r:=by rw [if_neg (show ¬ (false = true) by decide)] at H;exact H
            clear H;have H:=H1;clear H1
            by_cases c18:0 ≤ ((rd_T56 l0 x5_2).f0)
            ·rw [if_pos c18] at H
             have c18b0:=eq_true c18;have c18b1:decide (0 ≤ ((rd_T56 l0 x5_2).f0)) = true:=decide_eq_true c18;clear c18;obtain ⟨ji19,hji19⟩:∃ j_:Int,(shr .i64 a1 ((rd_T56 l0 x5_2).f0)) = j_:=⟨_,rfl⟩;replace H:(if (Go.bits .and .i64 (ji19) 1) = 1 then (if ((rd_T56 l0 x5_2).f2) < (-2) then (some (-1)) else (if ((rd_T56 l0 x5_2).f2) ≥ x5_2 then (some (-1)) else (impl_ValueInDiagram.l0 kj10 l0 a1 ((rd_T56 l0 x5_2).f2)))) else (if ((rd_T56 l0 x5_2).f1) < (-2) then (some (-1)) else (if ((rd_T56 l0 x5_2).f1) ≥ x5_2 then (some (-1)) else (impl_ValueInDiagram.l0 kj10 l0 a1 ((rd_T56 l0 x5_2).f1))))) = some r:=by first | (rw [hji19] at H;exact H) | (simp only [hji19] at H ⊢;exact H)
             have hji19_:(a1 / 2 ^ min ((rd_T56 l0 x5_2).f0).toNat 64) = ji19:=hji19;have hji19z:((rd_T56 l0 x5_2).f0) ≤ 64 → (a1 / 2 ^ ((rd_T56 l0 x5_2).f0).toNat) = ji19:=shr_small hji19
             by_cases c20:(Go.bits .and .i64 (ji19) 1) = 1
             ·rw [if_pos c20] at H
              have c20b0:((Go.bits .and .i64 (ji19) 1) == 1) = true:=beq_iff_eq.mpr c20;have c20b1:((Go.bits .and .i64 (ji19) 1) != 1) = false:=bne_eq_false_iff_eq.mpr c20;clear c20
              by_cases c21:((rd_T56 l0 x5_2).f2) < (-2)
              ·rw [if_pos c21] at H
               have c21b0:decide (((rd_T56 l0 x5_2).f2) < (-2)) = true:=decide_eq_true c21;clear c21;obtain rfl:=Option.some.inj H;obtain ⟨⟨hcz22_0,hcz22_1,hcz22_2⟩,hfz22_0,hfz22_1,hfz22_2⟩:=bc3_ BK103.out;go_wp2;go_ret;exact ⟨T78_,T31_⟩
              ·rw [if_neg c21] at H
               have c21b0:decide (((rd_T56 l0 x5_2).f2) < (-2)) = false:=decide_eq_false c21;clear c21
               by_cases c23:((rd_T56 l0 x5_2).f2) ≥ x5_2
               ·rw [if_pos c23] at H
                have c23b0:decide (x5_2 ≤ ((rd_T56 l0 x5_2).f2)) = true:=decide_eq_true c23;clear c23;obtain rfl:=Option.some.inj H;obtain ⟨⟨hcz24_0,hcz24_1,hcz24_2⟩,hfz24_0,hfz24_1,hfz24_2⟩:=bc3_ BK103.out;go_wp2;go_ret;exact ⟨T78_,T31_⟩
               ·rw [if_neg c23] at H
                have c23b0:decide (x5_2 ≤ ((rd_T56 l0 x5_2).f2)) = false:=decide_eq_false c23;clear c23;have H':=aZ_ H;clear H;obtain ⟨⟨hcz25_0,hcz25_1,hcz25_2⟩,hfz25_0,hfz25_1,hfz25_2⟩:=bc3_ BK103.out;go_wp2
                go_roundg kj10
                case measure=>have:=HJ2.out;have:=HK2.out;have:=HJ10.out;omega
                case rel=>exact ⟨(((rd_T56 l0 x5_2).f2)),T11_,H',⟨(by have:=HJ2.out;have:=HK2.out;have:=HJ10.out;omega)⟩,⟨T31_⟩⟩
             ·rw [if_neg c20] at H
              have c20b0:((Go.bits .and .i64 (ji19) 1) == 1) = false:=beq_eq_false_iff_ne.mpr c20;have c20b1:((Go.bits .and .i64 (ji19) 1) != 1) = true:=bne_iff_ne.mpr c20
              by_cases c26:((rd_T56 l0 x5_2).f1) < (-2)
              ·rw [if_pos c26] at H
               have c26b0:decide (((rd_T56 l0 x5_2).f1) < (-2)) = true:=decide_eq_true c26;clear c26;obtain rfl:=Option.some.inj H;obtain ⟨⟨hcz27_0,hcz27_1,hcz27_2⟩,hfz27_0,hfz27_1,hfz27_2⟩:=bc3_ BK103.out;go_wp2;go_ret;exact ⟨T78_,T31_⟩
              ·rw [if_neg c26] at H
               have c26b0:decide (((rd_T56 l0 x5_2).f1) < (-2)) = false:=decide_eq_false c26;clear c26
               by_cases c28:((rd_T56 l0 x5_2).f1) ≥ x5_2
               ·rw [if_pos c28] at H
                have c28b0:decide (x5_2 ≤ ((rd_T56 l0 x5_2).f1)) = true:=decide_eq_true c28;clear c28;obtain rfl:=Option.some.inj H;obtain ⟨⟨hcz29_0,hcz29_1,hcz29_2⟩,hfz29_0,hfz29_1,hfz29_2⟩:=bc3_ BK103.out;go_wp2;go_ret;exact ⟨T78_,T31_⟩
               ·rw [if_neg c28] at H
                have c28b0:decide (x5_2 ≤ ((rd_T56 l0 x5_2).f1)) = false:=decide_eq_false c28;clear c28;have H':=aZ_ H;clear H;obtain ⟨⟨hcz30_0,hcz30_1,hcz30_2⟩,hfz30_0,hfz30_1,hfz30_2⟩:=bc3_ BK103.out;go_wp2
                go_roundg kj10
                case measure=>have:=HJ2.out;have:=HK2.out;have:=HJ10.out;omega
                case rel=>exact ⟨(((rd_T56 l0 x5_2).f1)),T11_,H',⟨(by have:=HJ2.out;have:=HK2.out;have:=HJ10.out;omega)⟩,⟨T31_⟩⟩
            ·rw [if_neg c18] at H
             exact absurd H T64_
        ·rw [if_neg c10] at H
         exact absurd H T64_
       ·rw [if_neg c9] at H
        exact absurd H T64_
      ·rw [if_neg c8] at H
       have c8b0:decide (0 ≤ x5_2) = false:=decide_eq_false c8;clear c8;obtain rfl:=Option.some.inj H;go_wp2;go_ret;exact ⟨T13_,T2_⟩
def impl_CountInDiagram.l0:Nat → List (S56) → Int → Int → Int → Option (Int)
 | 0,_,_,_,_=>none
 | k + 1,x0,x5,x13,x14=>if x14 < x13 then ((impl_ValueInDiagram.f k x0 x14).bind fun t102=>(impl_CountInDiagram.l0 k x0 (wrap64 (x5 + t102)) x13 (wrap64 (x14 + 1)))) else (some x5)
def impl_CountInDiagram.f (k:Nat) (l0:List (S56)) (l1:List Int):Option (Int):=(impl_IsDiagram.f l0 l1).bind fun t101=>(if t101 = true then (impl_CountInDiagram.l0 k l0 0 (shl .i64 1 (l1.length:Int)) 0) else (some (-1)))
theorem impl_CountInDiagram.calls (k:Nat) (A0:Option Addr) (c0:Nat) (l0:List (S56)) (A1:Option Addr) (c1:Nat) (l1:List Int) (r:Int) (w:World) (hr0:Kd.C k56 w A0 l0.length l0) (hc0:l0.length ≤ c0) (hr1:Kd.C (Kd.int .i64) w A1 l1.length l1) (hc1:l1.length ≤ c1) (h:impl_CountInDiagram.f k l0 l1 = some r) :
  Calls Tryz.prog 13 #[.slice A0 l0.length c0,.slice A1 l1.length c1] w fun e w'=>e = .returned (.int .i64 r) ∧ Below w.heap.size w w':=by
 have HR0:=aZ_ hr0;have HC0:=aZ_ hc0;clear hr0 hc0;have HR1:=aZ_ hr1;have HC1:=aZ_ hc1;clear hr1 hc1;have HB:=aZ_ (Below.refl w.heap.size w);have H:((impl_IsDiagram.f l0 l1).bind fun t101=>(if t101 = true then (impl_CountInDiagram.l0 k l0 0 (shl .i64 1 (l1.length:Int)) 0) else (some (-1)))) = some r:=h;clear h;replace H:=Option.bind_eq_some_iff.mp H;obtain ⟨t101,A30,H⟩:=H;replace H:(if t101 = true then (impl_CountInDiagram.l0 k l0 0 (shl .i64 1 (l1.length:Int)) 0) else (some (-1))) = some r:=H;have A3:=aZ_ A30;clear A30
 by_cases c4:t101 = true
 ·subst c4
  have H1:(impl_CountInDiagram.l0 k l0 0 (shl .i64 1 (l1.length:Int)) 0) = some r:=by rw [if_pos rfl] at H;exact H
  clear H;have H:=H1;clear H1;obtain ⟨ji5,hji5⟩:∃ j_:Int,(shl .i64 1 (l1.length:Int)) = j_:=⟨_,rfl⟩;replace H:(impl_CountInDiagram.l0 k l0 0 ji5 0) = some r:=by first | (rw [hji5] at H;exact H) | (simp only [hji5] at H ⊢;exact H)
  (try rw [hji5] at A3)
  have hji5_:(IntKind.i64.wrap (1 * 2 ^ min (l1.length:Int).toNat 64)) = ji5:=hji5;have hji5z:(l1.length:Int) ≤ 64 → (IntKind.i64.wrap (1 * 2 ^ (l1.length:Int).toNat)) = ji5:=shl_small hji5;have hji5p:(IntKind.i64.wrap (1 * 2 ^ min l1.length 64)) = ji5:=hji5_;have hji5q:(l1.length:Int) ≤ 64 → (IntKind.i64.wrap (1 * 2 ^ l1.length)) = ji5:=hji5z;have hji5r:(IntKind.i64.wrap (2 ^ min l1.length 64)) = ji5:=by have h_:=hji5p;rw [Int.one_mul] at h_;exact h_
  have hji5s:(l1.length:Int) ≤ 64 → (IntKind.i64.wrap (2 ^ l1.length)) = ji5:=fun hle_=>by have h_:=hji5q hle_;rw [Int.one_mul] at h_;exact h_
  have hji5u:(IntKind.i64.wrap (2 ^ min (l1.length:Int).toNat 64)) = ji5:=by have h_:=hji5_;rw [Int.one_mul] at h_;exact h_
  have hji5v:(l1.length:Int) ≤ 64 → (IntKind.i64.wrap (2 ^ (l1.length:Int).toNat)) = ji5:=fun hle_=>by have h_:=hji5z hle_;rw [Int.one_mul] at h_;exact h_
  have hji5y:(wrap64 (1 * 2 ^ min (l1.length:Int).toNat 64)) = ji5:=(i64_w _).symm.trans hji5_;have hji5x:(l1.length:Int) ≤ 64 → (wrap64 (1 * 2 ^ (l1.length:Int).toNat)) = ji5:=fun h_=>(i64_w _).symm.trans (hji5z h_)
  have H':=aZ_ H;clear H;go_enter Tryz.func13,Tryz.ntmps13
  go_wp2_with (first | ((with_reducible refine gate_callee (f:=12) rfl ?_);refine goesL_ (some 9) rfl rfl Tryz.func12 T22_ rfl #[.slice A0 l0.length c0,.slice A1 l1.length c1] rfl T4_ ?_;(with_reducible refine (impl_IsDiagram.calls _ _ l0 _ _ l1 true _ ?side1 ?side2 ?side3 ?side4 A3.out).mono ?_);(case side1=>exact T42_);(case side2=>exact HC0.out);(case side3=>exact T80_);(case side4=>exact HC1.out);rintro e w6 ⟨rfl,hb⟩;refine ⟨_,rfl,?_⟩;replace HB:=aZ_ (below_step T2_ hb);(try clear hb)))
  go_loopg [5,14] k (fun kq v5 v14 w'=>∃ (x5_1:Int) (x14_1:Int),v5 = .int .i64 x5_1 ∧ v14 = .int .i64 x14_1 ∧ Aside0 (impl_CountInDiagram.l0 kq l0 x5_1 ji5 x14_1 = some r) ∧ Aside0 (kq ≤ k) ∧ Aside0 (Below w.heap.size w w'))
  case atStart=>exact ⟨(0),(0),T11_,T11_,H',⟨Nat.le_refl _⟩,⟨T2_⟩⟩
  case round =>
   clear H'
   repeat (first | clear c1 | clear p2 | clear c4 | clear p6)
   obtain ⟨x5_1,x14_1,rfl,rfl,HA,HK1,HB⟩:=hrel
   cases gk with
   | zero=>exact absurd HA.out (by simp [impl_CountInDiagram.l0])
   | succ k1 =>
    have H:=HA.out;clear HA;simp only [impl_CountInDiagram.l0] at H
    by_cases c7:x14_1 < ji5
    ·rw [if_pos c7] at H
     have c7b0:decide (x14_1 < ji5) = true:=decide_eq_true c7;clear c7;replace H:=Option.bind_eq_some_iff.mp H;obtain ⟨t102,A80,H⟩:=H;replace H:(impl_CountInDiagram.l0 k1 l0 (wrap64 (x5_1 + t102)) ji5 (wrap64 (x14_1 + 1))) = some r:=H;have A8:=aZ_ A80;clear A80;have H':=aZ_ H;clear H
     go_wp2_with (first | ((with_reducible refine gate_callee (f:=15) rfl ?_);refine goesL_ (some 20) rfl rfl Tryz.func15 T22_ rfl #[.slice A0 l0.length c0,.int .i64 x14_1] rfl T4_ ?_;(with_reducible refine (impl_ValueInDiagram.calls k1 _ _ l0 x14_1 t102 _ ?side1 ?side2 A8.out).mono ?_);(case side1=>exact T99_);(case side2=>exact HC0.out);rintro e w9 ⟨rfl,hb⟩;refine ⟨_,rfl,?_⟩;replace HB:=aZ_ (below_step T2_ hb);(try clear hb)))
     go_roundg k1
     case measure=>have:=HK1.out;omega
     case rel=>exact ⟨(wrap64 (x5_1 + t102)),(wrap64 (x14_1 + 1)),T11_,T11_,H',⟨by have:=HK1.out;omega⟩,⟨T2_⟩⟩
    ·rw [if_neg c7] at H
     have c7b0:decide (x14_1 < ji5) = false:=decide_eq_false c7;clear c7;obtain rfl:=Option.some.inj H;go_wp2;go_ret;exact ⟨T88_,T2_⟩
 ·replace c4:=Bool.eq_false_iff.mpr c4
  subst c4;have H1:(some (-1)) = some r:=by rw [if_neg (show ¬ (false = true) by decide)] at H;exact H
  clear H;have H:=H1;clear H1;obtain rfl:=Option.some.inj H;go_enter Tryz.func13,Tryz.ntmps13
  go_wp2_with (first | ((with_reducible refine gate_callee (f:=12) rfl ?_);refine goesL_ (some 9) rfl rfl Tryz.func12 T22_ rfl #[.slice A0 l0.length c0,.slice A1 l1.length c1] rfl T4_ ?_;(with_reducible refine (impl_IsDiagram.calls _ _ l0 _ _ l1 false _ ?side1 ?side2 ?side3 ?side4 A3.out).mono ?_);(case side1=>exact T42_);(case side2=>exact HC0.out);(case side3=>exact T80_);(case side4=>exact HC1.out);rintro e w10 ⟨rfl,hb⟩;refine ⟨_,rfl,?_⟩;replace HB:=aZ_ (below_step T2_ hb);(try clear hb)))
  go_ret;exact ⟨T13_,T2_⟩
def impl_CountOnes.f (a0_0:Int) (a0_1:Int):Option (Int):=(impl_IsTable.f a0_0 a0_1).bind fun t102=>(if t102 = true then ((impl_ones.f a0_1).bind fun t103=>(some t103)) else (some (-1)))
theorem impl_CountOnes.calls (a0_0:Int) (a0_1:Int) (r:Int) (w:World) (h:impl_CountOnes.f a0_0 a0_1 = some r) :
  Calls Tryz.prog 14 #[.agg #[.int .i64 a0_0,.int .i64 a0_1]] w fun e w'=>e = .returned (.int .i64 r) ∧ Below w.heap.size w w':=by
 have hu25:=Tryz.underlying25;have HB:=aZ_ (Below.refl w.heap.size w);have H:((impl_IsTable.f a0_0 a0_1).bind fun t102=>(if t102 = true then ((impl_ones.f a0_1).bind fun t103=>(some t103)) else (some (-1)))) = some r:=h;clear h;replace H:=Option.bind_eq_some_iff.mp H;obtain ⟨t102,A20,H⟩:=H;replace H:(if t102 = true then ((impl_ones.f a0_1).bind fun t103=>(some t103)) else (some (-1))) = some r:=H;have A2:=aZ_ A20;clear A20
 by_cases c3:t102 = true
 ·subst c3
  have H1:((impl_ones.f a0_1).bind fun t103=>(some t103)) = some r:=by rw [if_pos rfl] at H;exact H
  clear H;have H:=H1;clear H1;replace H:=Option.bind_eq_some_iff.mp H;obtain ⟨t103,A40,H⟩:=H;replace H:(some t103) = some r:=H;have A4:=aZ_ A40;clear A40;obtain rfl:=Option.some.inj H;go_enter Tryz.func14,Tryz.ntmps14
  go_wp2_with (first | ((with_reducible refine gate_dst (N:=1) rfl ?_);refine box_event ?hg (N:=1) ?hd (cs:=#[.int .i64 a0_0,.int .i64 a0_1]) (t:=25) ?hr ?_;(case hd=>rfl);(case hg=>rfl);(case hr=>exact T19_);intro gb101 hg w5 hbox hb;have BK101:=aZ_ (hbox);have GW101:=aZ_ ((T3_:w.heap.size ≤ gb101));have GE101:=aZ_ ((T3_:w.heap.size ≤ gb101));replace HB:=aZ_ (below_step T2_ hb);clear hb hbox hg;obtain ⟨⟨hcz6_0,hcz6_1⟩,hfz6_0,hfz6_1⟩:=bc2_ BK101.out) | ((with_reducible refine gate_callee (f:=32) rfl ?_);refine goesL_ (some 4) rfl rfl Tryz.func32 T22_ rfl #[.agg #[.int .i64 a0_0,.int .i64 a0_1]] rfl T4_ ?_;(with_reducible refine (impl_IsTable.calls a0_0 a0_1 true _ A2.out).mono ?_);rintro e w7 ⟨rfl,hb⟩;refine ⟨_,rfl,?_⟩;replace BK101:=aZ_ (blk_below (g:=gb101) (o:=.cells #[.int .i64 a0_0,.int .i64 a0_1] 25 (0,0)) T5_ hb);replace HB:=aZ_ (below_step T1_ hb);(try clear hb);obtain ⟨⟨hcz8_0,hcz8_1⟩,hfz8_0,hfz8_1⟩:=bc2_ BK101.out) | ((with_reducible refine gate_callee (f:=43) rfl ?_);refine goesL_ (some 8) rfl rfl Tryz.func43 T22_ rfl #[.int .i64 a0_1] rfl T4_ ?_;(with_reducible refine (impl_ones.calls a0_1 t103 _ A4.out).mono ?_);rintro e w' ⟨rfl,⟨nd,rfl⟩⟩;refine ⟨_,rfl,?_⟩))
  go_ret;exact ⟨T13_,T1_⟩
 ·replace c3:=Bool.eq_false_iff.mpr c3
  subst c3;have H1:(some (-1)) = some r:=by rw [if_neg (show ¬ (false = true) by decide)] at H;exact H
  clear H;have H:=H1;clear H1;obtain rfl:=Option.some.inj H;go_enter Tryz.func14,Tryz.ntmps14
  go_wp2_with (first | ((with_reducible refine gate_dst (N:=1) rfl ?_);refine box_event ?hg (N:=1) ?hd (cs:=#[.int .i64 a0_0,.int .i64 a0_1]) (t:=25) ?hr ?_;(case hd=>rfl);(case hg=>rfl);(case hr=>exact T19_);intro gb101 hg w9 hbox hb;have BK101:=aZ_ (hbox);have GW101:=aZ_ ((T3_:w.heap.size ≤ gb101));have GE101:=aZ_ ((T3_:w.heap.size ≤ gb101));replace HB:=aZ_ (below_step T2_ hb);clear hb hbox hg;obtain ⟨⟨hcz10_0,hcz10_1⟩,hfz10_0,hfz10_1⟩:=bc2_ BK101.out) | ((with_reducible refine gate_callee (f:=32) rfl ?_);refine goesL_ (some 4) rfl rfl Tryz.func32 T22_ rfl #[.agg #[.int .i64 a0_0,.int .i64 a0_1]] rfl T4_ ?_;(with_reducible refine (impl_IsTable.calls a0_0 a0_1 false _ A2.out).mono ?_);rintro e w11 ⟨rfl,hb⟩;refine ⟨_,rfl,?_⟩;replace BK101:=aZ_ (blk_below (g:=gb101) (o:=.cells #[.int .i64 a0_0,.int .i64 a0_1] 25 (0,0)) T5_ hb);replace HB:=aZ_ (below_step T1_ hb);(try clear hb)))
  go_ret;exact ⟨T13_,T1_⟩
def impl_ValueAt.f (a0_0:Int) (a0_1:Int) (a1:Int):Option (Int):=(impl_hasInput.f a0_0 a0_1 a1).bind fun t102=>(if t102 = true then ((impl_Table_at.f a0_0 a0_1 a1).bind fun t103=>(some t103)) else (some (-1)))
theorem impl_ValueAt.calls (a0_0:Int) (a0_1:Int) (a1:Int) (r:Int) (w:World) (h:impl_ValueAt.f a0_0 a0_1 a1 = some r) :
  Calls Tryz.prog 16 #[.agg #[.int .i64 a0_0,.int .i64 a0_1],.int .i64 a1] w fun e w'=>e = .returned (.int .i64 r) ∧ Below w.heap.size w w':=by
 have hu25:=Tryz.underlying25;have HB:=aZ_ (Below.refl w.heap.size w);have H:((impl_hasInput.f a0_0 a0_1 a1).bind fun t102=>(if t102 = true then ((impl_Table_at.f a0_0 a0_1 a1).bind fun t103=>(some t103)) else (some (-1)))) = some r:=h;clear h;replace H:=Option.bind_eq_some_iff.mp H;obtain ⟨t102,A30,H⟩:=H;replace H:(if t102 = true then ((impl_Table_at.f a0_0 a0_1 a1).bind fun t103=>(some t103)) else (some (-1))) = some r:=H;have A3:=aZ_ A30;clear A30
 by_cases c4:t102 = true
 ·subst c4
  have H1:((impl_Table_at.f a0_0 a0_1 a1).bind fun t103=>(some t103)) = some r:=by rw [if_pos rfl] at H;exact H
  clear H;have H:=H1;clear H1;replace H:=Option.bind_eq_some_iff.mp H;obtain ⟨t103,A50,H⟩:=H;replace H:(some t103) = some r:=H;have A5:=aZ_ A50;clear A50;obtain rfl:=Option.some.inj H;go_enter Tryz.func16,Tryz.ntmps16
  go_wp2_with (first | ((with_reducible refine gate_dst (N:=2) rfl ?_);refine box_event ?hg (N:=2) ?hd (cs:=#[.int .i64 a0_0,.int .i64 a0_1]) (t:=25) ?hr ?_;(case hd=>rfl);(case hg=>rfl);(case hr=>exact T19_);intro gb101 hg w6 hbox hb;have BK101:=aZ_ (hbox);have GW101:=aZ_ ((T3_:w.heap.size ≤ gb101));have GE101:=aZ_ ((T3_:w.heap.size ≤ gb101));replace HB:=aZ_ (below_step T2_ hb);clear hb hbox hg;obtain ⟨⟨hcz7_0,hcz7_1⟩,hfz7_0,hfz7_1⟩:=bc2_ BK101.out) | ((with_reducible refine gate_callee (f:=45) rfl ?_);refine goesL_ (some 7) rfl rfl Tryz.func45 T22_ rfl #[.agg #[.int .i64 a0_0,.int .i64 a0_1],.int .i64 a1] rfl T4_ ?_;(with_reducible refine (impl_hasInput.calls a0_0 a0_1 a1 true _ A3.out).mono ?_);rintro e w8 ⟨rfl,hb⟩;refine ⟨_,rfl,?_⟩;replace BK101:=aZ_ (blk_below (g:=gb101) (o:=.cells #[.int .i64 a0_0,.int .i64 a0_1] 25 (0,0)) T5_ hb);replace HB:=aZ_ (below_step T1_ hb);(try clear hb);obtain ⟨⟨hcz9_0,hcz9_1⟩,hfz9_0,hfz9_1⟩:=bc2_ BK101.out) | ((with_reducible refine gate_callee (f:=46) rfl ?_);refine goesL_ (some 11) rfl rfl Tryz.func46 T22_ rfl #[.agg #[.int .i64 a0_0,.int .i64 a0_1],.int .i64 a1] rfl T4_ ?_;(with_reducible refine (impl_Table_at.calls a0_0 a0_1 a1 t103 _ A5.out).mono ?_);rintro e w10 ⟨rfl,hb⟩;refine ⟨_,rfl,?_⟩;replace BK101:=aZ_ (blk_below (g:=gb101) (o:=.cells #[.int .i64 a0_0,.int .i64 a0_1] 25 (0,0)) T5_ hb);replace HB:=aZ_ (below_step T1_ hb);(try clear hb)))
  go_ret;exact ⟨T13_,T1_⟩
 ·replace c4:=Bool.eq_false_iff.mpr c4
  subst c4;have H1:(some (-1)) = some r:=by rw [if_neg (show ¬ (false = true) by decide)] at H;exact H
  clear H;have H:=H1;clear H1;obtain rfl:=Option.some.inj H;go_enter Tryz.func16,Tryz.ntmps16
  go_wp2_with (first | ((with_reducible refine gate_dst (N:=2) rfl ?_);refine box_event ?hg (N:=2) ?hd (cs:=#[.int .i64 a0_0,.int .i64 a0_1]) (t:=25) ?hr ?_;(case hd=>rfl);(case hg=>rfl);(case hr=>exact T19_);intro gb101 hg w11 hbox hb;have BK101:=aZ_ (hbox);have GW101:=aZ_ ((T3_:w.heap.size ≤ gb101));have GE101:=aZ_ ((T3_:w.heap.size ≤ gb101));replace HB:=aZ_ (below_step T2_ hb);clear hb hbox hg;obtain ⟨⟨hcz12_0,hcz12_1⟩,hfz12_0,hfz12_1⟩:=bc2_ BK101.out) | ((with_reducible refine gate_callee (f:=45) rfl ?_);refine goesL_ (some 7) rfl rfl Tryz.func45 T22_ rfl #[.agg #[.int .i64 a0_0,.int .i64 a0_1],.int .i64 a1] rfl T4_ ?_;(with_reducible refine (impl_hasInput.calls a0_0 a0_1 a1 false _ A3.out).mono ?_);rintro e w13 ⟨rfl,hb⟩;refine ⟨_,rfl,?_⟩;replace BK101:=aZ_ (blk_below (g:=gb101) (o:=.cells #[.int .i64 a0_0,.int .i64 a0_1] 25 (0,0)) T5_ hb);replace HB:=aZ_ (below_step T1_ hb);(try clear hb)))
  go_ret;exact ⟨T13_,T1_⟩
def impl_isSmall.f (a0_0:Int) (a0_1:Int) (a1:Int):Option (Bool):=(impl_IsTable.f a0_0 a0_1).bind fun t102=>(if t102 = true then (some (decide (a0_0 ≤ a1))) else (some false))
theorem impl_isSmall.calls (a0_0:Int) (a0_1:Int) (a1:Int) (r:Bool) (w:World) (h:impl_isSmall.f a0_0 a0_1 a1 = some r) :
  Calls Tryz.prog 47 #[.agg #[.int .i64 a0_0,.int .i64 a0_1],.int .i64 a1] w fun e w'=>e = .returned (.bool r) ∧ Below w.heap.size w w':=by
 have hu25:=Tryz.underlying25;have HB:=aZ_ (Below.refl w.heap.size w);have H:((impl_IsTable.f a0_0 a0_1).bind fun t102=>(if t102 = true then (some (decide (a0_0 ≤ a1))) else (some false))) = some r:=h;clear h;replace H:=Option.bind_eq_some_iff.mp H;obtain ⟨t102,A30,H⟩:=H;replace H:(if t102 = true then (some (decide (a0_0 ≤ a1))) else (some false)) = some r:=H;have A3:=aZ_ A30;clear A30
 by_cases c4:t102 = true
 ·subst c4
  have H1:(some (decide (a0_0 ≤ a1))) = some r:=by rw [if_pos rfl] at H;exact H
  clear H;have H:=H1;clear H1;obtain rfl:=Option.some.inj H;go_enter Tryz.func47,Tryz.ntmps47
  go_wp2_with (first | ((with_reducible refine gate_dst (N:=2) rfl ?_);refine box_event ?hg (N:=2) ?hd (cs:=#[.int .i64 a0_0,.int .i64 a0_1]) (t:=25) ?hr ?_;(case hd=>rfl);(case hg=>rfl);(case hr=>exact T19_);intro gb101 hg w5 hbox hb;have BK101:=aZ_ (hbox);have GW101:=aZ_ ((T3_:w.heap.size ≤ gb101));have GE101:=aZ_ ((T3_:w.heap.size ≤ gb101));replace HB:=aZ_ (below_step T2_ hb);clear hb hbox hg;obtain ⟨⟨hcz6_0,hcz6_1⟩,hfz6_0,hfz6_1⟩:=bc2_ BK101.out) | ((with_reducible refine gate_callee (f:=32) rfl ?_);refine goesL_ (some 6) rfl rfl Tryz.func32 T22_ rfl #[.agg #[.int .i64 a0_0,.int .i64 a0_1]] rfl T4_ ?_;(with_reducible refine (impl_IsTable.calls a0_0 a0_1 true _ A3.out).mono ?_);rintro e w7 ⟨rfl,hb⟩;refine ⟨_,rfl,?_⟩;replace BK101:=aZ_ (blk_below (g:=gb101) (o:=.cells #[.int .i64 a0_0,.int .i64 a0_1] 25 (0,0)) T5_ hb);replace HB:=aZ_ (below_step T1_ hb);(try clear hb);obtain ⟨⟨hcz8_0,hcz8_1⟩,hfz8_0,hfz8_1⟩:=bc2_ BK101.out))
  go_ret;exact ⟨T13_,T1_⟩
 ·replace c4:=Bool.eq_false_iff.mpr c4
  subst c4;have H1:(some false) = some r:=by rw [if_neg (show ¬ (false = true) by decide)] at H;exact H
  clear H;have H:=H1;clear H1;obtain rfl:=Option.some.inj H;go_enter Tryz.func47,Tryz.ntmps47
  go_wp2_with (first | ((with_reducible refine gate_dst (N:=2) rfl ?_);refine box_event ?hg (N:=2) ?hd (cs:=#[.int .i64 a0_0,.int .i64 a0_1]) (t:=25) ?hr ?_;(case hd=>rfl);(case hg=>rfl);(case hr=>exact T19_);intro gb101 hg w9 hbox hb;have BK101:=aZ_ (hbox);have GW101:=aZ_ ((T3_:w.heap.size ≤ gb101));have GE101:=aZ_ ((T3_:w.heap.size ≤ gb101));replace HB:=aZ_ (below_step T2_ hb);clear hb hbox hg;obtain ⟨⟨hcz10_0,hcz10_1⟩,hfz10_0,hfz10_1⟩:=bc2_ BK101.out) | ((with_reducible refine gate_callee (f:=32) rfl ?_);refine goesL_ (some 6) rfl rfl Tryz.func32 T22_ rfl #[.agg #[.int .i64 a0_0,.int .i64 a0_1]] rfl T4_ ?_;(with_reducible refine (impl_IsTable.calls a0_0 a0_1 false _ A3.out).mono ?_);rintro e w11 ⟨rfl,hb⟩;refine ⟨_,rfl,?_⟩;replace BK101:=aZ_ (blk_below (g:=gb101) (o:=.cells #[.int .i64 a0_0,.int .i64 a0_1] 25 (0,0)) T5_ hb);replace HB:=aZ_ (below_step T1_ hb);(try clear hb)))
  go_ret;exact ⟨T13_,T1_⟩
end Go.Proofs.YtflacbjpeecjcabGreatDoor.F
