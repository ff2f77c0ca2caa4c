/- Walks of Go functions and lemmas on what they compute, for the row of FnDiagrams (a part of several): each call ends as the Lean function of its name tells; the conditions are those of each theorem. -/
import Derived.Maps.OwnSet
import Derived.DeepKeys4
import Derived.Maps.Views
import Derived.Test.YtflacbjpeecjcabGreatDoorM6FnDiagrams
set_option linter.unusedVariables false
set_option linter.unusedSimpArgs false
set_option maxHeartbeats 16000000
set_option maxRecDepth 100000
open Go.RowKit Go.Proofs.YtflacbjpeecjcabGreatDoorW.PrintWords Go.Proofs.YtflacbjpeecjcabGreatDoorW.PrintLast Go.Proofs.YtflacbjpeecjcabGreatDoorW.PrintMore
namespace Go.Proofs.YtflacbjpeecjcabGreatDoor.F
attribute [local go_sem] max2_int min2_int max_two min_two max_three min_three max_four min_four 
def firstIs (q:Int → Bool) (l:List Int) (r:Int):Prop :=
 (∃ j:Nat,r = j ∧ j < l.length ∧ q (rd l j) = true ∧ ∀ i:Nat,i < j → q (rd l i) = false) ∨ (r = -1 ∧ ∀ i:Nat,i < l.length → q (rd l i) = false)
theorem slices_IndexFunc_dep.any (A:Option Addr) (c:Nat) (l:List Int) (n v:Int) (q:Int → Bool) (w:World) (hr:Kd.C (Kd.int .i64) w A l.length l)
  (hq:∀ x:Nat,x < l.length → impl_Table_depends.f n v (rd l x) = some (q (rd l x))) (hl:l.length < 9223372036854775807) :
  Calls Tryz.prog 80 #[.slice A l.length c,.func (.func 49) #[.agg #[.int .i64 n,.int .i64 v]] #[]] w fun e w'=>∃ r:Int,e = .returned (.int .i64 r) ∧ firstIs q l r ∧ Below w.heap.size w w':=by
 have HQ:=aZ_ hq;have HR:=aZ_ hr;have HL:=aZ_ hl;clear hq hr;go_enter Tryz.func80,Tryz.ntmps80;go_wp2
 go_loopg [8] l.length (fun gg v8 wr=>∃ x:Nat,x ≤ l.length ∧ l.length - x ≤ gg ∧ v8 = .int .i64 x ∧ Aside0 (∀ i:Nat,i < x → q (rd l i) = false) ∧ Aside0 (Below w.heap.size w wr))
 case atStart=>exact ⟨0,Nat.zero_le _,by omega,rfl,⟨fun i hi=>absurd hi (Nat.not_lt_zero _)⟩,⟨Below.refl _ _⟩⟩
 case round =>
  obtain ⟨x,hx,hg,rfl,HZ,HB⟩:=hrel
  by_cases hlt:x < l.length
  ·have hltz:(x:Int) < (l.length:Int):=by omega
   have h0z:(0:Int) ≤ (x:Int):=by omega
   have HC:=aZ_ (HQ.out x hlt);obtain ⟨ad,rfl,hc⟩:=Kd.at_int HR.out (x:Int) h0z hltz;have hc':=(HB.out.cell (World.block_lt_of_cell? w _ hc)).trans hc;rw [Int.toNat_natCast] at hc'
   cases hqx:q (rd l x) with
   | true =>
    rw [hqx] at HC;have HX:=aZ_ hqx;clear hqx
    go_wp2_with (with_reducible refine (impl_Table_depends.calls n v (rd l x) true _ HC.out).mono ?_;rintro e w' ⟨rfl,hb'⟩;have HB':=aZ_ (below_step HB.out hb');clear hb')
    go_ret;exact ⟨_,rfl,.inl ⟨x,rfl,hlt,HX.out,HZ.out⟩,HB'.out⟩
   | false =>
    rw [hqx] at HC;have HX:=aZ_ hqx;clear hqx
    go_wp2_with (with_reducible refine (impl_Table_depends.calls n v (rd l x) false _ HC.out).mono ?_;rintro e w' ⟨rfl,hb'⟩;have HB':=aZ_ (below_step HB.out hb');clear hb')
    go_roundg (l.length - (x + 1))
    case measure=>omega
    case rel=>exact ⟨x + 1,by omega,by omega,by have:=HL.out;go_num,⟨fun i hi=>by
     by_cases e:i = x
     ·rw [e];exact HX.out
     ·exact HZ.out i T73_⟩,HB'⟩
  ·have hltz:¬ (x:Int) < (l.length:Int):=by omega
   obtain rfl:x = l.length:=by omega
   go_wp2;go_ret;exact ⟨-1,rfl,.inr ⟨rfl,HZ.out⟩,HB.out⟩
theorem laid_out:laidOutB Tryz.prog = true:=by kernel_rfl
theorem tab_law:Go.Maps.Keyed Tryz.prog 25:=Go.Maps.Keyed.of_law (deep_law_laid laid_out (m:=3) T73_ (of_decide_eq_true T22_) T22_ T22_)
def tlit (n v:Int):Lit:=.string (keyBytes [.int .i64 n,.int .i64 v])
theorem tab_key {n v:Int} (wn:(Lit.int .i64 n).wf = true) (wv:(Lit.int .i64 v).wf = true):keyOf Tryz.prog 25 (.agg #[.int .i64 n,.int .i64 v]) = some (tlit n v):=by
 have hu:=Tryz.underlying25;have hi:=Tryz.underlying3;have hk:Tryz.prog.keyType 25 = true:=by kernel_rfl
 have hc:Tryz.prog.cellsOf 25 = 2:=by kernel_rfl
 have hc1:Tryz.prog.cellsOf 3 = 1:=by kernel_rfl
 obtain ⟨m,hm⟩:∃ m,Tryz.prog.types.size = m + 1:=⟨Tryz.prog.types.size - 1,(by have:1 ≤ Tryz.prog.types.size:=of_decide_eq_true T22_;omega)⟩
 have hf:Value.formed Tryz.prog 25 (.agg #[.int .i64 n,.int .i64 v]) = true:=by
  simp [Value.formed,hu,hc]
 unfold keyOf;simp only [hu];rw [if_pos (by rw [hk,hf];rfl),hm];unfold Program.keyLits;simp only [hu,Value.cells];rw [if_pos ⟨by rw [hc];rfl,by kernel_rfl⟩];simp [hc1,Program.keyLits,hi,wn,wv,tlit]
def idxOf:List Int → Int → Option Nat
 | [],_=>none
 | x :: xs,v=>if x = v then some 0 else (idxOf xs v).map (· + 1)
theorem idxOf_snoc_none {xs:List Int} {v:Int} (h:idxOf xs v = none):idxOf (xs ++ [v]) v = some xs.length:=by
 induction xs with
 | nil=>simp [idxOf]
 | cons x xs ih =>
  rw [idxOf] at h
  split at h
  ·cases h
  ·next hx =>
   rw [Option.map_eq_none_iff] at h
   show (if x = v then some 0 else (idxOf (xs ++ [v]) v).map (· + 1)) = _
   rw [if_neg hx,ih h]
   rfl
theorem idxOf_snoc_other {xs:List Int} {v u:Int} (h:u ≠ v):idxOf (xs ++ [v]) u = idxOf xs u:=by
 induction xs with
 | nil =>
  show (if v = u then some 0 else (idxOf [] u).map (· + 1)) = idxOf [] u
  rw [if_neg (fun e=>h e.symm)]
  rfl
 | cons x xs ih =>
  show (if x = u then some 0 else (idxOf (xs ++ [v]) u).map (· + 1)) = (if x = u then some 0 else (idxOf xs u).map (· + 1))
  rw [ih]
structure FoundAt (n:Int) (names:List Int) (D:DataW Unit):Prop where
 tidy:Go.Maps.Tidy D
 yes:∀ v i,(Lit.int .i64 v).wf = true → idxOf names v = some i → Go.Maps.has D (tlit n v) = true ∧ ∀ z,D.atKey (tlit n v) z = .lit (.int .i64 (i:Int))
 no:∀ v,(Lit.int .i64 v).wf = true → idxOf names v = none → Go.Maps.has D (tlit n v) = false
theorem FoundAt.nil (n:Int):FoundAt n [] (.map []):=⟨Go.Maps.tidy_empty,fun _ _ _ h=>(by cases h),fun _ _ _=>rfl⟩
theorem tlit_inj {n u v:Int} (wn:(Lit.int .i64 n).wf = true) (wu:(Lit.int .i64 u).wf = true) (wv:(Lit.int .i64 v).wf = true) (h:tlit n u = tlit n v):u = v:=by
 have h1:=tab_key wn wu;have h2:=tab_key wn wv;rw [h] at h1;have:=tab_law.inj h1 h2;injection this with e;have e2:=congrArg Array.toList e;injection e2 with _ e3;injection e3 with e4;injection e4
theorem FoundAt.put {n:Int} {names:List Int} {D:DataW Unit} (h:FoundAt n names D) (wn:(Lit.int .i64 n).wf = true) {v:Int} (wv:(Lit.int .i64 v).wf = true) (hv:idxOf names v = none):FoundAt n (names ++ [v]) (D.put (tlit n v) (.lit (.int .i64 (names.length:Int)))):=by
 have hk:WideAt.IsKeyLit (tlit n v):=trivial;refine ⟨h.tidy.put hk _,fun u i wu hi=>?_,fun u wu hi=>?_⟩
 ·by_cases e:u = v
  ·subst e
   rw [idxOf_snoc_none hv] at hi
   cases hi
   exact ⟨Go.Maps.has_put_same h.tidy.isMap hk _,fun z=>Go.Maps.atKey_put_same h.tidy.isMap hk _ _⟩
  ·rw [idxOf_snoc_other e] at hi
   have hne:tlit n u ≠ tlit n v:=fun q=>e (tlit_inj wn wu wv q)
   obtain ⟨h1,h2⟩:=h.yes u i wu hi;exact ⟨(Go.Maps.has_put_other hne _).trans h1,fun z=>(Go.Maps.atKey_put_other hne _ _).trans (h2 z)⟩
 ·by_cases e:u = v
  ·subst e
   rw [idxOf_snoc_none hv] at hi
   cases hi
  ·rw [idxOf_snoc_other e] at hi
   have hne:tlit n u ≠ tlit n v:=fun q=>e (tlit_inj wn wu wv q)
   exact (Go.Maps.has_put_other hne _).trans (h.no u wu hi)
theorem found_yes {n v:Int} {names:List Int} {D:DataW Unit} {W:World} {gm k i:Nat} (h:W.ownsMap Tryz.prog 25 (plainElem Tryz.prog 3) gm k D) (hf:FoundAt n names D) (wn:(Lit.int .i64 n).wf = true) (wv:(Lit.int .i64 v).wf = true) (hi:idxOf names v = some i) :
  (Instr.lookup 79 (.map (some gm)) (.agg #[.int .i64 n,.int .i64 v]) true).run Tryz.prog W = .ok (.tuple #[.int .i64 (i:Int),.bool true]) W:=by
 obtain ⟨u,ps,hrun,hv⟩:=h.look_ok tab_law Tryz.underlying79 (z:=.int .i64 0) T22_ (plainElem_int Tryz.underlying3 T55_) (tab_key wn wv);obtain ⟨c,rfl,hc,_⟩:=plainElem_int_inv Tryz.underlying3 hv;obtain ⟨h1,h2⟩:=hf.yes v i wv hi;rw [h2] at hc;injection hc with hc1;injection hc1 with hc2;injection hc2 with _ hc3;rw [hrun,h1,hc3]
theorem found_no {n v:Int} {names:List Int} {D:DataW Unit} {W:World} {gm k:Nat} (h:W.ownsMap Tryz.prog 25 (plainElem Tryz.prog 3) gm k D) (hf:FoundAt n names D) (wn:(Lit.int .i64 n).wf = true) (wv:(Lit.int .i64 v).wf = true) (hi:idxOf names v = none) :
  ∃ c:Int,(Instr.lookup 79 (.map (some gm)) (.agg #[.int .i64 n,.int .i64 v]) true).run Tryz.prog W = .ok (.tuple #[.int .i64 c,.bool false]) W:=by
 obtain ⟨u,ps,hrun,hv⟩:=h.look_ok tab_law Tryz.underlying79 (z:=.int .i64 0) T22_ (plainElem_int Tryz.underlying3 T55_) (tab_key wn wv);obtain ⟨c,rfl,hc,_⟩:=plainElem_int_inv Tryz.underlying3 hv;exact ⟨c,by rw [hrun,hf.no v wv hi]⟩
def firstN (p:Nat → Bool):Nat → Nat → Option Nat
 | 0,_=>none
 | d + 1,x=>if p x = true then some x else firstN p d (x + 1)
theorem firstN_some {p:Nat → Bool}:∀ (d x j:Nat),firstN p d x = some j → x ≤ j ∧ j < x + d ∧ p j = true ∧ ∀ i,x ≤ i → i < j → p i = false:=by
 intro d
 induction d with
 | zero=>intro x j h;cases h
 | succ d ih =>
  intro x j h;rw [firstN] at h
  split at h
  next hp=>cases h;exact ⟨Nat.le_refl _,by omega,hp,fun i h1 h2=>by omega⟩
  next hp =>
   obtain ⟨h1,h2,h3,h4⟩:=ih (x + 1) j h;refine ⟨by omega,by omega,h3,fun i hi hij=>?_⟩
   by_cases e:i = x
   ·rw [e];exact Bool.eq_false_iff.mpr hp
   ·exact h4 i T73_ hij
def depB (n v:Int) (ord:List Int) (x:Nat):Bool:=impl_Table_depends.f n v (rd ord x) == some true
def depAll (n v:Int) (ord:List Int):Bool:=B.allN (fun x=>(impl_Table_depends.f n v (rd ord (x:Int))).isSome) ord.length
def walkS (n:Int) (ord:List Int):Nat → Int → List Int → List S56 → Option (Int × List Int × List S56)
 | 0,_,_,_=>none
 | k + 1,v,names,nodes=>(impl_Table_isSame.f n v).bind fun s=>if s = true then (impl_Table_at.f n v 0).bind fun b=>(if 0 ≤ b ∧ b ≤ 1 then some (b - 2,names,nodes) else none)
  else if (Lit.int .i64 v).wf = true then (match idxOf names v with
   | some i=>some ((i:Int),names,nodes)
   | none=>if depAll n v ord = true then (match firstN (depB n v ord) ord.length 0 with
    | none=>none
    | some j=>(impl_Table_stuck.f n v (rd ord j) 0).bind fun t0=>(walkS n ord k t0.2 names nodes).bind fun p=>(impl_Table_stuck.f n v (rd ord j) 1).bind fun t1=>(walkS n ord k t1.2 p.2.1 p.2.2).bind fun q =>
      if q.2.2.length < 1000 ∧ idxOf q.2.1 v = none then some ((q.2.2.length:Int),q.2.1 ++ [v],q.2.2 ++ [⟨rd ord j,p.1,q.1⟩]) else none) else none) else none
structure WalkAt (n:Int) (gd gm:Nat) (w0:World) (Ao:Option Addr) (oc:Nat) (ord:List Int) (nv:Value) (names:List Int) (nodes:List S56) (W:World):Prop where
 blk:W.heap[gd]? = some (.cells #[.slice Ao ord.length oc,nv,.map (some gm)] 81 (0,0))
 own:Kd.R k56 56 W w0.heap.size (fun _=>True) nv nodes
 map:∃ D,W.ownsMap Tryz.prog 25 (plainElem Tryz.prog 3) gm names.length D ∧ FoundAt n names D
 len:names.length = nodes.length
 below:Below w0.heap.size w0 W
 ord:Kd.C (Kd.int .i64) w0 Ao ord.length ord
 gdge:w0.heap.size ≤ gd
 gmge:w0.heap.size ≤ gm
theorem WalkAt.step {n:Int} {gd gm:Nat} {w0:World} {Ao:Option Addr} {oc:Nat} {ord:List Int} {nv:Value} {names:List Int} {nodes:List S56} {W W':World} (h:WalkAt n gd gm w0 Ao oc ord nv names nodes W) (hb:Below W.heap.size W W'):WalkAt n gd gm w0 Ao oc ord nv names nodes W':=by
 obtain ⟨D,h1,h2⟩:=h.map;exact ⟨blk_below h.blk hb,Kd.R_below h.own hb,⟨D,h1.kept (grown_of_below hb none) T64_,h2⟩,h.len,below_then h.below h.below.size hb,h.ord,h.gdge,h.gmge⟩
theorem WalkAt.ordC {n:Int} {gd gm:Nat} {w0:World} {Ao:Option Addr} {oc:Nat} {ord:List Int} {nv:Value} {names:List Int} {nodes:List S56} {W:World} (h:WalkAt n gd gm w0 Ao oc ord nv names nodes W):Kd.C (Kd.int .i64) W Ao ord.length ord :=
 Kd.Heap.C (Kd.heap_int .i64) h.below.block h.ord
def Wr (gd gm:Nat) (nv:Value) (k:Nat):Prop:=(k = gd ∨ k = gm) ∨ some k = nv.ownBlock
def SameOrNew (W:World) (nv nv':Value):Prop:=nv'.ownBlock = nv.ownBlock ∨ ∃ b,nv'.ownBlock = some b ∧ W.heap.size ≤ b
def WalkPost (n:Int) (gd gm:Nat) (w0:World) (Ao:Option Addr) (oc:Nat) (ord:List Int) (nv:Value) (W:World) (r:Int) (names:List Int) (nodes:List S56) (e:Ending) (W':World):Prop :=
 e = .returned (.int .i64 r) ∧ ∃ nv',WalkAt n gd gm w0 Ao oc ord nv' names nodes W' ∧ Kept W W' (Wr gd gm nv) ∧ SameOrNew W nv nv'
theorem Wr_chain {gd gm:Nat} {nv nv1:Value} {W:World} (h:SameOrNew W nv nv1) (k:Nat) (hk:Wr gd gm nv1 k):Wr gd gm nv k ∨ W.heap.size ≤ k:=by
 rcases hk with hk | hk
 ·exact .inl (.inl hk)
 ·rcases h with h | ⟨b,hb,hle⟩
  ·exact .inl (.inr (hk.trans h))
  ·rw [hb] at hk
   cases hk
   exact .inr hle
theorem SameOrNew.trans {W W1:World} {nv nv1 nv2:Value} (h:SameOrNew W nv nv1) (k:SameOrNew W1 nv1 nv2) (hs:W.heap.size ≤ W1.heap.size):SameOrNew W nv nv2:=by
 rcases k with k | ⟨b,hb,hle⟩
 ·rcases h with h | ⟨b,hb,hle⟩
  ·exact .inl (k.trans h)
  ·exact .inr ⟨b,k.trans hb,hle⟩
 ·exact .inr ⟨b,hb,by omega⟩
theorem box_not {gd gm gf:Nat} {nv:Value} {n:Int} {w0:World} {Ao:Option Addr} {oc:Nat} {ord:List Int} {names:List Int} {nodes:List S56} {W:World} {a b:Int} (h:WalkAt n gd gm w0 Ao oc ord nv names nodes W) (hf:W.heap[gf]? = some (.cells #[.int .i64 a,.int .i64 b] 25 (0,0))):¬ Wr gd gm nv gf:=by
 rintro ((rfl | rfl) | hk)
 ·have:=hf.symm.trans h.blk
  injection this with e;injection e with _ e2;exact absurd e2 T55_
 ·obtain ⟨D,⟨es,cl,hm,_⟩,_⟩:=h.map
  rw [hm] at hf
  cases hf
 ·exact (Kd.R_ne h.own hf T55_) hk
theorem walk_same {n:Int} {gd gm:Nat} {w0:World} {Ao:Option Addr} {oc:Nat} {ord:List Int} {nv:Value} {names:List Int} {nodes:List S56} {w:World} {v b:Int} (h:WalkAt n gd gm w0 Ao oc ord nv names nodes w) (hs:impl_Table_isSame.f n v = some true) (hb:impl_Table_at.f n v 0 = some b) (hb0:0 ≤ b) (hb1:b ≤ 1) :
  Calls Tryz.prog 65 #[.pointer (some ⟨gd,0,none⟩),.agg #[.int .i64 n,.int .i64 v]] w (WalkPost n gd gm w0 Ao oc ord nv w (b - 2) names nodes):=by
 have hud:=Tryz.underlying81;have hut:=Tryz.underlying25;have KB:=aZ_ (below_alloc (Below.refl w.heap.size w) (.cells #[.int .i64 n,.int .i64 v] 25 (0,0)));have BF:=aZ_ (blk_new w (.cells #[.int .i64 n,.int .i64 v] 25 (0,0)));have HW:=aZ_ (h.step KB.out);have H1:=aZ_ hs;have H2:=aZ_ hb;have E1:IntKind.i64.wrap (-2 + b) = b - 2:=by rw [B.wrap_of T73_ T73_];omega
 have E2:wrap64 (-2 + b) = b - 2:=by rw [← i64_w];exact E1
 clear h hs hb;go_enter Tryz.func65,Tryz.ntmps65
 go_wp2_with (first | (go_at_call 39;refine (impl_Table_isSame.calls n v true _ H1.out).mono ?_;rintro e w1 ⟨rfl,hb⟩;replace HW:=aZ_ (HW.out.step hb);replace BF:=aZ_ (blk_below BF.out hb);have KB1:=aZ_ (below_step KB.out hb);clear hb;have hc0:w1.cell? ⟨w.heap.size,0,none⟩ = some (.int .i64 n):=(blk_cell BF.out 0).trans rfl;have hc1:w1.cell? ⟨w.heap.size,1,none⟩ = some (.int .i64 v):=(blk_cell BF.out 1).trans rfl) | (go_at_call 46;refine (impl_Table_at.calls n v 0 b _ H2.out).mono ?_;rintro e w2 ⟨rfl,hb⟩;clear hc0 hc1;replace HW:=aZ_ (HW.out.step hb);have KB2:=aZ_ (below_step KB1.out hb);clear hb))
 go_ret;exact ⟨rfl,nv,HW.out,Kept.of_below KB2.out _,.inl rfl⟩
theorem walk_found {n:Int} {gd gm:Nat} {w0:World} {Ao:Option Addr} {oc:Nat} {ord:List Int} {nv:Value} {names:List Int} {nodes:List S56} {w:World} {v:Int} {i:Nat} (h:WalkAt n gd gm w0 Ao oc ord nv names nodes w) (hs:impl_Table_isSame.f n v = some false) (wn:(Lit.int .i64 n).wf = true) (wv:(Lit.int .i64 v).wf = true) (hi:idxOf names v = some i) :
  Calls Tryz.prog 65 #[.pointer (some ⟨gd,0,none⟩),.agg #[.int .i64 n,.int .i64 v]] w (WalkPost n gd gm w0 Ao oc ord nv w i names nodes):=by
 have hud:=Tryz.underlying81;have hut:=Tryz.underlying25;have KB:=aZ_ (below_alloc (Below.refl w.heap.size w) (.cells #[.int .i64 n,.int .i64 v] 25 (0,0)));have BF:=aZ_ (blk_new w (.cells #[.int .i64 n,.int .i64 v] 25 (0,0)));have HW:=aZ_ (h.step KB.out);have H1:=aZ_ hs;have HI:=aZ_ hi;have WN:=aZ_ wn;have WV:=aZ_ wv;clear h hs hi wn wv;go_enter Tryz.func65,Tryz.ntmps65
 go_upto_region 3 with (go_at_call 39;refine (impl_Table_isSame.calls n v false _ H1.out).mono ?_;rintro e w1 ⟨rfl,hb⟩;replace HW:=aZ_ (HW.out.step hb);replace BF:=aZ_ (blk_below BF.out hb);replace KB:=aZ_ (below_step KB.out hb);clear hb)
 have C0:Aside0 (w1.cell? ⟨gd,0,none⟩ = some (.slice Ao ord.length oc)):=⟨(blk_cell HW.out.blk 0).trans rfl⟩;have C1:Aside0 (w1.cell? ⟨gd,2,none⟩ = some (.map (some gm))):=⟨(blk_cell HW.out.blk 2).trans rfl⟩;have C2:Aside0 (w1.cell? ⟨w.heap.size,0,none⟩ = some (.int .i64 n)):=⟨(blk_cell BF.out 0).trans rfl⟩;have C3:Aside0 (w1.cell? ⟨w.heap.size,1,none⟩ = some (.int .i64 v)):=⟨(blk_cell BF.out 1).trans rfl⟩;have hb:=below_drew (Below.refl w1.heap.size w1);replace C0:Aside0 (w1.drew.cell? ⟨gd,0,none⟩ = some (.slice Ao ord.length oc)):=⟨pw_cell_below hb C0.out⟩;replace C1:Aside0 (w1.drew.cell? ⟨gd,2,none⟩ = some (.map (some gm))):=⟨pw_cell_below hb C1.out⟩;replace C2:Aside0 (w1.drew.cell? ⟨w.heap.size,0,none⟩ = some (.int .i64 n)):=⟨pw_cell_below hb C2.out⟩;replace C3:Aside0 (w1.drew.cell? ⟨w.heap.size,1,none⟩ = some (.int .i64 v)):=⟨pw_cell_below hb C3.out⟩;replace HW:=aZ_ (HW.out.step hb);replace BF:=aZ_ (blk_below BF.out hb);replace KB:=aZ_ (below_step KB.out hb);clear hb
 have L0:Aside0 ((Instr.lookup 79 (.map (some gm)) (.agg #[.int .i64 n,.int .i64 v]) true).run Tryz.prog w1.drew = .ok (.tuple #[.int .i64 (i:Int),.bool true]) w1.drew):=by
  obtain ⟨D,h1,h2⟩:=HW.out.map;exact ⟨found_yes h1 h2 WN.out WV.out HI.out⟩
 refine start_ (n:=11) (S:=(fun w_=>w_.cell? ⟨gd,0,none⟩ = some (.slice Ao ord.length oc) ∧ w_.cell? ⟨gd,2,none⟩ = some (.map (some gm)) ∧ w_.cell? ⟨w.heap.size,0,none⟩ = some (.int .i64 n) ∧ w_.cell? ⟨w.heap.size,1,none⟩ = some (.int .i64 v) ∧ (Instr.lookup 79 (.map (some gm)) (.agg #[.int .i64 n,.int .i64 v]) true).run Tryz.prog w_ = .ok (.tuple #[.int .i64 (i:Int),.bool true]) w_)) (ds:=[]) (bA 11 0) T22_ rfl rfl ⟨C0.out,C1.out,C2.out,C3.out,L0.out⟩ (fun hHeld=>?_);generalize w1.drew = W0_ at C0 C1 C2 C3 L0 HW BF KB hHeld ⊢;refine pZ_ 0 (some 16) (bA 11 1) ?_;refine pZ_ 1 (some 17) (bA 11 3) ?_;refine pZ_ 2 (some 18) (bA 11 7) ?_;refine tZ5_ 3 (some 19) (bA 11 15) hHeld ?_;refine tZ5_ 4 (some 20) (bA 11 31) hHeld ?_;refine tZ5_ 5 (some 21) (bA 11 63) hHeld ?_;refine pZ_ 6 (some 15) (bA 11 127) ?_;refine pZ_ 7 (some 22) (bA 11 255) ?_;refine pZ_ 8 (some 23) (bA 11 511) ?_;refine pZ_ 9 (some 5) (bA 11 1023) ?_;refine pZ_ 10 (some 6) (bA 11 2047) ?_;refine done_ T22_ ?_;clear C0 C1 C2 C3 L0;go_wp2;go_ret;exact ⟨rfl,nv,HW.out,Kept.of_below KB.out _,.inl rfl⟩
theorem first_is {q:Int → Bool} {l:List Int} {r:Int} {j:Nat} (h:firstIs q l r) (hj:j < l.length) (h1:q (rd l j) = true) (h2:∀ i:Nat,i < j → q (rd l i) = false):r = (j:Int):=by
 rcases h with ⟨k,rfl,hk,hq,hno⟩ | ⟨rfl,hno⟩
 ·rcases Nat.lt_trichotomy k j with hlt | rfl | hgt
  ·rw [h2 k hlt] at hq;cases hq
  ·rfl
  ·rw [hno j hgt] at h1;cases h1
 ·rw [hno j hj] at h1;cases h1
theorem map_not_row {gm:Nat} {nv:Value} {D:DataW Unit} {k b:Nat} {W:World} {nodes:List S56} (hm:W.ownsMap Tryz.prog 25 (plainElem Tryz.prog 3) gm k D) (h:Kd.R k56 56 W b (fun _=>True) nv nodes):some gm ≠ nv.ownBlock:=by
 intro e;obtain ⟨cells,hc⟩:=Kd.R_typed h gm e.symm;obtain ⟨es,cl,hm,_⟩:=hm;rw [hm] at hc
 cases hc
theorem map_not_blk {gm gd:Nat} {D:DataW Unit} {k:Nat} {W:World} {cs:Array Value} {t:TypeId} (hm:W.ownsMap Tryz.prog 25 (plainElem Tryz.prog 3) gm k D) (h:W.heap[gd]? = some (.cells cs t (0,0))):some gm ≠ some gd:=by
 intro e
 cases e
 obtain ⟨es,cl,hm,_⟩:=hm;rw [hm] at h
 cases h
theorem wk_set (W:World) (g j:Nat) (u:Value):W.grownBy (W.setCell ⟨g,j,none⟩ u) (some g) :=
 ⟨rfl,rfl,rfl,by simp [World.setCell],fun k hk hne=>Below.heap_setCell _ _ _ _ (fun e=>hne (by rw [e]))⟩
theorem own_map_grown {gm:Nat} {nv:Value} {D:DataW Unit} {k b:Nat} {W W':World} {nodes:List S56} (hm:W.ownsMap Tryz.prog 25 (plainElem Tryz.prog 3) gm k D) (h:Kd.R k56 56 W b (fun _=>True) nv nodes) (hg:W.grownBy W' (some gm)):Kd.R k56 56 W' b (fun _=>True) nv nodes :=
 Kd.R_mono (Kd.R_grown (Kd.R_bound h) hg (fun k_ hk e=>by
  obtain ⟨_,_,_,_,_,cells,hc⟩:=hk
  cases e
  obtain ⟨es,cl,hm,_⟩:=hm;rw [hm] at hc
  cases hc)) (fun _ hk=>hk.1)
theorem walk_new {n:Int} {gd gm:Nat} {w0:World} {Ao:Option Addr} {oc:Nat} {ord:List Int} {nv:Value} {names:List Int} {nodes:List S56} {w:World} {v low high v0 v1:Int} {j:Nat} {names1 names2:List Int} {nodes1 nodes2:List S56} (h:WalkAt n gd gm w0 Ao oc ord nv names nodes w) (hs:impl_Table_isSame.f n v = some false) (wn:(Lit.int .i64 n).wf = true) (wv:(Lit.int .i64 v).wf = true) (hi:idxOf names v = none)
  (hda:depAll n v ord = true) (hj:firstN (depB n v ord) ord.length 0 = some j) (hol:ord.length < 1000) (t0:impl_Table_stuck.f n v (rd ord j) 0 = some (n,v0)) (t1:impl_Table_stuck.f n v (rd ord j) 1 = some (n,v1))
  (ih0:∀ (W:World) (nv':Value),WalkAt n gd gm w0 Ao oc ord nv' names nodes W → Calls Tryz.prog 65 #[.pointer (some ⟨gd,0,none⟩),.agg #[.int .i64 n,.int .i64 v0]] W (WalkPost n gd gm w0 Ao oc ord nv' W low names1 nodes1))
  (ih1:∀ (W:World) (nv':Value),WalkAt n gd gm w0 Ao oc ord nv' names1 nodes1 W → Calls Tryz.prog 65 #[.pointer (some ⟨gd,0,none⟩),.agg #[.int .i64 n,.int .i64 v1]] W (WalkPost n gd gm w0 Ao oc ord nv' W high names2 nodes2))
  (hlen:nodes2.length < 1000) (hno2:idxOf names2 v = none) :
  Calls Tryz.prog 65 #[.pointer (some ⟨gd,0,none⟩),.agg #[.int .i64 n,.int .i64 v]] w (WalkPost n gd gm w0 Ao oc ord nv w (nodes2.length:Int) (names2 ++ [v]) (nodes2 ++ [⟨rd ord j,low,high⟩])):=by
 obtain ⟨_,hjl,hjq,hjn⟩:=firstN_some _ _ _ hj;rw [Nat.zero_add] at hjl;obtain ⟨ad,rfl,hcj⟩:=Kd.at_int h.ord (j:Int) T73_ T73_;rw [Int.toNat_natCast] at hcj;obtain ⟨iv,hiv⟩:∃ iv,iv = rd ord j:=⟨_,rfl⟩;rw [← hiv] at hcj t0 t1 ⊢;have HCJ:=aZ_ hcj
 have HQ:Aside0 (∀ x:Nat,x < ord.length → impl_Table_depends.f n v (rd ord x) = some (impl_Table_depends.f n v (rd ord x) == some true)):=⟨fun x hx=>by
  obtain ⟨b,hb⟩:=Option.isSome_iff_exists.mp (B.allN_iff.mp hda x hx);rw [hb]
  cases b <;> rfl⟩
 have HJ:Aside0 (∀ r:Int,firstIs (fun x=>impl_Table_depends.f n v x == some true) ord r → r = (j:Int)):=⟨fun r hr=>first_is hr hjl hjq (fun i hi=>hjn i (Nat.zero_le _) hi)⟩;have hjz:(j:Int) < (ord.length:Int):=by omega
 have h0z:(0:Int) ≤ (j:Int):=by omega
 have HOL:=aZ_ hol;have T0:=aZ_ t0;have T1:=aZ_ t1;have IH0:=aZ_ ih0;have IH1:=aZ_ ih1;have HLEN:=aZ_ hlen;have HNO2:=aZ_ hno2;have HI:=aZ_ hi;have WN:=aZ_ wn;have WV:=aZ_ wv;have H1:=aZ_ hs;have hud:=Tryz.underlying81;have hut:=Tryz.underlying25;have KB:=aZ_ (below_alloc (Below.refl w.heap.size w) (.cells #[.int .i64 n,.int .i64 v] 25 (0,0)));have BF:=aZ_ (blk_new w (.cells #[.int .i64 n,.int .i64 v] 25 (0,0)));have HW:=aZ_ (h.step KB.out);clear hcj hiv hda hj hol t0 t1 ih0 ih1 hlen hno2 hi wn wv hs hjl hjq hjn h;go_enter Tryz.func65,Tryz.ntmps65
 go_upto_region 3 with (go_at_call 39;refine (impl_Table_isSame.calls n v false _ H1.out).mono ?_;rintro e w1 ⟨rfl,hb⟩;replace HW:=aZ_ (HW.out.step hb);replace BF:=aZ_ (blk_below BF.out hb);replace KB:=aZ_ (below_step KB.out hb);clear hb)
 have C0:Aside0 (w1.cell? ⟨gd,0,none⟩ = some (.slice (some ad) ord.length oc)):=⟨(blk_cell HW.out.blk 0).trans rfl⟩;have C1:Aside0 (w1.cell? ⟨gd,2,none⟩ = some (.map (some gm))):=⟨(blk_cell HW.out.blk 2).trans rfl⟩;have C2:Aside0 (w1.cell? ⟨w.heap.size,0,none⟩ = some (.int .i64 n)):=⟨(blk_cell BF.out 0).trans rfl⟩;have C3:Aside0 (w1.cell? ⟨w.heap.size,1,none⟩ = some (.int .i64 v)):=⟨(blk_cell BF.out 1).trans rfl⟩;have hb:=below_drew (Below.refl w1.heap.size w1);replace C0:Aside0 (w1.drew.cell? ⟨gd,0,none⟩ = some (.slice (some ad) ord.length oc)):=⟨pw_cell_below hb C0.out⟩;replace C1:Aside0 (w1.drew.cell? ⟨gd,2,none⟩ = some (.map (some gm))):=⟨pw_cell_below hb C1.out⟩;replace C2:Aside0 (w1.drew.cell? ⟨w.heap.size,0,none⟩ = some (.int .i64 n)):=⟨pw_cell_below hb C2.out⟩;replace C3:Aside0 (w1.drew.cell? ⟨w.heap.size,1,none⟩ = some (.int .i64 v)):=⟨pw_cell_below hb C3.out⟩;replace HW:=aZ_ (HW.out.step hb);replace BF:=aZ_ (blk_below BF.out hb);replace KB:=aZ_ (below_step KB.out hb);clear hb
 obtain ⟨c0,hc0⟩:∃ c0:Int,(Instr.lookup 79 (.map (some gm)) (.agg #[.int .i64 n,.int .i64 v]) true).run Tryz.prog w1.drew = .ok (.tuple #[.int .i64 c0,.bool false]) w1.drew:=by
  obtain ⟨D,h1,h2⟩:=HW.out.map;exact found_no h1 h2 WN.out WV.out HI.out
 have L0:=aZ_ hc0;clear hc0;refine start_ (n:=11) (S:=(fun w_=>w_.cell? ⟨gd,0,none⟩ = some (.slice (some ad) ord.length oc) ∧ w_.cell? ⟨gd,2,none⟩ = some (.map (some gm)) ∧ w_.cell? ⟨w.heap.size,0,none⟩ = some (.int .i64 n) ∧ w_.cell? ⟨w.heap.size,1,none⟩ = some (.int .i64 v) ∧ (Instr.lookup 79 (.map (some gm)) (.agg #[.int .i64 n,.int .i64 v]) true).run Tryz.prog w_ = .ok (.tuple #[.int .i64 c0,.bool false]) w_)) (ds:=[]) (bA 11 0) T22_ rfl rfl ⟨C0.out,C1.out,C2.out,C3.out,L0.out⟩ (fun hHeld=>?_);generalize w1.drew = W0_ at C0 C1 C2 C3 L0 HW BF KB hHeld ⊢;refine pZ_ 0 (some 16) (bA 11 1) ?_;refine pZ_ 1 (some 17) (bA 11 3) ?_;refine pZ_ 2 (some 18) (bA 11 7) ?_;refine tZ5_ 3 (some 19) (bA 11 15) hHeld ?_;refine tZ5_ 4 (some 20) (bA 11 31) hHeld ?_;refine tZ5_ 5 (some 21) (bA 11 63) hHeld ?_;refine pZ_ 6 (some 15) (bA 11 127) ?_;refine pZ_ 7 (some 22) (bA 11 255) ?_;refine pZ_ 8 (some 23) (bA 11 511) ?_;refine pZ_ 9 (some 5) (bA 11 1023) ?_;refine pZ_ 10 (some 6) (bA 11 2047) ?_;refine done_ T22_ ?_;clear C0 C1 C2 C3 L0;generalize W0_ = w2 at HW BF KB
 go_upto_region 6 with (fail)
 have HCJ2:Aside0 (w2.cell? (ad.add j) = some (.int .i64 iv)):=⟨(HW.out.below.cell (World.block_lt_of_cell? w0 _ HCJ.out)).trans HCJ.out⟩

 have C0:Aside0 (w2.cell? ⟨gd,0,none⟩ = some (.slice (some ad) ord.length oc)):=⟨(blk_cell HW.out.blk 0).trans rfl⟩;have C1:Aside0 (w2.cell? ⟨w.heap.size,0,none⟩ = some (.int .i64 n)):=⟨(blk_cell BF.out 0).trans rfl⟩;have C2:Aside0 (w2.cell? ⟨w.heap.size,1,none⟩ = some (.int .i64 v)):=⟨(blk_cell BF.out 1).trans rfl⟩;have C3:=HCJ2;clear HCJ2;have hb:=below_drew (Below.refl w2.heap.size w2);replace C0:Aside0 (w2.drew.cell? ⟨gd,0,none⟩ = some (.slice (some ad) ord.length oc)):=⟨pw_cell_below hb C0.out⟩;replace C1:Aside0 (w2.drew.cell? ⟨w.heap.size,0,none⟩ = some (.int .i64 n)):=⟨pw_cell_below hb C1.out⟩;replace C2:Aside0 (w2.drew.cell? ⟨w.heap.size,1,none⟩ = some (.int .i64 v)):=⟨pw_cell_below hb C2.out⟩;replace C3:Aside0 (w2.drew.cell? (ad.add j) = some (.int .i64 iv)):=⟨pw_cell_below hb C3.out⟩;replace HW:=aZ_ (HW.out.step hb);replace BF:=aZ_ (blk_below BF.out hb);replace KB:=aZ_ (below_step KB.out hb);clear hb;refine start_ (n:=14) (S:=(fun w_=>w_.cell? ⟨gd,0,none⟩ = some (.slice (some ad) ord.length oc) ∧ w_.cell? ⟨w.heap.size,0,none⟩ = some (.int .i64 n) ∧ w_.cell? ⟨w.heap.size,1,none⟩ = some (.int .i64 v) ∧ w_.cell? (ad.add j) = some (.int .i64 iv))) (ds:=[]) (bA 14 0) T22_ rfl rfl ⟨C0.out,C1.out,C2.out,C3.out⟩ (fun hHeld=>?_);generalize w2.drew = W0_ at C0 C1 C2 C3 HW BF KB hHeld ⊢;refine pZ_ 0 (some 26) (bA 14 1) ?_;refine pZ_ 1 (some 27) (bA 14 3) ?_;refine pZ_ 2 (some 28) (bA 14 7) ?_;refine tZ4_ 3 (some 29) (bA 14 15) hHeld ?_;refine pZ_ 4 (some 30) (bA 14 31) ?_;refine pZ_ 5 (some 31) (bA 14 63) ?_;refine pZ_ 6 (some 32) (bA 14 127) ?_;refine tZ4_ 7 (some 33) (bA 14 255) hHeld ?_;refine tZ4_ 8 (some 34) (bA 14 511) hHeld ?_;refine pZ_ 9 (some 35) (bA 14 1023) ?_;refine one_ (i:=10) (N:=some 36) (bA 14 2047) rfl rfl T22_ T55_ (fun K hK=>?_);refine goes_ Tryz.func80 T22_ rfl #[.slice (some ad) ord.length oc,.func (.func 49) #[.agg #[.int .i64 n,.int .i64 v]] #[]] (by rfl) rfl rfl T4_ ?_;with_reducible refine (slices_IndexFunc_dep.any (some ad) oc ord n v (fun x=>impl_Table_depends.f n v x == some true) _ HW.out.ordC HQ.out (by have:=HOL.out;omega)).mono ?_
 rintro e W1_ ⟨rr,rfl,hf,hb⟩;obtain rfl:=HJ.out rr hf;clear hf;refine ⟨_,rfl,?_⟩;replace C0:Aside0 (W1_.cell? ⟨gd,0,none⟩ = some (.slice (some ad) ord.length oc)):=⟨pw_cell_below hb C0.out⟩;replace C1:Aside0 (W1_.cell? ⟨w.heap.size,0,none⟩ = some (.int .i64 n)):=⟨pw_cell_below hb C1.out⟩;replace C2:Aside0 (W1_.cell? ⟨w.heap.size,1,none⟩ = some (.int .i64 v)):=⟨pw_cell_below hb C2.out⟩;replace C3:Aside0 (W1_.cell? (ad.add j) = some (.int .i64 iv)):=⟨pw_cell_below hb C3.out⟩;replace HW:=aZ_ (HW.out.step hb);replace BF:=aZ_ (blk_below BF.out hb);replace KB:=aZ_ (below_step KB.out hb);clear hb;refine hK.out _ _ ⟨C0.out,C1.out,C2.out,C3.out⟩ (fun hHeld=>?_);clear hK K;refine nZ_ (some 36) ?_;refine pZ_ 11 (some 37) (bA 14 4095) ?_;refine tZ4_ 12 (some 38) (bA 14 8191) hHeld ?_;refine pZ_ 13 (some 7) (bA 14 16383) ?_;refine done_ T22_ ?_;clear C0 C1 C2 C3;generalize W1_ = w3 at HW BF KB
 go_upto_region 7 with (fail)

 have KK:Aside0 (Kept w w3 (Wr gd gm nv)):=⟨Kept.of_below KB.out _⟩;have SNW:Aside0 (SameOrNew w nv nv):=⟨.inl rfl⟩;clear KB;have C0:Aside0 (w3.cell? ⟨w.heap.size,0,none⟩ = some (.int .i64 n)):=⟨(blk_cell BF.out 0).trans rfl⟩;have C1:Aside0 (w3.cell? ⟨w.heap.size,1,none⟩ = some (.int .i64 v)):=⟨(blk_cell BF.out 1).trans rfl⟩;have hb:=below_drew (Below.refl w3.heap.size w3);replace C0:Aside0 (w3.drew.cell? ⟨w.heap.size,0,none⟩ = some (.int .i64 n)):=⟨pw_cell_below hb C0.out⟩;replace C1:Aside0 (w3.drew.cell? ⟨w.heap.size,1,none⟩ = some (.int .i64 v)):=⟨pw_cell_below hb C1.out⟩;replace HW:=aZ_ (HW.out.step hb);replace BF:=aZ_ (blk_below BF.out hb);replace KK:=aZ_ (KK.out.below hb);clear hb;refine start_ (n:=12) (S:=(fun w_=>w_.cell? ⟨w.heap.size,0,none⟩ = some (.int .i64 n) ∧ w_.cell? ⟨w.heap.size,1,none⟩ = some (.int .i64 v))) (ds:=[]) (bA 12 0) T22_ rfl rfl ⟨C0.out,C1.out⟩ (fun hHeld=>?_);generalize w3.drew = W0_ at C0 C1 HW BF KK hHeld ⊢;refine pZ_ 0 (some 39) (bA 12 1) ?_;refine tZ2_ 1 (some 40) (bA 12 3) hHeld ?_;refine pZ_ 2 (some 41) (bA 12 7) ?_;refine pZ_ 5 (some 44) (bA 12 39) ?_;refine tZ2_ 6 (some 45) (bA 12 103) hHeld ?_;refine pZ_ 7 (some 46) (bA 12 231) ?_;refine one_ (i:=3) (N:=some 42) (bA 12 239) rfl rfl T22_ T55_ (fun K hK=>?_);refine gZ_ Tryz.func81 #[.agg #[.int .i64 n,.int .i64 v],.int .i64 iv,.int .i64 0] ?_;with_reducible refine (impl_Table_stuck.calls n v iv 0 n v0 _ T0.out).mono ?_
 rintro e W1_ ⟨rfl,hb⟩;refine ⟨_,rfl,?_⟩;replace C0:Aside0 (W1_.cell? ⟨w.heap.size,0,none⟩ = some (.int .i64 n)):=⟨pw_cell_below hb C0.out⟩;replace C1:Aside0 (W1_.cell? ⟨w.heap.size,1,none⟩ = some (.int .i64 v)):=⟨pw_cell_below hb C1.out⟩;replace HW:=aZ_ (HW.out.step hb);replace BF:=aZ_ (blk_below BF.out hb);replace KK:=aZ_ (KK.out.below hb);clear hb;refine hK.out _ _ ⟨C0.out,C1.out⟩ (fun hHeld=>?_);clear hK K;refine nZ_ (some 42) ?_;refine one_ (i:=4) (N:=some 43) (bA 12 255) rfl rfl T22_ T55_ (fun K hK=>?_);refine gZ_ Tryz.func65 #[.pointer (some ⟨gd,0,none⟩),.agg #[.int .i64 n,.int .i64 v0]] ?_;with_reducible refine (IH0.out _ nv HW.out).mono ?_
 rintro e W2_ ⟨rfl,nv1,hw_,hk_,hs_⟩;refine ⟨_,rfl,?_⟩;have BF2:=aZ_ (blk_kept BF.out hk_ (box_not HW.out BF.out));have KK2:=aZ_ (KK.out.then_ hk_ (Wr_chain SNW.out));have SN2:=aZ_ (SameOrNew.trans SNW.out hs_ KK.out.1);have HW2:=aZ_ hw_;clear hw_ hk_ hs_ BF KK SNW HW C0 C1;have BF:=BF2;have KK:=KK2;have SNW:=SN2;have HW:=HW2;clear BF2 KK2 SN2 HW2;have C0:Aside0 (W2_.cell? ⟨w.heap.size,0,none⟩ = some (.int .i64 n)):=⟨(blk_cell BF.out 0).trans rfl⟩;have C1:Aside0 (W2_.cell? ⟨w.heap.size,1,none⟩ = some (.int .i64 v)):=⟨(blk_cell BF.out 1).trans rfl⟩;refine hK.out _ _ ⟨C0.out,C1.out⟩ (fun hHeld=>?_);clear hK K;refine nZ_ (some 43) ?_;refine one_ (i:=8) (N:=some 47) (bA 12 511) rfl rfl T22_ T55_ (fun K hK=>?_);refine gZ_ Tryz.func81 #[.agg #[.int .i64 n,.int .i64 v],.int .i64 iv,.int .i64 1] ?_;with_reducible refine (impl_Table_stuck.calls n v iv 1 n v1 _ T1.out).mono ?_
 rintro e W3_ ⟨rfl,hb⟩;refine ⟨_,rfl,?_⟩;replace C0:Aside0 (W3_.cell? ⟨w.heap.size,0,none⟩ = some (.int .i64 n)):=⟨pw_cell_below hb C0.out⟩;replace C1:Aside0 (W3_.cell? ⟨w.heap.size,1,none⟩ = some (.int .i64 v)):=⟨pw_cell_below hb C1.out⟩;replace HW:=aZ_ (HW.out.step hb);replace BF:=aZ_ (blk_below BF.out hb);replace KK:=aZ_ (KK.out.below hb);clear hb;refine hK.out _ _ ⟨C0.out,C1.out⟩ (fun hHeld=>?_);clear hK K;refine nZ_ (some 47) ?_;refine one_ (i:=9) (N:=some 48) (bA 12 1023) rfl rfl T22_ T55_ (fun K hK=>?_);refine gZ_ Tryz.func65 #[.pointer (some ⟨gd,0,none⟩),.agg #[.int .i64 n,.int .i64 v1]] ?_;with_reducible refine (IH1.out _ nv1 HW.out).mono ?_
 rintro e W4_ ⟨rfl,nv2,hw_,hk_,hs_⟩;refine ⟨_,rfl,?_⟩;have BF2:=aZ_ (blk_kept BF.out hk_ (box_not HW.out BF.out));have KK2:=aZ_ (KK.out.then_ hk_ (Wr_chain SNW.out));have SN2:=aZ_ (SameOrNew.trans SNW.out hs_ KK.out.1);have HW2:=aZ_ hw_;clear hw_ hk_ hs_ BF KK SNW HW C0 C1;have BF:=BF2;have KK:=KK2;have SNW:=SN2;have HW:=HW2;clear BF2 KK2 SN2 HW2;have C0:Aside0 (W4_.cell? ⟨w.heap.size,0,none⟩ = some (.int .i64 n)):=⟨(blk_cell BF.out 0).trans rfl⟩;have C1:Aside0 (W4_.cell? ⟨w.heap.size,1,none⟩ = some (.int .i64 v)):=⟨(blk_cell BF.out 1).trans rfl⟩;refine hK.out _ _ ⟨C0.out,C1.out⟩ (fun hHeld=>?_);clear hK K;refine nZ_ (some 48) ?_;refine pZ_ 10 (some 8) (bA 12 2047) ?_;refine pZ_ 11 (some 9) (bA 12 4095) ?_;refine done_ T22_ ?_;clear C0 C1 IH0 IH1 T0 T1;generalize W4_ = w4 at HW BF KK;obtain ⟨A2,c2,rfl⟩:=Kd.R_slice HW.out.own

 obtain ⟨D,hm,hf⟩:=HW.out.map;have HM:=aZ_ hm;have HF:=aZ_ hf;have HOWN:=aZ_ HW.out.own;have BD:=aZ_ HW.out.blk;have HBW:=aZ_ HW.out.below;have HLN:=aZ_ HW.out.len;have HORD:=aZ_ HW.out.ord;have GD:=aZ_ HW.out.gdge;have GM:=aZ_ HW.out.gmge;have hcd1:w4.cell? ⟨gd,1,none⟩ = some (.slice A2 nodes2.length c2):=(blk_cell BD.out 1).trans rfl;clear hm hf HW
 go_upto_region 9 with (first | ((with_reducible refine gate_builtin (b:=.append) (xs:=#[.tmp 53,.tmp 58]) rfl ?_);at_builtin;refine Kd.R_append k56 (w0:=w0) w0.heap.size rfl (.tmp 53) (.tmp 58) 29 56 (.agg #[(.int .i64 0),(.int .i64 0),(.int .i64 0)]) 24 rfl Tryz.underlying29 info56 rfl T55_ T73_ (.slice A2 nodes2.length c2) nodes2 (⟨iv,low,high⟩:S56) [.int .i64 iv,.int .i64 low,.int .i64 high] (fun _=>True) (fun _=>False) rfl rfl ?aP (fun _ hk=>hk.elim) ?aF ?aO ?aB ?aS ?aL ?_;(case aP=>exact k56_mkM _ _ _ (⟨iv,low,high⟩:S56));(case aF=>exact (fun _ _=>trivial));(case aO=>exact HOWN.out);(case aB=>exact HBW.out);(case aS=>exact HBW.out.size);(case aL=>have:=HLEN.out;omega);intro nv3 w5 ho hb hg hat;obtain ⟨A3,c3,rfl⟩:=Kd.R_slice ho;obtain ⟨L3,hL3⟩:∃ L3,L3 = (nodes2 ++ [(⟨iv,low,high⟩:S56)]).length:=⟨_,rfl⟩;rw [← hL3] at ho hat ⊢;have HL3:Aside0 (L3 = nodes2.length + 1):=⟨by rw [hL3,List.length_append];rfl⟩;clear hL3;have n0_:=aZ_ (blk_grown BD.out hg (Kd.R_ne HOWN.out BD.out T55_));have n1_:=aZ_ (blk_grown BF.out hg (Kd.R_ne HOWN.out BF.out T55_));have n2_:=aZ_ (HM.out.kept hg (map_not_row HM.out HOWN.out));have n3_:=aZ_ (Kept.of_grown hg KK.out (fun k_ hk_=>Wr_chain SNW.out k_ (.inr hk_.symm)));have n4_:=aZ_ (SameOrNew.trans SNW.out hat KK.out.1);clear BD BF HM KK SNW HOWN HBW hcd1;have BD:=n0_;have BF:=n1_;have HM:=n2_;have KK:=n3_;have SNW:=n4_;have HOWN:=aZ_ ho;have HBW:=aZ_ hb;clear n0_ n1_ n2_ n3_ n4_ ho hb hg hat;have hcd1:w5.cell? ⟨gd,1,none⟩ = some _:=(blk_cell BD.out 1).trans rfl;have hfd1:w5.frozen? ⟨gd,1,none⟩ = false:=blk_frozen BD.out 1))
 obtain ⟨w6,hw⟩:∃ w6,w6 = w5.setCell ⟨gd,1,none⟩ (.slice A3 L3 c3):=⟨_,rfl⟩;rw [← hw]
 (replace BF:Aside0 (w6.heap[w.heap.size]? = some (.cells #[.int .i64 n,.int .i64 v] 25 (0,0))):=⟨(by rw [hw];exact blk_far BF.out (blk_ne BF.out BD.out T55_) _)⟩;replace HM:Aside0 (w6.ownsMap Tryz.prog 25 (plainElem Tryz.prog 3) gm names2.length D):=⟨(by rw [hw];exact HM.out.kept (wk_set _ gd 1 _) (map_not_blk HM.out BD.out))⟩;replace KK:Aside0 (Kept w w6 (Wr gd gm nv)):=⟨(by rw [hw];exact Kept.setCell KK.out (.inl (.inl (.inl rfl))) _)⟩;replace HOWN:Aside0 (Kd.R k56 56 w6 w0.heap.size (fun _=>True) (.slice A3 L3 c3) (nodes2 ++ [(⟨iv,low,high⟩:S56)])):=⟨(by rw [hw];exact Kd.R_set HOWN.out BD.out T55_ 1 _)⟩;replace BD:Aside0 (w6.heap[gd]? = some (.cells #[.slice (some ad) ord.length oc,.slice A3 L3 c3,.map (some gm)] 81 (0,0))):=⟨(by rw [hw];exact (blk_set BD.out 1 _).trans rfl)⟩;replace HBW:Aside0 (Below w0.heap.size w0 w6):=⟨(by rw [hw];exact HBW.out.setCell GD.out _)⟩;clear hcd1 hfd1 hw)
 have C0:Aside0 (w6.cell? ⟨gd,1,none⟩ = some (.slice A3 L3 c3)):=⟨(blk_cell BD.out 1).trans rfl⟩;have C1:Aside0 (w6.cell? ⟨gd,2,none⟩ = some (.map (some gm))):=⟨(blk_cell BD.out 2).trans rfl⟩;have C2:Aside0 (w6.cell? ⟨w.heap.size,0,none⟩ = some (.int .i64 n)):=⟨(blk_cell BF.out 0).trans rfl⟩;have C3:Aside0 (w6.cell? ⟨w.heap.size,1,none⟩ = some (.int .i64 v)):=⟨(blk_cell BF.out 1).trans rfl⟩;obtain ⟨m,hm⟩:∃ m,m = nodes2.length:=⟨_,rfl⟩;have HMM:=aZ_ hm;have E1:IntKind.i64.wrap ((L3:Int) - 1) = (m:Int):=by have:=HL3.out;have:=HLEN.out;rw [B.wrap_of T73_ T73_];omega
 clear hm BF;have hb:=below_drew (Below.refl w6.heap.size w6);replace C0:Aside0 (w6.drew.cell? ⟨gd,1,none⟩ = some (.slice A3 L3 c3)):=⟨pw_cell_below hb C0.out⟩;replace C1:Aside0 (w6.drew.cell? ⟨gd,2,none⟩ = some (.map (some gm))):=⟨pw_cell_below hb C1.out⟩;replace C2:Aside0 (w6.drew.cell? ⟨w.heap.size,0,none⟩ = some (.int .i64 n)):=⟨pw_cell_below hb C2.out⟩;replace C3:Aside0 (w6.drew.cell? ⟨w.heap.size,1,none⟩ = some (.int .i64 v)):=⟨pw_cell_below hb C3.out⟩;replace BD:=aZ_ (blk_below BD.out hb);replace HM:=aZ_ (HM.out.kept (grown_of_below hb none) T64_);replace KK:=aZ_ (KK.out.below hb);replace HOWN:=aZ_ (Kd.R_below HOWN.out hb);replace HBW:=aZ_ (below_then HBW.out HBW.out.size hb);clear hb;refine start_ (n:=12) (S:=(fun w_=>w_.cell? ⟨gd,1,none⟩ = some (.slice A3 L3 c3) ∧ w_.cell? ⟨gd,2,none⟩ = some (.map (some gm)) ∧ w_.cell? ⟨w.heap.size,0,none⟩ = some (.int .i64 n) ∧ w_.cell? ⟨w.heap.size,1,none⟩ = some (.int .i64 v))) (ds:=[11]) (bA 12 0) T22_ rfl rfl ⟨C0.out,C1.out,C2.out,C3.out⟩ (fun hHeld=>?_);generalize w6.drew = W0_ at C0 C1 C2 C3 BD HM KK HOWN HBW hHeld ⊢;refine pZ_ 0 (some 62) (bA 12 1) ?_;refine pZ_ 1 (some 63) (bA 12 3) ?_;refine pZ_ 2 (some 64) (bA 12 7) ?_;refine tZ4_ 3 (some 65) (bA 12 15) hHeld ?_;refine tZ4_ 4 (some 66) (bA 12 31) hHeld ?_;refine pZ_ 5 (some 67) (bA 12 63) ?_;refine pZ_ 6 (some 68) (bA 12 127) ?_;refine pZ_ 7 (some 69) (bA 12 255) ?_;refine tZ4_ 8 (some 70) (bA 12 511) hHeld ?_;refine pZ_ 9 (some 71) (bA 12 1023) ?_;refine pZ_ 10 (some 72) (bA 12 2047) ?_;refine last_ (i:=11) (N:=none) (bA 12 4095) rfl rfl T22_ T55_ (fun K hK=>?_);obtain ⟨w7,hrun,hown,hgr⟩:=HM.out.update tab_law Tryz.underlying79 (val:=.int .i64 (m:Int)) (by have:=HLN.out;have:=HLEN.out;unfold maxLen;omega) (tab_key WN.out WV.out) (plainElem_int Tryz.underlying3 (by have:=HMM.out;have:=HLEN.out;simp [Lit.wf,IntKind.min,IntKind.max,IntKind.bits,IntKind.signed];omega));refine skip_ (w1:=w7) (by rfl) rfl ?_ ?_
 ·unfold execOp
  simp [Act.eval,hrun,Result.andThen]
 have n0_:=aZ_ (blk_grown BD.out hgr (fun e=>map_not_blk HM.out BD.out e.symm));have n1_:=aZ_ (Kept.of_grown hgr KK.out (fun k_ hk_=>by cases hk_;exact .inl (.inl (.inr rfl))));have n2_:=aZ_ (own_map_grown HM.out HOWN.out hgr);have n3_:=aZ_ (HBW.out.grown hgr HBW.out.size (fun k_ hk_=>by cases hk_;exact GM.out));have HM2:=aZ_ hown;clear hrun hown hgr BD KK HOWN HBW HM;have BD:=n0_;have KK:=n1_;have HOWN:=n2_;have HBW:=n3_;clear n0_ n1_ n2_ n3_ C0 C1 C2 C3 hHeld;refine hK.out _ _ ?_;clear hK K;refine done_ T22_ ?_;have hcd1:w7.cell? ⟨gd,1,none⟩ = some (.slice A3 L3 c3):=(blk_cell BD.out 1).trans rfl;go_wp2;go_ret;have hmm:=HMM.out;subst hmm;refine ⟨rfl,.slice A3 L3 c3,⟨BD.out,HOWN.out,⟨_,?_,HF.out.put WN.out WV.out HNO2.out⟩,?_,HBW.out,HORD.out,GD.out,GM.out⟩,KK.out,SNW.out⟩
 ·rw [List.length_append,HLN.out];rw [HLN.out] at HM2;exact HM2.out
 ·rw [List.length_append,List.length_append,HLN.out];rfl
theorem stuck_fst {n v i b:Int} {t:Int × Int} (h:impl_Table_stuck.f n v i b = some t):t.1 = n:=by
 unfold impl_Table_stuck.f at h
 split at h
 ·cases h;rfl
 ·cases h
theorem impl_diagram_walk.any {n:Int} {gd gm:Nat} {w0:World} {Ao:Option Addr} {oc:Nat} {ord:List Int} (hol:ord.length < 1000) (wn:(Lit.int .i64 n).wf = true):∀ (k:Nat) (v:Int) (names:List Int) (nodes:List S56) (r:Int) (names':List Int) (nodes':List S56),walkS n ord k v names nodes = some (r,names',nodes') →
  ∀ (W:World) (nv:Value),WalkAt n gd gm w0 Ao oc ord nv names nodes W → Calls Tryz.prog 65 #[.pointer (some ⟨gd,0,none⟩),.agg #[.int .i64 n,.int .i64 v]] W (WalkPost n gd gm w0 Ao oc ord nv W r names' nodes'):=by
 intro k
 induction k with
 | zero=>intro v names nodes r names' nodes' h;cases h
 | succ k ih =>
  intro v names nodes r names' nodes' h W nv hw;rw [walkS] at h;obtain ⟨s,hs,h⟩:=Option.bind_eq_some_iff.mp h
  cases s with
  | true =>
   rw [if_pos rfl] at h;obtain ⟨b,hb,h⟩:=Option.bind_eq_some_iff.mp h
   split at h
   next hbb =>
    cases h
    exact walk_same hw hs hb hbb.1 hbb.2
   next=>cases h
  | false =>
   rw [if_neg T55_] at h
   split at h
   next wv =>
    cases hi:idxOf names v with
    | some i =>
     rw [hi] at h
     cases h
     exact walk_found hw hs wn wv hi
    | none =>
     rw [hi] at h;simp only at h
     split at h
     next hda =>
      cases hj:firstN (depB n v ord) ord.length 0 with
      | none=>rw [hj] at h;cases h
      | some j =>
       rw [hj] at h;obtain ⟨t0,ht0,h⟩:=Option.bind_eq_some_iff.mp h;obtain ⟨p1,hp1,h⟩:=Option.bind_eq_some_iff.mp h;obtain ⟨t1,ht1,h⟩:=Option.bind_eq_some_iff.mp h;obtain ⟨p2,hp2,h⟩:=Option.bind_eq_some_iff.mp h
       split at h
       next hh =>
        cases h
        obtain ⟨a0,v0⟩:=t0;obtain ⟨a1,v1⟩:=t1;obtain ⟨low,names1,nodes1⟩:=p1;obtain ⟨high,names2,nodes2⟩:=p2;rw [show a0 = n from stuck_fst ht0] at ht0;rw [show a1 = n from stuck_fst ht1] at ht1;exact walk_new hw hs wn wv hi hda hj hol ht0 ht1 (fun W nv' h'=>ih v0 names nodes low names1 nodes1 hp1 W nv' h') (fun W nv' h'=>ih v1 names1 nodes1 high names2 nodes2 hp2 W nv' h') hh.1 hh.2
       next=>cases h
     next=>cases h
   next=>cases h
def impl_Table_diagram.f (a0_0 a0_1:Int) (l1:List Int):Option (List S56) :=
 if (Lit.int .i64 a0_0).wf = true ∧ l1.length < 1000 then (walkS a0_0 l1 10 a0_1 [] []).bind fun p=>some p.2.2 else none
theorem impl_Table_diagram.calls (a0_0 a0_1:Int) (A1:Option Addr) (c1:Nat) (l1:List Int) (r:List S56) (w:World) (hr1:Kd.C (Kd.int .i64) w A1 l1.length l1) (hc1:l1.length ≤ c1) (h:impl_Table_diagram.f a0_0 a0_1 l1 = some r) :
  Calls Tryz.prog 34 #[.agg #[.int .i64 a0_0,.int .i64 a0_1],.slice A1 l1.length c1] w fun e w'=>∃ v0_:Value,e = .returned (v0_) ∧ Kd.R k56 56 w' w.heap.size (fun _=>True) v0_ r ∧ Below w.heap.size w w':=by
 have hud:=Tryz.underlying81;have hut:=Tryz.underlying25;unfold impl_Table_diagram.f at h
 split at h
 next hh =>
  obtain ⟨⟨r0,names,nodes⟩,hp,h2⟩:=Option.bind_eq_some_iff.mp h;obtain rfl:nodes = r:=Option.some.inj h2;have HWK:Aside0 (∀ (gd gm:Nat) (W:World) (nv:Value),WalkAt a0_0 gd gm w A1 c1 l1 nv [] [] W → Calls Tryz.prog 65 #[.pointer (some ⟨gd,0,none⟩),.agg #[.int .i64 a0_0,.int .i64 a0_1]] W (WalkPost a0_0 gd gm w A1 c1 l1 nv W r0 names nodes)):=⟨fun gd gm W nv hw=>impl_diagram_walk.any hh.2 hh.1 10 a0_1 [] [] r0 names nodes hp W nv hw⟩;clear h h2 hh hp;have HWA:Aside0 (WalkAt a0_0 (w.heap.size + 1 + 1) (w.heap.size + 1) w A1 c1 l1 (.slice none 0 0) [] [] (((w.alloc (.cells #[.int .i64 a0_0,.int .i64 a0_1] 25 (0,0))).alloc (.map #[] 0)).alloc (.cells #[.slice A1 l1.length c1,.slice none 0 0,.map (some (w.heap.size + 1))] 81 (0,0)))):=⟨⟨(by simpa using blk_new ((w.alloc (.cells #[.int .i64 a0_0,.int .i64 a0_1] 25 (0,0))).alloc (.map #[] 0)) (.cells #[.slice A1 l1.length c1,.slice none 0 0,.map (some (w.heap.size + 1))] 81 (0,0))),Kd.R_nil _ _ _ _ _,⟨.map [],World.ownsMap.alloc (by simpa using World.ownsMap_made (w.alloc (.cells #[.int .i64 a0_0,.int .i64 a0_1] 25 (0,0))) Tryz.prog 25 (plainElem (H:=Unit) Tryz.prog 3)) _,FoundAt.nil _⟩,rfl,below_alloc (below_alloc (below_alloc (Below.refl _ _) _) _) _,hr1,by omega,by omega⟩⟩;clear hr1;have hmm:=@run_makeMap Tryz.prog;go_enter Tryz.func34,Tryz.ntmps34
  go_wp2_with (fail)
  with_reducible refine (HWK.out _ _ _ _ HWA.out).mono ?_
  rintro e w3 ⟨rfl,nv,hw,_,_⟩;have HW:=aZ_ hw;have hcd1:w3.cell? ⟨w.heap.size + 1 + 1,1,none⟩ = some nv:=(blk_cell hw.blk 1).trans rfl;clear hw HWA HWK;obtain ⟨A2,c2,rfl⟩:=Kd.R_slice HW.out.own;go_wp2;go_ret;exact ⟨_,rfl,HW.out.own,HW.out.below⟩
 next=>cases h
def impl_DiagramOf.f (k:Nat) (a0_0:Int) (a0_1:Int) (l1:List Int):Option ((List (S56)) × Bool):=(impl_IsTable.f a0_0 a0_1).bind fun t102=>(if t102 = true then ((impl_isOrder.f k l1 a0_0).bind fun t103=>(if t103 = true then ((impl_Table_diagram.f a0_0 a0_1 l1).bind fun t104=>(some (t104,true))) else (some (([]:List (S56)),false)))) else (some (([]:List (S56)),false)))
theorem impl_DiagramOf.calls (k:Nat) (a0_0:Int) (a0_1:Int) (A1:Option Addr) (c1:Nat) (l1:List Int) (r1:List (S56)) (r2:Bool) (w:World) (hr1:Kd.C (Kd.int .i64) w A1 l1.length l1) (hc1:l1.length ≤ c1) (h:impl_DiagramOf.f k a0_0 a0_1 l1 = some (r1,r2)) :
  Calls Tryz.prog 6 #[.agg #[.int .i64 a0_0,.int .i64 a0_1],.slice A1 l1.length c1] w fun e w'=>∃ v0_:Value,e = .returned (.tuple #[v0_,.bool r2]) ∧ Kd.R k56 56 w' w.heap.size (fun _=>True) v0_ r1 ∧ Below w.heap.size w w':=by
 have hu25:=Tryz.underlying25;have HR1:=aZ_ hr1;have HC1:=aZ_ hc1;clear hr1 hc1;have HB:=aZ_ (Below.refl w.heap.size w);have H:((impl_IsTable.f a0_0 a0_1).bind fun t102=>(if t102 = true then ((impl_isOrder.f k l1 a0_0).bind fun t103=>(if t103 = true then ((impl_Table_diagram.f a0_0 a0_1 l1).bind fun t104=>(some (t104,true))) else (some (([]:List (S56)),false)))) else (some (([]:List (S56)),false)))) = some (r1,r2):=h;clear h;replace H:=Option.bind_eq_some_iff.mp H;obtain ⟨t102,A30,H⟩:=H;replace H:(if t102 = true then ((impl_isOrder.f k l1 a0_0).bind fun t103=>(if t103 = true then ((impl_Table_diagram.f a0_0 a0_1 l1).bind fun t104=>(some (t104,true))) else (some (([]:List (S56)),false)))) else (some (([]:List (S56)),false))) = some (r1,r2):=H;have A3:=aZ_ A30;clear A30
 by_cases c4:t102 = true
 ·subst c4
  have H1:((impl_isOrder.f k l1 a0_0).bind fun t103=>(if t103 = true then ((impl_Table_diagram.f a0_0 a0_1 l1).bind fun t104=>(some (t104,true))) else (some (([]:List (S56)),false)))) = some (r1,r2):=by rw [if_pos rfl] at H;exact H
  clear H;have H:=H1;clear H1;replace H:=Option.bind_eq_some_iff.mp H;obtain ⟨t103,A50,H⟩:=H;replace H:(if t103 = true then ((impl_Table_diagram.f a0_0 a0_1 l1).bind fun t104=>(some (t104,true))) else (some (([]:List (S56)),false))) = some (r1,r2):=H;have A5:=aZ_ A50;clear A50
  by_cases c6:t103 = true
  ·subst c6
   have H1:((impl_Table_diagram.f a0_0 a0_1 l1).bind fun t104=>(some (t104,true))) = some (r1,r2):=by rw [if_pos rfl] at H;exact H
   clear H;have H:=H1;clear H1;replace H:=Option.bind_eq_some_iff.mp H;obtain ⟨t104,A70,H⟩:=H;replace H:(some (t104,true)) = some (r1,r2):=H;have A7:=aZ_ A70;clear A70;simp only [Option.some.injEq,Prod.mk.injEq] at H;obtain ⟨rfl,rfl⟩:=H;go_enter Tryz.func6,Tryz.ntmps6
   go_wp2_with (first | ((with_reducible refine gate_dst (N:=2) rfl ?_);refine box_event ?hg (N:=2) ?hd (cs:=#[.int .i64 a0_0,.int .i64 a0_1]) (t:=25) ?hr ?_;(case hd=>rfl);(case hg=>rfl);(case hr=>exact T19_);intro gb101 hg w8 hbox hb;have BK101:=aZ_ (hbox);have GW101:=aZ_ ((T3_:w.heap.size ≤ gb101));have GE101:=aZ_ ((T3_:w.heap.size ≤ gb101));replace HB:=aZ_ (below_step T2_ hb);clear hb hbox hg;obtain ⟨⟨hcz9_0,hcz9_1⟩,hfz9_0,hfz9_1⟩:=bc2_ BK101.out) | ((with_reducible refine gate_callee (f:=32) rfl ?_);refine goesL_ (some 7) rfl rfl Tryz.func32 T22_ rfl #[.agg #[.int .i64 a0_0,.int .i64 a0_1]] rfl T4_ ?_;(with_reducible refine (impl_IsTable.calls a0_0 a0_1 true _ A3.out).mono ?_);rintro e w10 ⟨rfl,hb⟩;refine ⟨_,rfl,?_⟩;replace BK101:=aZ_ (blk_below (g:=gb101) (o:=.cells #[.int .i64 a0_0,.int .i64 a0_1] 25 (0,0)) T5_ hb);replace HB:=aZ_ (below_step T1_ hb);(try clear hb);obtain ⟨⟨hcz11_0,hcz11_1⟩,hfz11_0,hfz11_1⟩:=bc2_ BK101.out) | (go_at_call 33;(with_reducible refine (impl_isOrder.calls k _ _ l1 a0_0 true _ ?side1 ?side2 A5.out).mono ?_);(case side1=>exact T15_);(case side2=>exact HC1.out);rintro e w' ⟨rfl,⟨nd,rfl⟩⟩) | ((with_reducible refine gate_callee (f:=34) rfl ?_);refine goesL_ (some 18) rfl rfl Tryz.func34 T22_ rfl #[.agg #[.int .i64 a0_0,.int .i64 a0_1],.slice A1 l1.length c1] rfl T4_ ?_;(with_reducible refine (impl_Table_diagram.calls a0_0 a0_1 _ _ l1 t104 _ ?side1 ?side2 A7.out).mono ?_);(case side1=>exact (by repeat (first | exact (Kd.C_below HR1.out T1_) | (with_reducible refine Kd.C_alloc ?_ _) | (with_reducible refine Kd.C_drewN ?_ _) | (with_reducible refine Kd.C_drew ?_))));(case side2=>exact HC1.out);rintro e w12 ⟨v105,rfl,ho0,hb⟩;refine ⟨_,rfl,?_⟩;have HO106:=aZ_ (Kd.R_lower ho0 (below_size T1_));replace BK101:=aZ_ (blk_below (g:=gb101) (o:=.cells #[.int .i64 a0_0,.int .i64 a0_1] 25 (0,0)) T5_ hb);replace HB:=aZ_ (below_step T1_ hb);(try clear hb);(try clear ho0)))
   go_ret2
   exact ⟨_,T13_,by (with_reducible repeat (first | apply Kd.R_alloc | apply Kd.R_drewN | apply Kd.R_drew));exact HO106.out,T1_⟩
  ·replace c6:=Bool.eq_false_iff.mpr c6
   subst c6;have H1:(some (([]:List (S56)),false)) = some (r1,r2):=by rw [if_neg (show ¬ (false = true) by decide)] at H;exact H
   clear H;have H:=H1;clear H1;simp only [Option.some.injEq,Prod.mk.injEq] at H;obtain ⟨rfl,rfl⟩:=H;go_enter Tryz.func6,Tryz.ntmps6
   go_wp2_with (first | ((with_reducible refine gate_dst (N:=2) rfl ?_);refine box_event ?hg (N:=2) ?hd (cs:=#[.int .i64 a0_0,.int .i64 a0_1]) (t:=25) ?hr ?_;(case hd=>rfl);(case hg=>rfl);(case hr=>exact T19_);intro gb101 hg w13 hbox hb;have BK101:=aZ_ (hbox);have GW101:=aZ_ ((T3_:w.heap.size ≤ gb101));have GE101:=aZ_ ((T3_:w.heap.size ≤ gb101));replace HB:=aZ_ (below_step T2_ hb);clear hb hbox hg;obtain ⟨⟨hcz14_0,hcz14_1⟩,hfz14_0,hfz14_1⟩:=bc2_ BK101.out) | ((with_reducible refine gate_callee (f:=32) rfl ?_);refine goesL_ (some 7) rfl rfl Tryz.func32 T22_ rfl #[.agg #[.int .i64 a0_0,.int .i64 a0_1]] rfl T4_ ?_;(with_reducible refine (impl_IsTable.calls a0_0 a0_1 true _ A3.out).mono ?_);rintro e w15 ⟨rfl,hb⟩;refine ⟨_,rfl,?_⟩;replace BK101:=aZ_ (blk_below (g:=gb101) (o:=.cells #[.int .i64 a0_0,.int .i64 a0_1] 25 (0,0)) T5_ hb);replace HB:=aZ_ (below_step T1_ hb);(try clear hb);obtain ⟨⟨hcz16_0,hcz16_1⟩,hfz16_0,hfz16_1⟩:=bc2_ BK101.out) | (go_at_call 33;(with_reducible refine (impl_isOrder.calls k _ _ l1 a0_0 false _ ?side1 ?side2 A5.out).mono ?_);(case side1=>exact T15_);(case side2=>exact HC1.out);rintro e w' ⟨rfl,⟨nd,rfl⟩⟩))
   go_ret2
   exact ⟨_,T13_,T83_,T1_⟩
 ·replace c4:=Bool.eq_false_iff.mpr c4
  subst c4;have H1:(some (([]:List (S56)),false)) = some (r1,r2):=by rw [if_neg (show ¬ (false = true) by decide)] at H;exact H
  clear H;have H:=H1;clear H1;simp only [Option.some.injEq,Prod.mk.injEq] at H;obtain ⟨rfl,rfl⟩:=H;go_enter Tryz.func6,Tryz.ntmps6
  go_wp2_with (first | ((with_reducible refine gate_dst (N:=2) rfl ?_);refine box_event ?hg (N:=2) ?hd (cs:=#[.int .i64 a0_0,.int .i64 a0_1]) (t:=25) ?hr ?_;(case hd=>rfl);(case hg=>rfl);(case hr=>exact T19_);intro gb101 hg w17 hbox hb;have BK101:=aZ_ (hbox);have GW101:=aZ_ ((T3_:w.heap.size ≤ gb101));have GE101:=aZ_ ((T3_:w.heap.size ≤ gb101));replace HB:=aZ_ (below_step T2_ hb);clear hb hbox hg;obtain ⟨⟨hcz18_0,hcz18_1⟩,hfz18_0,hfz18_1⟩:=bc2_ BK101.out) | ((with_reducible refine gate_callee (f:=32) rfl ?_);refine goesL_ (some 7) rfl rfl Tryz.func32 T22_ rfl #[.agg #[.int .i64 a0_0,.int .i64 a0_1]] rfl T4_ ?_;(with_reducible refine (impl_IsTable.calls a0_0 a0_1 false _ A3.out).mono ?_);rintro e w19 ⟨rfl,hb⟩;refine ⟨_,rfl,?_⟩;replace BK101:=aZ_ (blk_below (g:=gb101) (o:=.cells #[.int .i64 a0_0,.int .i64 a0_1] 25 (0,0)) T5_ hb);replace HB:=aZ_ (below_step T1_ hb);(try clear hb)))
  go_ret2
  exact ⟨_,T13_,T83_,T1_⟩
mutual
def spec_l3Perm.l0:Nat → List Int → Int → Int → Option (Bool)
 | 0,_,_,_=>none
 | k + 1,x0,x1,x5=>if x5 < (x0.length:Int) then (if 0 ≤ x5 then ((spec_l1In.f (rd x0 x5) 0 (wrap64 (x1 - 1))).bind fun t102=>(if t102 = true then (spec_l3Perm.l1 k x0 x1 x5 0) else (some false))) else (none)) else (some ((x0.length:Int) == x1))
def spec_l3Perm.l1:Nat → List Int → Int → Int → Int → Option (Bool)
 | 0,_,_,_,_=>none
 | k + 1,x0,x1,x5,x6=>if x6 < x5 then (if 0 ≤ x6 then (if x6 < (x0.length:Int) then (if 0 ≤ x5 then (if x5 < (x0.length:Int) then (if (rd x0 x6) = (rd x0 x5) then (some false) else (spec_l3Perm.l1 k x0 x1 x5 (wrap64 (x6 + 1)))) else (none)) else (none)) else (none)) else (none)) else (spec_l3Perm.l0 k x0 x1 (wrap64 (x5 + 1)))
end
def spec_l3Perm.f (k:Nat) (l0:List Int) (a1:Int):Option (Bool):=spec_l3Perm.l0 k l0 a1 0
theorem spec_l3Perm.calls (k:Nat) (A0:Option Addr) (c0:Nat) (l0:List Int) (a1:Int) (r:Bool) (w:World) (hr0:Kd.C (Kd.int .i64) w A0 l0.length l0) (hc0:l0.length ≤ c0) (h:spec_l3Perm.f k l0 a1 = some r) :
  Calls Tryz.prog 36 #[.slice A0 l0.length c0,.int .i64 a1] w fun e w'=>e = .returned (.bool r) ∧ Drawn0 w w':=by
 have HR0:=aZ_ hr0;have HC0:=aZ_ hc0;clear hr0 hc0;have H:(spec_l3Perm.l0 k l0 a1 0) = some r:=h;clear h;have H':=aZ_ H;clear H;go_enter Tryz.func36,Tryz.ntmps36;go_wp2
 repeat (go_quiet (fail);try go_wp2)
 go_loopg [5] k (fun kq v5 w'=>∃ (x5_1:Int),v5 = .int .i64 x5_1 ∧ Aside0 (spec_l3Perm.l0 kq l0 a1 x5_1 = some r) ∧ Aside0 (kq ≤ k) ∧ Drawn0 w w')
 case atStart=>exact ⟨(0),T11_,H',⟨Nat.le_refl _⟩,T29_⟩
 case round =>
  clear H'
  try clear p2
  obtain ⟨x5_1,rfl,HA,HK1,⟨m1,rfl⟩⟩:=hrel
  cases gk with
  | zero=>exact absurd HA.out (by simp [spec_l3Perm.l0])
  | succ k1 =>
   have H:=HA.out;clear HA;simp only [spec_l3Perm.l0] at H
   by_cases c3:x5_1 < (l0.length:Int)
   ·rw [if_pos c3] at H
    have c3b0:decide (x5_1 < (l0.length:Int)) = true:=decide_eq_true c3;clear c3
    by_cases c4:0 ≤ x5_1
    ·rw [if_pos c4] at H
     have c4b0:decide (0 ≤ x5_1) = true:=decide_eq_true c4;clear c4;replace H:=Option.bind_eq_some_iff.mp H;obtain ⟨t102,A50,H⟩:=H;replace H:(if t102 = true then (spec_l3Perm.l1 k1 l0 a1 x5_1 0) else (some false)) = some r:=H;have A5:=aZ_ A50;clear A50
     by_cases c6:t102 = true
     ·subst c6
      have H1:(spec_l3Perm.l1 k1 l0 a1 x5_1 0) = some r:=by rw [if_pos rfl] at H;exact H
      clear H;have H:=H1;clear H1;have H':=aZ_ H;clear H;have p101:0 ≤ (x5_1:Int):=of_decide_eq_true T14_;have q101:x5_1 < (l0.length:Int):=of_decide_eq_true T14_;obtain ⟨ad101,e101,hx101_0⟩:=Kd.at_int HR0.out x5_1 p101 q101
      cases e101
      replace p101:=eq_true p101;replace q101:=eq_true q101
      go_wp2_with (first | (go_at_call 54;(with_reducible refine (spec_l1In.calls (rd l0 x5_1) 0 (wrap64 (a1 - 1)) true _ A5.out).mono ?_);rintro e w' ⟨rfl,⟨nd,rfl⟩⟩;(try exact T7_)))
      repeat (go_quiet (first | (go_at_call 54;(with_reducible refine (spec_l1In.calls (rd l0 x5_1) 0 (wrap64 (a1 - 1)) true _ A5.out).mono ?_);rintro e w' ⟨rfl,⟨nd,rfl⟩⟩;(try exact T7_)));try go_wp2_with (first | (go_at_call 54;(with_reducible refine (spec_l1In.calls (rd l0 x5_1) 0 (wrap64 (a1 - 1)) true _ A5.out).mono ?_);rintro e w' ⟨rfl,⟨nd,rfl⟩⟩;(try exact T7_))))
      go_loopg [6] k1 (fun kq v6 w'=>∃ (x6_2:Int),v6 = .int .i64 x6_2 ∧ Aside0 (spec_l3Perm.l1 kq l0 a1 x5_1 x6_2 = some r) ∧ Aside0 (kq ≤ k1) ∧ Drawn0 w w')
      case atStart=>exact ⟨(0),T11_,H',⟨Nat.le_refl _⟩,T29_⟩
      case round =>
       clear H'
       repeat (first | clear p1 | clear q1 | clear hx1 | clear p2 | clear c3 | clear c3b0 | clear c4 | clear c4b0 | clear c6 | clear p6 | clear hx101_0 | clear p101 | clear q101)
       obtain ⟨x6_2,rfl,HA,HK2,⟨m2,rfl⟩⟩:=hrel
       cases gk with
       | zero=>exact absurd HA.out (by simp [spec_l3Perm.l1])
       | succ k2 =>
        have H:=HA.out;clear HA;simp only [spec_l3Perm.l1] at H
        by_cases c7:x6_2 < x5_1
        ·rw [if_pos c7] at H
         have c7b0:decide (x6_2 < x5_1) = true:=decide_eq_true c7;clear c7
         by_cases c8:0 ≤ x6_2
         ·rw [if_pos c8] at H
          have c8b0:decide (0 ≤ x6_2) = true:=decide_eq_true c8;clear c8
          by_cases c9:x6_2 < (l0.length:Int)
          ·rw [if_pos c9] at H
           have c9b0:decide (x6_2 < (l0.length:Int)) = true:=decide_eq_true c9;clear c9
           by_cases c10:0 ≤ x5_1
           ·rw [if_pos c10] at H
            have c10b0:decide (0 ≤ x5_1) = true:=decide_eq_true c10;clear c10
            by_cases c11:x5_1 < (l0.length:Int)
            ·rw [if_pos c11] at H
             have c11b0:decide (x5_1 < (l0.length:Int)) = true:=decide_eq_true c11;clear c11
             by_cases c12:(rd l0 x6_2) = (rd l0 x5_1)
             ·rw [if_pos c12] at H
              have c12b0:((rd l0 x6_2) == (rd l0 x5_1)) = true:=beq_iff_eq.mpr c12;have c12b1:((rd l0 x6_2) != (rd l0 x5_1)) = false:=bne_eq_false_iff_eq.mpr c12;clear c12;obtain rfl:=Option.some.inj H;have p103:0 ≤ (x6_2:Int):=of_decide_eq_true T14_;have q103:x6_2 < (l0.length:Int):=of_decide_eq_true T14_;obtain ⟨ad103,e103,hx103_0⟩:=Kd.at_int HR0.out x6_2 p103 q103;obtain rfl:ad101 = ad103:=(by injection e103);replace p103:=eq_true p103;replace q103:=eq_true q103;have p104:0 ≤ (x5_1:Int):=of_decide_eq_true T14_;have q104:x5_1 < (l0.length:Int):=of_decide_eq_true T14_;obtain ⟨ad104,e104,hx104_0⟩:=Kd.at_int HR0.out x5_1 p104 q104;obtain rfl:ad101 = ad104:=(by injection e104);replace p104:=eq_true p104;replace q104:=eq_true q104;go_wp2
              repeat (go_quiet (fail);try go_wp2)
              go_ret;exact ⟨T11_,T29_⟩
             ·rw [if_neg c12] at H
              have c12b0:((rd l0 x6_2) == (rd l0 x5_1)) = false:=beq_eq_false_iff_ne.mpr c12;have c12b1:((rd l0 x6_2) != (rd l0 x5_1)) = true:=bne_iff_ne.mpr c12;have H':=aZ_ H;clear H;have p103:0 ≤ (x6_2:Int):=of_decide_eq_true T14_;have q103:x6_2 < (l0.length:Int):=of_decide_eq_true T14_;obtain ⟨ad103,e103,hx103_0⟩:=Kd.at_int HR0.out x6_2 p103 q103;obtain rfl:ad101 = ad103:=(by injection e103);replace p103:=eq_true p103;replace q103:=eq_true q103;have p104:0 ≤ (x5_1:Int):=of_decide_eq_true T14_;have q104:x5_1 < (l0.length:Int):=of_decide_eq_true T14_;obtain ⟨ad104,e104,hx104_0⟩:=Kd.at_int HR0.out x5_1 p104 q104;obtain rfl:ad101 = ad104:=(by injection e104);replace p104:=eq_true p104;replace q104:=eq_true q104;go_wp2
              repeat (go_quiet (fail);try go_wp2)
              go_roundg k2
              case measure=>have:=HK1.out;have:=HK2.out;omega
              case rel=>exact ⟨(wrap64 (x6_2 + 1)),T11_,H',⟨T92_⟩,T29_⟩
            ·rw [if_neg c11] at H
             exact absurd H T64_
           ·rw [if_neg c10] at H
            exact absurd H T64_
          ·rw [if_neg c9] at H
           exact absurd H T64_
         ·rw [if_neg c8] at H
          exact absurd H T64_
        ·rw [if_neg c7] at H
         have c7b0:decide (x6_2 < x5_1) = false:=decide_eq_false c7;clear c7;have H':=aZ_ H;clear H;go_wp2
         repeat (go_quiet (fail);try go_wp2)
         go_roundg k2
         case measure=>have:=HK1.out;have:=HK2.out;omega
         case rel=>exact ⟨(wrap64 (x5_1 + 1)),T11_,H',⟨T92_⟩,T29_⟩
     ·replace c6:=Bool.eq_false_iff.mpr c6
      subst c6;have H1:(some false) = some r:=by rw [if_neg (show ¬ (false = true) by decide)] at H;exact H
      clear H;have H:=H1;clear H1;obtain rfl:=Option.some.inj H;have p101:0 ≤ (x5_1:Int):=of_decide_eq_true T14_;have q101:x5_1 < (l0.length:Int):=of_decide_eq_true T14_;obtain ⟨ad101,e101,hx101_0⟩:=Kd.at_int HR0.out x5_1 p101 q101
      cases e101
      replace p101:=eq_true p101;replace q101:=eq_true q101
      go_wp2_with (first | (go_at_call 54;(with_reducible refine (spec_l1In.calls (rd l0 x5_1) 0 (wrap64 (a1 - 1)) false _ A5.out).mono ?_);rintro e w' ⟨rfl,⟨nd,rfl⟩⟩;(try exact T7_)))
      repeat (go_quiet (first | (go_at_call 54;(with_reducible refine (spec_l1In.calls (rd l0 x5_1) 0 (wrap64 (a1 - 1)) false _ A5.out).mono ?_);rintro e w' ⟨rfl,⟨nd,rfl⟩⟩;(try exact T7_)));try go_wp2_with (first | (go_at_call 54;(with_reducible refine (spec_l1In.calls (rd l0 x5_1) 0 (wrap64 (a1 - 1)) false _ A5.out).mono ?_);rintro e w' ⟨rfl,⟨nd,rfl⟩⟩;(try exact T7_))))
      go_ret;exact ⟨T11_,T29_⟩
    ·rw [if_neg c4] at H
     exact absurd H T64_
   ·rw [if_neg c3] at H
    have c3b0:decide (x5_1 < (l0.length:Int)) = false:=decide_eq_false c3;clear c3;obtain rfl:=Option.some.inj H;go_wp2
    repeat (go_quiet (fail);try go_wp2)
    go_ret;exact ⟨T11_,T29_⟩
def spec_IsConstant.f (a0_0:Int) (a0_1:Int):Option (Bool):=(spec_IsTable.f a0_0 a0_1).bind fun t102=>(if t102 = true then (if a0_1 = 0 then (some true) else ((spec_l2Full.f a0_0).bind fun t103=>(some (a0_1 == t103)))) else (some false))
def spec_IsConstant.T1:Bool × List (List Nat × List Nat):=(true,[([],[]),([0],[0]),([1,1],[1]),([2],[2]),([3,2],[2,3]),([4,2],[2,4]),([5,2,2],[2,5]),([6],[6]),([7,6],[6,7]),([6],[6]),([9,6],[6,9]),([10,6,6],[6,10]),([8,11,6],[6,8,11]),([6,12,2],[2,6,12]),([2,13],[2,13]),([14,11,0,1,2,3,4,5,6,7,8,9,10,11,12,13,14],[14])])
def spec_IsConstant.B1:List Nat:=[0,1,3,7,15,31,63,127,255,127,639,1663,4095,8191,16383,32767]
theorem spec_IsConstant.tab1:rtab .any (opsOf Tryz.f37 1) = spec_IsConstant.T1:=by kernel_rfl
theorem spec_IsConstant.bits1:waitsOk spec_IsConstant.T1.2 spec_IsConstant.B1 = true:=by kernel_rfl
theorem spec_IsConstant.calls (a0_0:Int) (a0_1:Int) (r:Bool) (w:World) (h:spec_IsConstant.f a0_0 a0_1 = some r) :
  Calls Tryz.prog 37 #[.agg #[.int .i64 a0_0,.int .i64 a0_1]] w fun e w'=>e = .returned (.bool r) ∧ Below w.heap.size w w':=by
 have hu25:=Tryz.underlying25;have HB:=aZ_ (Below.refl w.heap.size w);have H:((spec_IsTable.f a0_0 a0_1).bind fun t102=>(if t102 = true then (if a0_1 = 0 then (some true) else ((spec_l2Full.f a0_0).bind fun t103=>(some (a0_1 == t103)))) else (some false))) = some r:=h;clear h;replace H:=Option.bind_eq_some_iff.mp H;obtain ⟨t102,A20,H⟩:=H;replace H:(if t102 = true then (if a0_1 = 0 then (some true) else ((spec_l2Full.f a0_0).bind fun t103=>(some (a0_1 == t103)))) else (some false)) = some r:=H;have A2:=aZ_ A20;clear A20
 by_cases c3:t102 = true
 ·subst c3
  have H1:(if a0_1 = 0 then (some true) else ((spec_l2Full.f a0_0).bind fun t103=>(some (a0_1 == t103)))) = some r:=by rw [if_pos rfl] at H;exact H
  clear H;have H:=H1;clear H1
  by_cases c4:a0_1 = 0
  ·rw [if_pos c4] at H
   have c4b0:(a0_1 == 0) = true:=beq_iff_eq.mpr c4;have c4b1:(a0_1 != 0) = false:=bne_eq_false_iff_eq.mpr c4;clear c4;obtain rfl:=Option.some.inj H;go_enter Tryz.func37,Tryz.ntmps37
   try go_wp2_with (first | ((with_reducible refine gate_dst (N:=1) rfl ?_);refine box_event ?hg (N:=1) ?hd (cs:=#[.int .i64 a0_0,.int .i64 a0_1]) (t:=25) ?hr ?_;(case hd=>rfl);(case hg=>rfl);(case hr=>exact T19_);intro gb101 hg w5 hbox hb;have BK101:=aZ_ (hbox);have GW101:=aZ_ ((T3_:w.heap.size ≤ gb101));have GE101:=aZ_ ((T3_:w.heap.size ≤ gb101));replace HB:=aZ_ (below_step T2_ hb);clear hb hbox hg))
   replace BK101:=aZ_ (blk_drew BK101.out);replace HB:=aZ_ (below_drew1 HB.out);refine start_ (n:=16) (S:=fun w'=>w'.cell? ⟨gb101,0,none⟩ = some (.int .i64 a0_0) ∧ w'.cell? ⟨gb101,1,none⟩ = some (.int .i64 a0_1)) (ds:=[]) (bA 16 0) T22_ rfl rfl ⟨(blk_cell BK101.out 0).trans rfl,(blk_cell BK101.out 1).trans rfl⟩ (fun hHeld=>?_);refine with_tabW spec_IsConstant.tab1 spec_IsConstant.bits1 (fun HT_ HW_=>?_);generalize w5.drew = w6 at BK101 HB hHeld ⊢;refine tZ2_ 0 (some 3) (bA 16 1) hHeld ?_;refine one_ (i:=1) (N:=some 4) (bA 16 3) rfl rfl (one_of HT_.out T22_) T55_ (fun K hK=>?_);refine gZ_ Tryz.func35 #[.agg #[.int .i64 a0_0,.int .i64 a0_1]] ?_;with_reducible refine (spec_IsTable.calls a0_0 a0_1 true _ A2.out).mono ?_
   rintro e w7 ⟨rfl,hb⟩;refine ⟨_,rfl,?_⟩;replace BK101:=aZ_ (blk_below (g:=gb101) (o:=.cells #[.int .i64 a0_0,.int .i64 a0_1] 25 (0,0)) T5_ hb);replace HB:=aZ_ (below_step T1_ hb)
   (try clear hb)
   (try clear hb2)
   (try clear hk)
   (try clear hi)
   refine hK.out _ _ ⟨(blk_cell BK101.out 0).trans rfl,(blk_cell BK101.out 1).trans rfl⟩ (fun hHeld=>?_);clear hK K;refine nZ_ (some 4) ?_;refine pZ_ 2 (some 5) (bA 16 7) ?_;refine pZ_ 3 (some 6) (bA 16 15) ?_;refine tZ2_ 4 (some 7) (bA 16 31) hHeld ?_;refine pZ_ 5 (some 8) (bA 16 63) ?_;refine pZ_ 6 (some 9) (bA 16 127) ?_;refine oZ_ 7 (some 10) (bA 16 255) ?_;refine oZ_ 8 (some 11) (bA 16 511) ?_;refine oZ_ 9 (some 12) (bA 16 1023) ?_;refine oZ_ 10 (some 13) (bA 16 2047) ?_;refine oZ_ 11 (some 14) (bA 16 4095) ?_;refine oZ_ 12 (some 15) (bA 16 8191) ?_;refine pZ_ 13 (some 16) (bA 16 16383) ?_;refine pZ_ 14 (some 17) (bA 16 32767) ?_;refine pZ_ 15 (some 2) (bA 16 65535) ?_;refine done_ (done_of HT_.out T22_) ?_
   try go_wp2
   go_ret;exact ⟨T13_,T1_⟩
  ·rw [if_neg c4] at H
   have c4b0:(a0_1 == 0) = false:=beq_eq_false_iff_ne.mpr c4;have c4b1:(a0_1 != 0) = true:=bne_iff_ne.mpr c4;replace H:=Option.bind_eq_some_iff.mp H;obtain ⟨t103,A80,H⟩:=H;replace H:(some (a0_1 == t103)) = some r:=H;have A8:=aZ_ A80;clear A80;obtain rfl:=Option.some.inj H;go_enter Tryz.func37,Tryz.ntmps37
   try go_wp2_with (first | ((with_reducible refine gate_dst (N:=1) rfl ?_);refine box_event ?hg (N:=1) ?hd (cs:=#[.int .i64 a0_0,.int .i64 a0_1]) (t:=25) ?hr ?_;(case hd=>rfl);(case hg=>rfl);(case hr=>exact T19_);intro gb101 hg w9 hbox hb;have BK101:=aZ_ (hbox);have GW101:=aZ_ ((T3_:w.heap.size ≤ gb101));have GE101:=aZ_ ((T3_:w.heap.size ≤ gb101));replace HB:=aZ_ (below_step T2_ hb);clear hb hbox hg))
   replace BK101:=aZ_ (blk_drew BK101.out);replace HB:=aZ_ (below_drew1 HB.out);refine start_ (n:=16) (S:=fun w'=>w'.cell? ⟨gb101,0,none⟩ = some (.int .i64 a0_0) ∧ w'.cell? ⟨gb101,1,none⟩ = some (.int .i64 a0_1)) (ds:=[]) (bA 16 0) T22_ rfl rfl ⟨(blk_cell BK101.out 0).trans rfl,(blk_cell BK101.out 1).trans rfl⟩ (fun hHeld=>?_);refine with_tabW spec_IsConstant.tab1 spec_IsConstant.bits1 (fun HT_ HW_=>?_);generalize w9.drew = w10 at BK101 HB hHeld ⊢;refine tZ2_ 0 (some 3) (bA 16 1) hHeld ?_;refine one_ (i:=1) (N:=some 4) (bA 16 3) rfl rfl (one_of HT_.out T22_) T55_ (fun K hK=>?_);refine gZ_ Tryz.func35 #[.agg #[.int .i64 a0_0,.int .i64 a0_1]] ?_;with_reducible refine (spec_IsTable.calls a0_0 a0_1 true _ A2.out).mono ?_
   rintro e w11 ⟨rfl,hb⟩;refine ⟨_,rfl,?_⟩;replace BK101:=aZ_ (blk_below (g:=gb101) (o:=.cells #[.int .i64 a0_0,.int .i64 a0_1] 25 (0,0)) T5_ hb);replace HB:=aZ_ (below_step T1_ hb)
   (try clear hb)
   (try clear hb2)
   (try clear hk)
   (try clear hi)
   refine hK.out _ _ ⟨(blk_cell BK101.out 0).trans rfl,(blk_cell BK101.out 1).trans rfl⟩ (fun hHeld=>?_);clear hK K;refine nZ_ (some 4) ?_;refine pZ_ 2 (some 5) (bA 16 7) ?_;refine pZ_ 3 (some 6) (bA 16 15) ?_;refine tZ2_ 4 (some 7) (bA 16 31) hHeld ?_;refine pZ_ 5 (some 8) (bA 16 63) ?_;refine pZ_ 6 (some 9) (bA 16 127) ?_;refine pZ_ 7 (some 10) (bA 16 255) ?_;refine pZ_ 9 (some 12) (bA 16 767) ?_;refine tZ2_ 8 (some 11) (bA 16 1023) hHeld ?_;refine tZ2_ 10 (some 13) (bA 16 2047) hHeld ?_;refine one_ (i:=11) (N:=some 14) (bA 16 4095) rfl rfl (one_of HT_.out T22_) T55_ (fun K hK=>?_);refine gZ_ Tryz.func66 #[.int .i64 a0_0] ?_;with_reducible refine (spec_l2Full.calls a0_0 t103 _ A8.out).mono ?_
   rintro e w' ⟨rfl,⟨nd,rfl⟩⟩;refine ⟨_,rfl,?_⟩;refine hK.out _ _ ⟨(blk_cell BK101.out 0).trans rfl,(blk_cell BK101.out 1).trans rfl⟩ (fun hHeld=>?_);clear hK K;refine nZ_ (some 14) ?_;refine pZ_ 12 (some 15) (bA 16 8191) ?_;refine pZ_ 13 (some 16) (bA 16 16383) ?_;refine pZ_ 14 (some 17) (bA 16 32767) ?_;refine pZ_ 15 (some 2) (bA 16 65535) ?_;refine done_ (done_of HT_.out T22_) ?_
   try go_wp2
   go_ret;exact ⟨T13_,T1_⟩
 ·replace c3:=Bool.eq_false_iff.mpr c3
  subst c3;have H1:(some false) = some r:=by rw [if_neg (show ¬ (false = true) by decide)] at H;exact H
  clear H;have H:=H1;clear H1;obtain rfl:=Option.some.inj H;go_enter Tryz.func37,Tryz.ntmps37
  try go_wp2_with (first | ((with_reducible refine gate_dst (N:=1) rfl ?_);refine box_event ?hg (N:=1) ?hd (cs:=#[.int .i64 a0_0,.int .i64 a0_1]) (t:=25) ?hr ?_;(case hd=>rfl);(case hg=>rfl);(case hr=>exact T19_);intro gb101 hg w12 hbox hb;have BK101:=aZ_ (hbox);have GW101:=aZ_ ((T3_:w.heap.size ≤ gb101));have GE101:=aZ_ ((T3_:w.heap.size ≤ gb101));replace HB:=aZ_ (below_step T2_ hb);clear hb hbox hg))
  replace BK101:=aZ_ (blk_drew BK101.out);replace HB:=aZ_ (below_drew1 HB.out);refine start_ (n:=16) (S:=fun w'=>w'.cell? ⟨gb101,0,none⟩ = some (.int .i64 a0_0) ∧ w'.cell? ⟨gb101,1,none⟩ = some (.int .i64 a0_1)) (ds:=[]) (bA 16 0) T22_ rfl rfl ⟨(blk_cell BK101.out 0).trans rfl,(blk_cell BK101.out 1).trans rfl⟩ (fun hHeld=>?_);refine with_tabW spec_IsConstant.tab1 spec_IsConstant.bits1 (fun HT_ HW_=>?_);generalize w12.drew = w13 at BK101 HB hHeld ⊢;refine tZ2_ 0 (some 3) (bA 16 1) hHeld ?_;refine one_ (i:=1) (N:=some 4) (bA 16 3) rfl rfl (one_of HT_.out T22_) T55_ (fun K hK=>?_);refine gZ_ Tryz.func35 #[.agg #[.int .i64 a0_0,.int .i64 a0_1]] ?_;with_reducible refine (spec_IsTable.calls a0_0 a0_1 false _ A2.out).mono ?_
  rintro e w14 ⟨rfl,hb⟩;refine ⟨_,rfl,?_⟩;replace BK101:=aZ_ (blk_below (g:=gb101) (o:=.cells #[.int .i64 a0_0,.int .i64 a0_1] 25 (0,0)) T5_ hb);replace HB:=aZ_ (below_step T1_ hb)
  (try clear hb)
  (try clear hb2)
  (try clear hk)
  (try clear hi)
  refine hK.out _ _ ⟨(blk_cell BK101.out 0).trans rfl,(blk_cell BK101.out 1).trans rfl⟩ (fun hHeld=>?_);clear hK K;refine nZ_ (some 4) ?_;refine pZ_ 2 (some 5) (bA 16 7) ?_;refine oZ_ 3 (some 6) (bA 16 15) ?_;refine oZ_ 4 (some 7) (bA 16 31) ?_;refine oZ_ 5 (some 8) (bA 16 63) ?_;refine oZ_ 6 (some 9) (bA 16 127) ?_;refine oZ_ 7 (some 10) (bA 16 255) ?_;refine oZ_ 8 (some 11) (bA 16 511) ?_;refine oZ_ 9 (some 12) (bA 16 1023) ?_;refine oZ_ 10 (some 13) (bA 16 2047) ?_;refine oZ_ 11 (some 14) (bA 16 4095) ?_;refine oZ_ 12 (some 15) (bA 16 8191) ?_;refine oZ_ 13 (some 16) (bA 16 16383) ?_;refine pZ_ 14 (some 17) (bA 16 32767) ?_;refine pZ_ 15 (some 2) (bA 16 65535) ?_;refine done_ (done_of HT_.out T22_) ?_
  try go_wp2
  go_ret;exact ⟨T13_,T1_⟩
def spec_l3Cube.l0:Nat → Int → Int → Int → Int → Int → Int → Option (Int)
 | 0,_,_,_,_,_,_=>none
 | k + 1,x1,x2,x7,x8,x102000,x102001=>if 0 ≤ x102000 then (if x8 < (shl .i64 1 x102000) then (if (Go.bits .and .i64 x8 x1) = x2 then (if 0 ≤ x8 then (if x7 ≥ 0 then (if x7 = (Go.bits .and .i64 (shr .i64 x102001 x8) 1) then (spec_l3Cube.l0 k x1 x2 (Go.bits .and .i64 (shr .i64 x102001 x8) 1) (wrap64 (x8 + 1)) x102000 x102001) else (some 2)) else (spec_l3Cube.l0 k x1 x2 (Go.bits .and .i64 (shr .i64 x102001 x8) 1) (wrap64 (x8 + 1)) x102000 x102001)) else (none)) else (spec_l3Cube.l0 k x1 x2 x7 (wrap64 (x8 + 1)) x102000 x102001)) else (some x7)) else (none)
def spec_l3Cube.f (k:Nat) (a0_0:Int) (a0_1:Int) (a1:Int) (a2:Int):Option (Int):=spec_l3Cube.l0 k a1 a2 (-1) 0 a0_0 a0_1
theorem spec_l3Cube.calls (k:Nat) (a0_0:Int) (a0_1:Int) (a1:Int) (a2:Int) (r:Int) (w:World) (h:spec_l3Cube.f k a0_0 a0_1 a1 a2 = some r) :
  Calls Tryz.prog 67 #[.agg #[.int .i64 a0_0,.int .i64 a0_1],.int .i64 a1,.int .i64 a2] w fun e w'=>e = .returned (.int .i64 r) ∧ Below w.heap.size w w':=by
 have hu25:=Tryz.underlying25;have HB:=aZ_ (Below.refl w.heap.size w);have H:(spec_l3Cube.l0 k a1 a2 (-1) 0 a0_0 a0_1) = some r:=h;clear h;have H':=aZ_ H;clear H;go_enter Tryz.func67,Tryz.ntmps67
 go_wp2_with (first | ((with_reducible refine gate_dst (N:=3) rfl ?_);refine box_event ?hg (N:=3) ?hd (cs:=#[.int .i64 a0_0,.int .i64 a0_1]) (t:=25) ?hr ?_;(case hd=>rfl);(case hg=>rfl);(case hr=>exact T19_);intro gb101 hg w4 hbox hb;have BK101:=aZ_ (hbox);have GW101:=aZ_ ((T3_:w.heap.size ≤ gb101));have GE101:=aZ_ ((T3_:w.heap.size ≤ gb101));replace HB:=aZ_ (below_step T2_ hb);clear hb hbox hg))
 go_loopg [7,8] k (fun kq v7 v8 w'=>∃ (x7_1:Int) (x8_1:Int),v7 = .int .i64 x7_1 ∧ v8 = .int .i64 x8_1 ∧ Aside0 (spec_l3Cube.l0 kq a1 a2 x7_1 x8_1 a0_0 a0_1 = some r) ∧ Aside0 (kq ≤ k) ∧ Aside0 (w'.heap[gb101]? = some (.cells #[.int .i64 a0_0,.int .i64 a0_1] 25 (0,0))) ∧ Aside0 (Below w.heap.size w w'))
 case atStart=>exact ⟨((-1)),(0),T11_,T11_,H',⟨Nat.le_refl _⟩,⟨by (with_reducible repeat (first | refine blk_drewN ?_ _ | refine blk_drew ?_ | refine blk_alloc ?_ _));exact BK101.out⟩,⟨T1_⟩⟩
 case round =>
  clear H'
  try clear p2
  obtain ⟨x7_1,x8_1,rfl,rfl,HA,HK1,BK101,HB⟩:=hrel
  cases gk with
  | zero=>exact absurd HA.out (by simp [spec_l3Cube.l0])
  | succ k1 =>
   have H:=HA.out;clear HA;simp only [spec_l3Cube.l0] at H
   by_cases c5:0 ≤ a0_0
   ·rw [if_pos c5] at H
    have c5b0:=eq_true c5;have c5b1:decide (0 ≤ a0_0) = true:=decide_eq_true c5;clear c5;obtain ⟨ji6,hji6⟩:∃ j_:Int,(shl .i64 1 a0_0) = j_:=⟨_,rfl⟩;replace H:(if x8_1 < (ji6) then (if (Go.bits .and .i64 x8_1 a1) = a2 then (if 0 ≤ x8_1 then (if x7_1 ≥ 0 then (if x7_1 = (Go.bits .and .i64 (shr .i64 a0_1 x8_1) 1) then (spec_l3Cube.l0 k1 a1 a2 (Go.bits .and .i64 (shr .i64 a0_1 x8_1) 1) (wrap64 (x8_1 + 1)) a0_0 a0_1) else (some 2)) else (spec_l3Cube.l0 k1 a1 a2 (Go.bits .and .i64 (shr .i64 a0_1 x8_1) 1) (wrap64 (x8_1 + 1)) a0_0 a0_1)) else (none)) else (spec_l3Cube.l0 k1 a1 a2 x7_1 (wrap64 (x8_1 + 1)) a0_0 a0_1)) else (some x7_1)) = some r:=by first | (rw [hji6] at H;exact H) | (simp only [hji6] at H ⊢;exact H)
    have hji6_:(IntKind.i64.wrap (1 * 2 ^ min a0_0.toNat 64)) = ji6:=hji6;have hji6z:a0_0 ≤ 64 → (IntKind.i64.wrap (1 * 2 ^ a0_0.toNat)) = ji6:=shl_small hji6;have hji6u:(IntKind.i64.wrap (2 ^ min a0_0.toNat 64)) = ji6:=by have h_:=hji6_;rw [Int.one_mul] at h_;exact h_
    have hji6v:a0_0 ≤ 64 → (IntKind.i64.wrap (2 ^ a0_0.toNat)) = ji6:=fun hle_=>by have h_:=hji6z hle_;rw [Int.one_mul] at h_;exact h_
    have hji6y:(wrap64 (1 * 2 ^ min a0_0.toNat 64)) = ji6:=(i64_w _).symm.trans hji6_;have hji6x:a0_0 ≤ 64 → (wrap64 (1 * 2 ^ a0_0.toNat)) = ji6:=fun h_=>(i64_w _).symm.trans (hji6z h_)
    by_cases c7:x8_1 < (ji6)
    ·rw [if_pos c7] at H
     have c7b0:decide (x8_1 < (ji6)) = true:=decide_eq_true c7;clear c7
     by_cases c8:(Go.bits .and .i64 x8_1 a1) = a2
     ·rw [if_pos c8] at H
      have c8b0:((Go.bits .and .i64 x8_1 a1) == a2) = true:=beq_iff_eq.mpr c8;have c8b1:((Go.bits .and .i64 x8_1 a1) != a2) = false:=bne_eq_false_iff_eq.mpr c8;clear c8
      by_cases c9:0 ≤ x8_1
      ·rw [if_pos c9] at H
       have c9b0:=eq_true c9;have c9b1:decide (0 ≤ x8_1) = true:=decide_eq_true c9;clear c9;obtain ⟨ji10,hji10⟩:∃ j_:Int,(shr .i64 a0_1 x8_1) = j_:=⟨_,rfl⟩;replace H:(if x7_1 ≥ 0 then (if x7_1 = (Go.bits .and .i64 (ji10) 1) then (spec_l3Cube.l0 k1 a1 a2 (Go.bits .and .i64 (ji10) 1) (wrap64 (x8_1 + 1)) a0_0 a0_1) else (some 2)) else (spec_l3Cube.l0 k1 a1 a2 (Go.bits .and .i64 (ji10) 1) (wrap64 (x8_1 + 1)) a0_0 a0_1)) = some r:=by first | (rw [hji10] at H;exact H) | (simp only [hji10] at H ⊢;exact H)
       have hji10_:(a0_1 / 2 ^ min x8_1.toNat 64) = ji10:=hji10;have hji10z:x8_1 ≤ 64 → (a0_1 / 2 ^ x8_1.toNat) = ji10:=shr_small hji10
       by_cases c11:x7_1 ≥ 0
       ·rw [if_pos c11] at H
        have c11b0:decide (0 ≤ x7_1) = true:=decide_eq_true c11;clear c11
        by_cases c12:x7_1 = (Go.bits .and .i64 (ji10) 1)
        ·rw [if_pos c12] at H
         have c12b0:(x7_1 == (Go.bits .and .i64 (ji10) 1)) = true:=beq_iff_eq.mpr c12;have c12b1:(x7_1 != (Go.bits .and .i64 (ji10) 1)) = false:=bne_eq_false_iff_eq.mpr c12;clear c12;have H':=aZ_ H;clear H;obtain ⟨⟨hcz13_0,hcz13_1⟩,hfz13_0,hfz13_1⟩:=bc2_ BK101.out;go_wp2
         go_roundg k1
         case measure=>have:=HK1.out;omega
         case rel=>exact ⟨(Go.bits .and .i64 (ji10) 1),(wrap64 (x8_1 + 1)),T110_,T11_,H',⟨by have:=HK1.out;omega⟩,⟨by (with_reducible repeat (first | refine blk_drewN ?_ _ | refine blk_drew ?_ | refine blk_alloc ?_ _));exact BK101.out⟩,⟨T1_⟩⟩
        ·rw [if_neg c12] at H
         have c12b0:(x7_1 == (Go.bits .and .i64 (ji10) 1)) = false:=beq_eq_false_iff_ne.mpr c12;have c12b1:(x7_1 != (Go.bits .and .i64 (ji10) 1)) = true:=bne_iff_ne.mpr c12;obtain rfl:=Option.some.inj H;obtain ⟨⟨hcz14_0,hcz14_1⟩,hfz14_0,hfz14_1⟩:=bc2_ BK101.out;go_wp2;go_ret;exact ⟨(by first | rfl | (simp [errW_none,errW_some] <;> rfl) | (simp only [← hji6,← hji10];first | rfl | (simp [errW_none,errW_some] <;> rfl)) | (simp [*,errW_none,errW_some] <;> rfl)),T1_⟩
       ·rw [if_neg c11] at H
        have c11b0:decide (0 ≤ x7_1) = false:=decide_eq_false c11;clear c11;have H':=aZ_ H;clear H;obtain ⟨⟨hcz15_0,hcz15_1⟩,hfz15_0,hfz15_1⟩:=bc2_ BK101.out;go_wp2
        go_roundg k1
        case measure=>have:=HK1.out;omega
        case rel=>exact ⟨(Go.bits .and .i64 (ji10) 1),(wrap64 (x8_1 + 1)),T110_,T11_,H',⟨by have:=HK1.out;omega⟩,⟨by (with_reducible repeat (first | refine blk_drewN ?_ _ | refine blk_drew ?_ | refine blk_alloc ?_ _));exact BK101.out⟩,⟨T1_⟩⟩
      ·rw [if_neg c9] at H
       exact absurd H T64_
     ·rw [if_neg c8] at H
      have c8b0:((Go.bits .and .i64 x8_1 a1) == a2) = false:=beq_eq_false_iff_ne.mpr c8;have c8b1:((Go.bits .and .i64 x8_1 a1) != a2) = true:=bne_iff_ne.mpr c8;have H':=aZ_ H;clear H;obtain ⟨⟨hcz16_0,hcz16_1⟩,hfz16_0,hfz16_1⟩:=bc2_ BK101.out;go_wp2
      go_roundg k1
      case measure=>have:=HK1.out;omega
      case rel=>exact ⟨(x7_1),(wrap64 (x8_1 + 1)),T11_,T11_,H',⟨by have:=HK1.out;omega⟩,⟨by (with_reducible repeat (first | refine blk_drewN ?_ _ | refine blk_drew ?_ | refine blk_alloc ?_ _));exact BK101.out⟩,⟨T1_⟩⟩
    ·rw [if_neg c7] at H
     have c7b0:decide (x8_1 < (ji6)) = false:=decide_eq_false c7;clear c7;obtain rfl:=Option.some.inj H;obtain ⟨⟨hcz17_0,hcz17_1⟩,hfz17_0,hfz17_1⟩:=bc2_ BK101.out;go_wp2;go_ret;exact ⟨T105_,T1_⟩
   ·rw [if_neg c5] at H
    exact absurd H T64_
def spec_l19Word.l0:Nat → Int → Int → Int → Int → Int → Int → Option (Int)
 | 0,_,_,_,_,_,_=>none
 | k + 1,x1,x2,x7,x8,x102000,x102001=>if 0 ≤ x102000 then (if x8 < (shl .i64 1 x102000) then (if 0 ≤ (wrap64 ((wrap64 (x8 - (Go.bits .and .i64 x8 x1))) + x2)) then (if 0 ≤ x8 then (spec_l19Word.l0 k x1 x2 (Go.bits .or .i64 x7 (shl .i64 (Go.bits .and .i64 (shr .i64 x102001 (wrap64 ((wrap64 (x8 - (Go.bits .and .i64 x8 x1))) + x2))) 1) x8)) (wrap64 (x8 + 1)) x102000 x102001) else (none)) else (none)) else (some x7)) else (none)
def spec_l19Word.f (k:Nat) (a0_0:Int) (a0_1:Int) (a1:Int) (a2:Int):Option (Int):=spec_l19Word.l0 k a1 a2 0 0 a0_0 a0_1
theorem spec_l19Word.calls (k:Nat) (a0_0:Int) (a0_1:Int) (a1:Int) (a2:Int) (r:Int) (w:World) (h:spec_l19Word.f k a0_0 a0_1 a1 a2 = some r) :
  Calls Tryz.prog 68 #[.agg #[.int .i64 a0_0,.int .i64 a0_1],.int .i64 a1,.int .i64 a2] w fun e w'=>e = .returned (.int .i64 r) ∧ Below w.heap.size w w':=by
 have hu25:=Tryz.underlying25;have HB:=aZ_ (Below.refl w.heap.size w);have H:(spec_l19Word.l0 k a1 a2 0 0 a0_0 a0_1) = some r:=h;clear h;have H':=aZ_ H;clear H;go_enter Tryz.func68,Tryz.ntmps68
 go_wp2_with (first | ((with_reducible refine gate_dst (N:=3) rfl ?_);refine box_event ?hg (N:=3) ?hd (cs:=#[.int .i64 a0_0,.int .i64 a0_1]) (t:=25) ?hr ?_;(case hd=>rfl);(case hg=>rfl);(case hr=>exact T19_);intro gb101 hg w4 hbox hb;have BK101:=aZ_ (hbox);have GW101:=aZ_ ((T3_:w.heap.size ≤ gb101));have GE101:=aZ_ ((T3_:w.heap.size ≤ gb101));replace HB:=aZ_ (below_step T2_ hb);clear hb hbox hg))
 go_loopg [7,8] k (fun kq v7 v8 w'=>∃ (x7_1:Int) (x8_1:Int),v7 = .int .i64 x7_1 ∧ v8 = .int .i64 x8_1 ∧ Aside0 (spec_l19Word.l0 kq a1 a2 x7_1 x8_1 a0_0 a0_1 = some r) ∧ Aside0 (kq ≤ k) ∧ Aside0 (w'.heap[gb101]? = some (.cells #[.int .i64 a0_0,.int .i64 a0_1] 25 (0,0))) ∧ Aside0 (Below w.heap.size w w'))
 case atStart=>exact ⟨(0),(0),T11_,T11_,H',⟨Nat.le_refl _⟩,⟨by (with_reducible repeat (first | refine blk_drewN ?_ _ | refine blk_drew ?_ | refine blk_alloc ?_ _));exact BK101.out⟩,⟨T1_⟩⟩
 case round =>
  clear H'
  try clear p2
  obtain ⟨x7_1,x8_1,rfl,rfl,HA,HK1,BK101,HB⟩:=hrel
  cases gk with
  | zero=>exact absurd HA.out (by simp [spec_l19Word.l0])
  | succ k1 =>
   have H:=HA.out;clear HA;simp only [spec_l19Word.l0] at H
   by_cases c5:0 ≤ a0_0
   ·rw [if_pos c5] at H
    have c5b0:=eq_true c5;have c5b1:decide (0 ≤ a0_0) = true:=decide_eq_true c5;clear c5;obtain ⟨ji6,hji6⟩:∃ j_:Int,(shl .i64 1 a0_0) = j_:=⟨_,rfl⟩;replace H:(if x8_1 < (ji6) then (if 0 ≤ (wrap64 ((wrap64 (x8_1 - (Go.bits .and .i64 x8_1 a1))) + a2)) then (if 0 ≤ x8_1 then (spec_l19Word.l0 k1 a1 a2 (Go.bits .or .i64 x7_1 (shl .i64 (Go.bits .and .i64 (shr .i64 a0_1 (wrap64 ((wrap64 (x8_1 - (Go.bits .and .i64 x8_1 a1))) + a2))) 1) x8_1)) (wrap64 (x8_1 + 1)) a0_0 a0_1) else (none)) else (none)) else (some x7_1)) = some r:=by first | (rw [hji6] at H;exact H) | (simp only [hji6] at H ⊢;exact H)
    have hji6_:(IntKind.i64.wrap (1 * 2 ^ min a0_0.toNat 64)) = ji6:=hji6;have hji6z:a0_0 ≤ 64 → (IntKind.i64.wrap (1 * 2 ^ a0_0.toNat)) = ji6:=shl_small hji6;have hji6u:(IntKind.i64.wrap (2 ^ min a0_0.toNat 64)) = ji6:=by have h_:=hji6_;rw [Int.one_mul] at h_;exact h_
    have hji6v:a0_0 ≤ 64 → (IntKind.i64.wrap (2 ^ a0_0.toNat)) = ji6:=fun hle_=>by have h_:=hji6z hle_;rw [Int.one_mul] at h_;exact h_
    have hji6y:(wrap64 (1 * 2 ^ min a0_0.toNat 64)) = ji6:=(i64_w _).symm.trans hji6_;have hji6x:a0_0 ≤ 64 → (wrap64 (1 * 2 ^ a0_0.toNat)) = ji6:=fun h_=>(i64_w _).symm.trans (hji6z h_)
    by_cases c7:x8_1 < (ji6)
    ·rw [if_pos c7] at H
     have c7b0:decide (x8_1 < (ji6)) = true:=decide_eq_true c7;clear c7;obtain ⟨ji8,hji8⟩:∃ j_:Int,(wrap64 ((wrap64 (x8_1 - (Go.bits .and .i64 x8_1 a1))) + a2)) = j_:=⟨_,rfl⟩;replace H:(if 0 ≤ (ji8) then (if 0 ≤ x8_1 then (spec_l19Word.l0 k1 a1 a2 (Go.bits .or .i64 x7_1 (shl .i64 (Go.bits .and .i64 (shr .i64 a0_1 (ji8)) 1) x8_1)) (wrap64 (x8_1 + 1)) a0_0 a0_1) else (none)) else (none)) = some r:=by first | (rw [hji8] at H;exact H) | (simp only [hji8] at H ⊢;exact H)
     have hji8w:(IntKind.i64.wrap ((wrap64 (x8_1 - (Go.bits .and .i64 x8_1 a1))) + a2)) = ji8:=(i64_w _).trans hji8
     by_cases c9:0 ≤ (ji8)
     ·rw [if_pos c9] at H
      have c9b0:=eq_true c9;have c9b1:decide (0 ≤ (ji8)) = true:=decide_eq_true c9;clear c9;obtain ⟨ji10,hji10⟩:∃ j_:Int,(shr .i64 a0_1 (ji8)) = j_:=⟨_,rfl⟩;replace H:(if 0 ≤ x8_1 then (spec_l19Word.l0 k1 a1 a2 (Go.bits .or .i64 x7_1 (shl .i64 (Go.bits .and .i64 (ji10) 1) x8_1)) (wrap64 (x8_1 + 1)) a0_0 a0_1) else (none)) = some r:=by first | (rw [hji10] at H;exact H) | (simp only [hji10] at H ⊢;exact H)
      have hji10_:(a0_1 / 2 ^ min (ji8).toNat 64) = ji10:=hji10;have hji10z:(ji8) ≤ 64 → (a0_1 / 2 ^ (ji8).toNat) = ji10:=shr_small hji10
      by_cases c11:0 ≤ x8_1
      ·rw [if_pos c11] at H
       have c11b0:=eq_true c11;have c11b1:decide (0 ≤ x8_1) = true:=decide_eq_true c11;clear c11;obtain ⟨ji12,hji12⟩:∃ j_:Int,(shl .i64 (Go.bits .and .i64 (ji10) 1) x8_1) = j_:=⟨_,rfl⟩;replace H:(spec_l19Word.l0 k1 a1 a2 (Go.bits .or .i64 x7_1 (ji12)) (wrap64 (x8_1 + 1)) a0_0 a0_1) = some r:=by first | (rw [hji12] at H;exact H) | (simp only [hji12] at H ⊢;exact H)
       have hji12_:(IntKind.i64.wrap ((Go.bits .and .i64 (ji10) 1) * 2 ^ min x8_1.toNat 64)) = ji12:=hji12;have hji12z:x8_1 ≤ 64 → (IntKind.i64.wrap ((Go.bits .and .i64 (ji10) 1) * 2 ^ x8_1.toNat)) = ji12:=shl_small hji12;have hji12y:(wrap64 ((Go.bits .and .i64 (ji10) 1) * 2 ^ min x8_1.toNat 64)) = ji12:=(i64_w _).symm.trans hji12_;have hji12x:x8_1 ≤ 64 → (wrap64 ((Go.bits .and .i64 (ji10) 1) * 2 ^ x8_1.toNat)) = ji12:=fun h_=>(i64_w _).symm.trans (hji12z h_)
       have H':=aZ_ H;clear H;obtain ⟨⟨hcz13_0,hcz13_1⟩,hfz13_0,hfz13_1⟩:=bc2_ BK101.out;go_wp2
       go_roundg k1
       case measure=>have:=HK1.out;omega
       case rel=>exact ⟨(Go.bits .or .i64 x7_1 (ji12)),(wrap64 (x8_1 + 1)),(by first | rfl | (simp;done) | (simp only [← hji12] <;> (first | rfl | simp)) | (simp [*];done)),T11_,H',⟨by have:=HK1.out;omega⟩,⟨by (with_reducible repeat (first | refine blk_drewN ?_ _ | refine blk_drew ?_ | refine blk_alloc ?_ _));exact BK101.out⟩,⟨T1_⟩⟩
      ·rw [if_neg c11] at H
       exact absurd H T64_
     ·rw [if_neg c9] at H
      exact absurd H T64_
    ·rw [if_neg c7] at H
     have c7b0:decide (x8_1 < (ji6)) = false:=decide_eq_false c7;clear c7;obtain rfl:=Option.some.inj H;obtain ⟨⟨hcz14_0,hcz14_1⟩,hfz14_0,hfz14_1⟩:=bc2_ BK101.out;go_wp2;go_ret;exact ⟨T105_,T1_⟩
   ·rw [if_neg c5] at H
    exact absurd H T64_
end Go.Proofs.YtflacbjpeecjcabGreatDoor.F
