/- Walks of Go functions and lemmas on what they compute, for the row of FnDiagrams (a part of several): each call ends as the Lean function of its name tells; the conditions are those of each theorem. -/
import Derived.Laws.EntriesVeiled
import Derived.Test.YtflacbjpeecjcabGreatDoorM9FnDiagrams
set_option linter.unusedVariables false
set_option linter.unusedSimpArgs false
set_option maxHeartbeats 16000000
set_option maxRecDepth 100000
open Go.RowKit Go.Proofs.YtflacbjpeecjcabGreatDoorW.PrintWords Go.Proofs.YtflacbjpeecjcabGreatDoorW.PrintLast Go.Proofs.YtflacbjpeecjcabGreatDoorW.PrintMore
namespace Go.Proofs.YtflacbjpeecjcabGreatDoor.F
attribute [local go_sem] max2_int min2_int max_two min_two max_three min_three max_four min_four 
theorem pd_left {l m:List Int} {i:Nat} (h:i < l.length):rd (l ++ m) i = rd l i:=by
 unfold rd;rw [Int.toNat_natCast,List.getD_eq_getElem?_getD,List.getD_eq_getElem?_getD,List.getElem?_append_left h]
theorem pd_last (l:List Int) (x:Int):rd (l ++ [x]) (l.length:Int) = x:=by
 unfold rd;rw [Int.toNat_natCast,List.getD_eq_getElem?_getD,List.getElem?_append_right (Nat.le_refl _),Nat.sub_self]
 rfl
def perUp (f:Nat → List (List Int)):Nat → List (List Int)
 | 0=>[]
 | x + 1=>perUp f x ++ f x
def perF (n:Nat):Nat → List Int → List (List Int)
 | 0,l=>[l]
 | d + 1,l=>perUp (fun x=>if l.contains (x:Int) = true then [] else perF n d (l ++ [(x:Int)])) n
theorem perUp_len {f:Nat → List (List Int)} {m:Nat} (h:∀ x,(f x).length ≤ m):∀ n,(perUp f n).length ≤ n * m:=by
 intro n
 induction n with
 | zero=>exact Nat.zero_le _
 | succ n ih =>
  have:=h n;rw [perUp,List.length_append,Nat.succ_mul];omega
theorem perF_len (n:Nat):∀ d l,(perF n d l).length ≤ n ^ d:=by
 intro d
 induction d with
 | zero=>intro l;rw [perF];exact Nat.le_refl _
 | succ d ih =>
  intro l;rw [perF,Nat.pow_succ,Nat.mul_comm];refine perUp_len (fun x=>?_) n
  split
  ·exact Nat.zero_le _
  ·exact ih _
def useA (n:Nat) (u:List Int):Array Value:=((List.range n).map fun i:Nat=>Value.bool (u.contains (i:Int))).toArray
theorem useA_size (n:Nat) (u:List Int):(useA n u).size = n:=by simp [useA]
theorem useA_get {n i:Nat} (u:List Int) (h:i < n):(useA n u)[i]? = some (.bool (u.contains (i:Int))):=by simp [useA,h]
theorem useA_on {n x:Nat} (u:List Int) (h:x < n):(useA n u).setIfInBounds x (.bool true) = useA n (u ++ [(x:Int)]):=by
 apply Array.ext_getElem?
 intro i;rw [Array.getElem?_setIfInBounds,useA_size]
 by_cases e:x = i
 ·subst e
  rw [if_pos rfl,if_pos h,useA_get _ h];simp
 ·rw [if_neg e]
  by_cases hi:i < n
  ·rw [useA_get _ hi,useA_get _ hi]
   have:¬ (i:Int) = (x:Int):=by omega
   simp [this]
  ·rw [Array.getElem?_eq_none (by rw [useA_size];omega),Array.getElem?_eq_none (by rw [useA_size];omega)]
theorem useA_off {n x:Nat} (u:List Int) (h:x < n) (hu:u.contains (x:Int) = false):(useA n (u ++ [(x:Int)])).setIfInBounds x (.bool false) = useA n u:=by
 apply Array.ext_getElem?
 intro i;rw [Array.getElem?_setIfInBounds,useA_size]
 by_cases e:x = i
 ·subst e
  rw [if_pos rfl,if_pos h,useA_get _ h,hu]
 ·rw [if_neg e]
  by_cases hi:i < n
  ·rw [useA_get _ hi,useA_get _ hi]
   have:¬ (i:Int) = (x:Int):=by omega
   simp [this]
  ·rw [Array.getElem?_eq_none (by rw [useA_size];omega),Array.getElem?_eq_none (by rw [useA_size];omega)]
structure PermAt (n:Nat) (w0:World) (ov:Value) (l u:List Int) (out:List (List Int)) (W:World):Prop where
 ln:l.length ≤ n ∧ n ≤ 64
 bn:W.heap[w0.heap.size]? = some (.cells #[.int .i64 n] 3 (0,0))
 bo:W.heap[w0.heap.size + 1]? = some (.cells #[ov] 64 (0,0))
 ba:∃ cs:Array Value,W.heap[w0.heap.size + 2]? = some (.cells cs 3 (0,0)) ∧ cs.size = n ∧ ∀ i:Nat,i < l.length → cs[i]? = some (.int .i64 (rd l i))
 bl:W.heap[w0.heap.size + 3]? = some (.cells #[.slice (some ⟨w0.heap.size + 2,0,none⟩) l.length n] 26 (0,0))
 bb:W.heap[w0.heap.size + 4]? = some (.cells (useA n u) 4 (0,0))
 bu:W.heap[w0.heap.size + 5]? = some (.cells #[.slice (some ⟨w0.heap.size + 4,0,none⟩) n n] 87 (0,0))
 bg:W.heap[w0.heap.size + 6]? = some (.cells #[.func (.func 71) #[] #[.pointer (some ⟨w0.heap.size + 3,0,none⟩),.pointer (some ⟨w0.heap.size,0,none⟩),.pointer (some ⟨w0.heap.size + 1,0,none⟩),.pointer (some ⟨w0.heap.size + 5,0,none⟩),.pointer (some ⟨w0.heap.size + 6,0,none⟩)]] 1 (0,0))
 so:Kd.S (Kd.slice 3 (Kd.int .i64)) 26 W (w0.heap.size + 7) (fun _=>True) ov out
 le:w0.heap.size + 7 ≤ W.heap.size
 bel:Below w0.heap.size w0 W
section
variable {n:Nat} {w0:World} {ov ov':Value} {l u:List Int} {out out':List (List Int)} {W W':World}
theorem PermAt.below (h:PermAt n w0 ov l u out W) (hb:Below W.heap.size W W'):PermAt n w0 ov l u out W':=by
 obtain ⟨cs,h1,h2,h3⟩:=h.ba;exact ⟨h.ln,blk_below h.bn hb,blk_below h.bo hb,⟨cs,blk_below h1 hb,h2,h3⟩,blk_below h.bl hb,blk_below h.bb hb,blk_below h.bu hb,blk_below h.bg hb,Kd.S_below h.so hb,Nat.le_trans h.le hb.size,below_step h.bel hb⟩
theorem per_so (h:Kd.S (Kd.slice 3 (Kd.int .i64)) 26 W (w0.heap.size + 7) (fun _=>True) ov out) {g:Nat} (hg:g < w0.heap.size + 7) (j:Nat) (v:Value):Kd.S (Kd.slice 3 (Kd.int .i64)) 26 (W.setCell ⟨g,j,none⟩ v) (w0.heap.size + 7) (fun _=>True) ov out :=
 Kd.S_mono (Kd.S_far (Kd.S_bound h) (fun k hk e=>by have h2:=hk.2.1;have e2:k = g:=e;omega) v) (fun _ _=>trivial)
theorem PermAt.mark {x:Nat} (hx:x < n) (h:PermAt n w0 ov l u out W):PermAt n w0 ov l (u ++ [(x:Int)]) out (W.setCell ⟨w0.heap.size + 4,x,none⟩ (.bool true)):=by
 obtain ⟨cs,h1,h2,h3⟩:=h.ba;refine ⟨h.ln,blk_far h.bn T64_ _,blk_far h.bo T64_ _,⟨cs,blk_far h1 T64_ _,h2,h3⟩,blk_far h.bl T64_ _,?_,blk_far h.bu T64_ _,blk_far h.bg T64_ _,per_so h.so T73_ _ _,by simpa [World.setCell] using h.le,below_set h.bel T73_⟩;have e:=blk_set h.bb x (.bool true);rw [useA_on u hx] at e;exact e
theorem PermAt.unmark {x:Nat} (hx:x < n) (hu:u.contains (x:Int) = false) (h:PermAt n w0 ov l (u ++ [(x:Int)]) out W):PermAt n w0 ov l u out (W.setCell ⟨w0.heap.size + 4,x,none⟩ (.bool false)):=by
 obtain ⟨cs,h1,h2,h3⟩:=h.ba;refine ⟨h.ln,blk_far h.bn T64_ _,blk_far h.bo T64_ _,⟨cs,blk_far h1 T64_ _,h2,h3⟩,blk_far h.bl T64_ _,?_,blk_far h.bu T64_ _,blk_far h.bg T64_ _,per_so h.so T73_ _ _,by simpa [World.setCell] using h.le,below_set h.bel T73_⟩;have e:=blk_set h.bb x (.bool false);rw [useA_off u hx hu] at e;exact e
theorem PermAt.push {x:Int} (hl:l.length < n) (h:PermAt n w0 ov l u out W):PermAt n w0 ov (l ++ [x]) u out ((W.setCell ⟨w0.heap.size + 2,l.length,none⟩ (.int .i64 x)).setCell ⟨w0.heap.size + 3,0,none⟩ (.slice (some ⟨w0.heap.size + 2,0,none⟩) (l.length + 1) n)):=by
 obtain ⟨cs,h1,h2,h3⟩:=h.ba;refine ⟨⟨by rw [List.length_append];exact hl,h.ln.2⟩,blk_far (blk_far h.bn T64_ _) T64_ _,blk_far (blk_far h.bo T64_ _) T64_ _,⟨_,blk_far (blk_set h1 l.length (.int .i64 x)) T64_ _,(by rw [Array.size_setIfInBounds];exact h2),fun i hi=>?_⟩,?_,blk_far (blk_far h.bb T64_ _) T64_ _,blk_far (blk_far h.bu T64_ _) T64_ _,blk_far (blk_far h.bg T64_ _) T64_ _,per_so (per_so h.so T73_ _ _) T73_ _ _,by simpa [World.setCell] using h.le,below_set (below_set h.bel T73_) T73_⟩
 ·rw [List.length_append,List.length_singleton] at hi
  rw [Array.getElem?_setIfInBounds]
  by_cases e:l.length = i
  ·subst e
   rw [if_pos rfl,if_pos T73_,pd_last]
  ·rw [if_neg e,h3 i T73_,pd_left T73_]
 ·have e:=blk_set (blk_far h.bl (p:=⟨w0.heap.size + 2,l.length,none⟩) T64_ (.int .i64 x)) 0 (.slice (some ⟨w0.heap.size + 2,0,none⟩) (l.length + 1) n)
  rw [List.length_append];exact e
theorem PermAt.pop {x:Int} (h:PermAt n w0 ov (l ++ [x]) u out W):PermAt n w0 ov l u out (W.setCell ⟨w0.heap.size + 3,0,none⟩ (.slice (some ⟨w0.heap.size + 2,0,none⟩) l.length n)):=by
 obtain ⟨cs,h1,h2,h3⟩:=h.ba;refine ⟨⟨(by have:=h.ln.1;rw [List.length_append] at this;omega),h.ln.2⟩,blk_far h.bn T64_ _,blk_far h.bo T64_ _,⟨cs,blk_far h1 T64_ _,h2,fun i hi=>?_⟩,blk_set h.bl 0 _,blk_far h.bb T64_ _,blk_far h.bu T64_ _,blk_far h.bg T64_ _,per_so h.so T73_ _ _,by simpa [World.setCell] using h.le,below_set h.bel T73_⟩;rw [h3 i (by rw [List.length_append];omega),pd_left hi]
theorem PermAt.put (h:PermAt n w0 ov l u out W) (hg:W.grownBy W' ov.ownBlock) (hs:Kd.S (Kd.slice 3 (Kd.int .i64)) 26 W' (w0.heap.size + 7) (fun _=>True) ov' out') (hb:Below w0.heap.size w0 W'):PermAt n w0 ov' l u out' (W'.setCell ⟨w0.heap.size + 1,0,none⟩ ov'):=by
 obtain ⟨cs,h1,h2,h3⟩:=h.ba;have hne:∀ k,k < w0.heap.size + 7 → some k ≠ ov.ownBlock:=fun k hk e=>by have:=Kd.S_base h.so k e.symm;omega
 have hle:w0.heap.size + 7 ≤ W'.heap.size:=Nat.le_trans h.le hg.size;exact ⟨h.ln,blk_far (blk_grown h.bn hg (hne _ T73_)) T64_ _,blk_set (blk_grown h.bo hg (hne _ T73_)) 0 _,⟨cs,blk_far (blk_grown h1 hg (hne _ T73_)) T64_ _,h2,h3⟩,blk_far (blk_grown h.bl hg (hne _ T73_)) T64_ _,blk_far (blk_grown h.bb hg (hne _ T73_)) T64_ _,blk_far (blk_grown h.bu hg (hne _ T73_)) T64_ _,blk_far (blk_grown h.bg hg (hne _ T73_)) T64_ _,per_so hs T73_ _ _,by simpa [World.setCell] using hle,below_set hb T73_⟩
theorem PermAt.row (h:PermAt n w0 ov l u out W):Kd.C (Kd.int .i64) W (some ⟨w0.heap.size + 2,0,none⟩) l.length l:=by
 obtain ⟨cs,h1,h2,h3⟩:=h.ba;have hc:∀ i:Nat,i < l.length → W.cell? ⟨w0.heap.size + 2,i,none⟩ = some (.int .i64 (rd l i)):=fun i hi=>(blk_cell h1 i).trans (h3 i hi)
 by_cases h0:l.length = 0
 ·refine ⟨rfl,by have:=h.ln;omega,fun hp=>absurd hp T73_⟩
 ·refine ⟨rfl,by have:=h.ln;omega,fun _=>⟨_,rfl,fun j q hj=>?_⟩⟩
  obtain ⟨hjl,hq⟩:=List.getElem?_eq_some_iff.1 hj;refine ⟨[.int .i64 q],rfl,rfl,fun i v hv=>?_⟩
  cases i with
  | zero =>
   cases hv
   have e:=hc j hjl;unfold rd at e;rw [Int.toNat_natCast,List.getD_eq_getElem?_getD,hj] at e
   show W.cell? (Addr.add ⟨w0.heap.size + 2,0,none⟩ (j * 1 + 0)) = some (.int .i64 q)
   rw [Nat.mul_one,Nat.add_zero,Addr.add_lit,Nat.zero_add];exact e
  | succ i=>cases hv
end
theorem append_room_ {P:Program} {ops:Array Oper} {rest:List Oper} {o:Oper} {a:Act} {Q:Exit → Act → World → Prop} {W:World} (hgd:o.guard = none) (s x:Operand) (t e:TypeId) (z:Value) (bytes:Nat) (ho:o.op = .call { callee:=.builtin .append,args:=#[s,x],argTypes:=#[t,t] })
  (ht:P.underlying t = some (.slice e)) (hinfo:(P.info? e).map (fun i=>(i.zero,i.size,i.bytes)) = some (some z,1,bytes)) (b m c:Nat) (v:Value) (hs:a.eval s = .slice (some ⟨b,0,none⟩) m c) (hx:a.eval x = .slice (some ⟨W.heap.size,0,none⟩) 1 1) (h1:v.oneCell' = true) (hroom:m + 1 ≤ c)
  {cs:Array Value} (hb:W.heap[b]? = some (.cells cs e (0,0))) (hc:m < cs.size) (h:wpList P ops Q rest (a.put o.dst (.slice (some ⟨b,0,none⟩) (m + 1) c)) ((W.alloc (.cells #[v] e)).setCell ⟨b,m,none⟩ v)):wpList P ops Q (o :: rest) a (W.alloc (.cells #[v] e)):=by
 obtain ⟨i0,hi,hzz⟩:=Option.map_eq_some_iff.1 hinfo;simp only [Prod.mk.injEq] at hzz;obtain ⟨hz0,hz1,hz2⟩:=hzz;have hb2:=blk_alloc hb (.cells #[v] e)
 have hrun:=run_append_room_cells (P:=P) (W.alloc (.cells #[v] e)) t o.type e i0 ht hi b 0 m c ⟨W.heap.size,0,none⟩ 1 1 [v] (by rw [hz1];rfl)
  (fun j u hj=>by
   cases j with
   | zero=>cases hj;exact (blk_cell (blk_new W (.cells #[v] e)) 0).trans rfl
   | succ j=>cases hj)
  (fun u hu=>by rw [List.mem_singleton] at hu;subst hu;exact h1) hroom
  (fun j hj=>by
   obtain rfl:j = 0:=by have:j < 1:=hj;omega
   rw [blk_cell hb2,hz1,Array.getElem?_eq_getElem T73_];rfl)
  (fun j hj=>blk_frozen hb2 _)
 rw [hz1,Nat.zero_add,Nat.mul_one] at hrun;refine Kd.event_run hgd (w1:=(W.alloc (.cells #[v] e)).setCell ⟨b,m,none⟩ v) (v:=.slice (some ⟨b,0,none⟩) (m + 1) c) ?_ h
 (try simp [execOp,ho,resolve,invoke,builtin,hs,hx,hrun,Result.andThen]) <;> (try rfl)
theorem impl_permutations_1.any (n:Nat) (hn:n ≤ 4) (w0:World):∀ (d:Nat) (l:List Int) (out:List (List Int)) (ov:Value) (W:World),l.length + d = n → out.length + 4 ^ d ≤ 1000 → PermAt n w0 ov l l out W →
  Calls Tryz.prog 71 #[.pointer (some ⟨w0.heap.size + 3,0,none⟩),.pointer (some ⟨w0.heap.size,0,none⟩),.pointer (some ⟨w0.heap.size + 1,0,none⟩),.pointer (some ⟨w0.heap.size + 5,0,none⟩),.pointer (some ⟨w0.heap.size + 6,0,none⟩)] W (fun e W'=>e = .returned (.tuple #[]) ∧ ∃ ov':Value,PermAt n w0 ov' l l (out ++ perF n d l) W'):=by
 intro d
 induction d with
 | zero =>
  intro l out ov W hl hol h;have HP:=aZ_ h;have hcn:W.cell? ⟨w0.heap.size,0,none⟩ = some (.int .i64 n):=(blk_cell h.bn 0).trans rfl;have hcl:W.cell? ⟨w0.heap.size + 3,0,none⟩ = some (.slice (some ⟨w0.heap.size + 2,0,none⟩) l.length n):=(blk_cell h.bl 0).trans rfl;have d3:((l.length:Int) == (n:Int)) = true:=beq_iff_eq.mpr T73_;have HL:=aZ_ hl;have HO:=aZ_ hol;have HN:=aZ_ hn;clear h hl hol hn;go_enter Tryz.func71,Tryz.ntmps71
  go_wp2_with (fail)
  clear hcn hcl d3;have C0:Aside0 (W.cell? ⟨w0.heap.size + 1,0,none⟩ = some ov):=⟨(blk_cell HP.out.bo 0).trans rfl⟩;have C1:Aside0 (W.cell? ⟨w0.heap.size + 3,0,none⟩ = some (.slice (some ⟨w0.heap.size + 2,0,none⟩) l.length n)):=⟨(blk_cell HP.out.bl 0).trans rfl⟩;have hb:=below_drew (Below.refl W.heap.size W);replace C0:Aside0 (W.drew.cell? ⟨w0.heap.size + 1,0,none⟩ = some (ov)):=⟨pw_cell_below hb C0.out⟩;replace C1:Aside0 (W.drew.cell? ⟨w0.heap.size + 3,0,none⟩ = some (.slice (some ⟨w0.heap.size + 2,0,none⟩) l.length n)):=⟨pw_cell_below hb C1.out⟩;replace HP:=aZ_ (PermAt.below HP.out hb);clear hb;refine start_ (n:=7) (S:=(fun w_=>w_.cell? ⟨w0.heap.size + 1,0,none⟩ = some (ov) ∧ w_.cell? ⟨w0.heap.size + 3,0,none⟩ = some (.slice (some ⟨w0.heap.size + 2,0,none⟩) l.length n))) (ds:=[5,6]) (bA 7 0) T22_ rfl rfl ⟨C0.out,C1.out⟩ (fun hHeld=>?_);generalize W.drew = V0_ at C0 C1 HP hHeld ⊢;have HB0:Aside0 (Below V0_.heap.size V0_ V0_):=⟨Below.refl _ _⟩;refine tZ2_ 0 (some 10) (bA 7 1) hHeld ?_;refine tZ2_ 2 (some 12) (bA 7 5) hHeld ?_;refine one_ (i:=1) (N:=some 11) (bA 7 7) rfl rfl T22_ T55_ (fun K hK=>?_);refine Kd.R_lit_step (Kd.int .i64) (w0:=V0_) V0_.heap.size 3 ?hg (N:=11) ?hd (xs:=([]:List Int)) (inner:=[]) (ok:=fun _=>True) (okp:=fun _=>True) ?hr ?hp (fun _ hk=>hk) trivial HB0.out (Nat.le_refl _) T64_ ?_
  case hd=>rfl
  case hg=>rfl
  case hr=>first | (go_simp;done) | (go_simp;rfl)
  case hp=>exact Reps.none _ _
  intro v1 V1_ hr1 hb1 _ _;obtain ⟨A1,c1,rfl,_,_⟩:=Kd.R_reads hr1;have HR1:=aZ_ hr1;have HB1:=aZ_ hb1;clear hr1 hb1;refine hK.out _ _ ⟨pw_cell_below HB1.out C0.out,pw_cell_below HB1.out C1.out⟩ (fun hHeld=>?_);clear hK K;refine nZ_ (some 11) ?_;clear HB0;have HB0:=HB1;clear HB1;refine one_ (i:=3) (N:=some 13) (bA 7 15) rfl rfl T22_ T55_ (fun K hK=>?_);refine Kd.R_append_rows_step (Kd.int .i64) (w0:=V0_) V0_.heap.size (by rfl) (.tmp 11) (.tmp 12) 26 3 (.int .i64 0) 8 (by rfl) Tryz.underlying26 info3 (by rfl) T55_ T55_ (.slice A1 ([]:List Int).length c1) [] l (some ⟨w0.heap.size + 2,0,none⟩) l.length n (fun _=>True) (fun _=>False) (by rfl) (by rfl) HR1.out (PermAt.row (PermAt.below HP.out HB0.out)) (fun _ _ h_=>h_) (fun _ h_=>h_.elim) (fun _ _=>trivial) HB0.out HB0.out.size (by have:=HP.out.ln;rw [List.length_nil];omega) ?_;intro v2 V2_ hr2 hb2 _ _;rw [List.nil_append] at hr2;obtain ⟨A2,c2,rfl,_,_⟩:=Kd.R_reads hr2;have HR2:=aZ_ hr2;have HB1:=aZ_ hb2;clear hr2 hb2 HR1;refine hK.out _ _ ⟨pw_cell_below HB1.out C0.out,pw_cell_below HB1.out C1.out⟩ (fun hHeld=>?_);clear hK K;refine nZ_ (some 13) ?_;clear HB0;have HB0:=HB1;clear HB1;refine one_ (i:=4) (N:=some 14) (bA 7 31) rfl rfl T22_ T55_ (fun K hK=>?_);refine value_ (w1:=?_) (v:=?_) (by rfl) rfl ?_ ?_;rotate_left 2
  ·go_simp
   constructor
   ·rfl
   ·rfl
  have HB1:=aZ_ (below_alloc HB0.out (.cells #[.slice A2 l.length c2] 26 (0,0)));refine hK.out _ _ ⟨pw_cell_below HB1.out C0.out,pw_cell_below HB1.out C1.out⟩ (fun hHeld=>?_);clear hK K;refine nZ_ (some 14) ?_;refine last_ (i:=5) (N:=some 15) (bA 7 63) rfl rfl T22_ T55_ (fun K hK=>?_);have hle:w0.heap.size + 7 ≤ V0_.heap.size:=HP.out.le;refine Kd.S_append_step (Kd.slice 3 (Kd.int .i64)) (w0:=V0_) (w0.heap.size + 7) (by rfl) (.tmp 10) (.tmp 14) 64 26 (.slice none 0 0) 24 (by rfl) Tryz.underlying64 info26 (by rfl) T55_ T55_ ov out l [.slice A2 l.length c2] (fun _=>True) (fun k_=>some k_ = (.slice A2 l.length c2:Value).ownBlock) (by rfl) (by rfl) ?aP ?aK (fun _ _=>trivial) ?aO (Below.mono HB0.out hle) (Nat.le_trans hle HB0.out.size) (by have:=HO.out;omega) ?_
  case aP=>exact Kd.M_row (Kd.R_lower (Kd.R_tight rfl HR2.out) hle)
  case aK=>exact fun k hk=>⟨trivial,fun e=>by have h1:=Kd.S_lt HP.out.so k e.symm;have h2:=Kd.R_base HR2.out k hk.symm;omega⟩
  case aO=>exact Kd.S_mono (Kd.S_bound (Kd.S_below (Kd.S_mono (Kd.S_bound HP.out.so) (fun k (hk:_ ∧ _)=>(show k < V0_.heap.size from hk.2.2.1))) HB0.out)) (fun k hk=>⟨trivial,fun e=>by have h1:=hk.1;have h2:=Kd.R_base HR2.out k e.symm;omega⟩)
  intro v3 V3_ ho hb hg _;obtain ⟨A3,c3,rfl⟩:=Kd.S_slice ho;have HQ0:=PermAt.put (PermAt.below HP.out HB0.out) hg ho (below_weaken HP.out.bel T73_ hb);have hc3:V3_.cell? ⟨w0.heap.size + 1,0,none⟩ = some ov:=(blk_cell (blk_grown (PermAt.below HP.out HB0.out).bo hg (fun e=>by have:=Kd.S_base HP.out.so _ e.symm;omega)) 0).trans rfl;have hf3:V3_.frozen? ⟨w0.heap.size + 1,0,none⟩ = false:=blk_frozen (blk_grown (PermAt.below HP.out HB0.out).bo hg (fun e=>by have:=Kd.S_base HP.out.so _ e.symm;omega)) 0;have HQ:=aZ_ HQ0;clear HQ0 ho hb hg HR2 C0 C1 HP HB0 HB1 hHeld;refine hK.out _ _ ?_;clear hK K;refine nZ_ (some 15) ?_;refine last_ (i:=6) (N:=none) (bA 7 127) rfl rfl T22_ T55_ (fun K hK=>?_);refine skip_ (w1:=V3_.setCell ⟨w0.heap.size + 1,0,none⟩ (.slice A3 (out ++ [l]).length c3)) (by rfl) rfl ?_ ?_
  ·go_simp
  clear hc3 hf3;refine hK.out _ _ ?_;clear hK K;generalize V3_.setCell ⟨w0.heap.size + 1,0,none⟩ (.slice A3 (out ++ [l]).length c3) = V4_ at HQ ⊢;refine done_ T22_ ?_;go_wp2;refine bodyPost_ret (results_none rfl _ _ _) rfl ?_;exact ⟨rfl,_,HQ.out⟩
 | succ d ih =>
  intro l out ov W hl hol h;have IH:=aZ_ ih;have HP:=aZ_ h;have hcn:W.cell? ⟨w0.heap.size,0,none⟩ = some (.int .i64 n):=(blk_cell h.bn 0).trans rfl;have hcl:W.cell? ⟨w0.heap.size + 3,0,none⟩ = some (.slice (some ⟨w0.heap.size + 2,0,none⟩) l.length n):=(blk_cell h.bl 0).trans rfl;have d3:((l.length:Int) == (n:Int)) = false:=beq_eq_false_iff_ne.mpr T73_;obtain ⟨f,hf⟩:∃ f:Nat → List (List Int),f = fun x:Nat=>if l.contains (x:Int) = true then [] else perF n d (l ++ [(x:Int)]):=⟨_,rfl⟩
  have HFN:Aside0 (perF n (d + 1) l = perUp f n):=⟨by rw [hf,perF]⟩;have HF:=aZ_ hf
  have HLEN:Aside0 (∀ x,x < n → (out ++ perUp f x).length + 4 ^ d ≤ 1000):=⟨fun x hx=>by
   have h1:(perUp f x).length ≤ x * 4 ^ d:=perUp_len (fun y=>by
    rw [hf]
    show (if l.contains (y:Int) = true then [] else perF n d (l ++ [(y:Int)])).length ≤ 4 ^ d
    split
    ·exact Nat.zero_le _
    ·exact Nat.le_trans (perF_len n d _) (Nat.pow_le_pow_left hn d)) x
   have h2:(x + 1) * 4 ^ d ≤ 4 * 4 ^ d:=Nat.mul_le_mul_right _ T73_;rw [Nat.succ_mul] at h2;rw [Nat.pow_succ,Nat.mul_comm] at hol;rw [List.length_append];omega⟩
  have HL:=aZ_ hl;have HN:=aZ_ hn;clear h hl hol hn ih hf;go_enter Tryz.func71,Tryz.ntmps71;go_wp2;clear hcn hcl d3
  go_loopg [17] n (fun gg v17 wr=>∃ (x:Nat) (ov1:Value),x ≤ n ∧ n - x ≤ gg ∧ v17 = .int .i64 x ∧ Aside0 (PermAt n w0 ov1 l l (out ++ perUp f x) wr))
  case atStart=>exact ⟨0,ov,Nat.zero_le _,by omega,rfl,⟨(by rw [perUp,List.append_nil];exact HP.out)⟩⟩
  case round =>
   clear HP;obtain ⟨x,ov1,hxn,hgg,rfl,HP⟩:=hrel;have HG:=aZ_ hgg;clear hgg
   by_cases hlt:x < n
   ·have dx:(x:Int) < (n:Int):=by omega
    have dx0:(0:Int) ≤ (x:Int):=by omega
    have HX:=aZ_ hlt;have hcu:wr.cell? ⟨w0.heap.size + 5,0,none⟩ = some (.slice (some ⟨w0.heap.size + 4,0,none⟩) n n):=(blk_cell HP.out.bu 0).trans rfl;have hcx:wr.cell? ⟨w0.heap.size + 4,x,none⟩ = some (.bool (l.contains (x:Int))):=(blk_cell HP.out.bb x).trans (useA_get l hlt)
    cases hc:l.contains (x:Int) with
    | true =>
     rw [hc] at hcx;have HFX:Aside0 (f x = []):=⟨by rw [HF.out];exact if_pos hc⟩;clear hc;go_wp2
     go_roundg (n - (x + 1))
     case measure=>have:=HX.out;have:=HG.out;omega
     case rel=>exact ⟨x + 1,ov1,by have:=HX.out;omega,by omega,T112_,⟨(by rw [perUp,HFX.out,List.append_nil];exact HP.out)⟩⟩
    | false =>
     rw [hc] at hcx;have HFX:Aside0 (f x = perF n d (l ++ [(x:Int)])):=⟨(by rw [HF.out];exact if_neg (by rw [hc];decide))⟩;have HC:=aZ_ hc;have hfx:wr.frozen? ⟨w0.heap.size + 4,x,none⟩ = false:=blk_frozen HP.out.bb x;clear hc
     go_upto_region 7 with (fail)
     have HP1:=aZ_ (PermAt.mark HX.out HP.out);generalize wr.setCell ⟨w0.heap.size + 4,x,none⟩ (.bool true) = w1 at HP1 ⊢;clear hcu hcx hfx HP;have hcl:w1.cell? ⟨w0.heap.size + 3,0,none⟩ = some (.slice (some ⟨w0.heap.size + 2,0,none⟩) l.length n):=(blk_cell HP1.out.bl 0).trans rfl;obtain ⟨cs,hcs,hsz,_⟩:=HP1.out.ba;have HCS:=aZ_ hcs;have HSZ:=aZ_ hsz;clear hcs hsz
     go_upto_region 8 with (first | ((with_reducible refine gate_builtin (b:=.append) (xs:=#[.tmp 28,.tmp 30]) rfl ?_);at_builtin;refine append_room_ rfl (.tmp 28) (.tmp 30) 26 3 (.int .i64 0) 8 rfl Tryz.underlying26 info3 (w0.heap.size + 2) l.length n (.int .i64 x) rfl rfl rfl (by have:=HL.out;omega) HCS.out (by have:=HL.out;have:=HSZ.out;omega) ?_;have hcl2:=(blk_cell (blk_far (p:=⟨w0.heap.size + 2,l.length,none⟩) (PermAt.below HP1.out (below_alloc (Below.refl _ _) (.cells #[.int .i64 x] 3 (0,0)))).bl T64_ (.int .i64 x)) 0).trans rfl;have hfl2:=blk_frozen (blk_far (p:=⟨w0.heap.size + 2,l.length,none⟩) (PermAt.below HP1.out (below_alloc (Below.refl _ _) (.cells #[.int .i64 x] 3 (0,0)))).bl T64_ (.int .i64 x)) 0))
     have HP2:=aZ_ (PermAt.push (x:=(x:Int)) (by have:=HL.out;omega) (PermAt.below HP1.out (below_alloc (Below.refl _ _) (.cells #[.int .i64 x] 3 (0,0)))));clear hcl hcl2 hfl2 HP1 HCS HSZ;generalize ((w1.alloc (.cells #[.int .i64 x] 3 (0,0))).setCell ⟨w0.heap.size + 2,l.length,none⟩ (.int .i64 x)).setCell ⟨w0.heap.size + 3,0,none⟩ (.slice (some ⟨w0.heap.size + 2,0,none⟩) (l.length + 1) n) = w2 at HP2 ⊢;have hcg:w2.cell? ⟨w0.heap.size + 6,0,none⟩ = some (.func (.func 71) #[] #[.pointer (some ⟨w0.heap.size + 3,0,none⟩),.pointer (some ⟨w0.heap.size,0,none⟩),.pointer (some ⟨w0.heap.size + 1,0,none⟩),.pointer (some ⟨w0.heap.size + 5,0,none⟩),.pointer (some ⟨w0.heap.size + 6,0,none⟩)]):=(blk_cell HP2.out.bg 0).trans rfl
     go_upto_region 9 with (with_reducible refine (IH.out (l ++ [(x:Int)]) (out ++ perUp f x) ov1 w2 (by have:=HL.out;rw [List.length_append,List.length_singleton];omega) (HLEN.out x HX.out) HP2.out).mono ?_;rintro e w3 ⟨rfl,ov2,hp3⟩;have HP3:=aZ_ hp3;clear hp3)
     clear hcg HP2;obtain ⟨m,hm⟩:∃ m:Nat,m = l.length + 1:=⟨_,rfl⟩;have E1:IntKind.i64.wrap ((m:Int) - 1) = (l.length:Int):=by have:=HL.out;have:=HN.out;rw [B.wrap_of T73_ T73_];omega
     have hcl3:w3.cell? ⟨w0.heap.size + 3,0,none⟩ = some (.slice (some ⟨w0.heap.size + 2,0,none⟩) m n):=by
      have e:=(blk_cell HP3.out.bl 0).trans rfl;rw [List.length_append] at e;rw [hm];exact e
     have hfl3:w3.frozen? ⟨w0.heap.size + 3,0,none⟩ = false:=blk_frozen HP3.out.bl 0;have hl0:(0:Int) ≤ (l.length:Int):=by omega
     have hln:(l.length:Int) ≤ (n:Int):=by have:=HL.out;omega
     have HM:=aZ_ hm;clear hm
     go_upto_region 10 with (fail)
     have HP4:=aZ_ (PermAt.pop HP3.out);clear hcl3 hfl3 E1 hl0 hln HP3;generalize w3.setCell ⟨w0.heap.size + 3,0,none⟩ (.slice (some ⟨w0.heap.size + 2,0,none⟩) l.length n) = w4 at HP4 ⊢;have hcu4:w4.cell? ⟨w0.heap.size + 5,0,none⟩ = some (.slice (some ⟨w0.heap.size + 4,0,none⟩) n n):=(blk_cell HP4.out.bu 0).trans rfl;have hcx4:w4.cell? ⟨w0.heap.size + 4,x,none⟩ = some (.bool ((l ++ [(x:Int)]).contains (x:Int))):=(blk_cell HP4.out.bb x).trans (useA_get _ HX.out);have hfx4:w4.frozen? ⟨w0.heap.size + 4,x,none⟩ = false:=blk_frozen HP4.out.bb x;generalize ((l ++ [(x:Int)]).contains (x:Int)) = bx at hcx4;go_wp2;have HP5:=aZ_ (PermAt.unmark HX.out HC.out HP4.out);generalize w4.setCell ⟨w0.heap.size + 4,x,none⟩ (.bool false) = w5 at HP5 ⊢;clear hcu4 hcx4 hfx4 HP4
     go_roundg (n - (x + 1))
     case measure=>have:=HX.out;have:=HG.out;omega
     case rel=>exact ⟨x + 1,ov2,by have:=HX.out;omega,by omega,T112_,⟨(by rw [perUp,HFX.out,← List.append_assoc];exact HP5.out)⟩⟩
   ·have dx:¬ (x:Int) < (n:Int):=by omega
    obtain rfl:x = n:=by omega
    clear hlt;go_wp2
    go_end0
    exact ⟨rfl,ov1,by rw [HFN.out];exact HP.out⟩
theorem useA_nil (n:Nat):madeCells (Value.bool false).cells (n * 1) = useA n []:=by
 apply Array.ext_getElem?
 intro i;rw [Nat.mul_one]
 by_cases hi:i < n
 ·rw [useA_get _ hi]
  have e:i % 1 = 0:=Nat.mod_one i;simp [madeCells,hi,Value.cells,e]
 ·rw [Array.getElem?_eq_none (by rw [size_madeCells];omega),Array.getElem?_eq_none (by rw [useA_size];omega)]
theorem make_event_ {P:Program} {ops:Array Oper} {rest:List Oper} {o:Oper} {a:Act} {Q:Exit → Act → World → Prop} {W:World} (hgd:o.guard = none) (t e:TypeId) (x y:Operand) (ho:o.op = .makeSlice t x y) (l c:Nat) (hx:a.eval x = .int .i64 l) (hy:a.eval y = .int .i64 c)
  (ht:P.underlying t = some (.slice e)) (z:Value) (bytes:Nat) (hinfo:(P.info? e).map (fun i=>(i.zero,i.size,i.bytes)) = some (some z,1,bytes)) (hlc:l ≤ c) (hc:c ≤ 64) (hb:bytes ≤ 8)
  (h:wpList P ops Q rest (a.put o.dst (.slice (some ⟨W.heap.size,0,none⟩) l c)) (W.alloc (.cells (madeCells z.cells (c * 1)) e))):wpList P ops Q (o :: rest) a W:=by
 obtain ⟨i0,hi,hzz⟩:=Option.map_eq_some_iff.1 hinfo;simp only [Prod.mk.injEq] at hzz;obtain ⟨hz0,hz1,hz2⟩:=hzz;have hm:bytes * c ≤ 8 * 64:=Nat.mul_le_mul hb hc;have hr:=run_make (P:=P) W t e i0 z ht hi hz0 .i64 .i64 (l:Int) (c:Int) T73_ T73_ (by rw [hz2,← Int.natCast_mul];omega) T73_;simp only [Int.toNat_natCast] at hr;rw [hz1] at hr;refine Kd.event_run hgd ?_ h;simp [execOp,ho,hx,hy,hr]
theorem alloc_size_ (w:World) (o:Obj):(w.alloc o).heap.size = w.heap.size + 1:=by simp
theorem set_size_ (w:World) (p:Addr) (v:Value):(w.setCell p v).heap.size = w.heap.size:=by simp [World.setCell]
def impl_permutations.f (a0:Int):Option (List (List Int)):=if 0 ≤ a0 ∧ a0 ≤ 4 then some (perF a0.toNat a0.toNat []) else none
theorem impl_permutations.calls (a0:Int) (r:List (List Int)) (w:World) (h:impl_permutations.f a0 = some r) :
  Calls Tryz.prog 48 #[.int .i64 a0] w fun e w'=>∃ v0_:Value,e = .returned (v0_) ∧ Kd.S (Kd.slice 3 (Kd.int .i64)) 26 w' w.heap.size (fun _=>True) v0_ r ∧ Below w.heap.size w w':=by
 unfold impl_permutations.f at h
 split at h
 next hn =>
  cases h
  obtain ⟨n,rfl⟩:=Int.eq_ofNat_of_zero_le hn.1;have hn4:n ≤ 4:=by omega
  rw [Int.toNat_natCast];have HN:=aZ_ hn4;clear hn hn4;go_enter Tryz.func48,Tryz.ntmps48

  go_upto_region 1 with (fail)
  have n0_:Aside0 ((w.alloc (.cells #[.int .i64 (n:Int)] 3 (0,0))).heap[w.heap.size]? = some (.cells #[.int .i64 (n:Int)] 3 (0,0))):=⟨by exact blk_new w _⟩;have nb_:Aside0 (Below w.heap.size w (w.alloc (.cells #[.int .i64 (n:Int)] 3 (0,0)))):=⟨below_alloc (Below.refl _ _) _⟩;have Z1:(w.alloc (.cells #[.int .i64 (n:Int)] 3 (0,0))).heap.size = w.heap.size + 1:=(by rw [alloc_size_]);have B0:=n0_;have HB:=nb_;clear nb_ n0_;generalize w.alloc (.cells #[.int .i64 (n:Int)] 3 (0,0)) = w1 at HB Z1 B0 ⊢
  go_upto_region 2 with (fail)
  have n0_:Aside0 ((w1.alloc (.cells #[.slice none 0 0] 64 (0,0))).heap[w.heap.size]? = some (.cells #[.int .i64 (n:Int)] 3 (0,0))):=⟨blk_alloc B0.out _⟩;have n1_:Aside0 ((w1.alloc (.cells #[.slice none 0 0] 64 (0,0))).heap[w.heap.size + 1]? = some (.cells #[.slice none 0 0] 64 (0,0))):=⟨by rw [← Z1] <;> exact blk_new w1 _⟩;have nb_:Aside0 (Below w.heap.size w (w1.alloc (.cells #[.slice none 0 0] 64 (0,0)))):=⟨below_alloc HB.out _⟩;have Z2:(w1.alloc (.cells #[.slice none 0 0] 64 (0,0))).heap.size = w.heap.size + 2:=(by rw [alloc_size_,Z1]);clear HB B0;have B0:=n0_;have B1:=n1_;have HB:=nb_;clear nb_ n0_ n1_ Z1;generalize w1.alloc (.cells #[.slice none 0 0] 64 (0,0)) = w2 at HB Z2 B0 B1 ⊢;have hn64:n ≤ 64:=by have:=HN.out;omega
  have hcn:w2.cell? ⟨w.heap.size,0,none⟩ = some (.int .i64 n):=(blk_cell B0.out 0).trans rfl
  go_upto_region 3 with (first | ((with_reducible refine gate_dst (N:=8) rfl ?_);refine make_event_ rfl 26 3 (.const (.int .i64 0)) (.tmp 7) rfl 0 n rfl rfl Tryz.underlying26 (.int .i64 0) 8 info3 (Nat.zero_le _) hn64 T55_ ?_;rw [Z2];clear hcn;have n0_:Aside0 ((w2.alloc (.cells (madeCells (Value.int .i64 0).cells (n * 1)) 3 (0,0))).heap[w.heap.size]? = some (.cells #[.int .i64 (n:Int)] 3 (0,0))):=⟨blk_alloc B0.out _⟩;have n1_:Aside0 ((w2.alloc (.cells (madeCells (Value.int .i64 0).cells (n * 1)) 3 (0,0))).heap[w.heap.size + 1]? = some (.cells #[.slice none 0 0] 64 (0,0))):=⟨blk_alloc B1.out _⟩;have n2_:Aside0 ((w2.alloc (.cells (madeCells (Value.int .i64 0).cells (n * 1)) 3 (0,0))).heap[w.heap.size + 2]? = some (.cells (madeCells (Value.int .i64 0).cells (n * 1)) 3 (0,0))):=⟨by rw [← Z2] <;> exact blk_new w2 _⟩;have nb_:Aside0 (Below w.heap.size w (w2.alloc (.cells (madeCells (Value.int .i64 0).cells (n * 1)) 3 (0,0)))):=⟨below_alloc HB.out _⟩;have Z3:(w2.alloc (.cells (madeCells (Value.int .i64 0).cells (n * 1)) 3 (0,0))).heap.size = w.heap.size + 3:=(by rw [alloc_size_,Z2]);clear HB B0 B1;have B0:=n0_;have B1:=n1_;have B2:=n2_;have HB:=nb_;clear nb_ n0_ n1_ n2_ Z2;generalize w2.alloc (.cells (madeCells (Value.int .i64 0).cells (n * 1)) 3 (0,0)) = w3 at HB Z3 B0 B1 B2 ⊢) | ((with_reducible refine gate_dst (N:=4) rfl ?_);refine Kd.event_run rfl (v:=.pointer (some ⟨w3.heap.size,0,none⟩)) (w1:=w3.alloc (.cells #[.slice none 0 0] 26 (0,0))) T19_ ?_;rw [Z3];have n0_:Aside0 ((w3.alloc (.cells #[.slice none 0 0] 26 (0,0))).heap[w.heap.size]? = some (.cells #[.int .i64 (n:Int)] 3 (0,0))):=⟨blk_alloc B0.out _⟩;have n1_:Aside0 ((w3.alloc (.cells #[.slice none 0 0] 26 (0,0))).heap[w.heap.size + 1]? = some (.cells #[.slice none 0 0] 64 (0,0))):=⟨blk_alloc B1.out _⟩;have n2_:Aside0 ((w3.alloc (.cells #[.slice none 0 0] 26 (0,0))).heap[w.heap.size + 2]? = some (.cells (madeCells (Value.int .i64 0).cells (n * 1)) 3 (0,0))):=⟨blk_alloc B2.out _⟩;have n3_:Aside0 ((w3.alloc (.cells #[.slice none 0 0] 26 (0,0))).heap[w.heap.size + 3]? = some (.cells #[.slice none 0 0] 26 (0,0))):=⟨by rw [← Z3] <;> exact blk_new w3 _⟩;have nb_:Aside0 (Below w.heap.size w (w3.alloc (.cells #[.slice none 0 0] 26 (0,0)))):=⟨below_alloc HB.out _⟩;have Z4:(w3.alloc (.cells #[.slice none 0 0] 26 (0,0))).heap.size = w.heap.size + 4:=(by rw [alloc_size_,Z3]);clear HB B0 B1 B2;have B0:=n0_;have B1:=n1_;have B2:=n2_;have B3:=n3_;have HB:=nb_;clear nb_ n0_ n1_ n2_ n3_ Z3;generalize w3.alloc (.cells #[.slice none 0 0] 26 (0,0)) = w4 at HB Z4 B0 B1 B2 B3 ⊢;have hc3:w4.cell? ⟨w.heap.size + 3,0,none⟩ = some (.slice none 0 0):=(blk_cell B3.out 0).trans rfl;have hf3:w4.frozen? ⟨w.heap.size + 3,0,none⟩ = false:=blk_frozen B3.out 0))
  clear hc3 hf3;have n0_:Aside0 ((w4.setCell ⟨w.heap.size + 3,0,none⟩ (.slice (some ⟨w.heap.size + 2,0,none⟩) 0 n)).heap[w.heap.size]? = some (.cells #[.int .i64 (n:Int)] 3 (0,0))):=⟨blk_far B0.out T64_ _⟩;have n1_:Aside0 ((w4.setCell ⟨w.heap.size + 3,0,none⟩ (.slice (some ⟨w.heap.size + 2,0,none⟩) 0 n)).heap[w.heap.size + 1]? = some (.cells #[.slice none 0 0] 64 (0,0))):=⟨blk_far B1.out T64_ _⟩;have n2_:Aside0 ((w4.setCell ⟨w.heap.size + 3,0,none⟩ (.slice (some ⟨w.heap.size + 2,0,none⟩) 0 n)).heap[w.heap.size + 2]? = some (.cells (madeCells (Value.int .i64 0).cells (n * 1)) 3 (0,0))):=⟨blk_far B2.out T64_ _⟩;have n3_:Aside0 ((w4.setCell ⟨w.heap.size + 3,0,none⟩ (.slice (some ⟨w.heap.size + 2,0,none⟩) 0 n)).heap[w.heap.size + 3]? = some (.cells #[.slice (some ⟨w.heap.size + 2,0,none⟩) 0 n] 26 (0,0))):=⟨blk_set B3.out 0 (.slice (some ⟨w.heap.size + 2,0,none⟩) 0 n)⟩;have nb_:Aside0 (Below w.heap.size w (w4.setCell ⟨w.heap.size + 3,0,none⟩ (.slice (some ⟨w.heap.size + 2,0,none⟩) 0 n))):=⟨below_set HB.out T73_⟩;have Z5:(w4.setCell ⟨w.heap.size + 3,0,none⟩ (.slice (some ⟨w.heap.size + 2,0,none⟩) 0 n)).heap.size = w.heap.size + 4:=(set_size_ _ _ _).trans Z4;clear HB B0 B1 B2 B3;have B0:=n0_;have B1:=n1_;have B2:=n2_;have B3:=n3_;have HB:=nb_;clear nb_ Z4 n0_ n1_ n2_ n3_;generalize w4.setCell ⟨w.heap.size + 3,0,none⟩ (.slice (some ⟨w.heap.size + 2,0,none⟩) 0 n) = w5 at HB Z5 B0 B1 B2 B3 ⊢;have hcn:w5.cell? ⟨w.heap.size,0,none⟩ = some (.int .i64 n):=(blk_cell B0.out 0).trans rfl
  go_upto_region 4 with (first | ((with_reducible refine gate_dst (N:=10) rfl ?_);refine make_event_ rfl 87 4 (.tmp 9) (.tmp 9) rfl n n rfl rfl Tryz.underlying87 (.bool false) 1 T22_ (Nat.le_refl _) hn64 T55_ ?_;rw [Z5];clear hcn;have n0_:Aside0 ((w5.alloc (.cells (madeCells (Value.bool false).cells (n * 1)) 4 (0,0))).heap[w.heap.size]? = some (.cells #[.int .i64 (n:Int)] 3 (0,0))):=⟨blk_alloc B0.out _⟩;have n1_:Aside0 ((w5.alloc (.cells (madeCells (Value.bool false).cells (n * 1)) 4 (0,0))).heap[w.heap.size + 1]? = some (.cells #[.slice none 0 0] 64 (0,0))):=⟨blk_alloc B1.out _⟩;have n2_:Aside0 ((w5.alloc (.cells (madeCells (Value.bool false).cells (n * 1)) 4 (0,0))).heap[w.heap.size + 2]? = some (.cells (madeCells (Value.int .i64 0).cells (n * 1)) 3 (0,0))):=⟨blk_alloc B2.out _⟩;have n3_:Aside0 ((w5.alloc (.cells (madeCells (Value.bool false).cells (n * 1)) 4 (0,0))).heap[w.heap.size + 3]? = some (.cells #[.slice (some ⟨w.heap.size + 2,0,none⟩) 0 n] 26 (0,0))):=⟨blk_alloc B3.out _⟩;have n4_:Aside0 ((w5.alloc (.cells (madeCells (Value.bool false).cells (n * 1)) 4 (0,0))).heap[w.heap.size + 4]? = some (.cells (madeCells (Value.bool false).cells (n * 1)) 4 (0,0))):=⟨by rw [← Z5] <;> exact blk_new w5 _⟩;have nb_:Aside0 (Below w.heap.size w (w5.alloc (.cells (madeCells (Value.bool false).cells (n * 1)) 4 (0,0)))):=⟨below_alloc HB.out _⟩;have Z6:(w5.alloc (.cells (madeCells (Value.bool false).cells (n * 1)) 4 (0,0))).heap.size = w.heap.size + 5:=(by rw [alloc_size_,Z5]);clear HB B0 B1 B2 B3;have B0:=n0_;have B1:=n1_;have B2:=n2_;have B3:=n3_;have B4:=n4_;have HB:=nb_;clear nb_ n0_ n1_ n2_ n3_ n4_ Z5;generalize w5.alloc (.cells (madeCells (Value.bool false).cells (n * 1)) 4 (0,0)) = w6 at HB Z6 B0 B1 B2 B3 B4 ⊢) | ((with_reducible refine gate_dst (N:=5) rfl ?_);refine Kd.event_run rfl (v:=.pointer (some ⟨w6.heap.size,0,none⟩)) (w1:=w6.alloc (.cells #[.slice none 0 0] 87 (0,0))) T19_ ?_;rw [Z6];have n0_:Aside0 ((w6.alloc (.cells #[.slice none 0 0] 87 (0,0))).heap[w.heap.size]? = some (.cells #[.int .i64 (n:Int)] 3 (0,0))):=⟨blk_alloc B0.out _⟩;have n1_:Aside0 ((w6.alloc (.cells #[.slice none 0 0] 87 (0,0))).heap[w.heap.size + 1]? = some (.cells #[.slice none 0 0] 64 (0,0))):=⟨blk_alloc B1.out _⟩;have n2_:Aside0 ((w6.alloc (.cells #[.slice none 0 0] 87 (0,0))).heap[w.heap.size + 2]? = some (.cells (madeCells (Value.int .i64 0).cells (n * 1)) 3 (0,0))):=⟨blk_alloc B2.out _⟩;have n3_:Aside0 ((w6.alloc (.cells #[.slice none 0 0] 87 (0,0))).heap[w.heap.size + 3]? = some (.cells #[.slice (some ⟨w.heap.size + 2,0,none⟩) 0 n] 26 (0,0))):=⟨blk_alloc B3.out _⟩;have n4_:Aside0 ((w6.alloc (.cells #[.slice none 0 0] 87 (0,0))).heap[w.heap.size + 4]? = some (.cells (madeCells (Value.bool false).cells (n * 1)) 4 (0,0))):=⟨blk_alloc B4.out _⟩;have n5_:Aside0 ((w6.alloc (.cells #[.slice none 0 0] 87 (0,0))).heap[w.heap.size + 5]? = some (.cells #[.slice none 0 0] 87 (0,0))):=⟨by rw [← Z6] <;> exact blk_new w6 _⟩;have nb_:Aside0 (Below w.heap.size w (w6.alloc (.cells #[.slice none 0 0] 87 (0,0)))):=⟨below_alloc HB.out _⟩;have Z7:(w6.alloc (.cells #[.slice none 0 0] 87 (0,0))).heap.size = w.heap.size + 6:=(by rw [alloc_size_,Z6]);clear HB B0 B1 B2 B3 B4;have B0:=n0_;have B1:=n1_;have B2:=n2_;have B3:=n3_;have B4:=n4_;have B5:=n5_;have HB:=nb_;clear nb_ n0_ n1_ n2_ n3_ n4_ n5_ Z6;generalize w6.alloc (.cells #[.slice none 0 0] 87 (0,0)) = w7 at HB Z7 B0 B1 B2 B3 B4 B5 ⊢;have hc5:w7.cell? ⟨w.heap.size + 5,0,none⟩ = some (.slice none 0 0):=(blk_cell B5.out 0).trans rfl;have hf5:w7.frozen? ⟨w.heap.size + 5,0,none⟩ = false:=blk_frozen B5.out 0))
  clear hc5 hf5;have n0_:Aside0 ((w7.setCell ⟨w.heap.size + 5,0,none⟩ (.slice (some ⟨w.heap.size + 4,0,none⟩) n n)).heap[w.heap.size]? = some (.cells #[.int .i64 (n:Int)] 3 (0,0))):=⟨blk_far B0.out T64_ _⟩;have n1_:Aside0 ((w7.setCell ⟨w.heap.size + 5,0,none⟩ (.slice (some ⟨w.heap.size + 4,0,none⟩) n n)).heap[w.heap.size + 1]? = some (.cells #[.slice none 0 0] 64 (0,0))):=⟨blk_far B1.out T64_ _⟩;have n2_:Aside0 ((w7.setCell ⟨w.heap.size + 5,0,none⟩ (.slice (some ⟨w.heap.size + 4,0,none⟩) n n)).heap[w.heap.size + 2]? = some (.cells (madeCells (Value.int .i64 0).cells (n * 1)) 3 (0,0))):=⟨blk_far B2.out T64_ _⟩;have n3_:Aside0 ((w7.setCell ⟨w.heap.size + 5,0,none⟩ (.slice (some ⟨w.heap.size + 4,0,none⟩) n n)).heap[w.heap.size + 3]? = some (.cells #[.slice (some ⟨w.heap.size + 2,0,none⟩) 0 n] 26 (0,0))):=⟨blk_far B3.out T64_ _⟩;have n4_:Aside0 ((w7.setCell ⟨w.heap.size + 5,0,none⟩ (.slice (some ⟨w.heap.size + 4,0,none⟩) n n)).heap[w.heap.size + 4]? = some (.cells (madeCells (Value.bool false).cells (n * 1)) 4 (0,0))):=⟨blk_far B4.out T64_ _⟩;have n5_:Aside0 ((w7.setCell ⟨w.heap.size + 5,0,none⟩ (.slice (some ⟨w.heap.size + 4,0,none⟩) n n)).heap[w.heap.size + 5]? = some (.cells #[.slice (some ⟨w.heap.size + 4,0,none⟩) n n] 87 (0,0))):=⟨blk_set B5.out 0 (.slice (some ⟨w.heap.size + 4,0,none⟩) n n)⟩;have nb_:Aside0 (Below w.heap.size w (w7.setCell ⟨w.heap.size + 5,0,none⟩ (.slice (some ⟨w.heap.size + 4,0,none⟩) n n))):=⟨below_set HB.out T73_⟩;have Z8:(w7.setCell ⟨w.heap.size + 5,0,none⟩ (.slice (some ⟨w.heap.size + 4,0,none⟩) n n)).heap.size = w.heap.size + 6:=(set_size_ _ _ _).trans Z7;clear HB B0 B1 B2 B3 B4 B5;have B0:=n0_;have B1:=n1_;have B2:=n2_;have B3:=n3_;have B4:=n4_;have B5:=n5_;have HB:=nb_;clear nb_ Z7 n0_ n1_ n2_ n3_ n4_ n5_;generalize w7.setCell ⟨w.heap.size + 5,0,none⟩ (.slice (some ⟨w.heap.size + 4,0,none⟩) n n) = w8 at HB Z8 B0 B1 B2 B3 B4 B5 ⊢
  go_upto_region 5 with (fail)
  have n0_:Aside0 ((w8.alloc (.cells #[.nilFunc] 1 (0,0))).heap[w.heap.size]? = some (.cells #[.int .i64 (n:Int)] 3 (0,0))):=⟨blk_alloc B0.out _⟩;have n1_:Aside0 ((w8.alloc (.cells #[.nilFunc] 1 (0,0))).heap[w.heap.size + 1]? = some (.cells #[.slice none 0 0] 64 (0,0))):=⟨blk_alloc B1.out _⟩;have n2_:Aside0 ((w8.alloc (.cells #[.nilFunc] 1 (0,0))).heap[w.heap.size + 2]? = some (.cells (madeCells (Value.int .i64 0).cells (n * 1)) 3 (0,0))):=⟨blk_alloc B2.out _⟩;have n3_:Aside0 ((w8.alloc (.cells #[.nilFunc] 1 (0,0))).heap[w.heap.size + 3]? = some (.cells #[.slice (some ⟨w.heap.size + 2,0,none⟩) 0 n] 26 (0,0))):=⟨blk_alloc B3.out _⟩;have n4_:Aside0 ((w8.alloc (.cells #[.nilFunc] 1 (0,0))).heap[w.heap.size + 4]? = some (.cells (madeCells (Value.bool false).cells (n * 1)) 4 (0,0))):=⟨blk_alloc B4.out _⟩;have n5_:Aside0 ((w8.alloc (.cells #[.nilFunc] 1 (0,0))).heap[w.heap.size + 5]? = some (.cells #[.slice (some ⟨w.heap.size + 4,0,none⟩) n n] 87 (0,0))):=⟨blk_alloc B5.out _⟩;have n6_:Aside0 ((w8.alloc (.cells #[.nilFunc] 1 (0,0))).heap[w.heap.size + 6]? = some (.cells #[.nilFunc] 1 (0,0))):=⟨by rw [← Z8] <;> exact blk_new w8 _⟩;have nb_:Aside0 (Below w.heap.size w (w8.alloc (.cells #[.nilFunc] 1 (0,0)))):=⟨below_alloc HB.out _⟩;have Z9:(w8.alloc (.cells #[.nilFunc] 1 (0,0))).heap.size = w.heap.size + 7:=(by rw [alloc_size_,Z8]);clear HB B0 B1 B2 B3 B4 B5;have B0:=n0_;have B1:=n1_;have B2:=n2_;have B3:=n3_;have B4:=n4_;have B5:=n5_;have B6:=n6_;have HB:=nb_;clear nb_ n0_ n1_ n2_ n3_ n4_ n5_ n6_ Z8;generalize w8.alloc (.cells #[.nilFunc] 1 (0,0)) = w9 at HB Z9 B0 B1 B2 B3 B4 B5 B6 ⊢;have hc6:w9.cell? ⟨w.heap.size + 6,0,none⟩ = some .nilFunc:=(blk_cell B6.out 0).trans rfl;have hf6:w9.frozen? ⟨w.heap.size + 6,0,none⟩ = false:=blk_frozen B6.out 0
  go_upto_region 6 with (fail)
  clear hc6 hf6;have n0_:Aside0 ((w9.setCell ⟨w.heap.size + 6,0,none⟩ (.func (.func 71) #[] #[.pointer (some ⟨w.heap.size + 3,0,none⟩),.pointer (some ⟨w.heap.size,0,none⟩),.pointer (some ⟨w.heap.size + 1,0,none⟩),.pointer (some ⟨w.heap.size + 5,0,none⟩),.pointer (some ⟨w.heap.size + 6,0,none⟩)])).heap[w.heap.size]? = some (.cells #[.int .i64 (n:Int)] 3 (0,0))):=⟨blk_far B0.out T64_ _⟩;have n1_:Aside0 ((w9.setCell ⟨w.heap.size + 6,0,none⟩ (.func (.func 71) #[] #[.pointer (some ⟨w.heap.size + 3,0,none⟩),.pointer (some ⟨w.heap.size,0,none⟩),.pointer (some ⟨w.heap.size + 1,0,none⟩),.pointer (some ⟨w.heap.size + 5,0,none⟩),.pointer (some ⟨w.heap.size + 6,0,none⟩)])).heap[w.heap.size + 1]? = some (.cells #[.slice none 0 0] 64 (0,0))):=⟨blk_far B1.out T64_ _⟩;have n2_:Aside0 ((w9.setCell ⟨w.heap.size + 6,0,none⟩ (.func (.func 71) #[] #[.pointer (some ⟨w.heap.size + 3,0,none⟩),.pointer (some ⟨w.heap.size,0,none⟩),.pointer (some ⟨w.heap.size + 1,0,none⟩),.pointer (some ⟨w.heap.size + 5,0,none⟩),.pointer (some ⟨w.heap.size + 6,0,none⟩)])).heap[w.heap.size + 2]? = some (.cells (madeCells (Value.int .i64 0).cells (n * 1)) 3 (0,0))):=⟨blk_far B2.out T64_ _⟩;have n3_:Aside0 ((w9.setCell ⟨w.heap.size + 6,0,none⟩ (.func (.func 71) #[] #[.pointer (some ⟨w.heap.size + 3,0,none⟩),.pointer (some ⟨w.heap.size,0,none⟩),.pointer (some ⟨w.heap.size + 1,0,none⟩),.pointer (some ⟨w.heap.size + 5,0,none⟩),.pointer (some ⟨w.heap.size + 6,0,none⟩)])).heap[w.heap.size + 3]? = some (.cells #[.slice (some ⟨w.heap.size + 2,0,none⟩) 0 n] 26 (0,0))):=⟨blk_far B3.out T64_ _⟩;have n4_:Aside0 ((w9.setCell ⟨w.heap.size + 6,0,none⟩ (.func (.func 71) #[] #[.pointer (some ⟨w.heap.size + 3,0,none⟩),.pointer (some ⟨w.heap.size,0,none⟩),.pointer (some ⟨w.heap.size + 1,0,none⟩),.pointer (some ⟨w.heap.size + 5,0,none⟩),.pointer (some ⟨w.heap.size + 6,0,none⟩)])).heap[w.heap.size + 4]? = some (.cells (madeCells (Value.bool false).cells (n * 1)) 4 (0,0))):=⟨blk_far B4.out T64_ _⟩;have n5_:Aside0 ((w9.setCell ⟨w.heap.size + 6,0,none⟩ (.func (.func 71) #[] #[.pointer (some ⟨w.heap.size + 3,0,none⟩),.pointer (some ⟨w.heap.size,0,none⟩),.pointer (some ⟨w.heap.size + 1,0,none⟩),.pointer (some ⟨w.heap.size + 5,0,none⟩),.pointer (some ⟨w.heap.size + 6,0,none⟩)])).heap[w.heap.size + 5]? = some (.cells #[.slice (some ⟨w.heap.size + 4,0,none⟩) n n] 87 (0,0))):=⟨blk_far B5.out T64_ _⟩;have n6_:Aside0 ((w9.setCell ⟨w.heap.size + 6,0,none⟩ (.func (.func 71) #[] #[.pointer (some ⟨w.heap.size + 3,0,none⟩),.pointer (some ⟨w.heap.size,0,none⟩),.pointer (some ⟨w.heap.size + 1,0,none⟩),.pointer (some ⟨w.heap.size + 5,0,none⟩),.pointer (some ⟨w.heap.size + 6,0,none⟩)])).heap[w.heap.size + 6]? = some (.cells #[.func (.func 71) #[] #[.pointer (some ⟨w.heap.size + 3,0,none⟩),.pointer (some ⟨w.heap.size,0,none⟩),.pointer (some ⟨w.heap.size + 1,0,none⟩),.pointer (some ⟨w.heap.size + 5,0,none⟩),.pointer (some ⟨w.heap.size + 6,0,none⟩)]] 1 (0,0))):=⟨blk_set B6.out 0 (.func (.func 71) #[] #[.pointer (some ⟨w.heap.size + 3,0,none⟩),.pointer (some ⟨w.heap.size,0,none⟩),.pointer (some ⟨w.heap.size + 1,0,none⟩),.pointer (some ⟨w.heap.size + 5,0,none⟩),.pointer (some ⟨w.heap.size + 6,0,none⟩)])⟩
  have nb_:Aside0 (Below w.heap.size w (w9.setCell ⟨w.heap.size + 6,0,none⟩ (.func (.func 71) #[] #[.pointer (some ⟨w.heap.size + 3,0,none⟩),.pointer (some ⟨w.heap.size,0,none⟩),.pointer (some ⟨w.heap.size + 1,0,none⟩),.pointer (some ⟨w.heap.size + 5,0,none⟩),.pointer (some ⟨w.heap.size + 6,0,none⟩)]))):=⟨below_set HB.out T73_⟩;have Z10:(w9.setCell ⟨w.heap.size + 6,0,none⟩ (.func (.func 71) #[] #[.pointer (some ⟨w.heap.size + 3,0,none⟩),.pointer (some ⟨w.heap.size,0,none⟩),.pointer (some ⟨w.heap.size + 1,0,none⟩),.pointer (some ⟨w.heap.size + 5,0,none⟩),.pointer (some ⟨w.heap.size + 6,0,none⟩)])).heap.size = w.heap.size + 7:=(set_size_ _ _ _).trans Z9;clear HB B0 B1 B2 B3 B4 B5 B6;have B0:=n0_;have B1:=n1_;have B2:=n2_;have B3:=n3_;have B4:=n4_;have B5:=n5_;have B6:=n6_;have HB:=nb_;clear nb_ Z9 n0_ n1_ n2_ n3_ n4_ n5_ n6_;generalize w9.setCell ⟨w.heap.size + 6,0,none⟩ (.func (.func 71) #[] #[.pointer (some ⟨w.heap.size + 3,0,none⟩),.pointer (some ⟨w.heap.size,0,none⟩),.pointer (some ⟨w.heap.size + 1,0,none⟩),.pointer (some ⟨w.heap.size + 5,0,none⟩),.pointer (some ⟨w.heap.size + 6,0,none⟩)]) = w10 at HB Z10 B0 B1 B2 B3 B4 B5 B6 ⊢;have HP:Aside0 (PermAt n w (.slice none 0 0) [] [] [] w10):=⟨⟨⟨Nat.zero_le _,hn64⟩,B0.out,B1.out,⟨_,B2.out,by rw [size_madeCells,Nat.mul_one],fun i hi=>absurd hi (Nat.not_lt_zero _)⟩,B3.out,by rw [← useA_nil];exact B4.out,B5.out,B6.out,Kd.S_nil _ _ _ _ _,by omega,HB.out⟩⟩;have H4:Aside0 (([]:List (List Int)).length + 4 ^ n ≤ 1000):=⟨(by have h4:4 ^ n ≤ 4 ^ 4:=Nat.pow_le_pow_right T55_ HN.out;rw [List.length_nil,Nat.zero_add];exact Nat.le_trans h4 T55_)⟩;have HL0:Aside0 (([]:List Int).length + n = n):=⟨Nat.zero_add n⟩;have hcg:w10.cell? ⟨w.heap.size + 6,0,none⟩ = some (.func (.func 71) #[] #[.pointer (some ⟨w.heap.size + 3,0,none⟩),.pointer (some ⟨w.heap.size,0,none⟩),.pointer (some ⟨w.heap.size + 1,0,none⟩),.pointer (some ⟨w.heap.size + 5,0,none⟩),.pointer (some ⟨w.heap.size + 6,0,none⟩)]):=(blk_cell B6.out 0).trans rfl;clear HB B0 B1 B2 B3 B4 B5 B6 Z10
  go_upto_region 7 with (with_reducible refine (impl_permutations_1.any n HN.out w n [] [] (.slice none 0 0) w10 HL0.out H4.out HP.out).mono ?_;rintro e w11 ⟨rfl,ov2,hp3⟩;have HP3:=aZ_ hp3;clear hp3)
  clear hcg HP;have hco:w11.cell? ⟨w.heap.size + 1,0,none⟩ = some ov2:=(blk_cell HP3.out.bo 0).trans rfl;go_wp2;go_ret;exact ⟨_,rfl,Kd.S_lower HP3.out.so T73_,HP3.out.bel⟩
 next=>cases h
def lstF (sz:List Int → Nat):List (List Int) → List Int → Int → List Int × Int
 | [],b,m=>(b,m)
 | r :: rs,b,m=>if m < 0 ∨ (sz r:Int) < m then lstF sz rs r (sz r) else lstF sz rs b m
def lrd (xs:List (List Int)) (i:Int):List Int:=xs.getD i.toNat ([]:List Int)
theorem lrd_mem {xs:List (List Int)} {x:Nat} (h:x < xs.length):lrd xs x ∈ xs:=by
 unfold lrd;rw [Int.toNat_natCast,List.getD_eq_getElem?_getD,List.getElem?_eq_getElem h];exact List.getElem_mem _
theorem lrd_drop {xs:List (List Int)} {x:Nat} (h:x < xs.length):xs.drop x = lrd xs x :: xs.drop (x + 1):=by
 unfold lrd;rw [List.drop_eq_getElem_cons h,Int.toNat_natCast,List.getD_eq_getElem?_getD,List.getElem?_eq_getElem h]
 rfl
def dgN (a b:Int) (r:List Int):Nat:=((impl_Table_diagram.f a b r).getD []).length
def dgOk (a b:Int) (xs:List (List Int)):Bool:=xs.all fun r=>(impl_Table_diagram.f a b r).any fun l=>decide (l.length < 1000) && decide (r.length < 1000)
theorem dgOk_at {a b:Int} {xs:List (List Int)} (h:dgOk a b xs = true) (r:List Int) (hr:r ∈ xs):∃ l,impl_Table_diagram.f a b r = some l ∧ l.length < 1000 ∧ l.length = dgN a b r:=by
 have h1:=List.all_eq_true.mp h r hr;unfold dgN;generalize impl_Table_diagram.f a b r = o at h1 ⊢
 cases o with
 | none=>cases h1
 | some l =>
  have h2:(decide (l.length < 1000) && decide (r.length < 1000)) = true:=h1;rw [Bool.and_eq_true,decide_eq_true_eq] at h2;exact ⟨l,rfl,h2.1,rfl⟩
def impl_LeastOrder.f (a0_0 a0_1:Int):Option (List Int × Int × Bool) :=
 (impl_isSmall.f a0_0 a0_1 4).bind fun t=>if t = true then (impl_permutations.f a0_0).bind fun xs=>(if dgOk a0_0 a0_1 xs = true ∧ xs.length < 1000 then some ((lstF (dgN a0_0 a0_1) xs [] (-1)).1,(lstF (dgN a0_0 a0_1) xs [] (-1)).2,true) else none) else some ([],0,false)
theorem impl_LeastOrder.calls (a0_0 a0_1:Int) (r1:List Int) (r2:Int) (r3:Bool) (w:World) (h:impl_LeastOrder.f a0_0 a0_1 = some (r1,r2,r3)) :
  Calls Tryz.prog 17 #[.agg #[.int .i64 a0_0,.int .i64 a0_1]] w fun e w'=>∃ v0_:Value,e = .returned (.tuple #[v0_,.int .i64 r2,.bool r3]) ∧ Kd.R (Kd.int .i64) 3 w' w.heap.size (fun _=>True) v0_ r1 ∧ Below w.heap.size w w':=by
 have hut:=Tryz.underlying25;unfold impl_LeastOrder.f at h;obtain ⟨t,ht,h1⟩:=Option.bind_eq_some_iff.mp h;have HT:=aZ_ ht;clear ht h;have K1:=aZ_ (blk_new w (.cells #[.int .i64 a0_0,.int .i64 a0_1] 25 (0,0)));have KB:=aZ_ (below_alloc (Below.refl w.heap.size w) (.cells #[.int .i64 a0_0,.int .i64 a0_1] 25 (0,0)));have hk0:(w.alloc (.cells #[.int .i64 a0_0,.int .i64 a0_1] 25 (0,0))).cell? ⟨w.heap.size,0,none⟩ = some (.int .i64 a0_0):=(blk_cell K1.out 0).trans rfl;have hk1:(w.alloc (.cells #[.int .i64 a0_0,.int .i64 a0_1] 25 (0,0))).cell? ⟨w.heap.size,1,none⟩ = some (.int .i64 a0_1):=(blk_cell K1.out 1).trans rfl
 cases t with
 | false =>
  rw [if_neg T55_] at h1
  cases h1
  go_enter Tryz.func17,Tryz.ntmps17
  go_wp2_with (go_at_call 47;refine (impl_isSmall.calls a0_0 a0_1 4 false _ HT.out).mono ?_;rintro e w1 ⟨rfl,hd⟩;have HB:=aZ_ (below_step KB.out hd);clear hd)
  go_ret3
  exact ⟨_,rfl,Kd.R_nil _ _ _ _ _,HB.out⟩
 | true =>
  rw [if_pos rfl] at h1;obtain ⟨xs,hxs,h2⟩:=Option.bind_eq_some_iff.mp h1;clear h1
  split at h2
  next hd =>
   have HX:=aZ_ hxs;have HD:Aside0 (∀ r,r ∈ xs → ∃ l,impl_Table_diagram.f a0_0 a0_1 r = some l ∧ l.length < 1000 ∧ l.length = dgN a0_0 a0_1 r):=⟨fun r hr=>dgOk_at hd.1 r hr⟩;have HL:=aZ_ hd.2;clear hd hxs;generalize dgN a0_0 a0_1 = sz at h2 HD;obtain ⟨T,hT⟩:∃ T,T = lstF sz xs [] (-1):=⟨_,rfl⟩;rw [← hT] at h2;have HTT:=aZ_ hT;clear hT
   cases h2
   go_enter Tryz.func17,Tryz.ntmps17
   go_upto_region 3 with (go_at_call 47;refine (impl_isSmall.calls a0_0 a0_1 4 true _ HT.out).mono ?_;rintro e w1 ⟨rfl,hd⟩;have HB:=aZ_ (below_step KB.out hd);have BK:=aZ_ (blk_below K1.out hd);clear hd)
   clear hk0 hk1;have hc0:w1.cell? ⟨w.heap.size,0,none⟩ = some (.int .i64 a0_0):=(blk_cell BK.out 0).trans rfl
   go_wp2_with (go_at_call 48;refine (impl_permutations.calls a0_0 xs _ HX.out).mono ?_;rintro e w2 ⟨v0,rfl,hs,hd⟩;have HS:=aZ_ (Kd.S_lower hs HB.out.size);have HB2:=aZ_ (below_step HB.out hd);have BK2:=aZ_ (blk_below BK.out hd);obtain ⟨A,c,rfl,_,_⟩:=Kd.S_reads hs;clear hs hd HB BK hc0)
   go_loopg [5,6,17] xs.length (fun gg v5 v6 v17 wr=>∃ (x:Nat) (best:List Int) (m:Int),x ≤ xs.length ∧ xs.length - x ≤ gg ∧ v17 = .int .i64 x ∧ v6 = .int .i64 m ∧ Aside0 (Kd.R (Kd.int .i64) 3 wr w.heap.size (fun _=>True) v5 best) ∧ Aside0 (lstF sz (xs.drop x) best m = T) ∧ Aside0 (Kd.S (Kd.slice 3 (Kd.int .i64)) 26 wr w.heap.size (fun _=>True) (.slice A xs.length c) xs) ∧ Aside0 (wr.heap[w.heap.size]? = some (.cells #[.int .i64 a0_0,.int .i64 a0_1] 25 (0,0))) ∧ Aside0 (Below w.heap.size w wr))
   case atStart=>exact ⟨0,[],-1,Nat.zero_le _,by omega,rfl,rfl,⟨Kd.R_nil _ _ _ _ _⟩,⟨HTT.out.symm⟩,HS,BK2,HB2⟩
   case round =>
    clear HS BK2 HB2 HTT;obtain ⟨x,best,m,hx,hg,rfl,rfl,HR,HTT,HS,BK,HB⟩:=hrel;have HG:=aZ_ hg;clear hg
    by_cases hlt:x < xs.length
    ·have hltz:(x:Int) < (xs.length:Int):=by omega
     have h0z:(0:Int) ≤ (x:Int):=by omega
     have HLT:=aZ_ hlt;have HSTEP:Aside0 ((if m < 0 ∨ (sz (lrd xs x):Int) < m then lstF sz (xs.drop (x + 1)) (lrd xs x) (sz (lrd xs x)) else lstF sz (xs.drop (x + 1)) best m) = T):=⟨(by rw [← HTT.out,lrd_drop hlt,lstF])⟩;obtain ⟨nodes,hnd,hnl,hns⟩:=HD.out _ (lrd_mem hlt);have HND:=aZ_ hnd;have HNL:=aZ_ hnl;rw [← hns] at HSTEP;obtain ⟨go,co,eo,_,_,_⟩:=Kd.S_form HS.out T73_;have eA:A = some ⟨go,0,none⟩:=by injection eo
     have eC:c = co:=by injection eo
     subst eA eC;clear eo;obtain ⟨oki,ce,hcl29,hM29,hcc29,hfr29,_,hH29⟩:=Kd.S_elem HS.out [] (x:Int) h0z hltz;obtain ⟨ve,rfl,ge29⟩:=hM29;have hv29:=hcc29 0 _ rfl;rw [Nat.add_zero,show ((Kd.slice 3 (Kd.int .i64))).sz = 1 from rfl,Nat.mul_one,Int.toNat_natCast] at hv29;have ge30:Kd.R (Kd.int .i64) 3 wr w.heap.size oki ve (lrd xs x):=ge29;obtain ⟨A',c',rfl,hlc',hC'⟩:=Kd.R_reads ge30;have RR:=aZ_ (Kd.R_mono (ok':=fun _=>True) ge30 (fun _ _=>trivial));have HC:=aZ_ hC';have HCL:=aZ_ hlc';have hk0:wr.cell? ⟨w.heap.size,0,none⟩ = some (.int .i64 a0_0):=(blk_cell BK.out 0).trans rfl;have hk1:wr.cell? ⟨w.heap.size,1,none⟩ = some (.int .i64 a0_1):=(blk_cell BK.out 1).trans rfl;clear hcl29 hcc29 hfr29 hH29 ge29 ge30 hlc' hC' hnd hnl hns HTT hlt hx
     go_upto_region 9 with (go_at_call 34;refine (impl_Table_diagram.calls a0_0 a0_1 A' c' (lrd xs x) nodes _ HC.out HCL.out HND.out).mono ?_;rintro e w3 ⟨v0,rfl,hr0,hd⟩;have RR3:=aZ_ (Kd.R_below RR.out hd);have HR3:=aZ_ (Kd.R_below HR.out hd);have HS3:=aZ_ (Kd.S_below HS.out hd);have BK3:=aZ_ (blk_below BK.out hd);have HB3:=aZ_ (below_step HB.out hd);obtain ⟨A0,c0,rfl,_,_⟩:=Kd.R_reads hr0;clear hr0 hd hk0 hk1 hv29 RR HR HS BK HB)
     by_cases hm:m < 0
     ·have d1:decide (m < 0) = true:=decide_eq_true hm
      go_wp2
      go_roundg (xs.length - (x + 1))
      case measure=>have:=HLT.out;have:=HG.out;omega
      case rel=>exact ⟨x + 1,lrd xs x,(nodes.length:Int),by have:=HLT.out;omega,by omega,T111_,rfl,RR3,⟨(by rw [← HSTEP.out,if_pos (.inl hm)])⟩,HS3,BK3,HB3⟩
     ·have d1:decide (m < 0) = false:=decide_eq_false hm
      by_cases hs:(nodes.length:Int) < m
      ·have d2:decide ((nodes.length:Int) < m) = true:=decide_eq_true hs
       go_wp2
       go_roundg (xs.length - (x + 1))
       case measure=>have:=HLT.out;have:=HG.out;omega
       case rel=>exact ⟨x + 1,lrd xs x,(nodes.length:Int),by have:=HLT.out;omega,by omega,T111_,rfl,RR3,⟨(by rw [← HSTEP.out,if_pos (.inr hs)])⟩,HS3,BK3,HB3⟩
      ·have d2:decide ((nodes.length:Int) < m) = false:=decide_eq_false hs
       go_wp2
       go_roundg (xs.length - (x + 1))
       case measure=>have:=HLT.out;have:=HG.out;omega
       case rel=>exact ⟨x + 1,best,m,by have:=HLT.out;omega,by omega,T111_,rfl,HR3,⟨(by rw [← HSTEP.out,if_neg T73_])⟩,HS3,BK3,HB3⟩
    ·have hltz:¬ (x:Int) < (xs.length:Int):=by omega
     obtain rfl:x = xs.length:=by omega
     have e:(best,m) = T:=by rw [← HTT.out,List.drop_length,lstF]
     subst e;clear hlt hx;go_wp2
     go_ret3
     exact ⟨_,rfl,HR.out,HB.out⟩
  next=>cases h2
def impl_VariablesOf.l0:Nat → List Int → Int → Int → Int → Int → Option (List Int)
 | 0,_,_,_,_,_=>none
 | k + 1,x3,x9,x10,x102000,x102001=>if x10 < x9 then ((impl_Table_depends.f x102000 x102001 x10).bind fun t103=>(if t103 = true then (if x3.length < 17592186044416 then (impl_VariablesOf.l0 k (x3 ++ [x10]) x9 (wrap64 (x10 + 1)) x102000 x102001) else (none)) else (impl_VariablesOf.l0 k x3 x9 (wrap64 (x10 + 1)) x102000 x102001))) else (some x3)
def impl_VariablesOf.f (k:Nat) (a0_0:Int) (a0_1:Int):Option (List Int):=(impl_IsTable.f a0_0 a0_1).bind fun t102=>(if t102 = true then (impl_VariablesOf.l0 k ([]:List Int) a0_0 0 a0_0 a0_1) else (some ([]:List Int)))
theorem impl_VariablesOf.calls (k:Nat) (a0_0:Int) (a0_1:Int) (r:List Int) (w:World) (h:impl_VariablesOf.f k a0_0 a0_1 = some r) :
  Calls Tryz.prog 18 #[.agg #[.int .i64 a0_0,.int .i64 a0_1]] w fun e w'=>∃ v0_:Value,e = .returned (v0_) ∧ Kd.R (Kd.int .i64) 3 w' w.heap.size (fun _=>True) v0_ r ∧ Below w.heap.size w w':=by
 have hu25:=Tryz.underlying25;have HB:=aZ_ (Below.refl w.heap.size w);have H:((impl_IsTable.f a0_0 a0_1).bind fun t102=>(if t102 = true then (impl_VariablesOf.l0 k ([]:List Int) a0_0 0 a0_0 a0_1) else (some ([]:List Int)))) = some r:=h;clear h;replace H:=Option.bind_eq_some_iff.mp H;obtain ⟨t102,A20,H⟩:=H;replace H:(if t102 = true then (impl_VariablesOf.l0 k ([]:List Int) a0_0 0 a0_0 a0_1) else (some ([]:List Int))) = some r:=H;have A2:=aZ_ A20;clear A20
 by_cases c3:t102 = true
 ·subst c3
  have H1:(impl_VariablesOf.l0 k ([]:List Int) a0_0 0 a0_0 a0_1) = some r:=by rw [if_pos rfl] at H;exact H
  clear H;have H:=H1;clear H1;have H':=aZ_ H;clear H;go_enter Tryz.func18,Tryz.ntmps18
  go_wp2_with (first | ((with_reducible refine gate_dst (N:=1) rfl ?_);refine box_event ?hg (N:=1) ?hd (cs:=#[.int .i64 a0_0,.int .i64 a0_1]) (t:=25) ?hr ?_;(case hd=>rfl);(case hg=>rfl);(case hr=>exact T19_);intro gb101 hg w4 hbox hb;have BK101:=aZ_ (hbox);have GW101:=aZ_ ((T3_:w.heap.size ≤ gb101));have GE101:=aZ_ ((T3_:w.heap.size ≤ gb101));replace HB:=aZ_ (below_step T2_ hb);clear hb hbox hg;obtain ⟨⟨hcz5_0,hcz5_1⟩,hfz5_0,hfz5_1⟩:=bc2_ BK101.out) | ((with_reducible refine gate_callee (f:=32) rfl ?_);refine goesL_ (some 6) rfl rfl Tryz.func32 T22_ rfl #[.agg #[.int .i64 a0_0,.int .i64 a0_1]] rfl T4_ ?_;(with_reducible refine (impl_IsTable.calls a0_0 a0_1 true _ A2.out).mono ?_);rintro e w6 ⟨rfl,hb⟩;refine ⟨_,rfl,?_⟩;replace BK101:=aZ_ (blk_below (g:=gb101) (o:=.cells #[.int .i64 a0_0,.int .i64 a0_1] 25 (0,0)) T5_ hb);replace HB:=aZ_ (below_step T1_ hb);(try clear hb);obtain ⟨⟨hcz7_0,hcz7_1⟩,hfz7_0,hfz7_1⟩:=bc2_ BK101.out))
  go_loopg [3,10] k (fun kq v3 v10 w'=>∃ (x3_1:List Int) (x10_1:Int),v10 = .int .i64 x10_1 ∧ Aside0 (impl_VariablesOf.l0 kq x3_1 a0_0 x10_1 a0_0 a0_1 = some r) ∧ Aside0 (kq ≤ k) ∧ Aside0 (Kd.R (Kd.int .i64) 3 w' w.heap.size (fun _=>True) v3 x3_1) ∧ Aside0 (w'.heap[gb101]? = some (.cells #[.int .i64 a0_0,.int .i64 a0_1] 25 (0,0))) ∧ Aside0 (Below w.heap.size w w'))
  case atStart=>exact ⟨(([]:List Int)),(0),T11_,H',⟨Nat.le_refl _⟩,⟨T83_⟩,⟨by (with_reducible repeat (first | refine blk_drewN ?_ _ | refine blk_drew ?_ | refine blk_alloc ?_ _));exact BK101.out⟩,⟨T1_⟩⟩
  case round =>
   clear H'
   repeat (first | clear c1 | clear p2 | clear c3 | clear hcz5_0 | clear hcz5_1 | clear hcz7_0 | clear hcz7_1 | clear hfz5_0 | clear hfz5_1 | clear hfz7_0 | clear hfz7_1)
   obtain ⟨x3_1,x10_1,rfl,HA,HK1,HO_3,BK101,HB⟩:=hrel
   cases gk with
   | zero=>exact absurd HA.out (by simp [impl_VariablesOf.l0])
   | succ k1 =>
    have H:=HA.out;clear HA;simp only [impl_VariablesOf.l0] at H
    by_cases c8:x10_1 < a0_0
    ·rw [if_pos c8] at H
     have c8b0:decide (x10_1 < a0_0) = true:=decide_eq_true c8;clear c8;replace H:=Option.bind_eq_some_iff.mp H;obtain ⟨t103,A90,H⟩:=H;replace H:(if t103 = true then (if x3_1.length < 17592186044416 then (impl_VariablesOf.l0 k1 (x3_1 ++ [x10_1]) a0_0 (wrap64 (x10_1 + 1)) a0_0 a0_1) else (none)) else (impl_VariablesOf.l0 k1 x3_1 a0_0 (wrap64 (x10_1 + 1)) a0_0 a0_1)) = some r:=H;have A9:=aZ_ A90;clear A90
     by_cases c10:t103 = true
     ·subst c10
      have H1:(if x3_1.length < 17592186044416 then (impl_VariablesOf.l0 k1 (x3_1 ++ [x10_1]) a0_0 (wrap64 (x10_1 + 1)) a0_0 a0_1) else (none)) = some r:=by rw [if_pos rfl] at H;exact H
      clear H;have H:=H1;clear H1
      by_cases c11:x3_1.length < 17592186044416
      ·rw [if_pos c11] at H
       have LMc11:=aZ_ c11;clear c11;obtain ⟨y104,hy104⟩:∃ y_:List Int,y_ = (x3_1 ++ [x10_1]):=⟨_,rfl⟩;replace H:(impl_VariablesOf.l0 k1 y104 a0_0 (wrap64 (x10_1 + 1)) a0_0 a0_1) = some r:=by first | (rw [hy104];with_reducible exact H) | (have H2_:=(Option.bind_some _ _).symm.trans H;rw [hy104];with_reducible exact H2_) | (have H2_:=(Option.bind_some _ _).symm.trans H;with_reducible exact H2_) | with_reducible exact H | (rw [hy104];exact H) | exact H
       have Ny104:=aZ_ hy104;clear hy104;have H':=aZ_ H;clear H;obtain ⟨⟨hcz12_0,hcz12_1⟩,hfz12_0,hfz12_1⟩:=bc2_ BK101.out
       go_wp2_with (first | ((with_reducible refine gate_callee (f:=49) rfl ?_);refine goesL_ (some 15) rfl rfl Tryz.func49 T22_ rfl #[.agg #[.int .i64 a0_0,.int .i64 a0_1],.int .i64 x10_1] rfl T4_ ?_;(with_reducible refine (impl_Table_depends.calls a0_0 a0_1 x10_1 true _ A9.out).mono ?_);rintro e w13 ⟨rfl,hb⟩;refine ⟨_,rfl,?_⟩;replace HO_3:=aZ_ (Kd.R_below T108_ hb);replace BK101:=aZ_ (blk_below (g:=gb101) (o:=.cells #[.int .i64 a0_0,.int .i64 a0_1] 25 (0,0)) T5_ hb);replace HB:=aZ_ (below_step T1_ hb);(try clear hb)) | ((with_reducible refine gate_builtin (b:=.append) (xs:=#[.tmp 16,.tmp 18]) rfl ?_);at_builtin;refine Kd.R_append (Kd.int .i64) (w0:=w) w.heap.size rfl (.tmp 16) (.tmp 18) 26 3 (.int .i64 0) 8 rfl Tryz.underlying26 info3 rfl T55_ T73_ u3 x3_1 x10_1 [.int .i64 x10_1] (fun _=>True) (fun _=>False) rfl rfl ?aP (fun _ hk=>hk.elim) ?aF ?aO ?aB ?aS ?aL ?_;(case aP=>exact rfl);(case aB=>exact T1_);(case aF=>exact (fun _ _=>trivial));(case aO=>exact T108_);(case aS=>exact (below_size T1_));(case aL=>have:=LMc11.out;omega);intro v105 w14 ho hb hg hat;rw [← Ny104.out] at ho;replace BK101:=aZ_ (blk_grown (g:=gb101) (o:=.cells #[.int .i64 a0_0,.int .i64 a0_1] 25 (0,0)) T5_ hg (Kd.R_ne HO_3.out BK101.out T55_));replace HB:=aZ_ (hb);have HO106:=aZ_ (ho);clear HO_3;clear ho hb hg hat))
       go_roundg k1
       case measure=>have:=HK1.out;omega
       case rel=>exact ⟨(y104),(wrap64 (x10_1 + 1)),T11_,H',⟨by have:=HK1.out;omega⟩,⟨by (with_reducible repeat (first | apply Kd.R_alloc | apply Kd.R_drewN | apply Kd.R_drew));exact HO106.out⟩,⟨by (with_reducible repeat (first | refine blk_drewN ?_ _ | refine blk_drew ?_ | refine blk_alloc ?_ _));exact BK101.out⟩,⟨T1_⟩⟩
      ·rw [if_neg c11] at H
       exact absurd H T64_
     ·replace c10:=Bool.eq_false_iff.mpr c10
      subst c10;have H1:(impl_VariablesOf.l0 k1 x3_1 a0_0 (wrap64 (x10_1 + 1)) a0_0 a0_1) = some r:=by rw [if_neg (show ¬ (false = true) by decide)] at H;exact H
      clear H;have H:=H1;clear H1;have H':=aZ_ H;clear H;obtain ⟨⟨hcz15_0,hcz15_1⟩,hfz15_0,hfz15_1⟩:=bc2_ BK101.out
      go_wp2_with (first | ((with_reducible refine gate_callee (f:=49) rfl ?_);refine goesL_ (some 15) rfl rfl Tryz.func49 T22_ rfl #[.agg #[.int .i64 a0_0,.int .i64 a0_1],.int .i64 x10_1] rfl T4_ ?_;(with_reducible refine (impl_Table_depends.calls a0_0 a0_1 x10_1 false _ A9.out).mono ?_);rintro e w16 ⟨rfl,hb⟩;refine ⟨_,rfl,?_⟩;replace HO_3:=aZ_ (Kd.R_below T108_ hb);replace BK101:=aZ_ (blk_below (g:=gb101) (o:=.cells #[.int .i64 a0_0,.int .i64 a0_1] 25 (0,0)) T5_ hb);replace HB:=aZ_ (below_step T1_ hb);(try clear hb)))
      go_roundg k1
      case measure=>have:=HK1.out;omega
      case rel=>exact ⟨(x3_1),(wrap64 (x10_1 + 1)),T11_,H',⟨by have:=HK1.out;omega⟩,⟨by (with_reducible repeat (first | apply Kd.R_alloc | apply Kd.R_drewN | apply Kd.R_drew));exact HO_3.out⟩,⟨by (with_reducible repeat (first | refine blk_drewN ?_ _ | refine blk_drew ?_ | refine blk_alloc ?_ _));exact BK101.out⟩,⟨T1_⟩⟩
    ·rw [if_neg c8] at H
     have c8b0:decide (x10_1 < a0_0) = false:=decide_eq_false c8;clear c8;obtain rfl:=Option.some.inj H;go_wp2;go_ret;exact ⟨_,T13_,by (with_reducible repeat (first | apply Kd.R_alloc | apply Kd.R_drewN | apply Kd.R_drew));exact HO_3.out,T1_⟩
 ·replace c3:=Bool.eq_false_iff.mpr c3
  subst c3;have H1:(some ([]:List Int)) = some r:=by rw [if_neg (show ¬ (false = true) by decide)] at H;exact H
  clear H;have H:=H1;clear H1;obtain rfl:=Option.some.inj H;go_enter Tryz.func18,Tryz.ntmps18
  go_wp2_with (first | ((with_reducible refine gate_dst (N:=1) rfl ?_);refine box_event ?hg (N:=1) ?hd (cs:=#[.int .i64 a0_0,.int .i64 a0_1]) (t:=25) ?hr ?_;(case hd=>rfl);(case hg=>rfl);(case hr=>exact T19_);intro gb101 hg w17 hbox hb;have BK101:=aZ_ (hbox);have GW101:=aZ_ ((T3_:w.heap.size ≤ gb101));have GE101:=aZ_ ((T3_:w.heap.size ≤ gb101));replace HB:=aZ_ (below_step T2_ hb);clear hb hbox hg;obtain ⟨⟨hcz18_0,hcz18_1⟩,hfz18_0,hfz18_1⟩:=bc2_ BK101.out) | ((with_reducible refine gate_callee (f:=32) rfl ?_);refine goesL_ (some 6) rfl rfl Tryz.func32 T22_ rfl #[.agg #[.int .i64 a0_0,.int .i64 a0_1]] rfl T4_ ?_;(with_reducible refine (impl_IsTable.calls a0_0 a0_1 false _ A2.out).mono ?_);rintro e w19 ⟨rfl,hb⟩;refine ⟨_,rfl,?_⟩;replace BK101:=aZ_ (blk_below (g:=gb101) (o:=.cells #[.int .i64 a0_0,.int .i64 a0_1] 25 (0,0)) T5_ hb);replace HB:=aZ_ (below_step T1_ hb);(try clear hb)))
  go_ret;exact ⟨_,T13_,T83_,T1_⟩
def spec_DrawLeastOrder.f (k:Nat) (l0:List Int):Option (Int × Int):=(spec_l1New.f k l0).bind fun bt102=>((spec_l2Any.f k bt102.1 bt102.2.1 bt102.2.2).bind fun bt106=>(some (bt106.1,bt106.2.1)))
theorem spec_DrawLeastOrder.calls (k:Nat) (A0:Option Addr) (c0:Nat) (l0:List Int) (r1:Int) (r2:Int) (w:World) (hr0:Kd.C (Kd.int .u8) w A0 l0.length l0) (hc0:l0.length ≤ c0) (h:spec_DrawLeastOrder.f k l0 = some (r1,r2)) :
  Calls Tryz.prog 19 #[.slice A0 l0.length c0] w fun e w'=>e = .returned (.agg #[.int .i64 r1,.int .i64 r2]) ∧ Below w.heap.size w w':=by
 have hu25:=Tryz.underlying25;have HR0:=aZ_ hr0;have HC0:=aZ_ hc0;clear hr0 hc0;have HB:=aZ_ (Below.refl w.heap.size w);have H:((spec_l1New.f k l0).bind fun bt102=>((spec_l2Any.f k bt102.1 bt102.2.1 bt102.2.2).bind fun bt106=>(some (bt106.1,bt106.2.1)))) = some (r1,r2):=h;clear h;replace H:=Option.bind_eq_some_iff.mp H;obtain ⟨⟨t102,t103,t104⟩,A20,H⟩:=H;replace H:((spec_l2Any.f k t102 t103 t104).bind fun bt106=>(some (bt106.1,bt106.2.1))) = some (r1,r2):=H;have A2:=aZ_ A20;clear A20;replace H:=Option.bind_eq_some_iff.mp H;obtain ⟨⟨t106,t107,t108,t109⟩,A30,H⟩:=H;replace H:(some (t106,t107)) = some (r1,r2):=H;have A3:=aZ_ A30;clear A30;simp only [Option.some.injEq,Prod.mk.injEq] at H;obtain ⟨rfl,rfl⟩:=H;go_enter Tryz.func19,Tryz.ntmps19
 go_wp2_with (first | ((with_reducible refine gate_dst (N:=2) rfl ?_);refine box_event ?hg (N:=2) ?hd (cs:=#[.int .i64 0,.int .i64 0]) (t:=25) ?hr ?_;(case hd=>rfl);(case hg=>rfl);(case hr=>exact T19_);intro gb101 hg w4 hbox hb;have BK101:=aZ_ (hbox);have GW101:=aZ_ ((T3_:w.heap.size ≤ gb101));have GE101:=aZ_ ((T3_:w.heap.size ≤ gb101));replace HB:=aZ_ (below_step T2_ hb);clear hb hbox hg) | ((with_reducible refine gate_callee (f:=51) rfl ?_);refine goesL_ (some 4) rfl rfl Tryz.func51 T22_ rfl #[.slice A0 l0.length c0] rfl T4_ ?_;(with_reducible refine (spec_l1New.calls k _ _ l0 t102 t103 t104 w _ ?side1 ?side2 ?side3 A2.out).mono ?_);(case side1=>exact T1_);(case side2=>exact HR0.out);(case side3=>exact HC0.out);rintro e w5 ⟨g105,rfl,hi,hb,hb2⟩;refine ⟨_,rfl,?_⟩;replace HB:=aZ_ (hb);have HI105:=aZ_ (hi);have NB105_101:=aZ_ (IsS93.ne_blk hi (blk_below (g:=gb101) (o:=.cells #[.int .i64 0,.int .i64 0] 25 (0,0)) T5_ hb2) T55_);have NB101_105:=aZ_ (Ne.symm (IsS93.ne_blk hi (blk_below (g:=gb101) (o:=.cells #[.int .i64 0,.int .i64 0] 25 (0,0)) T5_ hb2) T55_));replace BK101:=aZ_ (blk_below (g:=gb101) (o:=.cells #[.int .i64 0,.int .i64 0] 25 (0,0)) T5_ hb2);(try clear hb);(try clear hb2);(try clear hi)) | ((with_reducible refine gate_callee (f:=50) rfl ?_);refine goesL_ (some 5) rfl rfl Tryz.func50 T22_ rfl #[.pointer (some ⟨g105,0,none⟩)] rfl T4_ ?_;(with_reducible refine (spec_l2Any.calls k g105 t102 t103 t104 t106 t107 t108 t109 w _ ?side1 ?side2 A3.out).mono ?_);(case side1=>exact T49_);(case side2=>exact T45_);rintro e w6 ⟨rfl,hi,hb,hk⟩;refine ⟨_,rfl,?_⟩;replace BK101:=aZ_ (KeepBut.blk hk (g':=gb101) (o:=.cells #[.int .i64 0,.int .i64 0] 25 (0,0)) T5_ NB101_105.out T64_);replace HB:=aZ_ (hb);replace HI105:=aZ_ (hi);(try clear hb);(try clear hk);(try clear hi);have hnb7:=NB101_105.out;have hnc7:=NB105_101.out;obtain ⟨⟨hcz8_0,hcz8_1⟩,hfz8_0,hfz8_1⟩:=bc2_ BK101.out))
 refine bodyPost_ret (results_cell_row rfl _ _ gb101 25 #[.int .i64 t106,.int .i64 t107] (0,0) _ rfl T43_ Tryz.underlying25 rfl T22_) rfl ?_;exact ⟨T13_,T45_⟩
mutual
def spec_l4Perms.l0:Nat → Int → List Int → List (List Int) → Int → Option ((List (List Int)))
 | 0,_,_,_,_=>none
 | k + 1,x0,x1,x5,x6=>if x6 < x0 then (spec_l4Perms.l1 k x0 x1 x5 x6 false 0) else (some x5)
def spec_l4Perms.l1:Nat → Int → List Int → List (List Int) → Int → Bool → Int → Option ((List (List Int)))
 | 0,_,_,_,_,_,_=>none
 | k + 1,x0,x1,x5,x6,x7,x8=>if x8 < (x1.length:Int) then (if x7 = true then (spec_l4Perms.l1 k x0 x1 x5 x6 true (wrap64 (x8 + 1))) else (if 0 ≤ x8 then (spec_l4Perms.l1 k x0 x1 x5 x6 ((rd x1 x8) == x6) (wrap64 (x8 + 1))) else (none))) else (if x7 = true then (spec_l4Perms.l0 k x0 x1 x5 (wrap64 (x6 + 1))) else ((some (([]:List Int):List Int)).bind fun y108=>(if y108.length + x1.length < 17592186044416 then ((some (y108 ++ x1:List Int)).bind fun y111=>(if y111.length < 17592186044416 then ((spec_l4Perms.f k x0 (y111 ++ [x6])).bind fun t117=>(if x5.length + t117.length < 5864062014805 then (spec_l4Perms.l0 k x0 x1 (x5 ++ t117) (wrap64 (x6 + 1))) else (none))) else (none))) else (none))))
def spec_l4Perms.f:Nat → Int → List Int → Option ((List (List Int)))
 | 0,_,_=>none
 | k + 1,a0,l1=>if (l1.length:Int) = a0 then (some (([l1]:List (List Int)))) else (spec_l4Perms.l0 k a0 l1 (([]:List (List Int))) 0)
end
theorem spec_l4Perms.calls (k:Nat):∀ (a0:Int) (P1_:Nat → Prop) (A1:Option Addr) (c1:Nat) (l1:List Int) (r:List (List Int)) (w:World) (hs1:Kd.V (Kd.int .i64) 3 w w.heap.size (fun k_=>P1_ k_) (.slice A1 l1.length c1) l1) (h:spec_l4Perms.f k a0 l1 = some r),
  Calls Tryz.prog 52 #[.int .i64 a0,.slice A1 l1.length c1] w fun e w'=>∃ v0_:Value,e = .returned (v0_) ∧ Kd.N (Kd.slice 3 (Kd.int .i64)) 26 w' w.heap.size (fun k_=>(P1_ k_ ∨ w.heap.size ≤ k_)) v0_ r ∧ Below w.heap.size w w':=by
 induction k using Nat.strongRecOn with
 | _ k ih =>
 intro a0 P1_ A1 c1 l1 r w hs1 h
 cases k with
 | zero=>exact absurd h (by simp [spec_l4Perms.f])
 | succ k =>
 simp only [spec_l4Perms.f] at h;have HO1:=aZ_ (show Kd.V (Kd.int .i64) 3 w w.heap.size (fun k_=>(P1_ k_ ∨ w.heap.size ≤ k_)) (.slice A1 l1.length c1) l1 from Kd.V_mono hs1 (fun k_ hk=>.inl hk));have HB:=aZ_ (Below.refl w.heap.size w);have H:(if (l1.length:Int) = a0 then (some (([l1]:List (List Int)))) else (spec_l4Perms.l0 k a0 l1 (([]:List (List Int))) 0)) = some r:=h;clear h
 by_cases c3:(l1.length:Int) = a0
 ·rw [if_pos c3] at H
  have c3b0:((l1.length:Int) == a0) = true:=beq_iff_eq.mpr c3;have c3b1:((l1.length:Int) != a0) = false:=bne_eq_false_iff_eq.mpr c3;clear c3;obtain ⟨y101,hy101⟩:∃ y_:List (List Int),y_ = (([l1]:List (List Int))):=⟨_,rfl⟩;replace H:(some y101) = some r:=by first | (rw [hy101];with_reducible exact H) | (have H2_:=(Option.bind_some _ _).symm.trans H;rw [hy101];with_reducible exact H2_) | (have H2_:=(Option.bind_some _ _).symm.trans H;with_reducible exact H2_) | with_reducible exact H | (rw [hy101];exact H) | exact H
  have Ny101:=aZ_ hy101;clear hy101;obtain rfl:=Option.some.inj H;go_enter Tryz.func52,Tryz.ntmps52
  go_wp2_with (first | ((with_reducible refine gate_dst (N:=14) rfl ?_);refine Kd.N_lit (Kd.slice 3 (Kd.int .i64)) _ 26 ?hg (N':=14) ?hd (xs:=([l1]:List (List Int))) (inner:=[.slice A1 l1.length c1]) (ok:=(fun k_=>(P1_ k_ ∨ w.heap.size ≤ k_))) (okp:=(fun k_=>(P1_ k_ ∨ w.heap.size ≤ k_))) ?hr ?hp (fun _ hk=>hk) ((show ∀ k_,w.heap.size ≤ k_ → (fun k_=>(P1_ k_ ∨ w.heap.size ≤ k_)) k_ from fun k_ hk=>(.inr (Nat.le_trans (below_size T2_) hk))) _ (Nat.le_refl _)) (Below.refl _ _) (Nat.le_refl _) T64_ ?_;(case hd=>rfl);(case hg=>rfl);(case hr=>exact T19_);(case hp=>exact (Reps.one (show Kd.FK (Kd.slice 3 (Kd.int .i64)) _ _ l1 [.slice A1 l1.length c1] from (Kd.FK_slice_mk (Kd.V_reads' (Kd.V_mono (ok':=(fun k_=>(P1_ k_ ∨ w.heap.size ≤ k_))) (HO1.out) (fun k_ hk=>hk))).2.1 (Kd.V_F (Kd.V_mono (ok':=(fun k_=>(P1_ k_ ∨ w.heap.size ≤ k_))) (HO1.out) (fun k_ hk=>hk))))) (Reps.none _ _)));intro v102 w4 ho5 hb hg_ hnew_;clear hg_ hnew_;(first | rw [← Ny101.out] at ho5 | (simp only [Int.reduceToNat] at ho5;rw [← Ny101.out] at ho5));replace HO1:=aZ_ (Kd.V_elder' (by (with_reducible repeat (first | apply Kd.V_alloc | apply Kd.V_drewN | apply Kd.V_drew));exact HO1.out) (Kd.N_base ho5) hb);have HO103:=aZ_ (Kd.N_lower ho5 (below_size T2_));replace HB:=aZ_ (below_step T2_ hb);clear hb ho5))
  go_ret;exact ⟨_,T13_,by (with_reducible repeat (first | apply Kd.N_alloc | apply Kd.N_drewN | apply Kd.N_drew));exact HO103.out,T2_⟩
 ·rw [if_neg c3] at H
  have c3b0:((l1.length:Int) == a0) = false:=beq_eq_false_iff_ne.mpr c3;have c3b1:((l1.length:Int) != a0) = true:=bne_iff_ne.mpr c3;obtain ⟨y104,hy104⟩:∃ y_:List (List Int),y_ = (([]:List (List Int))):=⟨_,rfl⟩;replace H:(spec_l4Perms.l0 k a0 l1 y104 0) = some r:=by first | (rw [hy104];with_reducible exact H) | (have H2_:=(Option.bind_some _ _).symm.trans H;rw [hy104];with_reducible exact H2_) | (have H2_:=(Option.bind_some _ _).symm.trans H;with_reducible exact H2_) | with_reducible exact H | (rw [hy104];exact H) | exact H
  have Ny104:=aZ_ hy104;clear hy104;have H':=aZ_ H;clear H;go_enter Tryz.func52,Tryz.ntmps52
  go_wp2_with (first | ((with_reducible refine gate_dst (N:=15) rfl ?_);refine Kd.N_lit (Kd.slice 3 (Kd.int .i64)) _ 26 ?hg (N':=15) ?hd (xs:=([]:List (List Int))) (inner:=[]) (ok:=(fun k_=>(P1_ k_ ∨ w.heap.size ≤ k_))) (okp:=(fun k_=>(P1_ k_ ∨ w.heap.size ≤ k_))) ?hr ?hp (fun _ hk=>hk) ((show ∀ k_,w.heap.size ≤ k_ → (fun k_=>(P1_ k_ ∨ w.heap.size ≤ k_)) k_ from fun k_ hk=>(.inr (Nat.le_trans (below_size T2_) hk))) _ (Nat.le_refl _)) (Below.refl _ _) (Nat.le_refl _) T64_ ?_;(case hd=>rfl);(case hg=>rfl);(case hr=>exact T19_);(case hp=>exact (Reps.none _ _));intro v105 w6 ho7 hb hg_ hnew_;clear hg_ hnew_;(first | rw [← Ny104.out] at ho7 | (simp only [Int.reduceToNat] at ho7;rw [← Ny104.out] at ho7));replace HO1:=aZ_ (Kd.V_elder' (by (with_reducible repeat (first | apply Kd.V_alloc | apply Kd.V_drewN | apply Kd.V_drew));exact HO1.out) (Kd.N_base ho7) hb);have HO106:=aZ_ (Kd.N_lower ho7 (below_size T2_));replace HB:=aZ_ (below_step T2_ hb);clear hb ho7))
  go_loopg [5,6] k (fun kq v5 v6 w'=>∃ (x5_1:List (List Int)) (x6_1:Int),v6 = .int .i64 x6_1 ∧ Aside0 (spec_l4Perms.l0 kq a0 l1 x5_1 x6_1 = some r) ∧ Aside0 (kq ≤ k) ∧ Aside0 (Kd.V (Kd.int .i64) 3 w' w.heap.size (fun k_=>(P1_ k_ ∨ w.heap.size ≤ k_) ∧ some k_ ≠ (v5:Value).ownBlock) (.slice A1 l1.length c1) l1) ∧ Aside0 (Kd.N (Kd.slice 3 (Kd.int .i64)) 26 w' w.heap.size (fun k_=>(P1_ k_ ∨ w.heap.size ≤ k_)) v5 x5_1) ∧ Aside0 (Below w.heap.size w w'))
  case atStart=>exact ⟨(y104),(0),T11_,H',⟨Nat.le_refl _⟩,⟨by (with_reducible repeat (first | apply Kd.V_alloc | apply Kd.V_drewN | apply Kd.V_drew));exact HO1.out⟩,⟨by (with_reducible repeat (first | apply Kd.N_alloc | apply Kd.N_drewN | apply Kd.N_drew));exact HO106.out⟩,⟨T2_⟩⟩
  case round =>
   clear H'
   repeat (first | clear c1 | clear p2 | clear c3 | clear c3b0 | clear c3b1 | clear c5)
   obtain ⟨x5_1,x6_1,rfl,HA,HK1,HO_1,HO_5,HB⟩:=hrel
   cases gk with
   | zero=>exact absurd HA.out (by simp [spec_l4Perms.l0])
   | succ k1 =>
    have H:=HA.out;clear HA;simp only [spec_l4Perms.l0] at H
    by_cases c8:x6_1 < a0
    ·rw [if_pos c8] at H
     have c8b0:decide (x6_1 < a0) = true:=decide_eq_true c8;clear c8;have H':=aZ_ H;clear H;go_wp2
     go_loopg [7,8] k1 (fun kq v7 v8 w'=>∃ (x7_2:Bool) (x8_2:Int),v7 = .bool x7_2 ∧ v8 = .int .i64 x8_2 ∧ Aside0 (spec_l4Perms.l1 kq a0 l1 x5_1 x6_1 x7_2 x8_2 = some r) ∧ Aside0 (kq ≤ k1) ∧ Aside0 (Kd.V (Kd.int .i64) 3 w' w.heap.size (fun k_=>(P1_ k_ ∨ w.heap.size ≤ k_) ∧ some k_ ≠ (u5:Value).ownBlock) (.slice A1 l1.length c1) l1) ∧ Aside0 (Kd.N (Kd.slice 3 (Kd.int .i64)) 26 w' w.heap.size (fun k_=>(P1_ k_ ∨ w.heap.size ≤ k_)) u5 x5_1) ∧ Aside0 (Below w.heap.size w w'))
     case atStart=>exact ⟨(false),(0),T11_,T11_,H',⟨Nat.le_refl _⟩,⟨by (with_reducible repeat (first | apply Kd.V_alloc | apply Kd.V_drewN | apply Kd.V_drew));exact HO_1.out⟩,⟨by (with_reducible repeat (first | apply Kd.N_alloc | apply Kd.N_drewN | apply Kd.N_drew));exact HO_5.out⟩,⟨T2_⟩⟩
     case round =>
      clear H'
      repeat (first | clear c1 | clear p2 | clear c3 | clear c3b0 | clear c3b1 | clear c5 | clear c8 | clear c8b0)
      obtain ⟨x7_2,x8_2,rfl,rfl,HA,HK2,HO_1,HO_5,HB⟩:=hrel
      cases gk with
      | zero=>exact absurd HA.out (by simp [spec_l4Perms.l1])
      | succ k2 =>
       have H:=HA.out;clear HA;simp only [spec_l4Perms.l1] at H
       by_cases c9:x8_2 < (l1.length:Int)
       ·rw [if_pos c9] at H
        have c9b0:decide (x8_2 < (l1.length:Int)) = true:=decide_eq_true c9;clear c9
        by_cases c10:x7_2 = true
        ·subst c10
         have H1:(spec_l4Perms.l1 k2 a0 l1 x5_1 x6_1 true (wrap64 (x8_2 + 1))) = some r:=by rw [if_pos rfl] at H;exact H
         clear H;have H:=H1;clear H1;have H':=aZ_ H;clear H;go_wp2
         go_roundg k2
         case measure=>have:=HK1.out;have:=HK2.out;omega
         case rel=>exact ⟨(true),(wrap64 (x8_2 + 1)),T11_,T11_,H',⟨T92_⟩,⟨by (with_reducible repeat (first | apply Kd.V_alloc | apply Kd.V_drewN | apply Kd.V_drew));exact HO_1.out⟩,⟨by (with_reducible repeat (first | apply Kd.N_alloc | apply Kd.N_drewN | apply Kd.N_drew));exact HO_5.out⟩,⟨T2_⟩⟩
        ·replace c10:=Bool.eq_false_iff.mpr c10
         subst c10;have H1:(if 0 ≤ x8_2 then (spec_l4Perms.l1 k2 a0 l1 x5_1 x6_1 ((rd l1 x8_2) == x6_1) (wrap64 (x8_2 + 1))) else (none)) = some r:=by rw [if_neg (show ¬ (false = true) by decide)] at H;exact H
         clear H;have H:=H1;clear H1
         by_cases c11:0 ≤ x8_2
         ·rw [if_pos c11] at H
          have c11b0:decide (0 ≤ x8_2) = true:=decide_eq_true c11;clear c11;have H':=aZ_ H;clear H;have p107:0 ≤ (x8_2:Int):=of_decide_eq_true T14_;have q107:x8_2 < (l1.length:Int):=of_decide_eq_true T14_;obtain ⟨ad107,e107,hx107_0⟩:=Kd.at_int (Kd.V_reads' HO_1.out).2.2 x8_2 p107 q107
          cases e107
          replace p107:=eq_true p107;replace q107:=eq_true q107;go_wp2
          go_roundg k2
          case measure=>have:=HK1.out;have:=HK2.out;omega
          case rel=>exact ⟨(((rd l1 x8_2) == x6_1)),(wrap64 (x8_2 + 1)),T11_,T11_,H',⟨T92_⟩,⟨by (with_reducible repeat (first | apply Kd.V_alloc | apply Kd.V_drewN | apply Kd.V_drew));exact HO_1.out⟩,⟨by (with_reducible repeat (first | apply Kd.N_alloc | apply Kd.N_drewN | apply Kd.N_drew));exact HO_5.out⟩,⟨T2_⟩⟩
         ·rw [if_neg c11] at H
          exact absurd H T64_
       ·rw [if_neg c9] at H
        have c9b0:decide (x8_2 < (l1.length:Int)) = false:=decide_eq_false c9;clear c9
        by_cases c12:x7_2 = true
        ·subst c12
         have H1:(spec_l4Perms.l0 k2 a0 l1 x5_1 (wrap64 (x6_1 + 1))) = some r:=by rw [if_pos rfl] at H;exact H
         clear H;have H:=H1;clear H1;have H':=aZ_ H;clear H;go_wp2
         go_roundg k2
         case measure=>have:=HK1.out;have:=HK2.out;omega
         case rel=>exact ⟨(x5_1),(wrap64 (x6_1 + 1)),T11_,H',⟨T92_⟩,⟨by (with_reducible repeat (first | apply Kd.V_alloc | apply Kd.V_drewN | apply Kd.V_drew));exact HO_1.out⟩,⟨by (with_reducible repeat (first | apply Kd.N_alloc | apply Kd.N_drewN | apply Kd.N_drew));exact HO_5.out⟩,⟨T2_⟩⟩
        ·replace c12:=Bool.eq_false_iff.mpr c12
         subst c12;have H1:((some (([]:List Int):List Int)).bind fun y108=>(if y108.length + l1.length < 17592186044416 then ((some (y108 ++ l1:List Int)).bind fun y111=>(if y111.length < 17592186044416 then ((spec_l4Perms.f k2 a0 (y111 ++ [x6_1])).bind fun t117=>(if x5_1.length + t117.length < 5864062014805 then (spec_l4Perms.l0 k2 a0 l1 (x5_1 ++ t117) (wrap64 (x6_1 + 1))) else (none))) else (none))) else (none))) = some r:=by rw [if_neg (show ¬ (false = true) by decide)] at H;exact H
         clear H;have H:=H1;clear H1;obtain ⟨y108,hy108⟩:∃ y_:List Int,y_ = (([]:List Int)):=⟨_,rfl⟩;replace H:(if y108.length + l1.length < 17592186044416 then ((some (y108 ++ l1:List Int)).bind fun y111=>(if y111.length < 17592186044416 then ((spec_l4Perms.f k2 a0 (y111 ++ [x6_1])).bind fun t117=>(if x5_1.length + t117.length < 5864062014805 then (spec_l4Perms.l0 k2 a0 l1 (x5_1 ++ t117) (wrap64 (x6_1 + 1))) else (none))) else (none))) else (none)) = some r:=by first | (rw [hy108];with_reducible exact H) | (have H2_:=(Option.bind_some _ _).symm.trans H;rw [hy108];with_reducible exact H2_) | (have H2_:=(Option.bind_some _ _).symm.trans H;with_reducible exact H2_) | with_reducible exact H | (rw [hy108];exact H) | exact H
         have Ny108:=aZ_ hy108;clear hy108
         by_cases c13:y108.length + l1.length < 17592186044416
         ·rw [if_pos c13] at H
          have LMc13:=aZ_ c13;clear c13;obtain ⟨y111,hy111⟩:∃ y_:List Int,y_ = (y108 ++ l1):=⟨_,rfl⟩;replace H:(if y111.length < 17592186044416 then ((spec_l4Perms.f k2 a0 (y111 ++ [x6_1])).bind fun t117=>(if x5_1.length + t117.length < 5864062014805 then (spec_l4Perms.l0 k2 a0 l1 (x5_1 ++ t117) (wrap64 (x6_1 + 1))) else (none))) else (none)) = some r:=by first | (rw [hy111];with_reducible exact H) | (have H2_:=(Option.bind_some _ _).symm.trans H;rw [hy111];with_reducible exact H2_) | (have H2_:=(Option.bind_some _ _).symm.trans H;with_reducible exact H2_) | with_reducible exact H | (rw [hy111];exact H) | exact H
          have Ny111:=aZ_ hy111;clear hy111
          by_cases c14:y111.length < 17592186044416
          ·rw [if_pos c14] at H
           have LMc14:=aZ_ c14;clear c14;obtain ⟨y114,hy114⟩:∃ y_:List Int,y_ = (y111 ++ [x6_1]):=⟨_,rfl⟩;replace H:((spec_l4Perms.f k2 a0 y114).bind fun t117=>(if x5_1.length + t117.length < 5864062014805 then (spec_l4Perms.l0 k2 a0 l1 (x5_1 ++ t117) (wrap64 (x6_1 + 1))) else (none))) = some r:=by first | (rw [hy114];with_reducible exact H) | (have H2_:=(Option.bind_some _ _).symm.trans H;rw [hy114];with_reducible exact H2_) | (have H2_:=(Option.bind_some _ _).symm.trans H;with_reducible exact H2_) | with_reducible exact H | (rw [hy114];exact H) | exact H
           have Ny114:=aZ_ hy114;clear hy114;replace H:=Option.bind_eq_some_iff.mp H;obtain ⟨t117,A150,H⟩:=H;replace H:(if x5_1.length + t117.length < 5864062014805 then (spec_l4Perms.l0 k2 a0 l1 (x5_1 ++ t117) (wrap64 (x6_1 + 1))) else (none)) = some r:=H;have A15:=aZ_ A150;clear A150
           by_cases c16:x5_1.length + t117.length < 5864062014805
           ·rw [if_pos c16] at H
            have LMc16:=aZ_ c16;clear c16;obtain ⟨y120,hy120⟩:∃ y_:List (List Int),y_ = (x5_1 ++ t117):=⟨_,rfl⟩;replace H:(spec_l4Perms.l0 k2 a0 l1 y120 (wrap64 (x6_1 + 1))) = some r:=by first | (rw [hy120];with_reducible exact H) | (have H2_:=(Option.bind_some _ _).symm.trans H;rw [hy120];with_reducible exact H2_) | (have H2_:=(Option.bind_some _ _).symm.trans H;with_reducible exact H2_) | with_reducible exact H | (rw [hy120];exact H) | exact H
            have Ny120:=aZ_ hy120;clear hy120;have H':=aZ_ H;clear H
            go_wp2_with (first | ((with_reducible refine gate_dst (N:=40) rfl ?_);refine Kd.R_lit (Kd.int .i64) _ 3 ?hg (N:=40) ?hd (xs:=([]:List Int)) (inner:=[]) (ok:=fun _=>True) (okp:=fun _=>True) ?hr ?hp (fun _ hk=>hk) trivial (Below.refl _ _) (Nat.le_refl _) T64_ ?_;(case hd=>rfl);(case hg=>rfl);(case hr=>exact T19_);(case hp=>exact (Reps.none _ _));intro v109 w17 ho18 hb hg_ hnew_;clear hg_ hnew_;(first | rw [← Ny108.out] at ho18 | (simp only [Int.reduceToNat] at ho18;rw [← Ny108.out] at ho18));replace HO_1:=aZ_ (Kd.V_elder' T93_ (Kd.R_base ho18) hb);replace HO_5:=aZ_ (Kd.N_elder' T72_ (Kd.R_base ho18) hb);have HO110:=aZ_ (Kd.R_lower (Kd.R_newM (M:=fun k_=>(w.heap.size ≤ k_)) ho18 (below_size T2_) (fun k_ h_=>h_)) (below_size T2_));replace HB:=aZ_ (below_step T2_ hb);clear hb ho18) | ((with_reducible refine gate_builtin (b:=.append) (xs:=#[.tmp 40,.tmp 41]) rfl ?_);at_builtin;refine Kd.R_append_rows (Kd.int .i64) (w0:=w) w.heap.size rfl (.tmp 40) (.tmp 41) 26 3 (.int .i64 0) 8 rfl Tryz.underlying26 info3 rfl T55_ T73_ v109 y108 l1 _ _ _ (fun k_=>(w.heap.size ≤ k_)) (fun _=>False) rfl rfl ?aO ?aR (fun _ _ h=>h) (fun _ h=>h.elim) ?aF ?aB ?aS ?aL ?_;(case aR=>exact (by repeat (first | exact (Kd.V_reads' HO_1.out).2.2 | (with_reducible refine Kd.C_alloc ?_ _) | (with_reducible refine Kd.C_drewN ?_ _) | (with_reducible refine Kd.C_drew ?_))));(case aB=>exact T2_);(case aF=>exact (fun k_ hk=>(Nat.le_trans (below_size T2_) hk)));(case aO=>exact (by (with_reducible repeat (first | apply Kd.R_alloc | apply Kd.R_drewN | apply Kd.R_drew));exact Kd.R_mono HO110.out (fun _ hk=>hk.1)));(case aS=>exact (below_size T2_));(case aL=>have:=LMc13.out;omega);intro v112 w19 ho hb hg hat;rw [← Ny111.out] at ho;replace HO_1:=aZ_ (Kd.V_afterv (ok:=(fun k_=>(P1_ k_ ∨ w.heap.size ≤ k_) ∧ some k_ ≠ (u5:Value).ownBlock)) T93_ hg hat);replace HO_5:=aZ_ (Kd.N_afterv (ok:=(fun k_=>(P1_ k_ ∨ w.heap.size ≤ k_))) T72_ hg hat);replace HB:=aZ_ (hb);have HO113:=aZ_ (ho);clear HO110;clear ho hb hg hat) | ((with_reducible refine gate_builtin (b:=.append) (xs:=#[.tmp 42,.tmp 44]) rfl ?_);at_builtin;refine Kd.R_append (Kd.int .i64) (w0:=w) w.heap.size rfl (.tmp 42) (.tmp 44) 26 3 (.int .i64 0) 8 rfl Tryz.underlying26 info3 rfl T55_ T73_ v112 y111 x6_1 [.int .i64 x6_1] (fun k_=>(w.heap.size ≤ k_)) (fun _=>False) rfl rfl ?aP (fun _ hk=>hk.elim) ?aF ?aO ?aB ?aS ?aL ?_;(case aP=>exact rfl);(case aB=>exact T2_);(case aF=>exact (fun k_ hk=>(Nat.le_trans (below_size T2_) hk)));(case aO=>exact T86_);(case aS=>exact (below_size T2_));(case aL=>have:=LMc14.out;omega);intro v115 w20 ho hb hg hat;rw [← Ny114.out] at ho;replace HO_1:=aZ_ (Kd.V_afterv (ok:=(fun k_=>(P1_ k_ ∨ w.heap.size ≤ k_) ∧ some k_ ≠ (u5:Value).ownBlock)) T93_ hg hat);replace HO_5:=aZ_ (Kd.N_afterv (ok:=(fun k_=>(P1_ k_ ∨ w.heap.size ≤ k_))) T72_ hg hat);replace HB:=aZ_ (hb);have HO116:=aZ_ (ho);clear HO113;clear ho hb hg hat;obtain ⟨Ao21,co21,eo21⟩:=Kd.R_slice HO116.out;subst eo21) | ((with_reducible refine gate_callee (f:=52) rfl ?_);refine goesL_ (some 46) rfl rfl Tryz.func52 T22_ rfl #[.int .i64 a0,.slice Ao21 y114.length co21] rfl T4_ ?_;(with_reducible refine (ih k2 T92_ a0 (fun k_=>some k_ = (.slice Ao21 y114.length co21:Value).ownBlock) _ _ y114 t117 _ ?side1 A15.out).mono ?_);(case side1=>exact Kd.R_V (Kd.R_tight rfl (Kd.R_apart' (HO116.out) (Kd.N_typed HO_5.out) T55_)));rintro e w22 ⟨v118,rfl,ho0,hb⟩;refine ⟨_,rfl,?_⟩;replace HO_1:=aZ_ (Kd.V_elder' T93_ (Kd.N_base ho0) hb);have HO119:=aZ_ (Kd.N_lower (Kd.N_mono (ok':=fun k_=>(P1_ k_ ∨ w.heap.size ≤ k_) ∧ some k_ ≠ (u5:Value).ownBlock) ho0 (fun k_ hk_=>⟨Or.elim hk_ (fun hs_=>(.inr (((Kd.R_apart' (HO116.out) (Kd.N_typed HO_5.out) T55_).1 k_ hs_.symm).1))) (fun hn_=>(.inr (Nat.le_trans (below_size T2_) hn_))),Or.elim hk_ (fun hs_=>((Kd.R_apart' (HO116.out) (Kd.N_typed HO_5.out) T55_).1 k_ hs_.symm).2) (fun hn_=>(Kd.fresh' (Kd.N_lt T72_) k_ hn_))⟩)) (below_size T2_));replace HO_5:=aZ_ (Kd.N_elder' T72_ (Kd.N_base ho0) hb);replace HO116:=aZ_ (Kd.R_below (by (with_reducible repeat (first | apply Kd.R_alloc | apply Kd.R_drewN | apply Kd.R_drew));exact HO116.out) hb);replace HB:=aZ_ (below_step T2_ hb);(try clear hb);(try clear ho0);obtain ⟨Ao24,co24,eo24⟩:=Kd.N_slice HO119.out;subst eo24) | ((with_reducible refine gate_builtin (b:=.append) (xs:=#[.tmp 38,.tmp 46]) rfl ?_);at_builtin;refine Kd.N_append_rows (Kd.slice 3 (Kd.int .i64)) (w0:=w) w.heap.size rfl (.tmp 38) (.tmp 46) 64 26 (.slice none 0 0) 24 rfl Tryz.underlying64 info26 rfl T55_ T73_ u5 x5_1 t117 _ _ _ (fun k_=>(P1_ k_ ∨ w.heap.size ≤ k_)) (fun k_=>((fun k_=>(P1_ k_ ∨ w.heap.size ≤ k_))) k_ ∧ some k_ ≠ (u5:Value).ownBlock) rfl rfl ?aO ?aR (fun _ hk=>hk) ?aF ?aB ?aS ?aL ?_;(case aR=>exact (by skip;exact Kd.N_F (Kd.N_mono (ok':=(fun k_=>((fun k_=>(P1_ k_ ∨ w.heap.size ≤ k_))) k_ ∧ some k_ ≠ (u5:Value).ownBlock)) (HO119.out) (fun k_ hk=>⟨hk.1,hk.2⟩))));(case aB=>exact T2_);(case aF=>exact (fun k_ hk=>(.inr (Nat.le_trans (below_size T2_) hk))));(case aO=>exact (by (with_reducible repeat (first | apply Kd.N_alloc | apply Kd.N_drewN | apply Kd.N_drew));exact Kd.N_mono HO_5.out (fun _ hk=>hk.1.1)));(case aS=>exact (below_size T2_));(case aL=>have:=LMc16.out;omega);intro v121 w23 ho hb hg hat;rw [← Ny120.out] at ho;replace HO_1:=aZ_ (Kd.V_afterv (ok:=(fun k_=>(P1_ k_ ∨ w.heap.size ≤ k_) ∧ some k_ ≠ (.slice Ao21 y114.length co21:Value).ownBlock ∧ some k_ ≠ (.slice Ao24 t117.length co24:Value).ownBlock)) (by (with_reducible repeat (first | apply Kd.V_alloc | apply Kd.V_drewN | apply Kd.V_drew));exact Kd.V_mono HO_1.out (fun _ hk=>⟨⟨hk.1.1.1,⟨hk.1.2,hk.2⟩⟩,hk.1.1.2⟩)) hg hat);replace HO116:=aZ_ (Kd.R_over' (by (with_reducible repeat (first | apply Kd.R_alloc | apply Kd.R_drewN | apply Kd.R_drew));exact HO116.out) (Kd.N_typed T72_) T55_ hg);replace HO119:=aZ_ (Kd.N_afterv (ok:=(fun k_=>(P1_ k_ ∨ w.heap.size ≤ k_))) (by (with_reducible repeat (first | apply Kd.N_alloc | apply Kd.N_drewN | apply Kd.N_drew));exact HO119.out) hg hat);replace HB:=aZ_ (hb);have HO122:=aZ_ (ho);clear HO_5;clear ho hb hg hat))
            go_roundg k2
            case measure=>have:=HK1.out;have:=HK2.out;omega
            case rel=>exact ⟨(y120),(wrap64 (x6_1 + 1)),T11_,H',⟨T92_⟩,⟨by (with_reducible repeat (first | apply Kd.V_alloc | apply Kd.V_drewN | apply Kd.V_drew));exact Kd.V_mono HO_1.out (fun _ hk=>⟨hk.1.1,hk.2⟩)⟩,⟨by (with_reducible repeat (first | apply Kd.N_alloc | apply Kd.N_drewN | apply Kd.N_drew));exact HO122.out⟩,⟨T2_⟩⟩
           ·rw [if_neg c16] at H
            exact absurd H T64_
          ·rw [if_neg c14] at H
           exact absurd H T64_
         ·rw [if_neg c13] at H
          exact absurd H T64_
    ·rw [if_neg c8] at H
     have c8b0:decide (x6_1 < a0) = false:=decide_eq_false c8;clear c8;obtain rfl:=Option.some.inj H;go_wp2;go_ret;exact ⟨_,T13_,by (with_reducible repeat (first | apply Kd.N_alloc | apply Kd.N_drewN | apply Kd.N_drew));exact HO_5.out,T2_⟩
end Go.Proofs.YtflacbjpeecjcabGreatDoor.F
