/- Walks of Go functions and lemmas on what they compute, for the row of FnDiagrams (a part of several): each call ends as the Lean function of its name tells; the conditions are those of each theorem. -/
import Derived.Test.YtflacbjpeecjcabGreatDoorShelf
import Derived.Lib.AppendIntMem
import Derived.Test.YtflacbjpeecjcabGreatDoorM10FnDiagrams
set_option linter.unusedVariables false
set_option linter.unusedSimpArgs false
set_option maxHeartbeats 16000000
set_option maxRecDepth 100000
open Go.RowKit Go.Proofs.YtflacbjpeecjcabGreatDoorW.PrintWords Go.Proofs.YtflacbjpeecjcabGreatDoorW.PrintLast Go.Proofs.YtflacbjpeecjcabGreatDoorW.PrintMore
namespace Go.Proofs.YtflacbjpeecjcabGreatDoor.F
attribute [local go_sem] max2_int min2_int max_two min_two max_three min_three max_four min_four 
def Tens (w:World):Prop:=Lib.TabIs Tryz.prog w "internal/strconv.uint64pow10" .u64 Lib.pow10Tab
theorem Tens.below {w w':World} (h:Tens w) (hb:Below w.heap.size w w'):Tens w':=by
 unfold Tens Lib.TabIs World.var? at h ⊢;obtain ⟨g,hg,h1⟩:=Option.bind_eq_some_iff.mp h;rw [hg,Option.bind_some]
 have hlt:g < w.heap.size:=by
  refine Classical.byContradiction fun hn=>?_
  rw [Array.getElem?_eq_none T73_] at h1
  cases h1
 rw [hb.block g hlt];exact h1
def impl_FormatInt.f (n:Int):Option ByteArray:=if -9223372036854775808 ≤ n ∧ n ≤ 9223372036854775807 then some ⟨(Lib.itoa n).toArray⟩ else none
theorem impl_FormatInt.any (n:Int) (r:ByteArray) (w:World) (ht:Tens w) (h:impl_FormatInt.f n = some r) :
  Calls Tryz.prog 57 #[.int .i64 n] w fun e w'=>e = .returned (.string r) ∧ Below w.heap.size w w':=by
 unfold impl_FormatInt.f at h
 split at h
 next hn =>
  cases h
  have HC:=aZ_ (Tryz.strconv_Itoa n hn.1 hn.2 w ht);clear ht hn;go_enter Tryz.func57,Tryz.ntmps57
  go_wp2_with (go_at_call 76;refine HC.out.mono ?_;rintro e w' ⟨rfl,hk⟩;have HK:=aZ_ hk;clear hk)
  go_ret;obtain ⟨k,os,rfl⟩:=HK.out;exact ⟨rfl,Lib.below_grow _ w (Nat.le_refl _) k os⟩
 next=>cases h
def strA (n:Nat) (ws:List ByteArray):Array Value:=(Array.range n).map fun i=>.string (ws.getD i ⟨#[]⟩)
theorem strA_size (n:Nat) (ws:List ByteArray):(strA n ws).size = n:=by simp [strA]
theorem strA_get {n:Nat} (ws:List ByteArray) {i:Nat} (hi:i < n):(strA n ws)[i]? = some (.string (ws.getD i ⟨#[]⟩)):=by simp [strA,hi]
theorem strA_nil (n:Nat):madeCells (Value.string ⟨#[]⟩).cells (n * 1) = strA n []:=by
 apply Array.ext_getElem?
 intro i;rw [Nat.mul_one]
 by_cases hi:i < n
 ·rw [strA_get _ hi]
  have e:i % 1 = 0:=Nat.mod_one i;simp [madeCells,hi,Value.cells,e]
 ·rw [Array.getElem?_eq_none (by rw [size_madeCells];omega),Array.getElem?_eq_none (by rw [strA_size];omega)]
theorem strA_put {n:Nat} {ws:List ByteArray} (s:ByteArray) (h:ws.length < n):(strA n ws).setIfInBounds ws.length (.string s) = strA n (ws ++ [s]):=by
 apply Array.ext_getElem?
 intro i;rw [Array.getElem?_setIfInBounds]
 by_cases hi:i < n
 ·rw [strA_get _ hi,strA_get _ hi,strA_size]
  by_cases e:ws.length = i
  ·subst e
   rw [if_pos rfl,if_pos hi];simp
  ·rw [if_neg e]
   congr 2
   by_cases hl:i < ws.length
   ·simp only [List.getD_eq_getElem?_getD]
    rw [List.getElem?_append_left hl]
   ·simp only [List.getD_eq_getElem?_getD]
    rw [List.getElem?_eq_none T73_,List.getElem?_eq_none (by rw [List.length_append,List.length_singleton];omega)]
 ·rw [if_neg T73_,Array.getElem?_eq_none (by rw [strA_size];omega),Array.getElem?_eq_none (by rw [strA_size];omega)]
theorem make_str_ {P:Program} {ops:Array Oper} {rest:List Oper} {o:Oper} {a:Act} {Q:Exit → Act → World → Prop} {W:World} (hgd:o.guard = none) (t e:TypeId) (x y:Operand) (ho:o.op = .makeSlice t x y) (l c:Nat) (hx:a.eval x = .int .i64 l) (hy:a.eval y = .int .i64 c)
  (ht:P.underlying t = some (.slice e)) (z:Value) (bytes:Nat) (hinfo:(P.info? e).map (fun i=>(i.zero,i.size,i.bytes)) = some (some z,1,bytes)) (hlc:l ≤ c) (hc:c ≤ 64) (hb:bytes ≤ 16)
  (h:wpList P ops Q rest (a.put o.dst (.slice (some ⟨W.heap.size,0,none⟩) l c)) (W.alloc (.cells (madeCells z.cells (c * 1)) e))):wpList P ops Q (o :: rest) a W:=by
 obtain ⟨i0,hi,hzz⟩:=Option.map_eq_some_iff.1 hinfo;simp only [Prod.mk.injEq] at hzz;obtain ⟨hz0,hz1,hz2⟩:=hzz;have hm:bytes * c ≤ 16 * 64:=Nat.mul_le_mul hb hc;have hr:=run_make (P:=P) W t e i0 z ht hi hz0 .i64 .i64 (l:Int) (c:Int) T73_ T73_ (by rw [hz2,← Int.natCast_mul];omega) T73_;simp only [Int.toNat_natCast] at hr;rw [hz1] at hr;refine Kd.event_run hgd ?_ h;simp [execOp,ho,hx,hy,hr]
def impl_FormatDiagram.endOk (n:Int):Bool:=decide (-2 ≤ n ∧ n < 31)
def impl_FormatDiagram.ok (s:S56):Bool:=decide (0 ≤ s.f0 ∧ s.f0 < 5) && (impl_FormatDiagram.endOk s.f1 && impl_FormatDiagram.endOk s.f2)
def impl_FormatDiagram.num (n:Int):ByteArray:=⟨(Lib.itoa n).toArray⟩
def impl_FormatDiagram.word (s:S56):ByteArray:=((strOfNums [97 + s.f0] ++ impl_FormatDiagram.num s.f1) ++ ⟨#[44]⟩) ++ impl_FormatDiagram.num s.f2
def impl_FormatDiagram.words (l:List S56) (m:Nat):List ByteArray:=(List.range m).map fun (i:Nat)=>impl_FormatDiagram.word (rd_T56 l (i:Int))
def impl_FormatDiagram.f (l:List S56):Option ByteArray :=
 if l.length = 0 then some ⟨#[110,111,110,101]⟩ else if 31 < l.length then some ⟨#[]⟩ else if B.allN (fun i=>impl_FormatDiagram.ok (rd_T56 l (i:Int))) l.length = true then some ⟨(Lib.join ((impl_FormatDiagram.words l l.length).map (·.data.toList)) [32]).toArray⟩ else some ⟨#[]⟩
theorem impl_FormatDiagram.words_length (l:List S56) (m:Nat):(impl_FormatDiagram.words l m).length = m:=by simp [impl_FormatDiagram.words]
theorem impl_FormatDiagram.words_succ (l:List S56) (m:Nat):impl_FormatDiagram.words l (m + 1) = impl_FormatDiagram.words l m ++ [impl_FormatDiagram.word (rd_T56 l (m:Int))]:=by simp [impl_FormatDiagram.words,List.range_succ]
theorem impl_FormatDiagram.num_size {n:Int} (h:impl_FormatDiagram.endOk n = true):(impl_FormatDiagram.num n).size ≤ 2:=by
 have hh:∀ i:Fin 33,(Lib.itoa ((i.val:Int) - 2)).length ≤ 2:=by decide +kernel
 have h1:=of_decide_eq_true h;obtain ⟨m,hm⟩:=Int.eq_ofNat_of_zero_le (show 0 ≤ n + 2 by omega);have h2:=hh ⟨m,by omega⟩;have e:((m:Nat):Int) - 2 = n:=by omega
 have h2:(Lib.itoa (((m:Nat):Int) - 2)).length ≤ 2:=h2;rw [e] at h2;exact h2
theorem impl_FormatDiagram.word_size {s:S56} (h:impl_FormatDiagram.ok s = true):(impl_FormatDiagram.word s).size ≤ 6:=by
 unfold impl_FormatDiagram.ok at h;rw [Bool.and_eq_true,Bool.and_eq_true] at h;have h1:=impl_FormatDiagram.num_size h.2.1;have h2:=impl_FormatDiagram.num_size h.2.2;have h3:(⟨#[44]⟩:ByteArray).size = 1:=rfl;unfold impl_FormatDiagram.word;rw [ByteArray.size_append,ByteArray.size_append,ByteArray.size_append,strOfNums_size,List.length_singleton];omega
theorem impl_FormatDiagram.lens_le:∀ ws:List ByteArray,(∀ x ∈ ws,x.size ≤ 6) → Lib.lens (ws.map (·.data.toList)) ≤ 6 * ws.length:=by
 intro ws
 induction ws with
 | nil=>intro _;exact Nat.le_refl _
 | cons x r ih =>
  intro h;have h1:=ih fun y hy=>h y (List.mem_cons_of_mem _ hy)
  have h2:x.data.toList.length ≤ 6:=by have:=h x (List.mem_cons_self ..);exact this
  unfold Lib.lens at h1 ⊢;rw [List.map_cons,List.map_cons,List.sum_cons,List.length_cons];omega
theorem impl_FormatDiagram.join_le (ws:List ByteArray) (h:∀ x ∈ ws,x.size ≤ 6) (hl:ws.length ≤ 31):(Lib.join (ws.map (·.data.toList)) [32]).length ≤ 1000:=by
 have h1:=impl_FormatDiagram.lens_le ws h
 cases ws with
 | nil=>exact Nat.zero_le _
 | cons x r =>
  rw [List.map_cons] at h1 ⊢;rw [Lib.join_length,List.length_singleton,List.length_map];rw [List.length_cons] at h1 hl;omega
theorem impl_FormatDiagram_1.any (n:Int) (b:Bool) (h:impl_FormatDiagram.endOk n = b) (W:World) :
  Calls Tryz.prog 56 #[.int .i64 n] W fun e w'=>e = .returned (.bool b) ∧ Below W.heap.size W w':=by
 unfold impl_FormatDiagram.endOk at h
 by_cases c1:-2 ≤ n
 ·have d1:decide (-2 ≤ n) = true:=decide_eq_true c1
  have d2:decide (n ≥ -2) = true:=decide_eq_true c1
  by_cases c2:n < 31
  ·have e1:decide (n < 31) = true:=decide_eq_true c2
   rw [decide_eq_true ⟨c1,c2⟩] at h;subst h;go_enter Tryz.func56,Tryz.ntmps56;go_wp2;go_ret;exact ⟨rfl,Below.refl _ _⟩
  ·have e1:decide (n < 31) = false:=decide_eq_false c2
   rw [decide_eq_false fun z=>c2 z.2] at h;subst h;go_enter Tryz.func56,Tryz.ntmps56;go_wp2;go_ret;exact ⟨rfl,Below.refl _ _⟩
 ·have d1:decide (-2 ≤ n) = false:=decide_eq_false c1
  have d2:decide (n ≥ -2) = false:=decide_eq_false c1;rw [decide_eq_false fun z=>c1 z.1] at h;subst h;go_enter Tryz.func56,Tryz.ntmps56;go_wp2;go_ret;exact ⟨rfl,Below.refl _ _⟩
theorem impl_FormatDiagram.any (A0:Option Addr) (c0:Nat) (l:List S56) (r:ByteArray) (w:World) (hr0:Kd.C k56 w A0 l.length l) (hc0:l.length ≤ c0) (ht:Tens w) (h:impl_FormatDiagram.f l = some r) :
  Calls Tryz.prog 29 #[.slice A0 l.length c0] w fun e w'=>e = .returned (.string r) ∧ Below w.heap.size w w':=by
 have hun:=Tryz.underlying56;have HR:=aZ_ hr0;have HT:=aZ_ ht;have HTw:=aZ_ ht;clear hr0 ht;unfold impl_FormatDiagram.f at h
 by_cases h0:l.length = 0
 ·rw [if_pos h0] at h
  cases h
  have d0:decide (l.length = 0) = true:=decide_eq_true h0;have d1:((l.length:Int) == 0) = true:=by rw [h0];rfl
  have d2:decide ((l.length:Int) = 0) = true:=decide_eq_true T73_;clear h0;go_enter Tryz.func29,Tryz.ntmps29;go_wp2;go_ret;exact ⟨rfl,Below.refl _ _⟩
 ·rw [if_neg h0] at h
  have d0:decide (l.length = 0) = false:=decide_eq_false h0;have d1:((l.length:Int) == 0) = false:=beq_eq_false_iff_ne.mpr T73_;have d2:decide ((l.length:Int) = 0) = false:=decide_eq_false T73_
  by_cases h1:31 < l.length
  ·rw [if_pos h1] at h
   cases h
   have e1:decide ((l.length:Int) > 31) = true:=decide_eq_true T73_;have e2:decide (31 < (l.length:Int)) = true:=decide_eq_true T73_;clear h0 h1;go_enter Tryz.func29,Tryz.ntmps29;go_wp2;go_ret;exact ⟨rfl,Below.refl _ _⟩
  ·rw [if_neg h1] at h
   have e1:decide ((l.length:Int) > 31) = false:=decide_eq_false T73_;have e2:decide (31 < (l.length:Int)) = false:=decide_eq_false T73_;have hn64:l.length ≤ 64:=by omega
   have HN:Aside0 (0 < l.length ∧ l.length ≤ 31):=⟨by omega,by omega⟩;have H:=aZ_ h;clear h h0 h1;obtain ⟨n,hn⟩:∃ n,n = l.length:=⟨_,rfl⟩;have HB:=aZ_ (Below.refl w.heap.size w);go_enter Tryz.func29,Tryz.ntmps29
   go_upto_region 7 with ((with_reducible refine gate_dst (N:=15) rfl ?_);refine make_str_ rfl 72 9 (.tmp 14) (.tmp 14) rfl l.length l.length rfl rfl Tryz.underlying72 (.string ⟨#[]⟩) 16 T22_ (Nat.le_refl _) hn64 T55_ ?_;have HWB:Aside0 ((w.alloc (.cells (madeCells (Value.string ⟨#[]⟩).cells (l.length * 1)) 9)).heap[w.heap.size]? = some (.cells (strA l.length []) 9 (0,0))):=⟨(by rw [← strA_nil];exact blk_new _ _)⟩;have hb:=below_alloc (Below.refl w.heap.size w) (.cells (madeCells (Value.string ⟨#[]⟩).cells (l.length * 1)) 9);have HB':=aZ_ hb;have HT':=aZ_ (HT.out.below hb);clear HB HT hb;have HB:=HB';have HT:=HT';clear HB' HT';obtain ⟨gw,hgw⟩:∃ gw,gw = w.heap.size:=⟨_,rfl⟩;rw [← hgw] at HWB ⊢;have HGW:Aside0 (w.heap.size ≤ gw):=⟨by omega⟩;clear hgw;generalize w.alloc (.cells (madeCells (Value.string ⟨#[]⟩).cells (l.length * 1)) 9) = w1 at HB HT HWB ⊢)
   clear d0 d1 d2 e1 e2 hn64
   go_wp2_with (fail)
   go_loopg [18] l.length (fun gg v18 wr=>∃ x:Nat,x ≤ l.length ∧ l.length - x ≤ gg ∧ v18 = .int .i64 (x:Int) ∧ Aside0 (B.allN (fun i=>impl_FormatDiagram.ok (rd_T56 l (i:Int))) x = true) ∧ Aside0 (Below w.heap.size w wr) ∧ Aside0 (Tens wr) ∧ Aside0 (wr.heap[gw]? = some (.cells (strA l.length (impl_FormatDiagram.words l x)) 9 (0,0))))
   case atStart=>exact ⟨0,Nat.zero_le _,by omega,rfl,⟨rfl⟩,HB,HT,HWB⟩
   case round =>
    clear HB HT HWB;obtain ⟨x,hx,hg,rfl,HO,HB,HT,HWB⟩:=hrel
    by_cases hlt:x < l.length
    ·have hltz:(x:Int) < (l.length:Int):=by omega
     have h0z:(0:Int) ≤ (x:Int):=by omega
     obtain ⟨ad,eA,q0,q1,q2⟩:=at_T56 HR.out (x:Int) h0z hltz;replace q0:=(HB.out.cell (World.block_lt_of_cell? w _ q0)).trans q0;replace q1:=(HB.out.cell (World.block_lt_of_cell? w _ q1)).trans q1;replace q2:=(HB.out.cell (World.block_lt_of_cell? w _ q2)).trans q2;rw [Int.toNat_natCast] at q0 q1 q2
     cases eA
     obtain ⟨sx,hsx⟩:∃ s,rd_T56 l (x:Int) = s:=⟨_,rfl⟩;rw [hsx] at q0 q1 q2;have HSX:=aZ_ hsx;clear hsx;obtain ⟨n0,n1,n2⟩:=sx;replace q0:wr.cell? (ad.add (x * 3)) = some (.int .i64 n0):=q0;replace q1:wr.cell? ⟨(ad.add (x * 3)).block,(ad.add (x * 3)).off + 1,none⟩ = some (.int .i64 n1):=q1;replace q2:wr.cell? ⟨(ad.add (x * 3)).block,(ad.add (x * 3)).off + 2,none⟩ = some (.int .i64 n2):=q2;have HLX:=aZ_ (And.intro hlt hg);clear hlt hg hx;have HBn:=aZ_ (below_alloc HB.out (.cells #[.int .i64 n0,.int .i64 n1,.int .i64 n2] 56 (0,0)));have HTn:=aZ_ (HT.out.below (below_alloc (Below.refl wr.heap.size wr) (.cells #[.int .i64 n0,.int .i64 n1,.int .i64 n2] 56 (0,0))));have HWn:=aZ_ (blk_alloc HWB.out (.cells #[.int .i64 n0,.int .i64 n1,.int .i64 n2] 56 (0,0)));have HNn:=aZ_ (blk_new wr (.cells #[.int .i64 n0,.int .i64 n1,.int .i64 n2] 56 (0,0)));have HGN:Aside0 (gw ≠ wr.heap.size):=⟨Nat.ne_of_lt (blk_lt HWB.out)⟩
     go_upto_region 10 with (fail)
     clear q0 q1 q2 HB HT HWB;obtain ⟨gn,hgn⟩:∃ gn,gn = wr.heap.size:=⟨_,rfl⟩;rw [← hgn] at HNn HGN ⊢;clear hgn;generalize wr.alloc (.cells #[.int .i64 n0,.int .i64 n1,.int .i64 n2] 56 (0,0)) = wn at HBn HTn HWn HNn ⊢;have hz0:wn.cell? ⟨gn,0,none⟩ = some (.int .i64 n0):=(blk_cell HNn.out 0).trans rfl;have hz1:wn.cell? ⟨gn,1,none⟩ = some (.int .i64 n1):=(blk_cell HNn.out 1).trans rfl;have hz2:wn.cell? ⟨gn,2,none⟩ = some (.int .i64 n2):=(blk_cell HNn.out 2).trans rfl;obtain ⟨b1,hb1⟩:∃ b,impl_FormatDiagram.endOk n1 = b:=⟨_,rfl⟩;obtain ⟨b2,hb2⟩:∃ b,impl_FormatDiagram.endOk n2 = b:=⟨_,rfl⟩;have HB1:=aZ_ hb1;have HB2:=aZ_ hb2;have HOK:Aside0 (impl_FormatDiagram.ok (rd_T56 l (x:Int)) = (decide (0 ≤ n0 ∧ n0 < 5) && (b1 && b2))):=⟨(by rw [HSX.out];unfold impl_FormatDiagram.ok;rw [← hb1,← hb2])⟩;clear hb1 hb2
     by_cases c0:n0 < 0
     ·have f0:decide (n0 < 0) = true:=decide_eq_true c0
      have HH:=H.out
      have hno:¬ B.allN (fun i=>impl_FormatDiagram.ok (rd_T56 l (i:Int))) l.length = true:=fun z_=>by
       have q_:=B.allN_iff.mp z_ x HLX.out.1;rw [HOK.out] at q_;rw [decide_eq_false T73_,Bool.false_and] at q_;cases q_
      rw [if_neg hno] at HH
      cases HH
      clear H hno
      go_wp2_with (first | (with_reducible refine (impl_FormatDiagram_1.any n1 _ HB1.out _).mono ?_;rintro e w2 ⟨rfl,hb⟩;have HBm:=aZ_ (below_step HBn.out hb);have HTm:=aZ_ (HTn.out.below hb);have HWm:=aZ_ (blk_below HWn.out hb);have HNm:=aZ_ (blk_below HNn.out hb);clear hb hz0 hz1 hz2;have hy0:w2.cell? ⟨gn,0,none⟩ = some (.int .i64 n0):=(blk_cell HNm.out 0).trans rfl;have hy2:w2.cell? ⟨gn,2,none⟩ = some (.int .i64 n2):=(blk_cell HNm.out 2).trans rfl) | (have hq_:=hy2;with_reducible refine (impl_FormatDiagram_1.any n2 _ HB2.out _).mono ?_;rintro e w3 ⟨rfl,hb⟩;have HBk:=aZ_ (below_step HBm.out hb);have HTk:=aZ_ (HTm.out.below hb);have HWk:=aZ_ (blk_below HWm.out hb);have HNk:=aZ_ (blk_below HNm.out hb);clear hb hy0 hy2 hq_))
      go_ret;exact ⟨rfl,HBn.out⟩
     ·have f0:decide (n0 < 0) = false:=decide_eq_false c0
      by_cases c5:n0 ≥ 5
      ·have f1:decide (n0 ≥ 5) = true:=decide_eq_true c5
       have f2:decide (5 ≤ n0) = true:=decide_eq_true c5;have HH:=H.out
       have hno:¬ B.allN (fun i=>impl_FormatDiagram.ok (rd_T56 l (i:Int))) l.length = true:=fun z_=>by
        have q_:=B.allN_iff.mp z_ x HLX.out.1;rw [HOK.out] at q_;rw [decide_eq_false T73_,Bool.false_and] at q_;cases q_
       rw [if_neg hno] at HH
       cases HH
       clear H hno
       go_wp2_with (first | (with_reducible refine (impl_FormatDiagram_1.any n1 _ HB1.out _).mono ?_;rintro e w2 ⟨rfl,hb⟩;have HBm:=aZ_ (below_step HBn.out hb);have HTm:=aZ_ (HTn.out.below hb);have HWm:=aZ_ (blk_below HWn.out hb);have HNm:=aZ_ (blk_below HNn.out hb);clear hb hz0 hz1 hz2;have hy0:w2.cell? ⟨gn,0,none⟩ = some (.int .i64 n0):=(blk_cell HNm.out 0).trans rfl;have hy2:w2.cell? ⟨gn,2,none⟩ = some (.int .i64 n2):=(blk_cell HNm.out 2).trans rfl) | (have hq_:=hy2;with_reducible refine (impl_FormatDiagram_1.any n2 _ HB2.out _).mono ?_;rintro e w3 ⟨rfl,hb⟩;have HBk:=aZ_ (below_step HBm.out hb);have HTk:=aZ_ (HTm.out.below hb);have HWk:=aZ_ (blk_below HWm.out hb);have HNk:=aZ_ (blk_below HNm.out hb);clear hb hy0 hy2 hq_))
       go_ret;exact ⟨rfl,HBn.out⟩
      ·have f1:decide (n0 ≥ 5) = false:=decide_eq_false c5
       have f2:decide (5 ≤ n0) = false:=decide_eq_false c5
       cases b1 with
       | false =>
        have HH:=H.out
        have hno:¬ B.allN (fun i=>impl_FormatDiagram.ok (rd_T56 l (i:Int))) l.length = true:=fun z_=>by
         have q_:=B.allN_iff.mp z_ x HLX.out.1;rw [HOK.out] at q_;rw [Bool.false_and,Bool.and_false] at q_;cases q_
        rw [if_neg hno] at HH
        cases HH
        clear H hno
        go_wp2_with (first | (with_reducible refine (impl_FormatDiagram_1.any n1 _ HB1.out _).mono ?_;rintro e w2 ⟨rfl,hb⟩;have HBm:=aZ_ (below_step HBn.out hb);have HTm:=aZ_ (HTn.out.below hb);have HWm:=aZ_ (blk_below HWn.out hb);have HNm:=aZ_ (blk_below HNn.out hb);clear hb hz0 hz1 hz2;have hy0:w2.cell? ⟨gn,0,none⟩ = some (.int .i64 n0):=(blk_cell HNm.out 0).trans rfl;have hy2:w2.cell? ⟨gn,2,none⟩ = some (.int .i64 n2):=(blk_cell HNm.out 2).trans rfl) | (have hq_:=hy2;with_reducible refine (impl_FormatDiagram_1.any n2 _ HB2.out _).mono ?_;rintro e w3 ⟨rfl,hb⟩;have HBk:=aZ_ (below_step HBm.out hb);have HTk:=aZ_ (HTm.out.below hb);have HWk:=aZ_ (blk_below HWm.out hb);have HNk:=aZ_ (blk_below HNm.out hb);clear hb hy0 hy2 hq_))
        go_ret;exact ⟨rfl,HBm.out⟩
       | true =>
        cases b2 with
        | false =>
         have HH:=H.out
         have hno:¬ B.allN (fun i=>impl_FormatDiagram.ok (rd_T56 l (i:Int))) l.length = true:=fun z_=>by
          have q_:=B.allN_iff.mp z_ x HLX.out.1;rw [HOK.out] at q_;rw [Bool.true_and,Bool.and_false] at q_;cases q_
         rw [if_neg hno] at HH
         cases HH
         clear H hno
         go_wp2_with (first | (with_reducible refine (impl_FormatDiagram_1.any n1 _ HB1.out _).mono ?_;rintro e w2 ⟨rfl,hb⟩;have HBm:=aZ_ (below_step HBn.out hb);have HTm:=aZ_ (HTn.out.below hb);have HWm:=aZ_ (blk_below HWn.out hb);have HNm:=aZ_ (blk_below HNn.out hb);clear hb hz0 hz1 hz2;have hy0:w2.cell? ⟨gn,0,none⟩ = some (.int .i64 n0):=(blk_cell HNm.out 0).trans rfl;have hy2:w2.cell? ⟨gn,2,none⟩ = some (.int .i64 n2):=(blk_cell HNm.out 2).trans rfl) | (have hq_:=hy2;with_reducible refine (impl_FormatDiagram_1.any n2 _ HB2.out _).mono ?_;rintro e w3 ⟨rfl,hb⟩;have HBk:=aZ_ (below_step HBm.out hb);have HTk:=aZ_ (HTm.out.below hb);have HWk:=aZ_ (blk_below HWm.out hb);have HNk:=aZ_ (blk_below HNm.out hb);clear hb hy0 hy2 hq_))
         go_ret;exact ⟨rfl,HBk.out⟩
        | true =>
         have HG0:Aside0 (0 ≤ n0 ∧ n0 < 5):=⟨by omega⟩;clear c0 c5
         go_upto_region 12 with (first | (with_reducible refine (impl_FormatDiagram_1.any n1 _ HB1.out _).mono ?_;rintro e w2 ⟨rfl,hb⟩;have HBm:=aZ_ (below_step HBn.out hb);have HTm:=aZ_ (HTn.out.below hb);have HWm:=aZ_ (blk_below HWn.out hb);have HNm:=aZ_ (blk_below HNn.out hb);clear hb hz0 hz1 hz2;have hy0:w2.cell? ⟨gn,0,none⟩ = some (.int .i64 n0):=(blk_cell HNm.out 0).trans rfl;have hy2:w2.cell? ⟨gn,2,none⟩ = some (.int .i64 n2):=(blk_cell HNm.out 2).trans rfl) | (have hq_:=hy2;with_reducible refine (impl_FormatDiagram_1.any n2 _ HB2.out _).mono ?_;rintro e w3 ⟨rfl,hb⟩;have HBk:=aZ_ (below_step HBm.out hb);have HTk:=aZ_ (HTm.out.below hb);have HWk:=aZ_ (blk_below HWm.out hb);have HNk:=aZ_ (blk_below HNm.out hb);clear hb hy0 hy2 hq_))
         clear HBn HTn HWn HNn HBm HTm HWm HNm f0 f1 f2;have C0:Aside0 (w3.cell? ⟨gn,0,none⟩ = some (.int .i64 n0)):=⟨(blk_cell HNk.out 0).trans rfl⟩;have C1:Aside0 (w3.cell? ⟨gn,1,none⟩ = some (.int .i64 n1)):=⟨(blk_cell HNk.out 1).trans rfl⟩;have C2:Aside0 (w3.cell? ⟨gn,2,none⟩ = some (.int .i64 n2)):=⟨(blk_cell HNk.out 2).trans rfl⟩;clear HNk;obtain ⟨sa,hsa⟩:∃ s,impl_FormatDiagram.num n1 = s:=⟨_,rfl⟩;obtain ⟨sb,hsb⟩:∃ s,impl_FormatDiagram.num n2 = s:=⟨_,rfl⟩;have hza:=impl_FormatDiagram.num_size HB1.out;have hzb:=impl_FormatDiagram.num_size HB2.out;rw [hsa] at hza;rw [hsb] at hzb;have HE1:=aZ_ (of_decide_eq_true HB1.out);have HE2:=aZ_ (of_decide_eq_true HB2.out);have HF1:Aside0 (impl_FormatInt.f n1 = some sa):=⟨(by have:=HE1.out;unfold impl_FormatInt.f;rw [if_pos ⟨by omega,by omega⟩,← hsa];rfl)⟩;have HF2:Aside0 (impl_FormatInt.f n2 = some sb):=⟨(by have:=HE2.out;unfold impl_FormatInt.f;rw [if_pos ⟨by omega,by omega⟩,← hsb];rfl)⟩;obtain ⟨y,hy⟩:∃ y,97 + n0 = y:=⟨_,rfl⟩;have hy1:IntKind.u8.wrap n0 = n0:=by have:=HG0.out;show n0 % 256 = n0;omega
         have hy3:IntKind.u8.wrap y = y:=by have:=HG0.out;show y % 256 = y;omega
         obtain ⟨s1,hs1⟩:∃ s,strOfNums [y] = s:=⟨_,rfl⟩;have hz1:s1.size = 1:=by rw [← hs1,strOfNums_size];rfl
         have HW1:Aside0 (impl_FormatDiagram.word (rd_T56 l (x:Int)) = ((s1 ++ sa) ++ ⟨#[44]⟩) ++ sb):=⟨(by rw [HSX.out,← hs1,← hsa,← hsb,← hy];rfl)⟩;have HS1:=aZ_ hs1;clear hs1 hsa hsb;have hltz:(x:Int) < (l.length:Int):=by have:=HLX.out;omega
         have h0z:(0:Int) ≤ (x:Int):=by omega
         have HWC:Aside0 (w3.cell? ⟨gw,x,none⟩ = some (.string ((impl_FormatDiagram.words l x).getD x ⟨#[]⟩))):=⟨(blk_cell HWk.out x).trans (strA_get _ HLX.out.1)⟩;have hb:=below_drew (Below.refl w3.heap.size w3);replace C0:Aside0 (w3.drew.cell? ⟨gn,0,none⟩ = some (.int .i64 n0)):=⟨pw_cell_below hb C0.out⟩;replace C1:Aside0 (w3.drew.cell? ⟨gn,1,none⟩ = some (.int .i64 n1)):=⟨pw_cell_below hb C1.out⟩;replace C2:Aside0 (w3.drew.cell? ⟨gn,2,none⟩ = some (.int .i64 n2)):=⟨pw_cell_below hb C2.out⟩;replace HBk:=aZ_ (below_step HBk.out hb);replace HTk:=aZ_ (HTk.out.below hb);replace HWk:=aZ_ (blk_below HWk.out hb);clear hb;clear HWC;refine start_ (n:=19) (S:=(fun w_=>w_.cell? ⟨gn,0,none⟩ = some (.int .i64 n0) ∧ w_.cell? ⟨gn,1,none⟩ = some (.int .i64 n1) ∧ w_.cell? ⟨gn,2,none⟩ = some (.int .i64 n2))) (ds:=[18]) (bA 19 0) T22_ rfl rfl ⟨C0.out,C1.out,C2.out⟩ (fun hHeld=>?_);generalize w3.drew = V0_ at C0 C1 C2 HBk HTk HWk hHeld ⊢;refine pZ_ 0 (some 45) (bA 19 1) ?_;refine pZ_ 1 (some 46) (bA 19 3) ?_;refine pZ_ 2 (some 47) (bA 19 7) ?_;refine tZ3_ 3 (some 48) (bA 19 15) hHeld ?_;refine pZ_ 4 (some 49) (bA 19 31) ?_;refine pZ_ 5 (some 50) (bA 19 63) ?_;refine pZ_ 8 (some 53) (bA 19 319) ?_;refine tZ3_ 9 (some 54) (bA 19 831) hHeld ?_;refine pZ_ 13 (some 58) (bA 19 9023) ?_;refine tZ3_ 14 (some 59) (bA 19 25407) hHeld ?_;refine join_ (σ:=Nat) 3 (bA 19 65535) (fun g=>[(51,.slice (some ⟨g,0,none⟩) 1 1),(52,.string s1),(55,.string sa),(56,.string (s1 ++ sa)),(57,.string ((s1 ++ sa) ++ ⟨#[44]⟩)),(60,.string sb)]) (fun g W'=>Below V0_.heap.size V0_ W') ?_ ?_;rotate_left
         ·intro hCont
          have HBQ:Aside0 (Below V0_.heap.size V0_ V0_):=⟨Below.refl _ _⟩;refine two_ (i:=6) (j:=10) (Ni:=some 51) (Nj:=some 55) (bA 19 25471) (bA 19 26431) rfl rfl rfl rfl T22_ T55_ T55_ (fun K hK=>?_) (fun K hK=>?_)
          ·skip
           refine value_ (w1:=?_) (v:=?_) (by rfl) rfl ?_ ?_;rotate_left 2
           ·go_simp
            constructor
            ·rfl
            ·rfl
           have hb:=below_alloc (Below.refl V0_.heap.size V0_) (.cells #[.int .u8 y] 5 (0,0));have BYB:=aZ_ (blk_new V0_ (.cells #[.int .u8 y] 5 (0,0)));generalize V0_.alloc (.cells #[.int .u8 y] 5 (0,0)) = U1_ at hb BYB ⊢;replace C0:Aside0 (U1_.cell? ⟨gn,0,none⟩ = some (.int .i64 n0)):=⟨pw_cell_below hb C0.out⟩;replace C1:Aside0 (U1_.cell? ⟨gn,1,none⟩ = some (.int .i64 n1)):=⟨pw_cell_below hb C1.out⟩;replace C2:Aside0 (U1_.cell? ⟨gn,2,none⟩ = some (.int .i64 n2)):=⟨pw_cell_below hb C2.out⟩;replace HBk:=aZ_ (below_step HBk.out hb);replace HTk:=aZ_ (HTk.out.below hb);replace HWk:=aZ_ (blk_below HWk.out hb);replace HBQ:=aZ_ (below_step HBQ.out hb);clear hb;refine hK.out _ _ ⟨C0.out,C1.out,C2.out⟩ (fun hHeld=>?_);clear hK K;refine nZ_ (some 51) ?_;refine two_ (i:=7) (j:=10) (Ni:=some 52) (Nj:=some 55) (bA 19 25599) (bA 19 26495) rfl rfl rfl rfl T22_ T55_ T55_ (fun K hK=>?_) (fun K hK=>?_)
           ·skip
            have hcv:=run_convert_bytes_arg (P:=Tryz.prog) U1_ 22 5 Tryz.underlying22 Tryz.underlying5 V0_.heap.size 0 1 1 [y] rfl (fun i hi=>by obtain rfl:i = 0:=T73_;exact (blk_cell BYB.out 0).trans rfl) 9 Tryz.underlying9;rw [HS1.out] at hcv;refine value_ (w1:=U1_) (v:=.string s1) (by rfl) rfl ?_ ?_
            ·first | (go_simp;done) | (simp [execOp,Act.eval,hcv];done)
            clear hcv;refine hK.out _ _ ⟨C0.out,C1.out,C2.out⟩ (fun hHeld=>?_);clear hK K;refine nZ_ (some 52) ?_;refine one_ (i:=10) (N:=some 55) (bA 19 26623) rfl rfl T22_ T55_ (fun K hK=>?_);refine goes_ Tryz.func57 T22_ rfl #[.int .i64 n1] (by rfl) rfl rfl T75_ ?_;with_reducible refine (impl_FormatInt.any n1 sa _ HTk.out HF1.out).mono ?_
            rintro e U3_ ⟨rfl,hb⟩;refine ⟨_,rfl,?_⟩;replace C0:Aside0 (U3_.cell? ⟨gn,0,none⟩ = some (.int .i64 n0)):=⟨pw_cell_below hb C0.out⟩;replace C1:Aside0 (U3_.cell? ⟨gn,1,none⟩ = some (.int .i64 n1)):=⟨pw_cell_below hb C1.out⟩;replace C2:Aside0 (U3_.cell? ⟨gn,2,none⟩ = some (.int .i64 n2)):=⟨pw_cell_below hb C2.out⟩;replace HBk:=aZ_ (below_step HBk.out hb);replace HTk:=aZ_ (HTk.out.below hb);replace HWk:=aZ_ (blk_below HWk.out hb);replace HBQ:=aZ_ (below_step HBQ.out hb);replace BYB:=aZ_ (blk_below BYB.out hb);clear hb;refine hK.out _ _ ⟨C0.out,C1.out,C2.out⟩ (fun hHeld=>?_);clear hK K;refine nZ_ (some 55) ?_;refine pure_ (i:=11) (N:=some 56) (v:=?_) (a':=?_) (bA 19 28671) rfl rfl T22_ (fun _ _ _ h=>h) (Or.inl ⟨by rfl,?_⟩) ?_ ?_;rotate_left
            ·intro w'
             go_simp
             first | done | (rw [if_neg (by have z1_:(⟨#[44]⟩:ByteArray).size = 1:=rfl;(try simp only [decide_eq_true_eq,ByteArray.size_append]);omega)])
             first | done | with_reducible rfl
            rotate_left
            ·simp only [Act.put,List.setIfInBounds_toArray,List.set_cons_zero,List.set_cons_succ,i64_w,i32_w]
             rfl
            refine pure_ (i:=12) (N:=some 57) (v:=?_) (a':=?_) (bA 19 32767) rfl rfl T22_ (fun _ _ _ h=>h) (Or.inl ⟨by rfl,?_⟩) ?_ ?_;rotate_left
            ·intro w'
             go_simp
             first | done | (rw [if_neg (by have z1_:(⟨#[44]⟩:ByteArray).size = 1:=rfl;(try simp only [decide_eq_true_eq,ByteArray.size_append]);omega)])
             first | done | with_reducible rfl
            rotate_left
            ·simp only [Act.put,List.setIfInBounds_toArray,List.set_cons_zero,List.set_cons_succ,i64_w,i32_w]
             rfl
            refine one_ (i:=15) (N:=some 60) (bA 19 65535) rfl rfl T22_ T55_ (fun K hK=>?_);refine goes_ Tryz.func57 T22_ rfl #[.int .i64 n2] (by rfl) rfl rfl T75_ ?_;with_reducible refine (impl_FormatInt.any n2 sb _ HTk.out HF2.out).mono ?_
            rintro e U4_ ⟨rfl,hb⟩;refine ⟨_,rfl,?_⟩;replace C0:Aside0 (U4_.cell? ⟨gn,0,none⟩ = some (.int .i64 n0)):=⟨pw_cell_below hb C0.out⟩;replace C1:Aside0 (U4_.cell? ⟨gn,1,none⟩ = some (.int .i64 n1)):=⟨pw_cell_below hb C1.out⟩;replace C2:Aside0 (U4_.cell? ⟨gn,2,none⟩ = some (.int .i64 n2)):=⟨pw_cell_below hb C2.out⟩;replace HBk:=aZ_ (below_step HBk.out hb);replace HTk:=aZ_ (HTk.out.below hb);replace HWk:=aZ_ (blk_below HWk.out hb);replace HBQ:=aZ_ (below_step HBQ.out hb);replace BYB:=aZ_ (blk_below BYB.out hb);clear hb;refine hK.out _ _ ⟨C0.out,C1.out,C2.out⟩ (fun hHeld=>?_);clear hK K;refine nZ_ (some 60) ?_;exact norm_ T69_ (hCont V0_.heap.size _ HBQ.out)
           ·skip
            refine goes_ Tryz.func57 T22_ rfl #[.int .i64 n1] (by rfl) rfl rfl T75_ ?_;with_reducible refine (impl_FormatInt.any n1 sa _ HTk.out HF1.out).mono ?_
            rintro e U5_ ⟨rfl,hb⟩;refine ⟨_,rfl,?_⟩;replace C0:Aside0 (U5_.cell? ⟨gn,0,none⟩ = some (.int .i64 n0)):=⟨pw_cell_below hb C0.out⟩;replace C1:Aside0 (U5_.cell? ⟨gn,1,none⟩ = some (.int .i64 n1)):=⟨pw_cell_below hb C1.out⟩;replace C2:Aside0 (U5_.cell? ⟨gn,2,none⟩ = some (.int .i64 n2)):=⟨pw_cell_below hb C2.out⟩;replace HBk:=aZ_ (below_step HBk.out hb);replace HTk:=aZ_ (HTk.out.below hb);replace HWk:=aZ_ (blk_below HWk.out hb);replace HBQ:=aZ_ (below_step HBQ.out hb);replace BYB:=aZ_ (blk_below BYB.out hb);clear hb;refine hK.out _ _ ⟨C0.out,C1.out,C2.out⟩ (fun hHeld=>?_);clear hK K;refine nZ_ (some 55) ?_;refine two_ (i:=7) (j:=15) (Ni:=some 52) (Nj:=some 60) (bA 19 26623) (bA 19 59263) rfl rfl rfl rfl T22_ T55_ T55_ (fun K hK=>?_) (fun K hK=>?_)
            ·skip
             have hcv:=run_convert_bytes_arg (P:=Tryz.prog) U5_ 22 5 Tryz.underlying22 Tryz.underlying5 V0_.heap.size 0 1 1 [y] rfl (fun i hi=>by obtain rfl:i = 0:=T73_;exact (blk_cell BYB.out 0).trans rfl) 9 Tryz.underlying9;rw [HS1.out] at hcv;refine value_ (w1:=U5_) (v:=.string s1) (by rfl) rfl ?_ ?_
             ·first | (go_simp;done) | (simp [execOp,Act.eval,hcv];done)
             clear hcv;refine hK.out _ _ ⟨C0.out,C1.out,C2.out⟩ (fun hHeld=>?_);clear hK K;refine nZ_ (some 52) ?_;refine pure_ (i:=11) (N:=some 56) (v:=?_) (a':=?_) (bA 19 28671) rfl rfl T22_ (fun _ _ _ h=>h) (Or.inl ⟨by rfl,?_⟩) ?_ ?_;rotate_left
             ·intro w'
              go_simp
              first | done | (rw [if_neg (by have z1_:(⟨#[44]⟩:ByteArray).size = 1:=rfl;(try simp only [decide_eq_true_eq,ByteArray.size_append]);omega)])
              first | done | with_reducible rfl
             rotate_left
             ·simp only [Act.put,List.setIfInBounds_toArray,List.set_cons_zero,List.set_cons_succ,i64_w,i32_w]
              rfl
             refine pure_ (i:=12) (N:=some 57) (v:=?_) (a':=?_) (bA 19 32767) rfl rfl T22_ (fun _ _ _ h=>h) (Or.inl ⟨by rfl,?_⟩) ?_ ?_;rotate_left
             ·intro w'
              go_simp
              first | done | (rw [if_neg (by have z1_:(⟨#[44]⟩:ByteArray).size = 1:=rfl;(try simp only [decide_eq_true_eq,ByteArray.size_append]);omega)])
              first | done | with_reducible rfl
             rotate_left
             ·simp only [Act.put,List.setIfInBounds_toArray,List.set_cons_zero,List.set_cons_succ,i64_w,i32_w]
              rfl
             refine one_ (i:=15) (N:=some 60) (bA 19 65535) rfl rfl T22_ T55_ (fun K hK=>?_);refine goes_ Tryz.func57 T22_ rfl #[.int .i64 n2] (by rfl) rfl rfl T75_ ?_;with_reducible refine (impl_FormatInt.any n2 sb _ HTk.out HF2.out).mono ?_
             rintro e U7_ ⟨rfl,hb⟩;refine ⟨_,rfl,?_⟩;replace C0:Aside0 (U7_.cell? ⟨gn,0,none⟩ = some (.int .i64 n0)):=⟨pw_cell_below hb C0.out⟩;replace C1:Aside0 (U7_.cell? ⟨gn,1,none⟩ = some (.int .i64 n1)):=⟨pw_cell_below hb C1.out⟩;replace C2:Aside0 (U7_.cell? ⟨gn,2,none⟩ = some (.int .i64 n2)):=⟨pw_cell_below hb C2.out⟩;replace HBk:=aZ_ (below_step HBk.out hb);replace HTk:=aZ_ (HTk.out.below hb);replace HWk:=aZ_ (blk_below HWk.out hb);replace HBQ:=aZ_ (below_step HBQ.out hb);replace BYB:=aZ_ (blk_below BYB.out hb);clear hb;refine hK.out _ _ ⟨C0.out,C1.out,C2.out⟩ (fun hHeld=>?_);clear hK K;refine nZ_ (some 60) ?_;exact norm_ T69_ (hCont V0_.heap.size _ HBQ.out)
            ·skip
             refine goes_ Tryz.func57 T22_ rfl #[.int .i64 n2] (by rfl) rfl rfl T75_ ?_;with_reducible refine (impl_FormatInt.any n2 sb _ HTk.out HF2.out).mono ?_
             rintro e U8_ ⟨rfl,hb⟩;refine ⟨_,rfl,?_⟩;replace C0:Aside0 (U8_.cell? ⟨gn,0,none⟩ = some (.int .i64 n0)):=⟨pw_cell_below hb C0.out⟩;replace C1:Aside0 (U8_.cell? ⟨gn,1,none⟩ = some (.int .i64 n1)):=⟨pw_cell_below hb C1.out⟩;replace C2:Aside0 (U8_.cell? ⟨gn,2,none⟩ = some (.int .i64 n2)):=⟨pw_cell_below hb C2.out⟩;replace HBk:=aZ_ (below_step HBk.out hb);replace HTk:=aZ_ (HTk.out.below hb);replace HWk:=aZ_ (blk_below HWk.out hb);replace HBQ:=aZ_ (below_step HBQ.out hb);replace BYB:=aZ_ (blk_below BYB.out hb);clear hb;refine hK.out _ _ ⟨C0.out,C1.out,C2.out⟩ (fun hHeld=>?_);clear hK K;refine nZ_ (some 60) ?_;refine one_ (i:=7) (N:=some 52) (bA 19 59391) rfl rfl T22_ T55_ (fun K hK=>?_);have hcv:=run_convert_bytes_arg (P:=Tryz.prog) U8_ 22 5 Tryz.underlying22 Tryz.underlying5 V0_.heap.size 0 1 1 [y] rfl (fun i hi=>by obtain rfl:i = 0:=T73_;exact (blk_cell BYB.out 0).trans rfl) 9 Tryz.underlying9;rw [HS1.out] at hcv;refine value_ (w1:=U8_) (v:=.string s1) (by rfl) rfl ?_ ?_
             ·first | (go_simp;done) | (simp [execOp,Act.eval,hcv];done)
             clear hcv;refine hK.out _ _ ⟨C0.out,C1.out,C2.out⟩ (fun hHeld=>?_);clear hK K;refine nZ_ (some 52) ?_;refine pure_ (i:=11) (N:=some 56) (v:=?_) (a':=?_) (bA 19 61439) rfl rfl T22_ (fun _ _ _ h=>h) (Or.inl ⟨by rfl,?_⟩) ?_ ?_;rotate_left
             ·intro w'
              go_simp
              first | done | (rw [if_neg (by have z1_:(⟨#[44]⟩:ByteArray).size = 1:=rfl;(try simp only [decide_eq_true_eq,ByteArray.size_append]);omega)])
              first | done | with_reducible rfl
             rotate_left
             ·simp only [Act.put,List.setIfInBounds_toArray,List.set_cons_zero,List.set_cons_succ,i64_w,i32_w]
              rfl
             refine pure_ (i:=12) (N:=some 57) (v:=?_) (a':=?_) (bA 19 65535) rfl rfl T22_ (fun _ _ _ h=>h) (Or.inl ⟨by rfl,?_⟩) ?_ ?_;rotate_left
             ·intro w'
              go_simp
              first | done | (rw [if_neg (by have z1_:(⟨#[44]⟩:ByteArray).size = 1:=rfl;(try simp only [decide_eq_true_eq,ByteArray.size_append]);omega)])
              first | done | with_reducible rfl
             rotate_left
             ·simp only [Act.put,List.setIfInBounds_toArray,List.set_cons_zero,List.set_cons_succ,i64_w,i32_w]
              rfl
             exact norm_ T69_ (hCont V0_.heap.size _ HBQ.out)
          ·skip
           refine goes_ Tryz.func57 T22_ rfl #[.int .i64 n1] (by rfl) rfl rfl T75_ ?_;with_reducible refine (impl_FormatInt.any n1 sa _ HTk.out HF1.out).mono ?_
           rintro e U10_ ⟨rfl,hb⟩;refine ⟨_,rfl,?_⟩;replace C0:Aside0 (U10_.cell? ⟨gn,0,none⟩ = some (.int .i64 n0)):=⟨pw_cell_below hb C0.out⟩;replace C1:Aside0 (U10_.cell? ⟨gn,1,none⟩ = some (.int .i64 n1)):=⟨pw_cell_below hb C1.out⟩;replace C2:Aside0 (U10_.cell? ⟨gn,2,none⟩ = some (.int .i64 n2)):=⟨pw_cell_below hb C2.out⟩;replace HBk:=aZ_ (below_step HBk.out hb);replace HTk:=aZ_ (HTk.out.below hb);replace HWk:=aZ_ (blk_below HWk.out hb);replace HBQ:=aZ_ (below_step HBQ.out hb);clear hb;refine hK.out _ _ ⟨C0.out,C1.out,C2.out⟩ (fun hHeld=>?_);clear hK K;refine nZ_ (some 55) ?_;refine two_ (i:=6) (j:=15) (Ni:=some 51) (Nj:=some 60) (bA 19 26495) (bA 19 59199) rfl rfl rfl rfl T22_ T55_ T55_ (fun K hK=>?_) (fun K hK=>?_)
           ·skip
            refine value_ (w1:=?_) (v:=?_) (by rfl) rfl ?_ ?_;rotate_left 2
            ·go_simp
             constructor
             ·rfl
             ·rfl
            have hb:=below_alloc (Below.refl U10_.heap.size U10_) (.cells #[.int .u8 y] 5 (0,0));have BYB:=aZ_ (blk_new U10_ (.cells #[.int .u8 y] 5 (0,0)));generalize U10_.alloc (.cells #[.int .u8 y] 5 (0,0)) = U11_ at hb BYB ⊢;replace C0:Aside0 (U11_.cell? ⟨gn,0,none⟩ = some (.int .i64 n0)):=⟨pw_cell_below hb C0.out⟩;replace C1:Aside0 (U11_.cell? ⟨gn,1,none⟩ = some (.int .i64 n1)):=⟨pw_cell_below hb C1.out⟩;replace C2:Aside0 (U11_.cell? ⟨gn,2,none⟩ = some (.int .i64 n2)):=⟨pw_cell_below hb C2.out⟩;replace HBk:=aZ_ (below_step HBk.out hb);replace HTk:=aZ_ (HTk.out.below hb);replace HWk:=aZ_ (blk_below HWk.out hb);replace HBQ:=aZ_ (below_step HBQ.out hb);clear hb;refine hK.out _ _ ⟨C0.out,C1.out,C2.out⟩ (fun hHeld=>?_);clear hK K;refine nZ_ (some 51) ?_;refine two_ (i:=7) (j:=15) (Ni:=some 52) (Nj:=some 60) (bA 19 26623) (bA 19 59263) rfl rfl rfl rfl T22_ T55_ T55_ (fun K hK=>?_) (fun K hK=>?_)
            ·skip
             have hcv:=run_convert_bytes_arg (P:=Tryz.prog) U11_ 22 5 Tryz.underlying22 Tryz.underlying5 U10_.heap.size 0 1 1 [y] rfl (fun i hi=>by obtain rfl:i = 0:=T73_;exact (blk_cell BYB.out 0).trans rfl) 9 Tryz.underlying9;rw [HS1.out] at hcv;refine value_ (w1:=U11_) (v:=.string s1) (by rfl) rfl ?_ ?_
             ·first | (go_simp;done) | (simp [execOp,Act.eval,hcv];done)
             clear hcv;refine hK.out _ _ ⟨C0.out,C1.out,C2.out⟩ (fun hHeld=>?_);clear hK K;refine nZ_ (some 52) ?_;refine pure_ (i:=11) (N:=some 56) (v:=?_) (a':=?_) (bA 19 28671) rfl rfl T22_ (fun _ _ _ h=>h) (Or.inl ⟨by rfl,?_⟩) ?_ ?_;rotate_left
             ·intro w'
              go_simp
              first | done | (rw [if_neg (by have z1_:(⟨#[44]⟩:ByteArray).size = 1:=rfl;(try simp only [decide_eq_true_eq,ByteArray.size_append]);omega)])
              first | done | with_reducible rfl
             rotate_left
             ·simp only [Act.put,List.setIfInBounds_toArray,List.set_cons_zero,List.set_cons_succ,i64_w,i32_w]
              rfl
             refine pure_ (i:=12) (N:=some 57) (v:=?_) (a':=?_) (bA 19 32767) rfl rfl T22_ (fun _ _ _ h=>h) (Or.inl ⟨by rfl,?_⟩) ?_ ?_;rotate_left
             ·intro w'
              go_simp
              first | done | (rw [if_neg (by have z1_:(⟨#[44]⟩:ByteArray).size = 1:=rfl;(try simp only [decide_eq_true_eq,ByteArray.size_append]);omega)])
              first | done | with_reducible rfl
             rotate_left
             ·simp only [Act.put,List.setIfInBounds_toArray,List.set_cons_zero,List.set_cons_succ,i64_w,i32_w]
              rfl
             refine one_ (i:=15) (N:=some 60) (bA 19 65535) rfl rfl T22_ T55_ (fun K hK=>?_);refine goes_ Tryz.func57 T22_ rfl #[.int .i64 n2] (by rfl) rfl rfl T75_ ?_;with_reducible refine (impl_FormatInt.any n2 sb _ HTk.out HF2.out).mono ?_
             rintro e U13_ ⟨rfl,hb⟩;refine ⟨_,rfl,?_⟩;replace C0:Aside0 (U13_.cell? ⟨gn,0,none⟩ = some (.int .i64 n0)):=⟨pw_cell_below hb C0.out⟩;replace C1:Aside0 (U13_.cell? ⟨gn,1,none⟩ = some (.int .i64 n1)):=⟨pw_cell_below hb C1.out⟩;replace C2:Aside0 (U13_.cell? ⟨gn,2,none⟩ = some (.int .i64 n2)):=⟨pw_cell_below hb C2.out⟩;replace HBk:=aZ_ (below_step HBk.out hb);replace HTk:=aZ_ (HTk.out.below hb);replace HWk:=aZ_ (blk_below HWk.out hb);replace HBQ:=aZ_ (below_step HBQ.out hb);replace BYB:=aZ_ (blk_below BYB.out hb);clear hb;refine hK.out _ _ ⟨C0.out,C1.out,C2.out⟩ (fun hHeld=>?_);clear hK K;refine nZ_ (some 60) ?_;exact norm_ T69_ (hCont U10_.heap.size _ HBQ.out)
            ·skip
             refine goes_ Tryz.func57 T22_ rfl #[.int .i64 n2] (by rfl) rfl rfl T75_ ?_;with_reducible refine (impl_FormatInt.any n2 sb _ HTk.out HF2.out).mono ?_
             rintro e U14_ ⟨rfl,hb⟩;refine ⟨_,rfl,?_⟩;replace C0:Aside0 (U14_.cell? ⟨gn,0,none⟩ = some (.int .i64 n0)):=⟨pw_cell_below hb C0.out⟩;replace C1:Aside0 (U14_.cell? ⟨gn,1,none⟩ = some (.int .i64 n1)):=⟨pw_cell_below hb C1.out⟩;replace C2:Aside0 (U14_.cell? ⟨gn,2,none⟩ = some (.int .i64 n2)):=⟨pw_cell_below hb C2.out⟩;replace HBk:=aZ_ (below_step HBk.out hb);replace HTk:=aZ_ (HTk.out.below hb);replace HWk:=aZ_ (blk_below HWk.out hb);replace HBQ:=aZ_ (below_step HBQ.out hb);replace BYB:=aZ_ (blk_below BYB.out hb);clear hb;refine hK.out _ _ ⟨C0.out,C1.out,C2.out⟩ (fun hHeld=>?_);clear hK K;refine nZ_ (some 60) ?_;refine one_ (i:=7) (N:=some 52) (bA 19 59391) rfl rfl T22_ T55_ (fun K hK=>?_);have hcv:=run_convert_bytes_arg (P:=Tryz.prog) U14_ 22 5 Tryz.underlying22 Tryz.underlying5 U10_.heap.size 0 1 1 [y] rfl (fun i hi=>by obtain rfl:i = 0:=T73_;exact (blk_cell BYB.out 0).trans rfl) 9 Tryz.underlying9;rw [HS1.out] at hcv;refine value_ (w1:=U14_) (v:=.string s1) (by rfl) rfl ?_ ?_
             ·first | (go_simp;done) | (simp [execOp,Act.eval,hcv];done)
             clear hcv;refine hK.out _ _ ⟨C0.out,C1.out,C2.out⟩ (fun hHeld=>?_);clear hK K;refine nZ_ (some 52) ?_;refine pure_ (i:=11) (N:=some 56) (v:=?_) (a':=?_) (bA 19 61439) rfl rfl T22_ (fun _ _ _ h=>h) (Or.inl ⟨by rfl,?_⟩) ?_ ?_;rotate_left
             ·intro w'
              go_simp
              first | done | (rw [if_neg (by have z1_:(⟨#[44]⟩:ByteArray).size = 1:=rfl;(try simp only [decide_eq_true_eq,ByteArray.size_append]);omega)])
              first | done | with_reducible rfl
             rotate_left
             ·simp only [Act.put,List.setIfInBounds_toArray,List.set_cons_zero,List.set_cons_succ,i64_w,i32_w]
              rfl
             refine pure_ (i:=12) (N:=some 57) (v:=?_) (a':=?_) (bA 19 65535) rfl rfl T22_ (fun _ _ _ h=>h) (Or.inl ⟨by rfl,?_⟩) ?_ ?_;rotate_left
             ·intro w'
              go_simp
              first | done | (rw [if_neg (by have z1_:(⟨#[44]⟩:ByteArray).size = 1:=rfl;(try simp only [decide_eq_true_eq,ByteArray.size_append]);omega)])
              first | done | with_reducible rfl
             rotate_left
             ·simp only [Act.put,List.setIfInBounds_toArray,List.set_cons_zero,List.set_cons_succ,i64_w,i32_w]
              rfl
             exact norm_ T69_ (hCont U10_.heap.size _ HBQ.out)
           ·skip
            refine goes_ Tryz.func57 T22_ rfl #[.int .i64 n2] (by rfl) rfl rfl T75_ ?_;with_reducible refine (impl_FormatInt.any n2 sb _ HTk.out HF2.out).mono ?_
            rintro e U16_ ⟨rfl,hb⟩;refine ⟨_,rfl,?_⟩;replace C0:Aside0 (U16_.cell? ⟨gn,0,none⟩ = some (.int .i64 n0)):=⟨pw_cell_below hb C0.out⟩;replace C1:Aside0 (U16_.cell? ⟨gn,1,none⟩ = some (.int .i64 n1)):=⟨pw_cell_below hb C1.out⟩;replace C2:Aside0 (U16_.cell? ⟨gn,2,none⟩ = some (.int .i64 n2)):=⟨pw_cell_below hb C2.out⟩;replace HBk:=aZ_ (below_step HBk.out hb);replace HTk:=aZ_ (HTk.out.below hb);replace HWk:=aZ_ (blk_below HWk.out hb);replace HBQ:=aZ_ (below_step HBQ.out hb);clear hb;refine hK.out _ _ ⟨C0.out,C1.out,C2.out⟩ (fun hHeld=>?_);clear hK K;refine nZ_ (some 60) ?_;refine one_ (i:=6) (N:=some 51) (bA 19 59263) rfl rfl T22_ T55_ (fun K hK=>?_);refine value_ (w1:=?_) (v:=?_) (by rfl) rfl ?_ ?_;rotate_left 2
            ·go_simp
             constructor
             ·rfl
             ·rfl
            have hb:=below_alloc (Below.refl U16_.heap.size U16_) (.cells #[.int .u8 y] 5 (0,0));have BYB:=aZ_ (blk_new U16_ (.cells #[.int .u8 y] 5 (0,0)));generalize U16_.alloc (.cells #[.int .u8 y] 5 (0,0)) = U17_ at hb BYB ⊢;replace C0:Aside0 (U17_.cell? ⟨gn,0,none⟩ = some (.int .i64 n0)):=⟨pw_cell_below hb C0.out⟩;replace C1:Aside0 (U17_.cell? ⟨gn,1,none⟩ = some (.int .i64 n1)):=⟨pw_cell_below hb C1.out⟩;replace C2:Aside0 (U17_.cell? ⟨gn,2,none⟩ = some (.int .i64 n2)):=⟨pw_cell_below hb C2.out⟩;replace HBk:=aZ_ (below_step HBk.out hb);replace HTk:=aZ_ (HTk.out.below hb);replace HWk:=aZ_ (blk_below HWk.out hb);replace HBQ:=aZ_ (below_step HBQ.out hb);clear hb;refine hK.out _ _ ⟨C0.out,C1.out,C2.out⟩ (fun hHeld=>?_);clear hK K;refine nZ_ (some 51) ?_;refine one_ (i:=7) (N:=some 52) (bA 19 59391) rfl rfl T22_ T55_ (fun K hK=>?_);have hcv:=run_convert_bytes_arg (P:=Tryz.prog) U17_ 22 5 Tryz.underlying22 Tryz.underlying5 U16_.heap.size 0 1 1 [y] rfl (fun i hi=>by obtain rfl:i = 0:=T73_;exact (blk_cell BYB.out 0).trans rfl) 9 Tryz.underlying9;rw [HS1.out] at hcv;refine value_ (w1:=U17_) (v:=.string s1) (by rfl) rfl ?_ ?_
            ·first | (go_simp;done) | (simp [execOp,Act.eval,hcv];done)
            clear hcv;refine hK.out _ _ ⟨C0.out,C1.out,C2.out⟩ (fun hHeld=>?_);clear hK K;refine nZ_ (some 52) ?_;refine pure_ (i:=11) (N:=some 56) (v:=?_) (a':=?_) (bA 19 61439) rfl rfl T22_ (fun _ _ _ h=>h) (Or.inl ⟨by rfl,?_⟩) ?_ ?_;rotate_left
            ·intro w'
             go_simp
             first | done | (rw [if_neg (by have z1_:(⟨#[44]⟩:ByteArray).size = 1:=rfl;(try simp only [decide_eq_true_eq,ByteArray.size_append]);omega)])
             first | done | with_reducible rfl
            rotate_left
            ·simp only [Act.put,List.setIfInBounds_toArray,List.set_cons_zero,List.set_cons_succ,i64_w,i32_w]
             rfl
            refine pure_ (i:=12) (N:=some 57) (v:=?_) (a':=?_) (bA 19 65535) rfl rfl T22_ (fun _ _ _ h=>h) (Or.inl ⟨by rfl,?_⟩) ?_ ?_;rotate_left
            ·intro w'
             go_simp
             first | done | (rw [if_neg (by have z1_:(⟨#[44]⟩:ByteArray).size = 1:=rfl;(try simp only [decide_eq_true_eq,ByteArray.size_append]);omega)])
             first | done | with_reducible rfl
            rotate_left
            ·simp only [Act.put,List.setIfInBounds_toArray,List.set_cons_zero,List.set_cons_succ,i64_w,i32_w]
             rfl
            exact norm_ T69_ (hCont U16_.heap.size _ HBQ.out)
         intro g V9_ hb;refine norm_ (a':=?_) ?_ ?_;rotate_left
         ·simp only [putAll,Act.put,List.setIfInBounds_toArray,List.set_cons_zero,List.set_cons_succ]
          rfl
         replace C0:Aside0 (V9_.cell? ⟨gn,0,none⟩ = some (.int .i64 n0)):=⟨pw_cell_below hb C0.out⟩;replace C1:Aside0 (V9_.cell? ⟨gn,1,none⟩ = some (.int .i64 n1)):=⟨pw_cell_below hb C1.out⟩;replace C2:Aside0 (V9_.cell? ⟨gn,2,none⟩ = some (.int .i64 n2)):=⟨pw_cell_below hb C2.out⟩;replace HBk:=aZ_ (below_step HBk.out hb);replace HTk:=aZ_ (HTk.out.below hb);replace HWk:=aZ_ (blk_below HWk.out hb);clear hb;refine pure_ (i:=16) (N:=some 61) (v:=?_) (a':=?_) (bA 19 131071) rfl rfl T22_ (fun _ _ _ h=>h) (Or.inl ⟨by rfl,?_⟩) ?_ ?_;rotate_left
         ·intro w'
          go_simp
          first | done | (rw [if_neg (by have z1_:(⟨#[44]⟩:ByteArray).size = 1:=rfl;(try simp only [decide_eq_true_eq,ByteArray.size_append]);omega)])
          first | done | with_reducible rfl
         rotate_left
         ·simp only [Act.put,List.setIfInBounds_toArray,List.set_cons_zero,List.set_cons_succ,i64_w,i32_w]
          rfl
         refine pZ_ 17 (some 62) (bA 19 262143) ?_;refine last_ (i:=18) (N:=none) (bA 19 524287) rfl rfl T22_ T55_ (fun K hK=>?_);have hx0:V9_.cell? ⟨gw,x,none⟩ = some (.string ((impl_FormatDiagram.words l x).getD x ⟨#[]⟩)):=(blk_cell HWk.out x).trans (strA_get _ HLX.out.1);have hf0:=blk_frozen HWk.out x;refine skip_ (w1:=V9_.setCell ⟨gw,x,none⟩ (.string (((s1 ++ sa) ++ ⟨#[44]⟩) ++ sb))) (by rfl) rfl ?_ ?_
         ·go_simp
         clear hx0 hf0;refine hK.out _ _ ?_;clear hK K
         have HW4:Aside0 ((V9_.setCell ⟨gw,x,none⟩ (.string (((s1 ++ sa) ++ ⟨#[44]⟩) ++ sb))).heap[gw]? = some (.cells (strA l.length (impl_FormatDiagram.words l (x + 1))) 9 (0,0))):=⟨by
          rw [impl_FormatDiagram.words_succ,HW1.out];refine blk_put HWk.out x _ ?_;have e_:=strA_put (n:=l.length) (ws:=impl_FormatDiagram.words l x) (((s1 ++ sa) ++ ⟨#[44]⟩) ++ sb) (by rw [impl_FormatDiagram.words_length];exact HLX.out.1);rw [impl_FormatDiagram.words_length] at e_;exact e_⟩
         have HB4:Aside0 (Below w.heap.size w (V9_.setCell ⟨gw,x,none⟩ (.string (((s1 ++ sa) ++ ⟨#[44]⟩) ++ sb)))):=⟨below_set HBk.out HGW.out⟩;have HT4:Aside0 (Tens (V9_.setCell ⟨gw,x,none⟩ (.string (((s1 ++ sa) ++ ⟨#[44]⟩) ++ sb)))):=⟨HTw.out.below HB4.out⟩;generalize V9_.setCell ⟨gw,x,none⟩ (.string (((s1 ++ sa) ++ ⟨#[44]⟩) ++ sb)) = V4_ at HW4 HB4 HT4 ⊢;refine done_ T22_ ?_;clear C0 C1 C2 hHeld HBk HTk HWk
         try go_wp2
         go_roundg (l.length - (x + 1))
         case measure=>have:=HLX.out;omega
         case rel=>exact ⟨x + 1,by have:=HLX.out;omega,by omega,(by have:=HLX.out;have:=HN.out;rw [B.wrap64_of T73_ T73_];congr 1),⟨B.allN_next HO.out (by rw [HOK.out,decide_eq_true HG0.out];rfl)⟩,HB4,HT4,HW4⟩
    ·have hltz:¬ (x:Int) < (l.length:Int):=by omega
     obtain rfl:x = l.length:=by omega
     have HH:=H.out;rw [if_pos HO.out] at HH
     cases HH
     clear H
     have HJ:Aside0 (Calls Tryz.prog 58 #[.slice (some ⟨gw,0,none⟩) l.length l.length,.string ⟨#[32]⟩] wr fun e w'=>e = .returned (.string ⟨(Lib.join ((impl_FormatDiagram.words l l.length).map (·.data.toList)) [32]).toArray⟩) ∧ Below wr.heap.size wr w'):=⟨by
      have hwl:=impl_FormatDiagram.words_length l l.length
      have h_:=Tryz.strings_Join gw 0 l.length (impl_FormatDiagram.words l l.length) ⟨#[32]⟩ wr (fun j x hj=>by
       have hjl:=(List.getElem?_eq_some_iff.1 hj).1;rw [hwl] at hjl;rw [Nat.zero_add];refine (blk_cell HWB.out j).trans ((strA_get _ hjl).trans ?_);rw [List.getD_eq_getElem?_getD,hj]
       rfl) (blk_lt HWB.out) (by rw [hwl];have:=HN.out;omega) (by rw [hwl];exact Nat.le_refl _) (by
       refine Nat.le_trans (impl_FormatDiagram.join_le _ (fun x hx=>?_) (by rw [hwl];exact HN.out.2)) T55_;obtain ⟨i,hi,rfl⟩:=List.mem_map.mp hx;exact impl_FormatDiagram.word_size (B.allN_iff.mp HO.out i (List.mem_range.mp hi)))
      rw [hwl] at h_;exact h_⟩
     go_wp2_with (go_at_call 58;refine HJ.out.mono ?_;rintro e w4 ⟨rfl,hb⟩;have HB4:=aZ_ (below_step HB.out hb);clear hb)
     go_ret;exact ⟨rfl,HB4.out⟩
def spec_FormatInt.l0:Nat → Int → ByteArray → Bool → Option (ByteArray)
 | 0,_,_,_=>none
 | k + 1,x0,x3,x4=>if x0 = 0 then (if x4 = true then (if 1 + x3.size ≤ 9223372036854775807 then (some ((⟨#[45]⟩:ByteArray) ++ x3)) else (none)) else (some x3)) else (if (Int.tmod x0 10) < 0 then ((some (([(wrap64 (48 + (wrap64 (-(Int.tmod x0 10))))) % 256]:List Int):List Int)).bind fun y101=>(if (strOfNums y101).size + x3.size ≤ 9223372036854775807 then (spec_FormatInt.l0 k (wrap64 (Int.tdiv x0 10)) ((strOfNums y101) ++ x3) x4) else (none))) else ((some (([(wrap64 (48 + (Int.tmod x0 10))) % 256]:List Int):List Int)).bind fun y104=>(if (strOfNums y104).size + x3.size ≤ 9223372036854775807 then (spec_FormatInt.l0 k (wrap64 (Int.tdiv x0 10)) ((strOfNums y104) ++ x3) x4) else (none))))
def spec_FormatInt.f (k:Nat) (a0:Int):Option (ByteArray):=if a0 = 0 then (some (⟨#[48]⟩:ByteArray)) else (spec_FormatInt.l0 k a0 (⟨#[]⟩:ByteArray) (decide (a0 < 0)))
theorem spec_FormatInt.mono_l:∀ k,(∀ y0 y1 y2,LeO (spec_FormatInt.l0 k y0 y1 y2) (spec_FormatInt.l0 (k + 1) y0 y1 y2))
 | 0=>fun _ _ _ r h=>by simp [spec_FormatInt.l0] at h
 | k + 1=>by
  have ih0:=spec_FormatInt.mono_l k
  ·intro y0 y1 y2
   unfold spec_FormatInt.l0
   repeat' first
   | (with_reducible exact ih0 _ _ _)
   | (with_reducible exact LeO.refl _)
   | (with_reducible exact LeO.none _)
   | (with_reducible refine LeO.ite ?_ ?_)
   | (with_reducible refine LeO.bind ?_ (fun _=>?_))
   | exact ih0 _ _ _
   | exact LeO.none _
   | refine LeO.ite ?_ ?_
   | refine LeO.bind ?_ (fun _=>?_)
theorem spec_FormatInt.mono:∀ a0 k,LeO (spec_FormatInt.f k a0) (spec_FormatInt.f (k + 1) a0):=by
 intro a0 k;have ih0:=spec_FormatInt.mono_l k;unfold spec_FormatInt.f
 repeat' first
   | (with_reducible exact ih0 _ _ _)
   | (with_reducible exact LeO.refl _)
   | (with_reducible exact LeO.none _)
   | (with_reducible refine LeO.ite ?_ ?_)
   | (with_reducible refine LeO.bind ?_ (fun _=>?_))
   | exact ih0 _ _ _
   | exact LeO.none _
   | refine LeO.ite ?_ ?_
   | refine LeO.bind ?_ (fun _=>?_)
theorem spec_FormatInt.calls (k:Nat) (a0:Int) (r:ByteArray) (w:World) (h:spec_FormatInt.f k a0 = some r) :
  Calls Tryz.prog 59 #[.int .i64 a0] w fun e w'=>e = .returned (.string r) ∧ Below w.heap.size w w':=by
 have HB:=aZ_ (Below.refl w.heap.size w);have H:(if a0 = 0 then (some (⟨#[48]⟩:ByteArray)) else (spec_FormatInt.l0 k a0 (⟨#[]⟩:ByteArray) (decide (a0 < 0)))) = some r:=h;clear h
 by_cases c2:a0 = 0
 ·rw [if_pos c2] at H
  have c2b0:(a0 == 0) = true:=beq_iff_eq.mpr c2;have c2b1:(a0 != 0) = false:=bne_eq_false_iff_eq.mpr c2;clear c2;obtain rfl:=Option.some.inj H;go_enter Tryz.func59,Tryz.ntmps59;go_wp2;go_ret;exact ⟨T13_,T2_⟩
 ·rw [if_neg c2] at H
  have c2b0:(a0 == 0) = false:=beq_eq_false_iff_ne.mpr c2;have c2b1:(a0 != 0) = true:=bne_iff_ne.mpr c2;obtain ⟨ng,hng⟩:∃ b_:Bool,decide (a0 < 0) = b_:=⟨_,rfl⟩;rw [hng] at H;have H':=aZ_ H;clear H;go_enter Tryz.func59,Tryz.ntmps59;go_wp2
  go_loopg [0,3] k (fun kq v0 v3 w'=>∃ (x0_1:Int) (x3_1:ByteArray),v0 = .int .i64 x0_1 ∧ v3 = .string x3_1 ∧ Aside0 (spec_FormatInt.l0 kq x0_1 x3_1 ng = some r) ∧ Aside0 (kq ≤ k) ∧ Aside0 (Below w.heap.size w w'))
  case atStart=>exact ⟨(a0),((⟨#[]⟩:ByteArray)),T11_,T11_,H',⟨Nat.le_refl _⟩,⟨T2_⟩⟩
  case round =>
   clear H'
   repeat (first | clear c2 | clear c2b0 | clear c2b1 | clear p2)
   obtain ⟨x0_1,x3_1,rfl,rfl,HA,HK1,HB⟩:=hrel
   cases gk with
   | zero=>exact absurd HA.out (by simp [spec_FormatInt.l0])
   | succ k1 =>
    have H:=HA.out;clear HA;simp only [spec_FormatInt.l0] at H
    by_cases c3:x0_1 = 0
    ·rw [if_pos c3] at H
     have c3b0:(x0_1 == 0) = true:=beq_iff_eq.mpr c3;have c3b1:(x0_1 != 0) = false:=bne_eq_false_iff_eq.mpr c3;clear c3
     by_cases c4:ng = true
     ·rw [if_pos c4] at H
      have c4b0:ng = true:=c4;clear c4;subst c4b0
      by_cases c5:1 + x3_1.size ≤ 9223372036854775807
      ·rw [if_pos c5] at H
       have c5b0:=eq_true c5;have c5b1:decide (1 + x3_1.size ≤ 9223372036854775807) = true:=decide_eq_true c5
       try have c5b2:(9223372036854775807 < 1 + x3_1.size) = False:=eq_false (Nat.not_lt.2 c5)
       obtain rfl:=Option.some.inj H;go_wp2;go_ret;exact ⟨T13_,T2_⟩
      ·rw [if_neg c5] at H
       exact absurd H T64_
     ·rw [if_neg c4] at H
      have c4b0:ng = false:=by simpa using c4
      clear c4;subst c4b0;obtain rfl:=Option.some.inj H;go_wp2;go_ret;exact ⟨T13_,T2_⟩
    ·rw [if_neg c3] at H
     have c3b0:(x0_1 == 0) = false:=beq_eq_false_iff_ne.mpr c3;have c3b1:(x0_1 != 0) = true:=bne_iff_ne.mpr c3
     by_cases c6:(Int.tmod x0_1 10) < 0
     ·rw [if_pos c6] at H
      have c6b0:decide ((Int.tmod x0_1 10) < 0) = true:=decide_eq_true c6;clear c6;obtain ⟨y101,hy101⟩:∃ y_:List Int,y_ = (([(wrap64 (48 + (wrap64 (-(Int.tmod x0_1 10))))) % 256]:List Int)):=⟨_,rfl⟩;replace H:(if (strOfNums y101).size + x3_1.size ≤ 9223372036854775807 then (spec_FormatInt.l0 k1 (wrap64 (Int.tdiv x0_1 10)) ((strOfNums y101) ++ x3_1) ng) else (none)) = some r:=by first | (rw [hy101];with_reducible exact H) | (have H2_:=(Option.bind_some _ _).symm.trans H;rw [hy101];with_reducible exact H2_) | (have H2_:=(Option.bind_some _ _).symm.trans H;with_reducible exact H2_) | with_reducible exact H | (rw [hy101];exact H) | exact H
      have Ny101:=aZ_ hy101;clear hy101
      by_cases c7:(strOfNums y101).size + x3_1.size ≤ 9223372036854775807
      ·rw [if_pos c7] at H
       have c7b0:=eq_true c7;have c7b1:decide ((strOfNums y101).size + x3_1.size ≤ 9223372036854775807) = true:=decide_eq_true c7
       try have c7b2:(9223372036854775807 < (strOfNums y101).size + x3_1.size) = False:=eq_false (Nat.not_lt.2 c7)
       have H':=aZ_ H;clear H
       go_wp2_with (first | ((with_reducible refine gate_dst (N:=21) rfl ?_);refine Kd.R_lit (Kd.int .u8) _ 5 ?hg (N:=21) ?hd (xs:=([(wrap64 (48 + (wrap64 (-(Int.tmod x0_1 10))))) % 256]:List Int)) (inner:=[.int .u8 ((wrap64 (48 + (wrap64 (-(Int.tmod x0_1 10))))) % 256)]) (ok:=fun _=>True) (okp:=fun _=>True) ?hr ?hp (fun _ hk=>hk) trivial (Below.refl _ _) (Nat.le_refl _) T64_ ?_;(case hd=>rfl);(case hg=>rfl);(case hr=>exact T19_);(case hp=>exact (Reps.one (show Kd.M (Kd.int .u8) _ _ _ ((wrap64 (48 + (wrap64 (-(Int.tmod x0_1 10))))) % 256) [.int .u8 ((wrap64 (48 + (wrap64 (-(Int.tmod x0_1 10))))) % 256)] from rfl) (Reps.none _ _)));intro v102 w8 ho9 hb hg_ hnew_;clear hg_ hnew_;(first | rw [← Ny101.out] at ho9 | (simp only [Int.reduceToNat] at ho9;rw [← Ny101.out] at ho9));have HO103:=aZ_ (Kd.R_lower ho9 (below_size T2_));replace HB:=aZ_ (below_step T2_ hb);clear hb ho9;have hcv10:=own_string (P:=Tryz.prog) Tryz.underlying22 Tryz.underlying5 Tryz.underlying9 (Kd.own_of_R HO103.out)))
       go_roundg k1
       case measure=>have:=HK1.out;omega
       case rel=>exact ⟨(wrap64 (Int.tdiv x0_1 10)),((strOfNums y101) ++ x3_1),T11_,T11_,H',⟨by have:=HK1.out;omega⟩,⟨T2_⟩⟩
      ·rw [if_neg c7] at H
       exact absurd H T64_
     ·rw [if_neg c6] at H
      have c6b0:decide ((Int.tmod x0_1 10) < 0) = false:=decide_eq_false c6;clear c6;obtain ⟨y104,hy104⟩:∃ y_:List Int,y_ = (([(wrap64 (48 + (Int.tmod x0_1 10))) % 256]:List Int)):=⟨_,rfl⟩;replace H:(if (strOfNums y104).size + x3_1.size ≤ 9223372036854775807 then (spec_FormatInt.l0 k1 (wrap64 (Int.tdiv x0_1 10)) ((strOfNums y104) ++ x3_1) ng) else (none)) = some r:=by first | (rw [hy104];with_reducible exact H) | (have H2_:=(Option.bind_some _ _).symm.trans H;rw [hy104];with_reducible exact H2_) | (have H2_:=(Option.bind_some _ _).symm.trans H;with_reducible exact H2_) | with_reducible exact H | (rw [hy104];exact H) | exact H
      have Ny104:=aZ_ hy104;clear hy104
      by_cases c11:(strOfNums y104).size + x3_1.size ≤ 9223372036854775807
      ·rw [if_pos c11] at H
       have c11b0:=eq_true c11;have c11b1:decide ((strOfNums y104).size + x3_1.size ≤ 9223372036854775807) = true:=decide_eq_true c11
       try have c11b2:(9223372036854775807 < (strOfNums y104).size + x3_1.size) = False:=eq_false (Nat.not_lt.2 c11)
       have H':=aZ_ H;clear H
       go_wp2_with (first | ((with_reducible refine gate_dst (N:=21) rfl ?_);refine Kd.R_lit (Kd.int .u8) _ 5 ?hg (N:=21) ?hd (xs:=([(wrap64 (48 + (Int.tmod x0_1 10))) % 256]:List Int)) (inner:=[.int .u8 ((wrap64 (48 + (Int.tmod x0_1 10))) % 256)]) (ok:=fun _=>True) (okp:=fun _=>True) ?hr ?hp (fun _ hk=>hk) trivial (Below.refl _ _) (Nat.le_refl _) T64_ ?_;(case hd=>rfl);(case hg=>rfl);(case hr=>exact T19_);(case hp=>exact (Reps.one (show Kd.M (Kd.int .u8) _ _ _ ((wrap64 (48 + (Int.tmod x0_1 10))) % 256) [.int .u8 ((wrap64 (48 + (Int.tmod x0_1 10))) % 256)] from rfl) (Reps.none _ _)));intro v105 w12 ho13 hb hg_ hnew_;clear hg_ hnew_;(first | rw [← Ny104.out] at ho13 | (simp only [Int.reduceToNat] at ho13;rw [← Ny104.out] at ho13));have HO106:=aZ_ (Kd.R_lower ho13 (below_size T2_));replace HB:=aZ_ (below_step T2_ hb);clear hb ho13;have hcv14:=own_string (P:=Tryz.prog) Tryz.underlying22 Tryz.underlying5 Tryz.underlying9 (Kd.own_of_R HO106.out)))
       go_roundg k1
       case measure=>have:=HK1.out;omega
       case rel=>exact ⟨(wrap64 (Int.tdiv x0_1 10)),((strOfNums y104) ++ x3_1),T11_,T11_,H',⟨by have:=HK1.out;omega⟩,⟨T2_⟩⟩
      ·rw [if_neg c11] at H
       exact absurd H T64_
end Go.Proofs.YtflacbjpeecjcabGreatDoor.F
