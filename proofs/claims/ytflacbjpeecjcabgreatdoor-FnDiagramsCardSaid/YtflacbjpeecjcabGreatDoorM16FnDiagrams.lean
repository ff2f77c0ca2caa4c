/- Walks of Go functions and lemmas on what they compute, for the row of FnDiagrams (a part of several): each call ends as the Lean function of its name tells; the conditions are those of each theorem. -/
import Derived.Test.YtflacbjpeecjcabGreatDoorM15FnDiagrams
set_option linter.unusedVariables false
set_option linter.unusedSimpArgs false
set_option maxHeartbeats 16000000
set_option maxRecDepth 100000
open Go.RowKit Go.Proofs.YtflacbjpeecjcabGreatDoorW.PrintWords Go.Proofs.YtflacbjpeecjcabGreatDoorW.PrintLast Go.Proofs.YtflacbjpeecjcabGreatDoorW.PrintMore
namespace Go.Proofs.YtflacbjpeecjcabGreatDoor.U
open Go.Proofs.YtflacbjpeecjcabGreatDoor.F Go.Proofs.YtflacbjpeecjcabGreatDoor.B
theorem rd_pre {xs:List Int} (ys:List Int) {i:Nat} (h:i < xs.length):rd (xs ++ ys) (i:Int) = rd xs (i:Int):=by
 unfold rd;rw [Int.toNat_natCast,List.getD_eq_getElem?_getD,List.getD_eq_getElem?_getD,List.getElem?_append_left h]
theorem rd_end (xs:List Int) (y:Int):rd (xs ++ [y]) (xs.length:Int) = y:=by
 unfold rd;rw [Int.toNat_natCast,List.getD_eq_getElem?_getD,List.getElem?_append_right (Nat.le_refl _),Nat.sub_self]
 rfl
theorem rdN_pre {xs:List S56} (ys:List S56) {i:Nat} (h:i < xs.length):rd_T56 (xs ++ ys) (i:Int) = rd_T56 xs (i:Int):=by
 unfold rd_T56;rw [Int.toNat_natCast,List.getD_eq_getElem?_getD,List.getD_eq_getElem?_getD,List.getElem?_append_left h]
theorem rdN_end (xs:List S56) (y:S56):rd_T56 (xs ++ [y]) (xs.length:Int) = y:=by
 unfold rd_T56;rw [Int.toNat_natCast,List.getD_eq_getElem?_getD,List.getElem?_append_right (Nat.le_refl _),Nat.sub_self]
 rfl
theorem stk_on {x i:Nat} (hx:x < 32) (hi:i < 5) (h:x.testBit i = true):stk x i 1 = x:=by
 have q:∀ x:Fin 32,∀ i:Fin 5,x.val.testBit i.val = true → stk x.val i.val 1 = x.val:=by decide +kernel
 exact q ⟨x,hx⟩ ⟨i,hi⟩ h
theorem stk_off {x i:Nat} (hx:x < 32) (hi:i < 5) (h:x.testBit i = false):stk x i 0 = x:=by
 have q:∀ x:Fin 32,∀ i:Fin 5,x.val.testBit i.val = false → stk x.val i.val 0 = x.val:=by decide +kernel
 exact q ⟨x,hx⟩ ⟨i,hi⟩ h
theorem stk_flip {x i:Nat} (hx:x < 32) (hi:i < 5):stk x i 1 = stk x i 0 ^^^ 2 ^ i:=by
 have q:∀ x:Fin 32,∀ i:Fin 5,stk x.val i.val 1 = stk x.val i.val 0 ^^^ 2 ^ i.val:=by decide +kernel
 exact q ⟨x,hx⟩ ⟨i,hi⟩
theorem stk_det {n v u i:Nat} (hv:Tab n v) (hu:Tab n u) (hi:i < n) (h0:stkW n v i 0 = stkW n u i 0) (h1:stkW n v i 1 = stkW n u i 1):v = u:=by
 have hn:=hv.1;have hp:=pow_le hn;refine word_ext hv.2 hu.2 (fun x hx=>?_)
 cases hb:x.testBit i with
 | true =>
  have e:=congrArg (fun z:Nat=>z.testBit x) h1;simp only [testBit_stkW hx] at e;rw [stk_on (by omega) (by omega) hb] at e;exact e
 | false =>
  have e:=congrArg (fun z:Nat=>z.testBit x) h0;simp only [testBit_stkW hx] at e;rw [stk_off (by omega) (by omega) hb] at e;exact e
theorem idx_at {xs:List Int} {v:Int} {j:Nat} (h:idxOf xs v = some j):j < xs.length ∧ rd xs (j:Int) = v:=by
 rcases rd_idx (xs:=xs) (v:=v) xs.length 0 (by omega) (fun j hj=>absurd hj (Nat.not_lt_zero _)) with h' | ⟨i,_,hi,hr,hf⟩
 ·rw [h'] at h;cases h
 ·rw [idxOf_first hi hr hf] at h
  cases h
  exact ⟨hi,hr⟩
def IsC (n:Nat) (names:List Int) (i:Nat) (e:Int) (u:Nat):Prop:=(constB n u = true ∧ e = ((bitN u 0:Nat):Int) - 2) ∨ (constB n u = false ∧ ∃ j:Nat,j < i ∧ e = (j:Int) ∧ rd names (j:Int) = (u:Int))
theorem isC_more {n:Nat} {names:List Int} {i:Nat} {e:Int} {u:Nat} (h:IsC n names i e u) (ys:List Int) {i':Nat} (hi:i ≤ i') (hl:i ≤ names.length):IsC n (names ++ ys) i' e u:=by
 rcases h with h | ⟨h,j,hj,he,hr⟩
 ·exact .inl h
 ·exact .inr ⟨h,j,by omega,he,by rw [rd_pre ys (by omega)];exact hr⟩
theorem isC_le {n:Nat} {names:List Int} {i:Nat} {e:Int} {u:Nat} (h:IsC n names i e u) {i':Nat} (hi:i ≤ i'):IsC n names i' e u:=by
 rcases h with h | ⟨h,j,hj,he,hr⟩
 ·exact .inl h
 ·exact .inr ⟨h,j,by omega,he,hr⟩
theorem isC_inj {n:Nat} {names:List Int} {i i':Nat} {e:Int} {u u':Nat} (hu:Tab n u) (hu':Tab n u') (h:IsC n names i e u) (h':IsC n names i' e u'):u = u':=by
 have b1:=bitN_le u 0;have b2:=bitN_le u' 0;rcases h with ⟨c,he⟩ | ⟨c,j,hj,he,hr⟩
 ·rcases h' with ⟨c',he'⟩ | ⟨c',j',hj',he',hr'⟩
  ·have hb:bitN u 0 = bitN u' 0:=by omega
   refine word_ext hu.2 hu'.2 (fun x hx=>?_);rw [(const_iff hu).mp c x hx,(const_iff hu').mp c' x hx];unfold bitN at hb
   revert hb
   cases u.testBit 0 <;> cases u'.testBit 0 <;> simp
  ·omega
 ·rcases h' with ⟨c',he'⟩ | ⟨c',j',hj',he',hr'⟩
  ·omega
  ·obtain rfl:j = j':=by omega
   rw [hr] at hr';omega
structure NdOk (n:Nat) (ord names:List Int) (nodes:List S56) (i v lv:Nat):Prop where
 nm:rd names (i:Int) = (v:Int)
 tab:Tab n v
 lt:lv < n
 f0:(rd_T56 nodes (i:Int)).f0 = rd ord (lv:Int)
 ind_:∀ j:Nat,j < lv → ind n v (rd ord j).toNat
 dep_:¬ stkW n v (rd ord lv).toNat 0 = stkW n v (rd ord lv).toNat 1
 c1:IsC n names i (rd_T56 nodes (i:Int)).f1 (stkW n v (rd ord lv).toNat 0)
 c2:IsC n names i (rd_T56 nodes (i:Int)).f2 (stkW n v (rd ord lv).toNat 1)
structure Gd (n:Nat) (ord names:List Int) (nodes:List S56):Prop where
 len:names.length = nodes.length
 nod:∀ i:Nat,i < nodes.length → ∃ v lv:Nat,NdOk n ord names nodes i v lv
 uniq:∀ i j:Nat,i < names.length → j < names.length → rd names (i:Int) = rd names (j:Int) → i = j
theorem gd_nil (n:Nat) (ord:List Int):Gd n ord [] []:=⟨rfl,fun i h=>absurd h (Nat.not_lt_zero _),fun i j h=>absurd h (Nat.not_lt_zero _)⟩
theorem ndOk_more {n:Nat} {ord names:List Int} {nodes:List S56} {i v lv:Nat} (h:NdOk n ord names nodes i v lv) (ys:List Int) (zs:List S56) (h1:i < names.length) (h2:i < nodes.length):NdOk n ord (names ++ ys) (nodes ++ zs) i v lv:=by
 refine ⟨?_,h.tab,h.lt,?_,h.ind_,h.dep_,?_,?_⟩
 ·rw [rd_pre ys h1];exact h.nm
 ·rw [rdN_pre zs h2];exact h.f0
 ·rw [rdN_pre zs h2];exact isC_more h.c1 ys (Nat.le_refl _) (by omega)
 ·rw [rdN_pre zs h2];exact isC_more h.c2 ys (Nat.le_refl _) (by omega)
theorem ind_next {n:Nat} {ord:List Int} (ho:Ord n ord) {lv v:Nat} (hlt:lv < n) (hv:∀ j:Nat,j < lv → ind n v (rd ord j).toNat) (b:Nat) (hb:b ≤ 1):∀ j:Nat,j < lv + 1 → ind n (stkW n v (rd ord lv).toNat b) (rd ord j).toNat:=by
 have hle:=ho.le;obtain ⟨i,hi,hin⟩:=ho.at_ lv hlt;intro j hj;obtain ⟨i',hi',hin'⟩:=ho.at_ j (by omega);rw [hi,hi',Int.toNat_natCast,Int.toNat_natCast]
 by_cases e:j = lv
 ·subst e
  obtain rfl:i = i':=by omega
  exact ind_stk hle hin b hb
 ·have:=hv j (by omega)
  rw [hi',Int.toNat_natCast] at this;exact ind_keep hle hin hin' this b hb
theorem bld_gd {n:Nat} {ord:List Int} (ho:Ord n ord):∀ (d lv v:Nat) (names:List Int) (nodes:List S56),lv + d = n → Tab n v → (∀ j:Nat,j < lv → ind n v (rd ord j).toNat) → Gd n ord names nodes →
  Gd n ord (bld n ord d lv v names nodes).2.1 (bld n ord d lv v names nodes).2.2 ∧ (∃ ex,(bld n ord d lv v names nodes).2.1 = names ++ ex) ∧ IsC n (bld n ord d lv v names nodes).2.1 (bld n ord d lv v names nodes).2.2.length (bld n ord d lv v names nodes).1 v ∧
   (constB n v = false → names = [] → (bld n ord d lv v names nodes).2.2.length ≠ 0 ∧ (bld n ord d lv v names nodes).1 = ((bld n ord d lv v names nodes).2.2.length:Int) - 1):=by
 intro d
 induction d with
 | zero =>
  intro lv v names nodes hd ht hv hG
  have hc:constB n v = true:=all_ind ht (fun i hi=>by
   obtain ⟨j,hj,hr⟩:=ho.all i hi;have:=hv j (by omega);rw [hr,Int.toNat_natCast] at this;exact this)
  rw [bld];exact ⟨hG,⟨[],(List.append_nil _).symm⟩,.inl ⟨hc,rfl⟩,fun h=>absurd (hc.symm.trans h) (by decide)⟩
 | succ d ih =>
  intro lv v names nodes hd ht hv hG;have hle:=ho.le
  cases hc:constB n v with
  | true =>
   rw [bld_const hc];exact ⟨hG,⟨[],(List.append_nil _).symm⟩,.inl ⟨hc,rfl⟩,fun h=>absurd h (by decide)⟩
  | false =>
   obtain ⟨i,hi,hin⟩:=ho.at_ lv (by omega)
   by_cases hdp:stkW n v (rd ord lv).toNat 0 = stkW n v (rd ord lv).toNat 1
   ·have hs:stkW n v (rd ord lv).toNat 0 = v:=by
     rw [hi,Int.toNat_natCast] at hdp ⊢;exact ind_self ht hin hdp 0 (by omega)
    rw [bld_skip hc hdp,hs]
    obtain ⟨z1,z2,z3,z4⟩:=ih (lv + 1) v names nodes (by omega) ht (fun j hj=>by
     by_cases e:j = lv
     ·rw [e];exact hdp
     ·exact hv j (by omega)) hG
    exact ⟨z1,z2,z3,fun _=>z4 hc⟩
   ·cases hx:idxOf names v with
    | some j =>
     obtain ⟨h1,h2⟩:=idx_at hx;rw [bld_old hc hdp hx];refine ⟨hG,⟨[],(List.append_nil _).symm⟩,.inr ⟨hc,j,?_,rfl,h2⟩,fun _ hn=>?_⟩
     ·have:=hG.len;dsimp only;omega
     ·rw [hn] at h1;exact absurd h1 (Nat.not_lt_zero _)
    | none =>
     obtain ⟨p,hp⟩:∃ p,p = bld n ord d (lv + 1) (stkW n v (rd ord lv).toNat 0) names nodes:=⟨_,rfl⟩;obtain ⟨q,hq⟩:∃ q,q = bld n ord d (lv + 1) (stkW n v (rd ord lv).toNat 1) p.2.1 p.2.2:=⟨_,rfl⟩;have hnew:=bld_new (nodes:=nodes) ho hd hv hdp hx;rw [← hp,← hq] at hnew;rw [bld_nw hc hdp hx hp hq];obtain ⟨g1,⟨ex,h1⟩,c1,_⟩:=ih (lv + 1) (stkW n v (rd ord lv).toNat 0) names nodes (by omega) (stkW_tab hle) (ind_next ho (by omega) hv 0 (by omega)) hG;rw [← hp] at g1 h1 c1;obtain ⟨g2,⟨ey,h2⟩,c2,_⟩:=ih (lv + 1) (stkW n v (rd ord lv).toNat 1) p.2.1 p.2.2 (by omega) (stkW_tab hle) (ind_next ho (by omega) hv 1 (by omega)) g1;rw [← hq] at g2 h2 c2;have hlp:=g1.len;have hlq:=g2.len;have hpl:p.2.1.length ≤ q.2.1.length:=by rw [h2,List.length_append];omega
     have hend:rd (q.2.1 ++ [(v:Int)]) (q.2.2.length:Int) = (v:Int):=by rw [← hlq];exact rd_end _ _
     have c1':IsC n (q.2.1 ++ [(v:Int)]) q.2.2.length p.1 (stkW n v (rd ord lv).toNat 0):=by
      rw [h2,List.append_assoc];exact isC_more c1 _ (by omega) (by omega)
     have c2':IsC n (q.2.1 ++ [(v:Int)]) q.2.2.length q.1 (stkW n v (rd ord lv).toNat 1):=isC_more c2 _ (Nat.le_refl _) (by omega);have hno:=idxOf_none.mp hnew;dsimp only;refine ⟨⟨?_,?_,?_⟩,⟨ex ++ ey ++ [(v:Int)],?_⟩,.inr ⟨hc,q.2.2.length,?_,rfl,hend⟩,fun _ _=>⟨?_,?_⟩⟩
     ·rw [List.length_append,List.length_append,hlq];rfl
     ·intro i hi
      rw [List.length_append,List.length_singleton] at hi
      by_cases e:i < q.2.2.length
      ·obtain ⟨v',lv',H⟩:=g2.nod i e
       exact ⟨v',lv',ndOk_more H _ _ (by omega) e⟩
      ·obtain rfl:i = q.2.2.length:=by omega
       refine ⟨v,lv,hend,ht,by omega,?_,hv,hdp,?_,?_⟩
       ·rw [rdN_end]
       ·rw [rdN_end];exact c1'
       ·rw [rdN_end];exact c2'
     ·intro i j hi hj he
      rw [List.length_append,List.length_singleton] at hi hj;have hv_:∀ x:Nat,x < q.2.1.length → rd q.2.1 (x:Int) ≠ (v:Int):=fun x hx e=>hno (by rw [← e];exact rd_mem _ hx)
      by_cases e1:i < q.2.1.length
      ·by_cases e2:j < q.2.1.length
       ·rw [rd_pre _ e1,rd_pre _ e2] at he
        exact g2.uniq i j e1 e2 he
       ·obtain rfl:j = q.2.1.length:=by omega
        rw [rd_pre _ e1,rd_end] at he;exact absurd he (hv_ i e1)
      ·obtain rfl:i = q.2.1.length:=by omega
       by_cases e2:j < q.2.1.length
       ·rw [rd_pre _ e2,rd_end] at he
        exact absurd he.symm (hv_ j e2)
       ·omega
     ·rw [h2,h1,List.append_assoc,List.append_assoc,List.append_assoc]
     ·rw [List.length_append,List.length_singleton];omega
     ·rw [List.length_append,List.length_singleton];omega
     ·rw [List.length_append,List.length_singleton];omega
theorem root_ok {n w:Nat} {ord:List Int} (ho:Ord n ord) (ht:Tab n w):∃ names:List Int,Gd n ord names (bld n ord n 0 w [] []).2.2 ∧ (constB n w = true → (bld n ord n 0 w [] []).2.2 = []) ∧ (constB n w = false → 0 < (bld n ord n 0 w [] []).2.2.length ∧ IsC n names (bld n ord n 0 w [] []).2.2.length (((bld n ord n 0 w [] []).2.2.length - 1:Nat):Int) w):=by
 obtain ⟨g,_,c,r⟩:=bld_gd ho n 0 w [] [] (by omega) ht (fun j hj=>absurd hj (Nat.not_lt_zero _)) (gd_nil n ord);refine ⟨_,g,fun hc=>?_,fun hc=>?_⟩
 ·cases n with
  | zero=>rw [bld]
  | succ n=>rw [bld_const hc]
 ·obtain ⟨h1,h2⟩:=r hc rfl
  rw [h2] at c;refine ⟨by omega,?_⟩;rw [show (((bld n ord n 0 w [] []).2.2.length - 1:Nat):Int) = ((bld n ord n 0 w [] []).2.2.length:Int) - 1 by omega];exact c
theorem lev_at {n:Nat} {ord:List Int} (ho:Ord n ord) {j:Nat} (hj:j < n):lev ord (rd ord (j:Int)) = j:=by
 have hl:=ho.len
 have h1:lev ord (rd ord (j:Int)) ≤ j:=by
  by_cases h:j < lev ord (rd ord (j:Int))
  ·exact absurd rfl (lev_first h)
  ·omega
 exact ho.inj _ _ (by omega) hj (rd_lev (by omega))
theorem diag_bld {n:Nat} {ord names:List Int} {nodes:List S56} (ho:Ord n ord) (hp:isPerm ord = true) (g:Gd n ord names nodes) (h1:0 < nodes.length) (h31:nodes.length ≤ 31):diagB nodes ord = true:=by
 have hle:=ho.le;have hlo:=ho.len;have hgl:=g.len;unfold diagB;rw [hp,decide_eq_true (show ord.length ≤ 5 by omega),decide_eq_true (show 1 ≤ nodes.length ∧ nodes.length ≤ 31 by omega),Bool.true_and,Bool.true_and,Bool.true_and,allN_iff];intro i hi;obtain ⟨v,lv,H⟩:=g.nod i hi;obtain ⟨y,hy,hyn⟩:=ho.at_ lv H.lt;have hlev:lev ord (rd_T56 nodes (i:Int)).f0 = lv:=by rw [H.f0];exact lev_at ho H.lt
 have hE:∀ (e:Int) (b:Nat),b ≤ 1 → IsC n names i e (stkW n v (rd ord lv).toNat b) → okE nodes ord i lv e = true:=by
  intro e b hb hc;unfold okE;rcases hc with ⟨c,he⟩ | ⟨c,j,hj,he,hr⟩
  ·have:=bitN_le (stkW n v (rd ord lv).toNat b) 0
   rw [decide_eq_true (show -2 ≤ e ∧ e < i by omega),decide_eq_true (show e < 0 by omega)]
   rfl
  ·obtain ⟨v',lv',H'⟩:=g.nod j (by omega)
   have hn:=H'.nm;rw [hr] at hn;have hvv:stkW n v (rd ord lv).toNat b = v':=by omega
   subst he;have hlev':lev ord (rd_T56 nodes (j:Int)).f0 = lv':=by rw [H'.f0];exact lev_at ho H'.lt
   have hlt:lv < lv':=by
    by_cases h:lv < lv'
    ·exact h
    ·have hi_:=ind_next ho H.lt H.ind_ b hb lv' (by omega)
     rw [hvv] at hi_;exact absurd hi_ H'.dep_
   rw [decide_eq_true (show -2 ≤ (j:Int) ∧ (j:Int) < i by omega),hlev',decide_eq_true hlt,Bool.or_true]
   rfl
 unfold okN;rw [hlev,decide_eq_true (show lv < ord.length by have:=H.lt;omega),hE _ 0 (by omega) H.c1,hE _ 1 (by omega) H.c2,Bool.true_and,Bool.and_true,Bool.and_true,Bool.and_eq_true];refine ⟨?_,?_⟩
 ·rw [Bool.not_eq_true',decide_eq_false_iff_not]
  intro e;have c1:=H.c1;rw [e] at c1;exact H.dep_ (isC_inj (stkW_tab hle) (stkW_tab hle) c1 H.c2)
 ·unfold newN
  rw [allN_iff];intro j hj;rw [Bool.not_eq_true'];obtain ⟨v',lv',H'⟩:=g.nod j (by omega)
  cases hq:eqN (rd_T56 nodes (j:Int)) (rd_T56 nodes (i:Int)) with
  | false=>rfl
  | true =>
   exfalso
   unfold eqN at hq;simp only [Bool.and_eq_true,beq_iff_eq] at hq;obtain ⟨q0,q1,q2⟩:=hq;have hlev':lev ord (rd_T56 nodes (j:Int)).f0 = lv':=by rw [H'.f0];exact lev_at ho H'.lt
   obtain rfl:lv' = lv:=by rw [← hlev',q0,hlev]
   have c1:=H'.c1;have c2:=H'.c2;rw [q1] at c1;rw [q2] at c2;have e1:=isC_inj (stkW_tab hle) (stkW_tab hle) c1 H.c1;have e2:=isC_inj (stkW_tab hle) (stkW_tab hle) c2 H.c2;rw [hy,Int.toNat_natCast] at e1 e2;obtain rfl:=stk_det H'.tab H.tab hyn e1 e2;have:=g.uniq j i (by omega) (by omega) (H'.nm.trans H.nm.symm);omega
theorem vE_word {n:Nat} {ord names:List Int} {nodes:List S56} (ho:Ord n ord) (g:Gd n ord names nodes) (V:Vd nodes ord) {x:Nat} (hx:x < 2 ^ n):∀ (a:Nat) (e:Int) (u:Nat),e < a → Tab n u → IsC n names nodes.length e u → vE nodes x e = bitN u x:=by
 have hle:=ho.le;have hp:=pow_le hle
 have hcon:∀ (e:Int) (u:Nat),Tab n u → constB n u = true → e = ((bitN u 0:Nat):Int) - 2 → vE nodes x e = bitN u x:=by
  intro e u hu hc he;have hb:=bitN_le u 0;unfold vE;rw [if_pos (by omega),bitN_of ((const_iff hu).mp hc x hx)];omega
 intro a
 induction a with
 | zero =>
  intro e u hea hu h;rcases h with ⟨hc,he⟩ | ⟨hc,j,hj,he,hr⟩
  ·exact hcon e u hu hc he
  ·omega
 | succ a ih =>
  intro e u hea hu h;rcases h with ⟨hc,he⟩ | ⟨hc,j,hj,he,hr⟩
  ·exact hcon e u hu hc he
  ·obtain ⟨v,lv,H⟩:=g.nod j hj
   have hn:=H.nm;rw [hr] at hn;obtain rfl:u = v:=by omega
   subst he;obtain ⟨y,hy,hyn⟩:=ho.at_ lv H.lt;have h4:=V.lo j hj;have h5:=V.hi j hj;have hc1:=H.c1;have hc2:=H.c2;rw [hy,Int.toNat_natCast] at hc1 hc2;rw [vE_step V x hj,H.f0,hy,Int.toNat_natCast]
   cases hb:x.testBit y with
   | true =>
    rw [if_pos rfl,ih _ _ (by omega) (stkW_tab hle) (isC_le hc2 (by omega))];exact bitN_of (by rw [testBit_stkW hx,stk_on (by omega) (by omega) hb])
   | false =>
    rw [if_neg (by decide),ih _ _ (by omega) (stkW_tab hle) (isC_le hc1 (by omega))];exact bitN_of (by rw [testBit_stkW hx,stk_off (by omega) (by omega) hb])
theorem vE_free {nodes:List S56} {ord:List Int} (V:Vd nodes ord) {y:Nat} (h:∀ j:Nat,j < nodes.length → (rd_T56 nodes (j:Int)).f0 ≠ (y:Int)) (x:Nat):∀ (a:Nat) (e:Int),e < a → e < nodes.length → vE nodes (x ^^^ 2 ^ y) e = vE nodes x e:=by
 intro a
 induction a with
 | zero=>intro e h0 h1;unfold vE;rw [if_pos (by omega),if_pos (by omega)]
 | succ a ih =>
  intro e h0 h1
  by_cases h3:e < 0
  ·unfold vE;rw [if_pos h3,if_pos h3]
  ·obtain ⟨i,rfl⟩:=Int.eq_ofNat_of_zero_le (show 0 ≤ e by omega)
   have hi:i < nodes.length:=by omega
   have h4:=V.lo i hi;have h5:=V.hi i hi;have h6:=V.var i hi
   have hne:y ≠ (rd_T56 nodes (i:Int)).f0.toNat:=by
    intro e;exact h i hi (by rw [e,Int.toNat_of_nonneg h6.1])
   rw [vE_step V _ hi,vE_step V x hi,flip_other hne,ih (rd_T56 nodes i).f2 (by omega) (by omega),ih (rd_T56 nodes i).f1 (by omega) (by omega)]
theorem dep_node {n w:Nat} {ord names:List Int} {nodes:List S56} (ho:Ord n ord) (g:Gd n ord names nodes) (V:Vd nodes ord) (ht:Tab n w) (hr:IsC n names nodes.length ((nodes.length - 1:Nat):Int) w) {y:Nat} (hy:y < n) (hd:¬ ind n w y):∃ j:Nat,j < nodes.length ∧ (rd_T56 nodes (j:Int)).f0 = (y:Int):=by
 have hle:=ho.le;have hp:=pow_le hle;have h1:=V.one
 by_cases hq:∃ j:Nat,j < nodes.length ∧ (rd_T56 nodes (j:Int)).f0 = (y:Int)
 ·exact hq
 ·exfalso
  refine hd (ind_of (fun x hx=>?_));have ha:stk x y 0 < 2 ^ n:=stk_pow hle hx hy (by omega);have hb:stk x y 1 < 2 ^ n:=stk_pow hle hx hy (by omega);have e:=vE_free V (y:=y) (fun j hj e=>hq ⟨j,hj,e⟩) (stk x y 0) nodes.length ((nodes.length - 1:Nat):Int) (by omega) (by omega);rw [← stk_flip (by omega) (by omega),vE_word ho g V ha nodes.length _ w (by omega) ht hr,vE_word ho g V hb nodes.length _ w (by omega) ht hr] at e;unfold bitN at e
  revert e
  cases w.testBit (stk x y 0) <;> cases w.testBit (stk x y 1) <;> simp
def monoAt (n w i:Nat):Bool:=ldiff (resW (n - 1) w i 0) (resW (n - 1) w i 1) == 0
def mono (n w:Nat):Bool:=allN (monoAt n w) n
end Go.Proofs.YtflacbjpeecjcabGreatDoor.U
namespace Go.Proofs.YtflacbjpeecjcabGreatDoor.U
open Go.Proofs.YtflacbjpeecjcabGreatDoor.F Go.Proofs.YtflacbjpeecjcabGreatDoor.B
theorem bit_eq_one {w x:Nat}:((((bitN w x:Nat):Int)) = 1) ↔ w.testBit x = true:=by
  rw [← bitN_eq_one];exact ⟨fun h=>by exact_mod_cast h,fun h=>by exact_mod_cast h⟩
def filtN (p:Nat → Bool):Nat → List Int
  | 0=>[]
  | m + 1=>if p m then filtN p m ++ [(m:Int)] else filtN p m
theorem filtN_length (p:Nat → Bool) (m:Nat):(filtN p m).length ≤ m:=by
  induction m with
  | zero=>exact Nat.le_refl _
  | succ m ih=>rw [filtN];split
               · rw [List.length_append,List.length_singleton];omega
               · omega
def firstN {α:Type} (p:Nat → Option α):Nat → Nat → Option α
 | 0,_=>none
 | d + 1,i=>match p i with
  | some r=>some r
  | none=>firstN p d (i + 1)
def pop (x:Nat):Nat:=bitN x 0 + bitN x 1 + bitN x 2 + bitN x 3 + bitN x 4
def cnt (w:Nat):Nat:=cntN (fun i=>w.testBit i) 32
theorem cntN_add (p:Nat → Bool) (m:Nat):∀ n,cntN p (m + n) = cntN p m + cntN (fun i=>p (m + i)) n:=by
 intro n
 induction n with
 | zero=>rfl
 | succ n ih=>rw [← Nat.add_assoc,cntN,cntN,ih];omega
theorem cntN_first (p:Nat → Bool) (n:Nat):cntN p (n + 1) = (p 0).toNat + cntN (fun i=>p (i + 1)) n:=by
 rw [Nat.add_comm,cntN_add];simp only [cntN,Nat.zero_add]
 congr 2
 funext i
 rw [Nat.add_comm]
theorem cntN_zero {p:Nat → Bool} (h:∀ i,p i = false):∀ n,cntN p n = 0:=by
 intro n
 induction n with
 | zero=>rfl
 | succ n ih=>rw [cntN,ih,h];rfl
theorem ref_loop:∀ (n k a x:Nat),x < 2 ^ n → n < k → a + n < 9223372036854775808 → x < 9223372036854775808 →
  spec_l2Count.l0 k (a:Int) (x:Int) = some ((a + cntN (fun i=>x.testBit i) n:Nat):Int):=by
 intro n
 induction n with
 | zero =>
  intro k a x hx hk ha _;obtain ⟨k,rfl⟩:∃ m,k = m + 1:=⟨k - 1,by omega⟩;obtain rfl:x = 0:=by simpa using hx
  simp only [spec_l2Count.l0];rw [if_neg (by omega)]
  rfl
 | succ n ih =>
  intro k a x hx hk ha hx63;obtain ⟨k,rfl⟩:∃ m,k = m + 1:=⟨k - 1,by omega⟩;simp only [spec_l2Count.l0]
  by_cases h0:(x:Int) > 0
  ·have hb:Go.bits .and .i64 (x:Int) 1 = ((bitN x 0:Nat):Int):=by
    rw [← shr_and_one,Nat.shiftRight_zero];exact and_cast (b:=1) hx63 (by decide)
   have h1:=bitN_le x 0;rw [if_pos h0,hb,show wrap64 ((a:Int) + ((bitN x 0:Nat):Int)) = ((a + bitN x 0:Nat):Int) by rw [wrap64_of (by omega) (by omega)];omega,show ((x:Int) / 2) = ((x / 2:Nat):Int) by simp];rw [ih k (a + bitN x 0) (x / 2) (by rw [Nat.pow_succ] at hx;omega) (by omega) (by omega) (by omega),cntN_first]
   congr 2
   have e:(fun i=>(x / 2).testBit i) = fun i=>x.testBit (i + 1):=by funext i;rw [Nat.testBit_succ]
   rw [e]
   show a + (x.testBit 0).toNat + _ = _
   omega
  ·obtain rfl:x = 0:=by omega
   rw [if_neg h0,cntN_zero (fun i=>Nat.zero_testBit i)]
   rfl
theorem cnt_ref {x k:Nat} (hx:x < 4294967296) (hk:33 ≤ k):spec_l2Count.f k x = some ((cnt x:Nat):Int):=by
 have h:=ref_loop 32 k 0 x hx (by omega) (by omega) (by omega);rw [Nat.zero_add] at h;exact h
theorem land_lane (k:Nat) {a c:Nat} (b d:Nat) (ha:a < 2 ^ k) (hc:c < 2 ^ k):(a + 2 ^ k * b) &&& (c + 2 ^ k * d) = (a &&& c) + 2 ^ k * (b &&& d):=by
 have hac:a &&& c < 2 ^ k:=Nat.and_lt_two_pow _ hc
 apply Nat.eq_of_testBit_eq
 intro i;rw [Nat.testBit_and,Nat.add_comm a,Nat.add_comm c,Nat.add_comm (a &&& c),Nat.testBit_two_pow_mul_add _ ha,Nat.testBit_two_pow_mul_add _ hc,Nat.testBit_two_pow_mul_add _ hac]
 split
 ·rw [Nat.testBit_and]
 ·rw [Nat.testBit_and]
theorem lane_bit (a y i:Nat) (ha:a < 256):(a + 256 * y).testBit (8 + i) = y.testBit i ∧ (i < 8 → (a + 256 * y).testBit i = a.testBit i):=by
 have h:∀ j,(a + 256 * y).testBit j = if j < 8 then a.testBit j else y.testBit (j - 8):=fun j=>by
  rw [Nat.add_comm];exact Nat.testBit_two_pow_mul_add y (i:=8) ha j
 constructor
 ·rw [h,if_neg (by omega),show 8 + i - 8 = i by omega]
 ·intro hi;rw [h,if_pos hi]
def cnt8 (a:Nat):Nat:=cntN (fun i=>a.testBit i) 8
theorem cnt_lane (a y n:Nat) (ha:a < 256):cntN (fun i=>(a + 256 * y).testBit i) (8 + n) = cnt8 a + cntN (fun i=>y.testBit i) n:=by
 rw [cntN_add]
 congr 1
 ·exact cntN_congr fun i hi=>(lane_bit a y i ha).2 hi
 ·exact cntN_congr fun i _=>(lane_bit a y i ha).1
theorem byte_split {n x:Nat} (hx:x < 256 * n):∃ a y,x = a + 256 * y ∧ a < 256 ∧ y < n:=⟨x % 256,x / 256,by omega,by omega,by omega⟩
theorem bytes_of {x:Nat} (hx:x < 4294967296):∃ a b c d,x = a + 256 * (b + 256 * (c + 256 * d)) ∧ a < 256 ∧ b < 256 ∧ c < 256 ∧ d < 256:=by
 obtain ⟨a,y,rfl,ha,hy⟩:=byte_split (n:=16777216) (x:=x) (by omega);obtain ⟨b,z,rfl,hb,hz⟩:=byte_split (n:=65536) (x:=y) (by omega);obtain ⟨c,d,rfl,hc,hd⟩:=byte_split (n:=256) (x:=z) (by omega);exact ⟨a,b,c,d,rfl,ha,hb,hc,hd⟩
theorem cnt_bytes {a b c d:Nat} (ha:a < 256) (hb:b < 256) (hc:c < 256) (hd:d < 256):cnt (a + 256 * (b + 256 * (c + 256 * d))) = cnt8 a + cnt8 b + cnt8 c + cnt8 d:=by
 have h1:cnt (a + 256 * (b + 256 * (c + 256 * d))) = cnt8 a + cntN (fun i=>(b + 256 * (c + 256 * d)).testBit i) 24:=cnt_lane a _ 24 ha;have h2:cntN (fun i=>(b + 256 * (c + 256 * d)).testBit i) 24 = cnt8 b + cntN (fun i=>(c + 256 * d).testBit i) 16:=cnt_lane b _ 16 hb;have h3:cntN (fun i=>(c + 256 * d).testBit i) 16 = cnt8 c + cnt8 d:=cnt_lane c d 8 hc;rw [h1,h2,h3,Nat.add_assoc,Nat.add_assoc]
def t1 (a:Nat):Nat:=(a / 2 &&& 85) + (a &&& 85)
def t2 (a:Nat):Nat:=(a / 4 &&& 51) + (a &&& 51)
def t3 (a:Nat):Nat:=(a / 16 + a) &&& 15
theorem t_facts {a:Nat} (ha:a < 256):t1 a < 256 ∧ t2 (t1 a) ≤ 68 ∧ t2 (t1 a) % 16 ≤ 4 ∧ t3 (t2 (t1 a)) = cnt8 a ∧ cnt8 a ≤ 8:=by
 have h:∀ a:Fin 256,t1 a.val < 256 ∧ t2 (t1 a.val) ≤ 68 ∧ t2 (t1 a.val) % 16 ≤ 4 ∧ t3 (t2 (t1 a.val)) = cnt8 a.val ∧ cnt8 a.val ≤ 8:=by decide +kernel
 exact h ⟨a,ha⟩
theorem mask1 {a b:Nat} (ha:a < 256):(a / 2 + 128 * (b % 2)) &&& 85 = a / 2 &&& 85:=by
 have h:∀ a:Fin 256,∀ b:Fin 2,(a.val / 2 + 128 * b.val) &&& 85 = a.val / 2 &&& 85:=by decide +kernel
 exact h ⟨a,ha⟩ ⟨b % 2,by omega⟩
theorem mask2 {a b:Nat} (ha:a < 256):(a / 4 + 64 * (b % 4)) &&& 51 = a / 4 &&& 51:=by
 have h:∀ a:Fin 256,∀ b:Fin 4,(a.val / 4 + 64 * b.val) &&& 51 = a.val / 4 &&& 51:=by decide +kernel
 exact h ⟨a,ha⟩ ⟨b % 4,by omega⟩
theorem mask3 {a b:Nat} (ha:a ≤ 68) (hb:b ≤ 4):(a / 16 + a + 16 * b) &&& 15 = (a / 16 + a) &&& 15:=by
 have h:∀ a:Fin 69,∀ b:Fin 5,(a.val / 16 + a.val + 16 * b.val) &&& 15 = (a.val / 16 + a.val) &&& 15:=by decide +kernel
 exact h ⟨a,by omega⟩ ⟨b,by omega⟩
theorem step1 {a y d:Nat} (ha:a < 256):((a + 256 * y) / 2 &&& (85 + 256 * d)) + ((a + 256 * y) &&& (85 + 256 * d)) = t1 a + 256 * ((y / 2 &&& d) + (y &&& d)):=by
 have e1:=land_lane 8 (a:=a) (c:=85) y d ha (by decide);have e2:=land_lane 8 (a:=a / 2 + 128 * (y % 2)) (c:=85) (y / 2) d (by show _ < 256;omega) (by decide);have e3:=mask1 (b:=y) ha;have e4:(a + 256 * y) / 2 = a / 2 + 128 * (y % 2) + 2 ^ 8 * (y / 2):=by show _ = _ + 256 * _;omega
 have e5:a + 256 * y = a + 2 ^ 8 * y:=rfl;have e6:85 + 256 * d = 85 + 2 ^ 8 * d:=rfl;rw [e4,e6,e2,e5,e1,e3];unfold t1
 show _ + 256 * _ + (_ + 256 * _) = _
 omega
theorem step2 {a y d:Nat} (ha:a < 256):((a + 256 * y) / 4 &&& (51 + 256 * d)) + ((a + 256 * y) &&& (51 + 256 * d)) = t2 a + 256 * ((y / 4 &&& d) + (y &&& d)):=by
 have e1:=land_lane 8 (a:=a) (c:=51) y d ha (by decide);have e2:=land_lane 8 (a:=a / 4 + 64 * (y % 4)) (c:=51) (y / 4) d (by show _ < 256;omega) (by decide);have e3:=mask2 (b:=y) ha;have e4:(a + 256 * y) / 4 = a / 4 + 64 * (y % 4) + 2 ^ 8 * (y / 4):=by show _ = _ + 256 * _;omega
 have e5:a + 256 * y = a + 2 ^ 8 * y:=rfl;have e6:51 + 256 * d = 51 + 2 ^ 8 * d:=rfl;rw [e4,e6,e2,e5,e1,e3];unfold t2
 show _ + 256 * _ + (_ + 256 * _) = _
 omega
theorem step3 {a y d:Nat} (ha:a ≤ 68) (hy:y % 16 ≤ 4):((a + 256 * y) / 16 + (a + 256 * y)) &&& (15 + 256 * d) = t3 a + 256 * ((y / 16 + y) &&& d):=by
 have e2:=land_lane 8 (a:=a / 16 + a + 16 * (y % 16)) (c:=15) (y / 16 + y) d (by show _ < 256;omega) (by decide);have e3:=mask3 ha hy;have e4:(a + 256 * y) / 16 + (a + 256 * y) = a / 16 + a + 16 * (y % 16) + 2 ^ 8 * (y / 16 + y):=by show _ = _ + 256 * _;omega
 have e6:15 + 256 * d = 15 + 2 ^ 8 * d:=rfl;rw [e4,e6,e2,e3]
 rfl
theorem and_low {x c:Nat} (hx:x < 4294967296):x &&& (c % 4294967296 + 4294967296 * (c / 4294967296)) = x &&& (c % 4294967296):=by
 have e:=land_lane 32 (a:=x) (c:=c % 4294967296) 0 (c / 4294967296) hx (Nat.mod_lt _ (by decide));rw [Nat.mul_zero,Nat.add_zero,Nat.zero_and,Nat.mul_zero,Nat.add_zero] at e;exact e
theorem low0 {x:Nat} (hx:x < 4294967296):x &&& 6148914691236517205 = x &&& (85 + 256 * (85 + 256 * (85 + 256 * 85))):=and_low (c:=6148914691236517205) hx
theorem low1 {x:Nat} (hx:x < 4294967296):x &&& 3689348814741910323 = x &&& (51 + 256 * (51 + 256 * (51 + 256 * 51))):=and_low (c:=3689348814741910323) hx
theorem low2 {x:Nat} (hx:x < 4294967296):x &&& 1085102592571150095 = x &&& (15 + 256 * (15 + 256 * (15 + 256 * 15))):=and_low (c:=1085102592571150095) hx
theorem andu_cast {a b:Nat} (ha:a < 9223372036854775808) (hb:b < 9223372036854775808):Go.bits .and .u64 (a:Int) (b:Int) = ((a &&& b:Nat):Int):=by
 have h:=Nat.and_lt_two_pow a (lt63 hb);have e:(BitVec.ofNat 64 a &&& BitVec.ofNat 64 b).toNat = a &&& b:=by rw [BitVec.toNat_and,BitVec.toNat_ofNat,BitVec.toNat_ofNat,mod64 ha,mod64 hb]
 simp only [Go.bits,IntKind.bits,BitVec.ofInt_natCast];exact (congrArg (fun m:Nat=>IntKind.u64.wrap (m:Int)) e).trans (wrapu_of (n:=((a &&& b:Nat):Int)) (by omega) (by omega))
theorem wrapu_cast {n:Nat} (h:n < 18446744073709551616):IntKind.u64.wrap (n:Int) = n:=wrapu_of (by omega) (by omega)
theorem stage1 {x:Nat} (hx:x < 4294967296):IntKind.u64.wrap (Go.bits .and .u64 ((x:Int) / 2) 6148914691236517205 + Go.bits .and .u64 (x:Int) 6148914691236517205) = (((x / 2 &&& 6148914691236517205) + (x &&& 6148914691236517205):Nat):Int):=by
 have h1:x / 2 &&& 6148914691236517205 ≤ x / 2:=Nat.and_le_left;have h2:x &&& 6148914691236517205 ≤ x:=Nat.and_le_left;have e1:Go.bits .and .u64 ((x:Int) / 2) 6148914691236517205 = ((x / 2 &&& 6148914691236517205:Nat):Int):=andu_cast (a:=x / 2) (b:=6148914691236517205) (by omega) (by decide);have e2:Go.bits .and .u64 (x:Int) 6148914691236517205 = ((x &&& 6148914691236517205:Nat):Int):=andu_cast (b:=6148914691236517205) (by omega) (by decide);rw [e1,e2,← Int.natCast_add,wrapu_cast (by omega)]
theorem stage2 {x:Nat} (hx:x < 4294967296):IntKind.u64.wrap (Go.bits .and .u64 ((x:Int) / 4) 3689348814741910323 + Go.bits .and .u64 (x:Int) 3689348814741910323) = (((x / 4 &&& 3689348814741910323) + (x &&& 3689348814741910323):Nat):Int):=by
 have h1:x / 4 &&& 3689348814741910323 ≤ x / 4:=Nat.and_le_left;have h2:x &&& 3689348814741910323 ≤ x:=Nat.and_le_left;have e1:Go.bits .and .u64 ((x:Int) / 4) 3689348814741910323 = ((x / 4 &&& 3689348814741910323:Nat):Int):=andu_cast (a:=x / 4) (b:=3689348814741910323) (by omega) (by decide);have e2:Go.bits .and .u64 (x:Int) 3689348814741910323 = ((x &&& 3689348814741910323:Nat):Int):=andu_cast (b:=3689348814741910323) (by omega) (by decide);rw [e1,e2,← Int.natCast_add,wrapu_cast (by omega)]
theorem stage3 {x:Nat} (hx:x < 4294967296):Go.bits .and .u64 (IntKind.u64.wrap ((x:Int) / 16 + (x:Int))) 1085102592571150095 = (((x / 16 + x) &&& 1085102592571150095:Nat):Int):=by
 rw [show ((x:Int) / 16 + (x:Int)) = ((x / 16 + x:Nat):Int) by simp,wrapu_cast (by omega)];exact andu_cast (b:=1085102592571150095) (by omega) (by decide)
theorem stage4 {x:Nat} (n:Nat) (hx:x < 4294967296):IntKind.u64.wrap ((x:Int) + (x:Int) / (n:Int)) = ((x + x / n:Nat):Int):=by
 have:x / n ≤ x:=Nat.div_le_self _ _;rw [show ((x:Int) + (x:Int) / (n:Int)) = ((x + x / n:Nat):Int) by simp,wrapu_cast (by omega)]
theorem cnt_ones {x:Nat} (hx:x < 4294967296):impl_ones.f x = some ((cnt x:Nat):Int):=by
 obtain ⟨a,b,c,d,rfl,ha,hb,hc,hd⟩:=bytes_of hx;obtain ⟨a1,a2,a3,a4,a5⟩:=t_facts ha;obtain ⟨b1,b2,b3,b4,b5⟩:=t_facts hb;obtain ⟨c1,c2,c3,c4,c5⟩:=t_facts hc;obtain ⟨d1,d2,d3,d4,d5⟩:=t_facts hd;rw [cnt_bytes ha hb hc hd];have f1:=stage1 hx;rw [low0 hx,low0 (x:=(a + 256 * (b + 256 * (c + 256 * d))) / 2) (by omega),step1 ha,step1 hb,step1 hc,show (d / 2 &&& 85) + (d &&& 85) = t1 d from rfl] at f1;have g1:t1 a + 256 * (t1 b + 256 * (t1 c + 256 * t1 d)) < 4294967296:=by omega
 have f2:=stage2 g1;rw [low1 g1,low1 (x:=(t1 a + 256 * (t1 b + 256 * (t1 c + 256 * t1 d))) / 4) (by omega),step2 a1,step2 b1,step2 c1,show (t1 d / 4 &&& 51) + (t1 d &&& 51) = t2 (t1 d) from rfl] at f2;have g2:t2 (t1 a) + 256 * (t2 (t1 b) + 256 * (t2 (t1 c) + 256 * t2 (t1 d))) < 2000000000:=by omega
 have f3:=stage3 (x:=t2 (t1 a) + 256 * (t2 (t1 b) + 256 * (t2 (t1 c) + 256 * t2 (t1 d)))) (by omega);rw [low2 (x:=(t2 (t1 a) + 256 * (t2 (t1 b) + 256 * (t2 (t1 c) + 256 * t2 (t1 d)))) / 16 + (t2 (t1 a) + 256 * (t2 (t1 b) + 256 * (t2 (t1 c) + 256 * t2 (t1 d))))) (by omega),step3 a2 (by omega),step3 b2 (by omega),step3 c2 (by omega),show (t2 (t1 d) / 16 + t2 (t1 d)) &&& 15 = t3 (t2 (t1 d)) from rfl,a4,b4,c4,d4] at f3;unfold impl_ones.f bits_OnesCount64.f;rw [wrapu_cast (n:=a + 256 * (b + 256 * (c + 256 * d))) (by omega),f1,f2,f3];clear f1 f2 f3 g1 g2 a1 a2 a3 a4 b1 b2 b3 b4 c1 c2 c3 c4 d1 d2 d3 d4 hx;generalize cnt8 a = p at a5 ⊢;generalize cnt8 b = q at b5 ⊢;generalize cnt8 c = r at c5 ⊢;generalize cnt8 d = s at d5 ⊢;have h1:=stage4 (x:=p + 256 * (q + 256 * (r + 256 * s))) 256 (by omega);have h2:=stage4 (x:=p + 256 * (q + 256 * (r + 256 * s)) + (p + 256 * (q + 256 * (r + 256 * s))) / 256) 65536 (by omega);rw [show ((p + 256 * (q + 256 * (r + 256 * s)) + (p + 256 * (q + 256 * (r + 256 * s))) / 256) + (p + 256 * (q + 256 * (r + 256 * s)) + (p + 256 * (q + 256 * (r + 256 * s))) / 256) / 65536) = (p + q + r + s) + 256 * ((q + r + s) + 256 * ((r + s) + 256 * s)) by omega] at h2;have h3:=stage4 (x:=(p + q + r + s) + 256 * ((q + r + s) + 256 * ((r + s) + 256 * s))) 4294967296 (by omega);rw [show (p + q + r + s) + 256 * ((q + r + s) + 256 * ((r + s) + 256 * s)) + ((p + q + r + s) + 256 * ((q + r + s) + 256 * ((r + s) + 256 * s))) / 4294967296 = (p + q + r + s) + 256 * ((q + r + s) + 256 * ((r + s) + 256 * s)) by omega] at h3;have e1:((256:Nat):Int) = 256:=rfl;have e2:((65536:Nat):Int) = 65536:=rfl;have e3:((4294967296:Nat):Int) = 4294967296:=rfl;rw [e1] at h1;rw [e2] at h2;rw [e3] at h3;rw [h1,h2,h3,wrap64_cast (by omega)];have e4:Go.bits .and .i64 (((p + q + r + s) + 256 * ((q + r + s) + 256 * ((r + s) + 256 * s)):Nat):Int) 127 = ((((p + q + r + s) + 256 * ((q + r + s) + 256 * ((r + s) + 256 * s))) &&& 127:Nat):Int):=and_cast (b:=127) (by omega) (by decide);rw [e4,show (127:Nat) = 2 ^ 7 - 1 from rfl,Nat.and_two_pow_sub_one_eq_mod,Option.bind_some]
 congr 2
 show _ % 128 = _
 omega
theorem cntN_cut {p:Nat → Bool} {m:Nat} (h:∀ i,m ≤ i → p i = false):∀ r,cntN p (m + r) = cntN p m:=by
 intro r
 induction r with
 | zero=>rfl
 | succ r ih=>rw [← Nat.add_assoc,cntN,ih,h _ (by omega)];rfl
theorem per_rows {n:Nat} (hn:n ≤ 4):0 < (perF n n []).length ∧ (perF n n []).length < 1000 ∧ ∀ r ∈ perF n n [],r.length = n ∧ isPerm r = true:=by
 have h:∀ n:Fin 5,0 < (perF n.val n.val []).length ∧ (perF n.val n.val []).length < 1000 ∧ ∀ r ∈ perF n.val n.val [],r.length = n.val ∧ isPerm r = true:=by decide +kernel
 exact h ⟨n,by omega⟩
theorem per_scan {n x:Nat} {l:List Int} {acc:List (List Int)} (hl:l.length ≤ 4):∀ (e k j:Nat) (b:Bool),j + e = l.length → spec_l4Perms.l1 (k + e) n l acc x b j = spec_l4Perms.l1 k n l acc x (b || (l.drop j).contains (x:Int)) (l.length:Nat):=by
 intro e
 induction e with
 | zero =>
  intro k j b hj;obtain rfl:j = l.length:=by omega
  rw [List.drop_length];simp
 | succ e ih =>
  intro k j b hj
  have hd:l.drop j = rd l j :: l.drop (j + 1):=by
   rw [List.drop_eq_getElem_cons (show j < l.length by omega),rd_get l (show j < l.length by omega)]
  rw [show k + (e + 1) = (k + e) + 1 by omega,spec_l4Perms.l1,if_pos (by omega),wrap64_succ (by omega),hd,List.contains_cons]
  cases b with
  | true=>rw [if_pos rfl,ih k (j + 1) true (by omega),Bool.true_or,Bool.true_or]
  | false =>
   rw [if_neg (by decide),if_pos (Int.natCast_nonneg _),ih k (j + 1) _ (by omega),Bool.false_or]
   congr 2
   rw [Bool.eq_iff_iff,beq_iff_eq,beq_iff_eq];exact ⟨fun h=>h.symm,fun h=>h.symm⟩
theorem perUp_le {f:Nat → List (List Int)} {m x:Nat} (h:∀ x,(f x).length ≤ m):(perUp f x).length ≤ x * m:=perUp_len h x
theorem perms_eq {n:Nat} (hn:n ≤ 4):∀ (d k:Nat) (l:List Int),l.length + d = n → d * 100 + 10 < k → spec_l4Perms.f k n l = some (perF n d l):=by
 intro d
 induction d with
 | zero =>
  intro k l hl hk;obtain ⟨k,rfl⟩:∃ m,k = m + 1:=⟨k - 1,by omega⟩;rw [spec_l4Perms.f,if_pos (by omega),perF]
 | succ d ih =>
  intro k l hl hk;obtain ⟨k,rfl⟩:∃ m,k = m + 1:=⟨k - 1,by omega⟩;rw [spec_l4Perms.f,if_neg (by omega),perF];obtain ⟨f,hf⟩:∃ f:Nat → List (List Int),f = fun x:Nat=>if l.contains (x:Int) = true then [] else perF n d (l ++ [(x:Int)]):=⟨_,rfl⟩
  rw [← hf];have hp:n ^ d ≤ 4 ^ 4:=Nat.le_trans (Nat.pow_le_pow_left hn d) (Nat.pow_le_pow_right (by decide) (by omega))
  have hfl:∀ x,(f x).length ≤ 256:=fun x=>by
   rw [hf]
   show (if l.contains (x:Int) = true then [] else perF n d (l ++ [(x:Int)])).length ≤ 256
   split
   ·exact Nat.zero_le _
   ·exact Nat.le_trans (perF_len n d _) hp
  have loop:∀ (e k x:Nat),x + e = n → e * 10 + d * 100 + 30 < k → spec_l4Perms.l0 k n l (perUp f x) x = some (perUp f n):=by
   intro e
   induction e with
   | zero =>
    intro k x hx hk;obtain ⟨k,rfl⟩:∃ m,k = m + 1:=⟨k - 1,by omega⟩;obtain rfl:x = n:=by omega
    rw [spec_l4Perms.l0,if_neg (by omega)]
   | succ e ihe =>
    intro k x hx hk;obtain ⟨k,rfl⟩:∃ m,k = m + 1 + l.length + 1:=⟨k - 2 - l.length,by omega⟩;have h1:=perUp_le (x:=x) hfl;have h2:x * 256 ≤ 4 * 256:=Nat.mul_le_mul_right 256 (by omega);have h3:=hfl x;have hs:=per_scan (n:=n) (x:=x) (l:=l) (acc:=perUp f x) (by omega) l.length (k + 1) 0 false (by omega);rw [List.drop_zero,Bool.false_or] at hs;have hs':spec_l4Perms.l1 (k + 1 + l.length) n l (perUp f x) x false 0 = spec_l4Perms.l1 (k + 1) n l (perUp f x) x (l.contains (x:Int)) (l.length:Nat):=hs;rw [spec_l4Perms.l0,if_pos (by omega),hs',spec_l4Perms.l1,if_neg (by omega)];have hfx:f x = if l.contains (x:Int) = true then [] else perF n d (l ++ [(x:Int)]):=by rw [hf]
    have hnx:=ihe k (x + 1) (by omega) (by omega)
    cases hc:l.contains (x:Int) with
    | true =>
     rw [hc,if_pos rfl] at hfx;rw [perUp,hfx,List.append_nil] at hnx;rw [if_pos rfl,wrap64_succ (by omega)];exact hnx
    | false =>
     rw [hc,if_neg (by decide)] at hfx;rw [perUp] at hnx;rw [if_neg (by decide),Option.bind_some,if_pos (by rw [List.length_nil];omega),Option.bind_some,List.nil_append,if_pos (by omega),ih k (l ++ [(x:Int)]) (by rw [List.length_append,List.length_singleton];omega) (by omega),Option.bind_some,← hfx,if_pos (by omega),wrap64_succ (by omega)];exact hnx
  exact loop n k 0 (by omega) (by omega)
theorem dia_row {n w:Nat} {r:List Int} (ht:Tab n w) (hr:r.length = n ∧ isPerm r = true):impl_Table_diagram.f n w r = some (bld n r n 0 w [] []).2.2 ∧ (bld n r n 0 w [] []).2.2.length < 1000:=by
 have ho:=ord_of ht.1 hr.1 hr.2;have hp:=pow_le ht.1;have hn:=ht.1;have hw:=walk_bld ho n 10 0 w [] [] (by omega) (by omega) ht (fun j hj=>absurd hj (Nat.not_lt_zero _)) (by rw [List.length_nil];omega);have hlen:=(bld_len (n:=n) (ord:=r) n 0 w [] []).2.1;rw [List.length_nil] at hlen;refine ⟨?_,by omega⟩;unfold impl_Table_diagram.f;rw [if_pos ⟨wf_small (by omega),by omega⟩,hw,Option.bind_some]
theorem size_row {n w k:Nat} {r:List Int} (ht:Tab n w) (hr:r.length = n ∧ isPerm r = true) (hk:1200000000001 < k):spec_SizeOfDiagram.f k n w r = some ((dgN n w r:Nat):Int):=by
 have hn:=ht.1;have hd:=spec_diagram (n:Int) (w:Int) (l:=r) (k:=k) (by omega) hk;have h1:=(dia_row ht hr).1
 have e:diaI (n:Int) (w:Int) r = ((bld n r n 0 w [] []).2.2,true):=by
  unfold diaI;rw [if_pos (isTab_of ht),if_pos (by rw [Bool.and_eq_true,decide_eq_true_eq];exact ⟨by omega,hr.2⟩),Int.toNat_natCast,Int.toNat_natCast]
 unfold spec_SizeOfDiagram.f dgN;rw [hd,h1,Option.bind_some,Option.getD_some,e,if_pos rfl]
theorem all_rows {n w:Nat} (ht:Tab n w) {xs:List (List Int)} (h:∀ r ∈ xs,r.length = n ∧ isPerm r = true):dgOk n w xs = true:=by
 have hn:=ht.1;unfold dgOk;refine List.all_eq_true.mpr (fun r hr=>?_);obtain ⟨h1,h2⟩:=dia_row ht (h r hr);have h3:=(h r hr).1;rw [h1];generalize (bld n r n 0 w [] []).2.2 = nodes at h2
 show (decide (nodes.length < 1000) && decide (r.length < 1000)) = true
 rw [decide_eq_true h2,decide_eq_true (show r.length < 1000 by omega)]
 rfl
def leI (a b:Int):List Int × Int × Bool:=if isTab a b = true then (if a ≤ 4 then ((lstF (dgN a b) (perF a.toNat a.toNat []) [] (-1)).1,(lstF (dgN a b) (perF a.toNat a.toNat []) [] (-1)).2,true) else ([],0,false)) else ([],0,false)
theorem impl_least {a b:Int} (h0:-9223372036854775808 ≤ b) (h1:b ≤ 9223372036854775807):impl_LeastOrder.f a b = some (leI a b):=by
 unfold impl_LeastOrder.f impl_isSmall.f leI;rw [impl_isTable h0 h1,Option.bind_some]
 cases hT:isTab a b with
 | false=>rw [if_neg (by decide),Option.bind_some,if_neg (by decide),if_neg (by decide)]
 | true =>
  obtain ⟨n,w,rfl,rfl,ht⟩:=tab_of hT;rw [if_pos rfl,Option.bind_some,if_pos rfl]
  by_cases h4:(n:Int) ≤ 4
  ·have hr:=per_rows (n:=n) (by omega)
   rw [decide_eq_true h4,if_pos rfl,if_pos h4];unfold impl_permutations.f;rw [if_pos ⟨Int.natCast_nonneg _,h4⟩,Int.toNat_natCast,Option.bind_some,if_pos ⟨all_rows ht hr.2.2,hr.2.1⟩]
  ·rw [decide_eq_false h4,if_neg (by decide),if_neg h4]
theorem rdRL {xs:List (List Int)} {x:Nat} (h:x < xs.length):rd_L3 xs (x:Int) = lrd xs x:=rfl
theorem least_loop {n w:Nat} (ht:Tab n w) {xs:List (List Int)} (hx:xs.length < 1000) (h:∀ r ∈ xs,r.length = n ∧ isPerm r = true):∀ (e k i b:Nat) (m:Nat),i + e = xs.length → b < xs.length → e + 1300000000000 < k →
  spec_LeastOrder.l0 k xs b m i n w = some ((lstF (dgN n w) (xs.drop i) (lrd xs b) m).1,(lstF (dgN n w) (xs.drop i) (lrd xs b) m).2,true):=by
 intro e
 induction e with
 | zero =>
  intro k i b m hi hb hk;obtain ⟨k,rfl⟩:∃ m,k = m + 1:=⟨k - 1,by omega⟩;obtain rfl:i = xs.length:=by omega
  rw [spec_LeastOrder.l0,if_neg (by omega),if_pos (Int.natCast_nonneg _),if_pos (by omega),List.drop_length,lstF]
  rfl
 | succ e ih =>
  intro k i b m hi hb hk;obtain ⟨k,rfl⟩:∃ m,k = m + 1:=⟨k - 1,by omega⟩;have hil:i < xs.length:=by omega
  have hm:=h _ (lrd_mem hil);rw [spec_LeastOrder.l0,if_pos (by omega),if_pos (Int.natCast_nonneg _),rdRL hil,size_row ht hm (by omega),Option.bind_some,lrd_drop hil,lstF,wrap64_succ (by omega)];generalize dgN n w (lrd xs i) = s
  by_cases hs:(s:Int) < (m:Int)
  ·rw [if_pos hs,if_pos (.inr hs)]
   exact ih k (i + 1) i s (by omega) hil (by omega)
  ·rw [if_neg hs,if_neg (by omega)]
   exact ih k (i + 1) b m (by omega) hb (by omega)
theorem spec_least (a b:Int) {k:Nat} (hk:1400000000000 < k):spec_LeastOrder.f k a b = some (leI a b):=by
 obtain ⟨k,rfl⟩:∃ m,k = m + 1:=⟨k - 1,by omega⟩;unfold spec_LeastOrder.f leI;rw [spec_isTable,Option.bind_some]
 cases hT:isTab a b with
 | false=>rw [if_neg (by decide),if_neg (by decide),spec_LeastOrder.j0,if_pos rfl]
 | true =>
  obtain ⟨n,w,rfl,rfl,ht⟩:=tab_of hT;rw [if_pos rfl,if_pos rfl,spec_LeastOrder.j0]
  by_cases h4:(n:Int) ≤ 4
  ·obtain ⟨r1,r2,r3⟩:=per_rows (n:=n) (by omega)
   have hp:=perms_eq (n:=n) (by omega) n k [] (by simp) (by omega);have hp':spec_l4Perms.f k n ([]:List Int) = some (perF n n []):=hp;rw [decide_eq_false (show ¬ (n:Int) > 4 by omega),if_neg (by decide),hp',Option.bind_some,if_pos h4,Int.toNat_natCast];generalize perF n n [] = xs at r1 r2 r3;have e0:rd_L3 xs 0 = lrd xs (0:Nat):=rfl;have hd:=lrd_drop r1;rw [List.drop_zero] at hd;rw [if_pos (by omega),e0,size_row ht (r3 _ (lrd_mem r1)) (by omega),Option.bind_some];have hl:=least_loop ht r2 r3 (xs.length - 1) k 1 0 (dgN n w (lrd xs (0:Nat))) (by omega) r1 (by omega)
   have e1:lstF (dgN n w) xs [] (-1) = lstF (dgN n w) (xs.drop 1) (lrd xs (0:Nat)) (dgN n w (lrd xs (0:Nat))):=by
    rw [hd,lstF,if_pos (.inl (by decide)),← hd]
   rw [e1];exact hl
  ·rw [decide_eq_true (show (n:Int) > 4 by omega),if_pos rfl,if_neg h4]
theorem lstF_len {sz:List Int → Nat} {n:Nat}:∀ (xs:List (List Int)) (b:List Int) (m:Int),(∀ r ∈ xs,r.length ≤ n) → b.length ≤ n → (lstF sz xs b m).1.length ≤ n:=by
 intro xs
 induction xs with
 | nil=>intro b m _ hb;exact hb
 | cons r rs ih =>
  intro b m h hb;rw [lstF]
  split
  ·exact ih r _ (fun q hq=>h q (List.mem_cons_of_mem _ hq)) (h r (List.mem_cons_self ..))
  ·exact ih b m (fun q hq=>h q (List.mem_cons_of_mem _ hq)) hb
theorem leI_len (a b:Int):(leI a b).1.length ≤ 4:=by
 unfold leI
 cases hT:isTab a b with
 | false=>rw [if_neg (by decide)];exact Nat.zero_le _
 | true =>
  obtain ⟨n,w,rfl,rfl,ht⟩:=tab_of hT;rw [if_pos rfl]
  by_cases h4:(n:Int) ≤ 4
  ·obtain ⟨_,_,r3⟩:=per_rows (n:=n) (by omega)
   rw [if_pos h4,Int.toNat_natCast];exact lstF_len _ _ _ (fun r hr=>by have:=(r3 r hr).1;omega) (Nat.zero_le _)
  ·rw [if_neg h4];exact Nat.zero_le _
def noInp (n:Nat) (x:Int):Bool:=!decide (0 ≤ x ∧ x < ((2 ^ n:Nat):Int))
theorem isInput_some {n:Nat} (hn:n ≤ 5) (x:Int):impl_isInput.f n x = some (!noInp n x):=by
 have hM:=pow_le hn;unfold impl_isInput.f noInp;rw [Bool.not_not]
 by_cases h:x ≥ 0
 ·rw [if_pos h,if_pos (Int.natCast_nonneg _),shl1_of (by omega)];congr 1;exact decide_eq_decide.mpr (by omega)
 ·rw [if_neg h];congr 1;symm;exact decide_eq_false (by omega)
def I64 (x:Int):Prop:=-9223372036854775808 ≤ x ∧ x ≤ 9223372036854775807
theorem isTab_I {a b:Int} (h:I64 b):impl_IsTable.f a b = some (isTab a b):=impl_isTable h.1 h.2
def cntI (a b:Int):Int:=if isTab a b = true then ((cnt b.toNat:Nat):Int) else -1
theorem impl_cntI {a b:Int} (hb:I64 b):impl_CountOnes.f a b = some (cntI a b):=by
 unfold impl_CountOnes.f cntI;rw [isTab_I hb,Option.bind_some]
 by_cases h:isTab a b = true
 ·obtain ⟨n,w,rfl,rfl,ht⟩:=tab_of h
  rw [if_pos h,if_pos h,cnt_ones ht.lt,Option.bind_some,Int.toNat_natCast]
 ·rw [if_neg h,if_neg h]
def valI (a b x:Int):Int:=if isTab a b = true then (if noInp a.toNat x = true then -1 else ((bitN b.toNat x.toNat:Nat):Int)) else -1
theorem impl_valI {a b:Int} (x:Int) (hb:I64 b):impl_ValueAt.f a b x = some (valI a b x):=by
 unfold impl_ValueAt.f impl_hasInput.f valI;rw [isTab_I hb,Option.bind_some]
 by_cases h:isTab a b = true
 ·obtain ⟨n,w,rfl,rfl,ht⟩:=tab_of h
  have hM:=pow_le ht.1;rw [if_pos h,if_pos h,isInput_some ht.1,Option.bind_some,Option.bind_some,Int.toNat_natCast,Int.toNat_natCast]
  by_cases hx:noInp n x = true
  ·rw [hx,if_neg (by decide),if_pos rfl]
  ·have hx':noInp n x = false:=by simpa using hx
   have hd:decide (0 ≤ x ∧ x < ((2 ^ n:Nat):Int)) = true:=by unfold noInp at hx';simpa using hx'
   have hd:=of_decide_eq_true hd;obtain ⟨x,rfl⟩:=Int.eq_ofNat_of_zero_le hd.1;rw [hx',if_pos (show (!false) = true from rfl),if_neg (by decide),at_some' ht.lt63 (by omega),Option.bind_some,Int.toNat_natCast]
 ·rw [if_neg h,if_neg h,Option.bind_some,if_neg (by decide)]
def varW (n i:Nat):Nat:=tabN (fun x=>x.testBit i) (2 ^ n)
theorem varW_lt (n i:Nat):varW n i < 2 ^ 2 ^ n:=tabN_lt _ _
theorem var_loop {n i:Nat} (hn:n ≤ 5) (hi:i < 5):∀ d k x,x + d = 2 ^ n → d < k →
  spec_l2Variable.l0 k n i ((tabN (fun x=>x.testBit i) x:Nat):Int) x = some ((varW n i:Nat):Int):=by
 have hM:=pow_le hn;intro d
 induction d with
 | zero =>
  intro k x hx hk;obtain ⟨k,rfl⟩:∃ m,k = m + 1:=⟨k - 1,by omega⟩;obtain rfl:x = 2 ^ n:=by omega
  simp only [spec_l2Variable.l0];rw [if_pos (by omega),shl1_of (by omega),if_neg (by omega)]
  rfl
 | succ d ih =>
  intro k x hx hk;obtain ⟨k,rfl⟩:∃ m,k = m + 1:=⟨k - 1,by omega⟩;have hlt:x < 2 ^ n:=by omega
  have hl:=tabN_lt63 (fun x=>x.testBit i) (m:=x) (by omega);have hp:=pow_lt (n:=x) (m:=32) (by omega);have e:=ih k (x + 1) (by omega) (by omega);simp only [spec_l2Variable.l0];rw [if_pos (by omega),shl1_of (by omega),if_pos (by exact_mod_cast hlt),if_pos (by omega),bit_cast (by omega) (by omega),wrap64_succ (by omega)]
  cases hb:x.testBit i with
  | true =>
   rw [tabN_true (p:=fun x=>x.testBit i) hb] at e;rw [if_pos (bit_eq_one.mpr hb),if_pos (by omega),shl1_of (by omega),or_cast hl (by omega)];exact e
  | false =>
   rw [tabN_false (p:=fun x=>x.testBit i) hb] at e;rw [if_neg (by rw [bit_eq_one,hb];decide)];exact e
theorem spec_var {n i k:Nat} (hn:n ≤ 5) (hi:i < 5) (hk:32 < k):spec_l2Variable.f k n i = some ((varW n i:Nat):Int):=by
 have:=pow_le hn;exact var_loop hn hi (2 ^ n) k 0 (by omega) (by omega)
theorem and255 (a:Int):∃ x:Nat,x < 256 ∧ Go.bits .and .i64 a 255 = (x:Int):=by
 have hlt:(BitVec.ofInt 64 a).toNat &&& 255 < 256:=Nat.lt_of_le_of_lt Nat.and_le_right (by decide);refine ⟨(BitVec.ofInt 64 a).toNat &&& 255,hlt,?_⟩;have e:(BitVec.ofInt 64 a &&& BitVec.ofInt 64 255).toNat = (BitVec.ofInt 64 a).toNat &&& 255:=by rw [BitVec.toNat_and];rfl
 simp only [Go.bits,IntKind.bits];exact (congrArg (fun m:Nat=>IntKind.i64.wrap (m:Int)) e).trans (wrap_of (by omega) (by omega))
theorem byte_some {b:List Int} {i:Int} (h:Int) (hb:b.length ≤ 9223372036854775807) (hi:0 ≤ i):∃ (x:Nat) (i' h':Int),spec_l1Byte.f b i h = some ((x:Int),i',h') ∧ x < 256 ∧ 0 ≤ i':=by
 unfold spec_l1Byte.f
 by_cases hl:i < (b.length:Int)
 ·rw [if_pos hl,if_pos hi]
  obtain ⟨x,hx,e⟩:=and255 (wrap64 ((Go.bits .and .i64 (Go.bits .xor .i64 ((wrap64 ((wrap64 (h * 6364136223846793005)) + 1442695040888963407)) / 8589934592) ((wrap64 ((wrap64 (h * 6364136223846793005)) + 1442695040888963407)) / 35184372088832)) 255) + (wrap64 (rd b i))));rw [e];exact ⟨x,_,_,rfl,hx,by rw [wrap64_of (by omega) (by omega)];omega⟩
 ·rw [if_neg hl]
  obtain ⟨x,hx,e⟩:=and255 (Go.bits .xor .i64 ((wrap64 ((wrap64 (h * 6364136223846793005)) + 1442695040888963407)) / 8589934592) ((wrap64 ((wrap64 (h * 6364136223846793005)) + 1442695040888963407)) / 35184372088832));rw [e];exact ⟨x,_,_,rfl,hx,hi⟩
theorem four_bytes {x y z v:Nat} (hx:x < 256) (hy:y < 256) (hz:z < 256) (hv:v < 256):0 ≤ wrap64 ((wrap64 ((wrap64 ((wrap64 ((x:Int) * 16777216)) + (wrap64 ((y:Int) * 65536)))) + (wrap64 ((z:Int) * 256)))) + (v:Int)):=by
 obtain ⟨p,hp⟩:∃ p:Int,p = (x:Int) * 16777216:=⟨_,rfl⟩;obtain ⟨q,hq⟩:∃ q:Int,q = (y:Int) * 65536:=⟨_,rfl⟩;obtain ⟨r,hr⟩:∃ r:Int,r = (z:Int) * 256:=⟨_,rfl⟩;have p1:0 ≤ p ∧ p ≤ 4278190080:=by omega
 have q1:0 ≤ q ∧ q ≤ 16711680:=by omega
 have r1:0 ≤ r ∧ r ≤ 65280:=by omega
 rw [← hp,← hq,← hr,wrap64_of (n:=p) (by omega) (by omega),wrap64_of (n:=q) (by omega) (by omega),wrap64_of (n:=r) (by omega) (by omega),wrap64_of (n:=p + q) (by omega) (by omega),wrap64_of (n:=p + q + r) (by omega) (by omega),wrap64_of (n:=p + q + r + (v:Int)) (by omega) (by omega)];omega
theorem below_some {b:List Int} {i:Int} (h n:Int) (hb:b.length ≤ 9223372036854775807) (hi:0 ≤ i):∃ (x i' h':Int),spec_l1Below.f b i h n = some (x,i',h') ∧ 0 ≤ i' ∧ 0 ≤ x ∧ (0 < n → x < n) ∧ (n ≤ 0 → x = 0):=by
 unfold spec_l1Below.f
 by_cases h0:n ≤ 0
 ·rw [if_pos h0];exact ⟨0,i,h,rfl,hi,by omega,fun q=>by omega,fun _=>rfl⟩
 ·rw [if_neg h0]
  have hp:0 < n:=by omega
  by_cases h1:n ≤ 256
  ·obtain ⟨x,i1,h1',e,hx,hi1⟩:=byte_some h hb hi
   rw [if_pos h1,e,Option.bind_some,if_neg (by omega)];exact ⟨_,_,_,rfl,hi1,Int.tmod_nonneg n (Int.natCast_nonneg x),fun _=>Int.tmod_lt_of_pos _ hp,fun q=>absurd q h0⟩
  ·obtain ⟨x,i1,h1',e1,hx,hi1⟩:=byte_some h hb hi
   obtain ⟨y,i2,h2',e2,hy,hi2⟩:=byte_some h1' hb hi1;obtain ⟨z,i3,h3',e3,hz,hi3⟩:=byte_some h2' hb hi2;obtain ⟨v,i4,h4',e4,hv,hi4⟩:=byte_some h3' hb hi3;rw [if_neg h1,e1,Option.bind_some,e2,Option.bind_some,e3,Option.bind_some,e4,Option.bind_some,if_neg (by omega)];exact ⟨_,_,_,rfl,hi4,Int.tmod_nonneg n (four_bytes hx hy hz hv),fun _=>Int.tmod_lt_of_pos _ hp,fun q=>absurd q h0⟩
theorem once_some {b:List Int} {i:Int} (h n:Int) (hb:b.length ≤ 9223372036854775807) (hi:0 ≤ i):∃ (x:Bool) (i' h':Int),spec_l1Once.f b i h n = some (x,i',h') ∧ 0 ≤ i':=by
 obtain ⟨x,i1,h1,e,hi1,_⟩:=below_some h n hb hi;unfold spec_l1Once.f;rw [e,Option.bind_some];exact ⟨_,_,_,rfl,hi1⟩
theorem pick_some {b l:List Int} {i:Int} (h:Int) (hb:b.length ≤ 9223372036854775807) (hi:0 ≤ i) (hl:0 < l.length):∃ (x i' h':Int),spec_l1PickInt.f b i h l = some (x,i',h') ∧ 0 ≤ i' ∧ x ∈ l:=by
 obtain ⟨x,i1,h1,e,hi1,hx,hxl,_⟩:=below_some h (l.length:Int) hb hi;have hlt:=hxl (by omega);unfold spec_l1PickInt.f;rw [e,Option.bind_some,if_pos hx,if_pos hlt];refine ⟨_,_,_,rfl,hi1,?_⟩;obtain ⟨m,rfl⟩:=Int.eq_ofNat_of_zero_le hx
 show rd l (m:Int) ∈ l
 unfold rd;have hm:m < l.length:=by omega
 rw [Int.toNat_natCast,List.getD_eq_getElem?_getD,List.getElem?_eq_getElem hm];exact List.getElem_mem hm
theorem new_loop {b:List Int} (hb:b.length ≤ 9223372036854775807):∀ (d k:Nat) (h:Int) (x:Nat),x + d = 4000 → d < k → ∃ h':Int,spec_l1New.l0 k b h x = some (b,0,h'):=by
 intro d
 induction d with
 | zero =>
  intro k h x hx hk;obtain ⟨k,rfl⟩:∃ m,k = m + 1:=⟨k - 1,by omega⟩;rw [spec_l1New.l0]
  by_cases hl:(x:Int) < (b.length:Int)
  ·rw [if_pos hl,if_neg (by omega)];exact ⟨h,rfl⟩
  ·rw [if_neg hl];exact ⟨h,rfl⟩
 | succ d ih =>
  intro k h x hx hk;obtain ⟨k,rfl⟩:∃ m,k = m + 1:=⟨k - 1,by omega⟩;rw [spec_l1New.l0]
  by_cases hl:(x:Int) < (b.length:Int)
  ·rw [if_pos hl,if_pos (by omega),if_pos (Int.natCast_nonneg _),wrap64_succ (by omega)]
   exact ih k _ (x + 1) (by omega) (by omega)
  ·rw [if_neg hl];exact ⟨h,rfl⟩
theorem new_some {b:List Int} (hb:b.length ≤ 9223372036854775807) {k:Nat} (hk:4000 < k):∃ h':Int,spec_l1New.f k b = some (b,0,h'):=new_loop hb 4000 k _ 0 (by omega) (by omega)
def TabR (n:Nat) (o:Option (Int × Int × Int × Int)):Prop:=∃ (w i h:Int),o = some ((n:Int),w,i,h) ∧ 0 ≤ i ∧ 0 ≤ w ∧ w ≤ 4294967295 ∧ w ≤ ((2 ^ 2 ^ n - 1:Nat):Int)
theorem end_some {n:Nat} {w i h:Int} (hn:n ≤ 5) (hi:0 ≤ i) (x:Nat) (hw:w = (x:Int)) (hx:x < 4294967296):TabR n (if (n:Int) = 0 then ((spec_l2Full.f n).bind fun t=>(some ((n:Int),Go.bits .and .i64 (Go.bits .and .i64 w 1) t,i,h))) else ((spec_l2Full.f n).bind fun t=>(some ((n:Int),Go.bits .and .i64 w t,i,h)))):=by
 subst hw;have hF:=full_le hn;have e1:Go.bits .and .i64 ((x:Nat):Int) 1 = ((x &&& 1:Nat):Int):=and_cast (b:=1) (by omega) (by decide);have l1:x &&& 1 ≤ x:=Nat.and_le_left
 split
 ·rw [full_some hn,Option.bind_some,e1,and_cast (by omega) (by omega)]
  have l2:(x &&& 1) &&& (2 ^ 2 ^ n - 1) ≤ x &&& 1:=Nat.and_le_left;have l3:(x &&& 1) &&& (2 ^ 2 ^ n - 1) ≤ 2 ^ 2 ^ n - 1:=Nat.and_le_right;exact ⟨_,i,h,rfl,hi,Int.natCast_nonneg _,by omega,by omega⟩
 ·rw [full_some hn,Option.bind_some,and_cast (by omega) (by omega)]
  have l2:x &&& (2 ^ 2 ^ n - 1) ≤ x:=Nat.and_le_left;have l3:x &&& (2 ^ 2 ^ n - 1) ≤ 2 ^ 2 ^ n - 1:=Nat.and_le_right;exact ⟨_,i,h,rfl,hi,Int.natCast_nonneg _,by omega,by omega⟩
theorem or_lt32 {a b:Nat} (ha:a < 4294967296) (hb:b < 4294967296):a ||| b < 4294967296:=Nat.or_lt_two_pow (n:=32) ha hb
theorem bit_lt32 {x:Nat} (hx:x < 32):2 ^ x < 4294967296:=Nat.lt_of_lt_of_le (Nat.pow_lt_pow_right (by decide) hx) (by decide)
theorem draw_l0 {n:Nat} {b:List Int} (hn:n ≤ 5):∀ (d k w x:Nat) (i h:Int),x + d = 2 ^ n → w < 4294967296 → 0 ≤ i → d + 40 < k → TabR n (spec_l2Draw.l0 k n w x b i h):=by
 have hp:=pow_le hn;intro d
 induction d with
 | zero =>
  intro k w x i h hx hw hi hk;obtain ⟨k,rfl⟩:∃ m,k = m + 1:=⟨k - 1,by omega⟩;rw [spec_l2Draw.l0,if_pos (Int.natCast_nonneg _),shl1_of (by omega),if_neg (by omega)];exact end_some hn hi w rfl hw
 | succ d ih =>
  intro k w x i h hx hw hi hk;obtain ⟨k,rfl⟩:∃ m,k = m + 1:=⟨k - 1,by omega⟩;have hx32:x < 32:=by omega
  have hb:=bit_lt32 hx32;rw [spec_l2Draw.l0,if_pos (Int.natCast_nonneg _),shl1_of (by omega),if_pos (by omega),cnt_ref (by omega) (by omega),Option.bind_some,wrap64_succ (by omega)]
  split
  ·rw [if_pos (Int.natCast_nonneg _),shl1_of (by omega),or_cast (by omega) (by omega)]
   exact ih k (w ||| 2 ^ x) (x + 1) i h (by omega) (or_lt32 hw hb) hi (by omega)
  ·exact ih k w (x + 1) i h (by omega) hw hi (by omega)
theorem draw_l1 {n:Nat} {b:List Int} (hn:n ≤ 5):∀ (d k w x:Nat) (i h:Int),x + d = 2 ^ n → w < 4294967296 → 0 ≤ i → d + 40 < k → TabR n (spec_l2Draw.l1 k n w x b i h):=by
 have hp:=pow_le hn;intro d
 induction d with
 | zero =>
  intro k w x i h hx hw hi hk;obtain ⟨k,rfl⟩:∃ m,k = m + 1:=⟨k - 1,by omega⟩;rw [spec_l2Draw.l1,if_pos (Int.natCast_nonneg _),shl1_of (by omega),if_neg (by omega)];exact end_some hn hi w rfl hw
 | succ d ih =>
  intro k w x i h hx hw hi hk;obtain ⟨k,rfl⟩:∃ m,k = m + 1:=⟨k - 1,by omega⟩;have hx32:x < 32:=by omega
  have hb:=bit_lt32 hx32;rw [spec_l2Draw.l1,if_pos (Int.natCast_nonneg _),shl1_of (by omega),if_pos (by omega),cnt_ref (by omega) (by omega),Option.bind_some,wrap64_succ (by omega)]
  split
  ·rw [if_pos (Int.natCast_nonneg _),shl1_of (by omega),or_cast (by omega) (by omega)]
   exact ih k (w ||| 2 ^ x) (x + 1) i h (by omega) (or_lt32 hw hb) hi (by omega)
  ·exact ih k w (x + 1) i h (by omega) hw hi (by omega)
theorem draw_l2 {n:Nat} {b:List Int} (c:Int) (hn:n ≤ 5):∀ (d k w x:Nat) (i h:Int),x + d = 2 ^ n → w < 4294967296 → 0 ≤ i → d + 40 < k → TabR n (spec_l2Draw.l2 k n w c x b i h):=by
 have hp:=pow_le hn;intro d
 induction d with
 | zero =>
  intro k w x i h hx hw hi hk;obtain ⟨k,rfl⟩:∃ m,k = m + 1:=⟨k - 1,by omega⟩;rw [spec_l2Draw.l2,if_pos (Int.natCast_nonneg _),shl1_of (by omega),if_neg (by omega)];exact end_some hn hi w rfl hw
 | succ d ih =>
  intro k w x i h hx hw hi hk;obtain ⟨k,rfl⟩:∃ m,k = m + 1:=⟨k - 1,by omega⟩;have hx32:x < 32:=by omega
  have hb:=bit_lt32 hx32;rw [spec_l2Draw.l2,if_pos (Int.natCast_nonneg _),shl1_of (by omega),if_pos (by omega),wrap64_succ (by omega)]
  split
  ·rw [if_pos (Int.natCast_nonneg _),shl1_of (by omega),or_cast (by omega) (by omega)]
   exact ih k (w ||| 2 ^ x) (x + 1) i h (by omega) (or_lt32 hw hb) hi (by omega)
  ·exact ih k w (x + 1) i h (by omega) hw hi (by omega)
theorem draw_l3 {n:Nat} {b:List Int} (hl:b.length ≤ 9223372036854775807) (hn:n ≤ 5):∀ (d k w x:Nat) (i h:Int),x + d = 2 ^ n → w < 4294967296 → 0 ≤ i → d + 40 < k → TabR n (spec_l2Draw.l3 k n w x b i h):=by
 have hp:=pow_le hn;intro d
 induction d with
 | zero =>
  intro k w x i h hx hw hi hk;obtain ⟨k,rfl⟩:∃ m,k = m + 1:=⟨k - 1,by omega⟩;rw [spec_l2Draw.l3,if_pos (Int.natCast_nonneg _),shl1_of (by omega),if_neg (by omega)];exact end_some hn hi w rfl hw
 | succ d ih =>
  intro k w x i h hx hw hi hk;obtain ⟨k,rfl⟩:∃ m,k = m + 1:=⟨k - 1,by omega⟩;have hx32:x < 32:=by omega
  have hb:=bit_lt32 hx32;obtain ⟨v,i1,h1,e,hi1,hv0,hv2,_⟩:=below_some h 2 hl hi;obtain ⟨m,rfl⟩:=Int.eq_ofNat_of_zero_le hv0;have hm:m < 2:=by have:=hv2 (by decide);omega
  have hs:m <<< x < 4294967296:=by
   rw [Nat.shiftLeft_eq];have:m * 2 ^ x ≤ 1 * 2 ^ x:=Nat.mul_le_mul_right _ (by omega);omega
  have hsc:shl .i64 (m:Int) (x:Int) = ((m <<< x:Nat):Int):=shl_cast (by omega) (by omega);rw [spec_l2Draw.l3,if_pos (Int.natCast_nonneg _),shl1_of (by omega),if_pos (by omega),e,Option.bind_some,if_pos (Int.natCast_nonneg _),wrap64_succ (by omega)];dsimp only;rw [hsc,or_cast (by omega) (by omega)];exact ih k (w ||| m <<< x) (x + 1) i1 h1 (by omega) (or_lt32 hw hs) hi1 (by omega)
theorem draw_some {n k:Nat} {b:List Int} {i:Int} (h:Int) (hl:b.length ≤ 9223372036854775807) (hn:n ≤ 5) (hi:0 ≤ i) (hk:100 < k):TabR n (spec_l2Draw.f k b i h n):=by
 have hp:=pow_le hn;obtain ⟨c,i1,h1,e,hi1,_,_,_⟩:=below_some h 6 hl hi;unfold spec_l2Draw.f;rw [e,Option.bind_some];dsimp only
 by_cases c0:c = 0
 ·rw [if_pos c0]
  obtain ⟨v,i2,h2,e2,hi2,hv0,hvn,_⟩:=below_some h1 (mx 1 n) hl hi1;obtain ⟨m,rfl⟩:=Int.eq_ofNat_of_zero_le hv0
  have hm:m < 5:=by
   have hmx:1 ≤ mx 1 n ∧ mx 1 n ≤ 5:=by unfold mx;split <;> omega
   have:=hvn (by omega);omega
  have hw:=varW_lt n m;have hF:=full_le hn;rw [e2,Option.bind_some,spec_var hn hm (by omega),Option.bind_some];exact end_some hn hi2 (varW n m) rfl (by omega)
 ·rw [if_neg c0]
  by_cases c1:c = 1
  ·rw [if_pos c1];exact draw_l0 hn (2 ^ n) k 0 0 i1 h1 (by omega) (by decide) hi1 (by omega)
  ·rw [if_neg c1]
   by_cases c2:c = 2
   ·rw [if_pos c2];exact draw_l1 hn (2 ^ n) k 0 0 i1 h1 (by omega) (by decide) hi1 (by omega)
   ·rw [if_neg c2]
    by_cases c3:c = 3
    ·obtain ⟨v,i2,h2,e2,hi2,_,_,_⟩:=below_some h1 (shl .i64 1 n) hl hi1
     rw [if_pos c3,if_pos (Int.natCast_nonneg _),e2,Option.bind_some];exact draw_l2 v hn (2 ^ n) k 0 0 i2 h2 (by omega) (by decide) hi2 (by omega)
    ·rw [if_neg c3];exact draw_l3 hl hn (2 ^ n) k 0 0 i1 h1 (by omega) (by decide) hi1 (by omega)
def AnyR (o:Option (Int × Int × Int × Int)):Prop:=∃ (a w i h:Int),o = some (a,w,i,h) ∧ 0 ≤ i ∧ (-9223372036854775808 ≤ a ∧ a ≤ 9223372036854775807) ∧ (-9223372036854775808 ≤ w ∧ w ≤ 9223372036854775807)
def AnyS (o:Option (Int × Int × Int × Int)):Prop:=∃ (a w i h:Int),o = some (a,w,i,h) ∧ 0 ≤ i ∧ (-9223372036854775808 ≤ a ∧ a ≤ 9223372036854775807) ∧ (-9223372036854775808 ≤ w ∧ w ≤ 9223372036854775807) ∧ (a ≤ 4 ∨ 5 < a ∨ (0 ≤ w ∧ w ≤ 65535))
theorem any_strong {k:Nat} {b:List Int} {i:Int} (h:Int) (hl:b.length ≤ 9223372036854775807) (hi:0 ≤ i) (hk:100 < k):AnyS (spec_l2Any.f k b i h):=by
 obtain ⟨n,i1,h1,e,hi1,hn0,hn5,_⟩:=below_some h 5 hl hi;obtain ⟨n,rfl⟩:=Int.eq_ofNat_of_zero_le hn0;have hn:n ≤ 5:=by have:=hn5 (by decide);omega
 have hn4:n ≤ 4:=by have:=hn5 (by decide);omega
 have hF:=pow_le_pow (pow_le_pow hn4);have hF2:2 ^ 2 ^ n ≤ 65536:=hF;obtain ⟨w,i2,h2,e2,hi2,hw0,hw1,hw2⟩:=draw_some (n:=n) (k:=k) h1 hl hn hi1 hk;obtain ⟨c,i3,h3,e3,hi3,_,_,_⟩:=below_some h2 14 hl hi2;unfold spec_l2Any.f;rw [e,Option.bind_some,e2,Option.bind_some,e3,Option.bind_some];dsimp only
 by_cases c0:c = 0
 ·obtain ⟨v,i4,h4,e4,hi4,hv⟩:=pick_some (l:=[(-1),6,5,0,9223372036854775807]) h3 hl hi3 (by decide)
  rw [if_pos c0,e4,Option.bind_some];refine ⟨_,_,_,_,rfl,hi4,?_,by omega,.inr (.inr (by omega))⟩;simp only [List.mem_cons,List.not_mem_nil,or_false] at hv;dsimp only;omega
 ·rw [if_neg c0]
  by_cases c1:c = 1
  ·obtain ⟨v,i4,h4,e4,hi4,hv⟩:=pick_some (l:=[(-1),0,1,65536,9223372036854775807]) h3 hl hi3 (by decide)
   rw [if_pos c1,e4,Option.bind_some];refine ⟨_,_,_,_,rfl,hi4,by omega,?_,.inl (by omega)⟩;simp only [List.mem_cons,List.not_mem_nil,or_false] at hv;dsimp only;omega
  ·rw [if_neg c1]
   exact ⟨_,_,_,_,rfl,hi3,by omega,by omega,.inl (by omega)⟩
theorem any_some {k:Nat} {b:List Int} {i:Int} (h:Int) (hl:b.length ≤ 9223372036854775807) (hi:0 ≤ i) (hk:100 < k):AnyR (spec_l2Any.f k b i h):=by
 obtain ⟨a,w,i2,h2,e,q0,q1,q2,_⟩:=any_strong (k:=k) h hl hi hk;exact ⟨a,w,i2,h2,e,q0,q1,q2⟩
theorem impl_vars_loop {n w:Nat} (ht:Tab n w):∀ d k i:Nat,i + d = n → d < k → impl_VariablesOf.l0 k (filtN (dep n w) i) n i n w = some (filtN (dep n w) n):=by
 have hn:=ht.1;intro d
 induction d with
 | zero =>
  intro k i hi hk;obtain ⟨k,rfl⟩:∃ m,k = m + 1:=⟨k - 1,by omega⟩;obtain rfl:i = n:=by omega
  rw [impl_VariablesOf.l0,if_neg (by omega)]
 | succ d ih =>
  intro k i hi hk;obtain ⟨k,rfl⟩:∃ m,k = m + 1:=⟨k - 1,by omega⟩;have hl:=filtN_length (dep n w) i;have hnx:=ih k (i + 1) (by omega) (by omega);rw [filtN] at hnx;rw [impl_VariablesOf.l0,if_pos (by omega),impl_depends ht (by omega),Option.bind_some,wrap64_succ (by omega)]
  by_cases h:dep n w i = true
  ·rw [if_pos h] at hnx
   rw [if_pos h,if_pos (by omega)];exact hnx
  ·rw [if_neg h] at hnx
   rw [if_neg h];exact hnx
theorem filtN_mem {p:Nat → Bool} {m:Nat} {x:Int}:x ∈ filtN p m ↔ ∃ i:Nat,i < m ∧ p i = true ∧ x = (i:Int):=by
 induction m with
 | zero=>rw [filtN];simp
 | succ m ih =>
  rw [filtN]
  by_cases h:p m = true
  ·rw [if_pos h,List.mem_append,List.mem_singleton,ih]
   constructor
   ·rintro (⟨i,hi,hp,e⟩ | e)
    ·exact ⟨i,by omega,hp,e⟩
    ·exact ⟨m,by omega,h,e⟩
   ·rintro ⟨i,hi,hp,e⟩
    by_cases him:i = m
    ·subst him;exact .inr e
    ·exact .inl ⟨i,by omega,hp,e⟩
  ·rw [if_neg h,ih]
   constructor
   ·rintro ⟨i,hi,hp,e⟩;exact ⟨i,by omega,hp,e⟩
   ·rintro ⟨i,hi,hp,e⟩
    have:i ≠ m:=by rintro rfl;exact h hp
    exact ⟨i,by omega,hp,e⟩
theorem nodes_loop (l:List S56) (hl:l.length < 1000000):∀ (d k x:Nat),x + d = l.length → d < k → laws_sameNodes.l0 k l l (x:Nat) = some true:=by
 intro d
 induction d with
 | zero =>
  intro k x hx hk;obtain ⟨k,rfl⟩:∃ m,k = m + 1:=⟨k - 1,by omega⟩;rw [laws_sameNodes.l0,if_neg (by omega)]
 | succ d ih =>
  intro k x hx hk;obtain ⟨k,rfl⟩:∃ m,k = m + 1:=⟨k - 1,by omega⟩;rw [laws_sameNodes.l0,if_pos (by omega),if_pos (Int.natCast_nonneg _),if_pos (by omega),if_neg (by simp),wrap64_succ (by omega)];exact ih k (x + 1) (by omega) (by omega)
theorem same_nodes (l:List S56) (hl:l.length < 1000000) {k:Nat} (hk:l.length < k):laws_sameNodes.f k l l = some true:=by
 unfold laws_sameNodes.f;rw [if_pos rfl];exact nodes_loop l hl l.length k 0 (by omega) hk
def szD (a b:Int) (l:List Int):Int:=if (diaI a b l).2 = true then ((diaI a b l).1.length:Int) else -1
theorem impl_szD {a b:Int} {l:List Int} {k:Nat} (h0:-9223372036854775808 ≤ b) (h1:b ≤ 9223372036854775807) (hl:l.length ≤ 1048576) (hk:3000000 < k):impl_SizeOfDiagram.f k a b l = some (szD a b l):=by
 unfold impl_SizeOfDiagram.f szD;rw [impl_diagram h0 h1 hl hk,Option.bind_some]
 split <;> rfl
theorem spec_szD (a b:Int) {l:List Int} {k:Nat} (hl:l.length ≤ 1048576) (hk:1200000000001 < k):spec_SizeOfDiagram.f k a b l = some (szD a b l):=by
 unfold spec_SizeOfDiagram.f szD;rw [spec_diagram a b hl hk,Option.bind_some]
 split <;> rfl
theorem dia_true {a b:Int} {l:List Int} (h:(diaI a b l).2 = true):∃ n w:Nat,a = n ∧ b = w ∧ Tab n w ∧ l.length = n ∧ isPerm l = true:=by
 unfold diaI at h
 by_cases hT:isTab a b = true
 ·obtain ⟨n,w,rfl,rfl,ht⟩:=tab_of hT
  rw [if_pos hT] at h
  by_cases hP:(decide ((l.length:Int) = (n:Int)) && isPerm l) = true
  ·rw [Bool.and_eq_true,decide_eq_true_eq] at hP
   exact ⟨n,w,rfl,rfl,ht,by have:=hP.1;omega,hP.2⟩
  ·rw [if_neg hP] at h;cases h
 ·rw [if_neg hT] at h;cases h
theorem dia_eq {n w:Nat} {l:List Int} (ht:Tab n w) (hl:l.length = n) (hp:isPerm l = true):diaI (n:Int) (w:Int) l = ((bld n l n 0 w [] []).2.2,true):=by
 unfold diaI;rw [if_pos (isTab_of ht),if_pos (by rw [Bool.and_eq_true,decide_eq_true_eq];exact ⟨by omega,hp⟩),Int.toNat_natCast,Int.toNat_natCast]
theorem len31 {n w:Nat} {l:List Int} (hn:n ≤ 5):(bld n l n 0 w [] []).2.2.length ≤ 31:=by
 have h:=(bld_len (n:=n) (ord:=l) n 0 w [] []).2.1;have hp:=pow_le hn;rw [List.length_nil] at h;omega
theorem sm_bits (w:Nat):∀ m,sm (fun x=>bitN w x) m = cntN (fun i=>w.testBit i) m:=by
 intro m
 induction m with
 | zero=>rfl
 | succ m ih=>rw [sm,cntN,ih];rfl
theorem cnt_short {n v:Nat} (hn:n ≤ 5) (hv:v < 2 ^ 2 ^ n):cnt v = cntN (fun i=>v.testBit i) (2 ^ n):=by
 have hM:=pow_le hn;unfold cnt;rw [show 32 = 2 ^ n + (32 - 2 ^ n) by omega,cntN_cut (fun i hi=>testBit_ge hv hi)]
structure DiaIs (n w:Nat) (p:List Int) (m:List S56):Prop where
 con:constB n w = decide (m.length = 0)
 diag:0 < m.length → diagB m p = true
 val:0 < m.length → ∀ x:Nat,x < 2 ^ n → dvalI m (x:Int) = ((bitN w x:Nat):Int)
 cnt_:0 < m.length → cntD m p = ((cnt w:Nat):Int)
 dep_:∀ y:Nat,y < n → ¬ ind n w y → ∃ j:Nat,j < m.length ∧ (rd_T56 m (j:Int)).f0 = (y:Int)
theorem const_ind {n w:Nat} (ht:Tab n w) (h:constB n w = true) {y:Nat} (hy:y < n):ind n w y:=by
 have hle:=ht.1;refine ind_of (fun x hx=>?_);rw [(const_iff ht).mp h _ (stk_pow hle hx hy (by omega)),(const_iff ht).mp h _ (stk_pow hle hx hy (by omega))]
theorem dia_is {n w:Nat} {p:List Int} (ht:Tab n w) (hl:p.length = n) (hp:isPerm p = true):DiaIs n w p (bld n p n 0 w [] []).2.2:=by
 have hle:=ht.1;have hpw:=pow_le hle;have ho:=ord_of hle hl hp;have h31:=len31 (w:=w) (l:=p) hle;obtain ⟨names,g,r1,r2⟩:=root_ok ho ht;generalize (bld n p n 0 w [] []).2.2 = m at g r1 r2 h31 ⊢
 have hcf:0 < m.length → constB n w = false:=fun h=>by
  cases hc:constB n w with
  | false=>rfl
  | true=>rw [r1 hc] at h;exact absurd h (Nat.not_lt_zero _)
 have hv:0 < m.length → ∀ x,x < 2 ^ n → vE m x ((m.length - 1:Nat):Int) = bitN w x:=fun h x hx =>
  vE_word ho g (vd_of (diag_bld ho hp g h h31)) hx m.length _ w (by omega) ht (r2 (hcf h)).2
 refine ⟨?_,fun h=>diag_bld ho hp g h h31,fun h x hx=>?_,fun h=>?_,fun y hy hd=>?_⟩
 ·cases hc:constB n w with
  | true=>rw [r1 hc];rfl
  | false=>rw [decide_eq_false (show ¬ m.length = 0 by have:=(r2 hc).1;omega)]
 ·have V:=vd_of (diag_bld ho hp g h h31)
  unfold dvalI;rw [if_neg (by omega),Int.toNat_natCast,dval_vE V x m.length m.length (m.length - 1) (by omega) (by omega) (by omega),hv h x hx]
 ·unfold cntD
  rw [if_pos (diag_bld ho hp g h h31)];unfold tot;rw [hl,sm_congr _ (fun x hx=>hv h x hx),sm_bits,cnt_short hle ht.2]
 ·have hc:constB n w = false:=by
   cases hc:constB n w with
   | false=>rfl
   | true=>exact absurd (const_ind ht hc hy) hd
  have h:=(r2 hc).1;exact dep_node ho g (vd_of (diag_bld ho hp g h h31)) ht (r2 hc).2 hy hd
theorem nodup_le:∀ (L M:List Int),L.Nodup → (∀ x ∈ L,x ∈ M) → L.length ≤ M.length:=by
 intro L
 induction L with
 | nil=>intro M _ _;exact Nat.zero_le _
 | cons a L ih =>
  intro M hn hs;rw [List.nodup_cons] at hn;have ha:=hs a (List.mem_cons_self);have h1:=ih (M.erase a) hn.2 (fun x hx=>(List.mem_erase_of_ne (fun e=>hn.1 (by rw [← e];exact hx))).mpr (hs x (List.mem_cons_of_mem _ hx)));have h2:=List.length_erase_of_mem ha;have h3:=List.length_pos_of_mem ha;rw [List.length_cons];omega
theorem filt_nodup (p:Nat → Bool):∀ m,(filtN p m).Nodup:=by
 intro m
 induction m with
 | zero=>exact List.nodup_nil
 | succ m ih =>
  rw [filtN]
  split
  ·refine List.pairwise_append.mpr ⟨ih,List.pairwise_singleton _ _,fun a ha b hb=>?_⟩
   rw [List.mem_singleton] at hb;obtain ⟨i,hi,_,rfl⟩:=filtN_mem.mp ha;omega
  ·exact ih
theorem dep_is {n w i:Nat} (ht:Tab n w) (hi:i < n):dep n w i = !decide (stkW n w i 0 = stkW n w i 1):=by
 have h:=(impl_depends ht hi).symm.trans (dep_ind ht hi);injection h
theorem vars_le {n w:Nat} {p:List Int} {m:List S56} (ht:Tab n w) (H:DiaIs n w p m):(filtN (dep n w) n).length ≤ m.length:=by
 have h:(filtN (dep n w) n).length ≤ (m.map (fun z=>z.f0)).length:=nodup_le _ _ (filt_nodup _ _) (fun x hx=>by
  obtain ⟨i,hi,hd,rfl⟩:=filtN_mem.mp hx;rw [dep_is ht hi,Bool.not_eq_true',decide_eq_false_iff_not] at hd;obtain ⟨j,hj,e⟩:=H.dep_ i hi hd;rw [← e];refine List.mem_map.mpr ⟨rd_T56 m (j:Int),?_,rfl⟩;unfold rd_T56;rw [Int.toNat_natCast,List.getD_eq_getElem?_getD,List.getElem?_eq_getElem hj];exact List.getElem_mem hj)
 rw [List.length_map] at h;exact h
theorem impl_varsI {n w k:Nat} (ht:Tab n w) (hk:10 < k):impl_VariablesOf.f k n w = some (filtN (dep n w) n):=by
 have hn:=ht.1;have hlt:=ht.lt63;have hl:=impl_vars_loop ht n k 0 (by omega) (by omega);unfold impl_VariablesOf.f;rw [impl_isTable (by omega) (by omega),isTab_of ht,Option.bind_some,if_pos rfl];exact hl
theorem lst_min (sz:List Int → Nat):∀ (xs:List (List Int)) (b:List Int) (m:Int),0 ≤ m → (lstF sz xs b m = (b,m) ∨ ((lstF sz xs b m).1 ∈ xs ∧ (lstF sz xs b m).2 = ((sz (lstF sz xs b m).1:Nat):Int))) ∧ (lstF sz xs b m).2 ≤ m ∧ ∀ r ∈ xs,(lstF sz xs b m).2 ≤ ((sz r:Nat):Int):=by
 intro xs
 induction xs with
 | nil=>intro b m hm;rw [lstF];exact ⟨.inl rfl,Int.le_refl _,fun r hr=>by cases hr⟩
 | cons r rs ih =>
  intro b m hm;rw [lstF]
  by_cases h:m < 0 ∨ (sz r:Int) < m
  ·rw [if_pos h]
   obtain ⟨h1,h2,h3⟩:=ih r (sz r) (Int.natCast_nonneg _);refine ⟨.inr ?_,by omega,fun r' hr'=>?_⟩
   ·rcases h1 with h1 | h1
    ·rw [h1];exact ⟨List.mem_cons_self,rfl⟩
    ·exact ⟨List.mem_cons_of_mem _ h1.1,h1.2⟩
   ·rcases List.mem_cons.mp hr' with rfl | hr'
    ·exact h2
    ·exact h3 r' hr'
  ·rw [if_neg h]
   obtain ⟨h1,h2,h3⟩:=ih b m hm;refine ⟨?_,h2,fun r' hr'=>?_⟩
   ·rcases h1 with h1 | h1
    ·exact .inl h1
    ·exact .inr ⟨List.mem_cons_of_mem _ h1.1,h1.2⟩
   ·rcases List.mem_cons.mp hr' with rfl | hr'
    ·omega
    ·exact h3 r' hr'
theorem lst_first (sz:List Int → Nat) {xs:List (List Int)} (h:0 < xs.length):(lstF sz xs [] (-1)).1 ∈ xs ∧ (lstF sz xs [] (-1)).2 = ((sz (lstF sz xs [] (-1)).1:Nat):Int) ∧ ∀ r ∈ xs,(lstF sz xs [] (-1)).2 ≤ ((sz r:Nat):Int):=by
 cases xs with
 | nil=>exact absurd h (Nat.not_lt_zero _)
 | cons r rs =>
  rw [lstF,if_pos (.inl (by decide))];obtain ⟨h1,h2,h3⟩:=lst_min sz rs r (sz r) (Int.natCast_nonneg _);refine ⟨?_,?_,fun r' hr'=>?_⟩
  ·rcases h1 with h1 | h1
   ·rw [h1];exact List.mem_cons_self
   ·exact List.mem_cons_of_mem _ h1.1
  ·rcases h1 with h1 | h1
   ·rw [h1]
   ·exact h1.2
  ·rcases List.mem_cons.mp hr' with rfl | hr'
   ·exact h2
   ·exact h3 r' hr'
theorem per_all {p:List Int} (hn:p.length ≤ 4) (hp:isPerm p = true):p ∈ perF p.length p.length []:=by
 have hr:=(all_perm p.length p ((isPerm_iff p).mp hp) rfl).2
 have nat_:∀ v ∈ p,∃ z:Fin 4,v = ((z.val:Nat):Int):=fun v hv=>by
  have:=hr v hv;exact ⟨⟨v.toNat,by omega⟩,by show v = ((v.toNat:Nat):Int);omega⟩
 match p,hn,hp,nat_ with
 | [],_,_,_=>decide
 | [a],_,hp,hz =>
  obtain ⟨a,rfl⟩:=hz a (by simp);have q:∀ a:Fin 4,isPerm [((a.val:Nat):Int)] = true → [((a.val:Nat):Int)] ∈ perF 1 1 []:=by decide +kernel
  exact q a hp
 | [a,b],_,hp,hz =>
  obtain ⟨a,rfl⟩:=hz a (by simp);obtain ⟨b,rfl⟩:=hz b (by simp);have q:∀ a b:Fin 4,isPerm [((a.val:Nat):Int),((b.val:Nat):Int)] = true → [((a.val:Nat):Int),((b.val:Nat):Int)] ∈ perF 2 2 []:=by decide +kernel
  exact q a b hp
 | [a,b,c],_,hp,hz =>
  obtain ⟨a,rfl⟩:=hz a (by simp);obtain ⟨b,rfl⟩:=hz b (by simp);obtain ⟨c,rfl⟩:=hz c (by simp);have q:∀ a b c:Fin 4,isPerm [((a.val:Nat):Int),((b.val:Nat):Int),((c.val:Nat):Int)] = true → [((a.val:Nat):Int),((b.val:Nat):Int),((c.val:Nat):Int)] ∈ perF 3 3 []:=by decide +kernel
  exact q a b c hp
 | [a,b,c,d],_,hp,hz =>
  obtain ⟨a,rfl⟩:=hz a (by simp);obtain ⟨b,rfl⟩:=hz b (by simp);obtain ⟨c,rfl⟩:=hz c (by simp);obtain ⟨d,rfl⟩:=hz d (by simp);have q:∀ a b c d:Fin 4,isPerm [((a.val:Nat):Int),((b.val:Nat):Int),((c.val:Nat):Int),((d.val:Nat):Int)] = true → [((a.val:Nat):Int),((b.val:Nat):Int),((c.val:Nat):Int),((d.val:Nat):Int)] ∈ perF 4 4 []:=by decide +kernel
  exact q a b c d hp
 | _ :: _ :: _ :: _ :: _ :: _,hn,_,_=>simp at hn
theorem dgN_is {n w:Nat} {r:List Int} (ht:Tab n w) (hr:r.length = n ∧ isPerm r = true):dgN n w r = (bld n r n 0 w [] []).2.2.length:=by
 unfold dgN;rw [(dia_row ht hr).1]
 rfl
theorem least_is {n w k:Nat} {p:List Int} (ht:Tab n w) (hl:p.length = n) (hp:isPerm p = true) (hk:3000000 < k) (hf:(leI n w).2.2 = true) :
  (leI n w).2.1 ≤ ((bld n p n 0 w [] []).2.2.length:Int) ∧ impl_SizeOfDiagram.f k n w (leI n w).1 = some (leI n w).2.1 ∧ ((filtN (dep n w) n).length:Int) ≤ (leI n w).2.1:=by
 have hlt:=ht.lt63;have hle:=ht.1;unfold leI at hf ⊢;rw [if_pos (isTab_of ht)] at hf ⊢
 by_cases h4:(n:Int) ≤ 4
 ·rw [if_pos h4,Int.toNat_natCast]
  obtain ⟨g0,g1,g2⟩:=per_rows (n:=n) (by omega);obtain ⟨h1,h2,h3⟩:=lst_first (dgN n w) g0;dsimp only;obtain ⟨q,hq⟩:∃ q,q = (lstF (dgN n w) (perF n n []) [] (-1)).1:=⟨_,rfl⟩;rw [← hq] at h1 h2 ⊢;have hr:=g2 q h1
  have hpm:p ∈ perF n n []:=by
   have:=per_all (p:=p) (by omega) hp;rw [hl] at this;exact this
  have hpl:=h3 p hpm;rw [dgN_is ht ⟨hl,hp⟩] at hpl;have hqd:=dgN_is ht hr;refine ⟨hpl,?_,?_⟩
  ·rw [impl_szD (by omega) (by omega) (by omega) hk,h2,hqd]
   unfold szD;rw [dia_eq ht hr.1 hr.2,if_pos rfl]
  ·rw [h2,hqd]
   have:=vars_le ht (dia_is ht hr.1 hr.2);omega
 ·rw [if_neg h4] at hf
  cases hf
theorem ord_loop {b:List Int} (hb:b.length ≤ 9223372036854775807):∀ (d:Nat) (i h:Int) (p:List Int) (x:Nat),p.length + d ≤ 100 → 0 ≤ i → ∃ (l:List Int) (i' h':Int),spec_l19Order.l0 d b i h p x = some (l,i',h') ∧ 0 ≤ i' ∧ l.length = p.length + d:=by
 intro d
 induction d with
 | zero=>intro i h p x hp hi;rw [spec_l19Order.l0];exact ⟨_,_,_,rfl,hi,rfl⟩
 | succ d ih =>
  intro i h p x hp hi;obtain ⟨y,i1,h1,e1,hi1,y0,y1,_⟩:=below_some h (wrap64 ((p.length:Int) + 1)) hb hi;rw [wrap64_of (by omega) (by omega)] at e1 y1;have:=y1 (by omega);rw [spec_l19Order.l0,wrap64_of (by omega) (by omega),e1,Option.bind_some];dsimp only;rw [if_pos ⟨y0,by omega⟩];have hl:=insA_length (p:=p) (k:=y.toNat) (x:Int) (by omega);obtain ⟨l,i2,h2,e2,hi2,hl2⟩:=ih i1 h1 (insA p y.toNat (x:Int)) (x + 1) (by omega) hi1;exact ⟨l,i2,h2,e2,hi2,by omega⟩
theorem order_draw {b:List Int} {i:Int} (h:Int) {a:Int} (hb:b.length ≤ 9223372036854775807) (hi:0 ≤ i) (h0:0 ≤ a) (h5:a ≤ 5):∃ (l:List Int) (i' h':Int),spec_l19Order.f b i h a = some (l,i',h') ∧ 0 ≤ i' ∧ l.length ≤ 5:=by
 unfold spec_l19Order.f;rw [if_pos (by omega)];obtain ⟨l,i',h',e,hi',hl⟩:=ord_loop hb a.toNat i h [] 0 (by rw [List.length_nil];omega) hi;rw [List.length_nil] at hl;exact ⟨l,i',h',e,hi',by omega⟩
theorem mx_mn (a:Int):0 ≤ mx 0 (mn 5 a) ∧ mx 0 (mn 5 a) ≤ 5:=by
 unfold mx mn
 split <;> split <;> omega
theorem l19Both_some {k:Nat} {b:List Int} (hl:b.length ≤ 9223372036854775807) (hk:5000 < k):∃ (a w:Int) (p:List Int),spec_l19Both.f k b = some (a,w,p) ∧ (-9223372036854775808 ≤ w ∧ w ≤ 9223372036854775807) ∧ p.length ≤ 5:=by
 obtain ⟨h,e⟩:=new_some hl (k:=k) (by omega);obtain ⟨a,w,i1,h1,e1,hi1,q1,q2⟩:=any_some (k:=k) h hl (Int.le_refl 0) (by omega);obtain ⟨p,i2,h2,e2,hi2,hp⟩:=order_draw (b:=b) h1 hl hi1 (mx_mn a).1 (mx_mn a).2;unfold spec_l19Both.f;rw [e,Option.bind_some];dsimp only;rw [e1,Option.bind_some];dsimp only;rw [e2,Option.bind_some];dsimp only
 by_cases c:(p.length:Int) > 1
 ·obtain ⟨o,i3,h3,e3,hi3⟩:=once_some h2 10 hl hi2
  rw [if_pos c,e3,Option.bind_some];dsimp only
  cases o with
  | true=>rw [if_pos rfl,if_pos c,if_pos (by omega)];exact ⟨_,_,_,rfl,q2,by rw [List.length_set];exact hp⟩
  | false=>rw [if_neg (by decide)];exact ⟨_,_,_,rfl,q2,hp⟩
 ·rw [if_neg c];exact ⟨_,_,_,rfl,q2,hp⟩
theorem l19Diagram_some {k:Nat} {b:List Int} (hl:b.length ≤ 9223372036854775807) (hk:1200000000001 < k):∃ (m:List S56) (p:List Int),spec_l19Diagram.f k b = some (m,p) ∧ m.length ≤ 32 ∧ p.length ≤ 5:=by
 obtain ⟨a,w,p,e0,_,hp⟩:=l19Both_some hl (k:=k) (by omega);obtain ⟨h,e⟩:=new_some hl (k:=k) (by omega);have hd:=diaI_len a w p;unfold spec_l19Diagram.f;rw [e0,Option.bind_some];dsimp only;rw [e,Option.bind_some];dsimp only;rw [spec_diagram a w (by omega) hk,Option.bind_some];generalize (diaI a w p).1 = m at hd ⊢;obtain ⟨k,rfl⟩:∃ m,k = m + 1:=⟨k - 1,by omega⟩
 by_cases c:(m.length:Int) > 0
 ·obtain ⟨o,i1,h1,e1,hi1⟩:=once_some h 5 hl (Int.le_refl 0)
  rw [if_pos c,e1,Option.bind_some];dsimp only;rw [spec_l19Diagram.j0]
  cases o with
  | false=>rw [if_neg (by decide)];exact ⟨m,p,rfl,hd,hp⟩
  | true =>
   obtain ⟨x,i2,h2,e2,hi2,x0,x1,_⟩:=below_some h1 (m.length:Int) hl hi1;obtain ⟨y,i3,h3,e3,hi3,y0,y1,_⟩:=below_some h2 3 hl hi2;have hx:=x1 c;rw [if_pos rfl,e2,Option.bind_some];dsimp only;rw [e3,Option.bind_some];dsimp only
   by_cases c0:y = 0
   ·obtain ⟨z,i4,h4,e4,hi4,hz⟩:=pick_some (l:=[(-2),(-1),0,30,(-3)]) h3 hl hi3 (by decide)
    rw [if_pos c0,e4,Option.bind_some,if_pos x0,if_pos hx];exact ⟨_,_,rfl,by rw [List.length_set];exact hd,hp⟩
   ·rw [if_neg c0]
    by_cases c1:y = 1
    ·obtain ⟨z,i4,h4,e4,hi4,hz⟩:=pick_some (l:=[(-2),(-1),0,1,9223372036854775807]) h3 hl hi3 (by decide)
     rw [if_pos c1,e4,Option.bind_some,if_pos x0,if_pos hx];exact ⟨_,_,rfl,by rw [List.length_set];exact hd,hp⟩
    ·obtain ⟨z,i4,h4,e4,hi4,hz⟩:=pick_some (l:=[0,1,2,5,(-1)]) h3 hl hi3 (by decide)
     rw [if_neg c1,e4,Option.bind_some,if_pos x0,if_pos hx];exact ⟨_,_,rfl,by rw [List.length_set];exact hd,hp⟩
 ·rw [if_neg c,spec_l19Diagram.j0,if_neg (by decide)]
  exact ⟨m,p,rfl,hd,hp⟩
theorem drawDia_some {k:Nat} {b:List Int} (hl:b.length ≤ 9223372036854775807) (hk:5000 < k):∃ (a w:Int) (p:List Int),spec_DrawDiagramOf.f k b = some (a,w,p) ∧ (-9223372036854775808 ≤ w ∧ w ≤ 9223372036854775807) ∧ p.length ≤ 5:=by
 obtain ⟨a,w,p,e0,h1,hp⟩:=l19Both_some hl hk;unfold spec_DrawDiagramOf.f;rw [e0,Option.bind_some];exact ⟨a,w,p,rfl,h1,hp⟩
theorem drawLeast_some {k:Nat} {b:List Int} (hl:b.length ≤ 9223372036854775807) (hk:5000 < k):∃ a w:Int,spec_DrawLeastOrder.f k b = some (a,w) ∧ (-9223372036854775808 ≤ w ∧ w ≤ 9223372036854775807):=by
 obtain ⟨h,e⟩:=new_some hl (k:=k) (by omega);obtain ⟨a,w,i1,h1,e1,hi1,q1,q2⟩:=any_some (k:=k) h hl (Int.le_refl 0) (by omega);unfold spec_DrawLeastOrder.f;rw [e,Option.bind_some];dsimp only;rw [e1,Option.bind_some];exact ⟨_,_,rfl,q2⟩
theorem drawIsDia_some {k:Nat} {b:List Int} (hl:b.length ≤ 9223372036854775807) (hk:1200000000001 < k):∃ (m:List S56) (p:List Int),spec_DrawIsDiagram.f k b = some (m,p) ∧ m.length ≤ 32 ∧ p.length ≤ 5:=by
 obtain ⟨m,p,e,h⟩:=l19Diagram_some hl hk;unfold spec_DrawIsDiagram.f;rw [e,Option.bind_some];exact ⟨m,p,rfl,h⟩
theorem drawVal_some {k:Nat} {b:List Int} (hl:b.length ≤ 9223372036854775807) (hk:1200000000001 < k):∃ (m:List S56) (x:Int),spec_DrawValueInDiagram.f k b = some (m,x) ∧ m.length ≤ 32:=by
 obtain ⟨m,p,e,h⟩:=l19Diagram_some hl hk;unfold spec_DrawValueInDiagram.f;rw [e,Option.bind_some];exact ⟨m,_,rfl,h.1⟩
theorem drawCnt_some {k:Nat} {b:List Int} (hl:b.length ≤ 9223372036854775807) (hk:1200000000001 < k):∃ (m:List S56) (p:List Int),spec_DrawCountInDiagram.f k b = some (m,p) ∧ m.length ≤ 32 ∧ p.length ≤ 5:=by
 obtain ⟨m,p,e,h⟩:=l19Diagram_some hl hk;unfold spec_DrawCountInDiagram.f;rw [e,Option.bind_some];exact ⟨m,p,rfl,h⟩
theorem drawText_some {k:Nat} {b:List Int} (hl:b.length ≤ 9223372036854775807) (hk:1200000000001 < k):∃ (m:List S56),spec_DrawFormatDiagram.f k b = some m ∧ m.length ≤ 32:=by
 obtain ⟨m,p,e,h⟩:=l19Diagram_some hl hk;unfold spec_DrawFormatDiagram.f;rw [e,Option.bind_some];exact ⟨m,rfl,h.1⟩
theorem num_some {n:Int} {k:Nat} (h:impl_FormatDiagram.endOk n = true) (hk:5 ≤ k):spec_FormatInt.f k n = some (impl_FormatDiagram.num n):=by
 have hh:∀ i:Fin 33,spec_FormatInt.f 5 ((i.val:Int) - 2) = some (impl_FormatDiagram.num ((i.val:Int) - 2)):=by decide +kernel
 have h1:=of_decide_eq_true h;obtain ⟨m,hm⟩:=Int.eq_ofNat_of_zero_le (show 0 ≤ n + 2 by omega);have h2:=hh ⟨m,by omega⟩;have e:((m:Nat):Int) - 2 = n:=by omega
 have h2:spec_FormatInt.f 5 (((m:Nat):Int) - 2) = some (impl_FormatDiagram.num (((m:Nat):Int) - 2)):=h2;rw [e] at h2;exact at_rounds (g:=fun K=>spec_FormatInt.f K n) (fun K=>spec_FormatInt.mono _ K) hk h2
theorem letter_is {v:Int} (h:0 ≤ v ∧ v < 5):((⟨#[97,98,99,100,101]⟩:ByteArray).extract v.toNat (wrap64 (v + 1)).toNat) = strOfNums [97 + v]:=by
 obtain ⟨m,rfl⟩:=Int.eq_ofNat_of_zero_le h.1;rw [wrap64_succ (by omega),Int.toNat_natCast,Int.toNat_natCast];have hh:∀ m:Fin 5,((⟨#[97,98,99,100,101]⟩:ByteArray).extract m.val (m.val + 1)) = strOfNums [97 + ((m.val:Nat):Int)]:=by decide +kernel
 exact hh ⟨m,by omega⟩
def strJ (l:List S56):Nat → ByteArray
 | 0=>⟨#[]⟩
 | m + 1=>if m = 0 then impl_FormatDiagram.word (rd_T56 l (m:Int)) else (strJ l m ++ ⟨#[32]⟩) ++ impl_FormatDiagram.word (rd_T56 l (m:Int))
theorem join_snoc (x:List UInt8) (r:List (List UInt8)) (y sep:List UInt8):Lib.join ((x :: r) ++ [y]) sep = Lib.join (x :: r) sep ++ sep ++ y:=by
 rw [List.cons_append,Lib.join_cons,Lib.join_cons];unfold Lib.joinTail;rw [List.map_append,List.flatten_append,List.append_assoc,List.append_assoc];simp
theorem strJ_join (l:List S56):∀ m,strJ l m = ⟨(Lib.join ((impl_FormatDiagram.words l m).map (·.data.toList)) [32]).toArray⟩:=by
 intro m
 induction m with
 | zero=>rfl
 | succ m ih =>
  rw [strJ,impl_FormatDiagram.words_succ,List.map_append]
  by_cases h:m = 0
  ·subst h
   rw [if_pos rfl];have e:(impl_FormatDiagram.words l 0).map (·.data.toList) ++ [impl_FormatDiagram.word (rd_T56 l ((0:Nat):Int))].map (·.data.toList) = [(impl_FormatDiagram.word (rd_T56 l ((0:Nat):Int))).data.toList]:=rfl;rw [e,Lib.join_one]
  ·rw [if_neg h,ih]
   have hl:=impl_FormatDiagram.words_length l m;generalize impl_FormatDiagram.words l m = ws at hl
   cases ws with
   | nil=>exact absurd hl.symm h
   | cons x r =>
    rw [List.map_cons,List.map_singleton,join_snoc]
    apply ByteArray.ext
    rw [ByteArray.data_append,ByteArray.data_append];simp
theorem strJ_size {l:List S56}:∀ m:Nat,(∀ i:Nat,i < m → impl_FormatDiagram.ok (rd_T56 l (i:Int)) = true) → (strJ l m).size ≤ 7 * m ∧ (0 < m → 0 < (strJ l m).size):=by
 intro m
 induction m with
 | zero=>intro _;exact ⟨Nat.le_refl _,fun h=>absurd h (Nat.lt_irrefl _)⟩
 | succ m ih =>
  intro h;have h1:=(ih fun i hi=>h i (by omega)).1;have h2:=impl_FormatDiagram.word_size (h m (by omega))
  have h3:0 < (impl_FormatDiagram.word (rd_T56 l (m:Int))).size:=by
   unfold impl_FormatDiagram.word;rw [ByteArray.size_append,ByteArray.size_append,ByteArray.size_append,strOfNums_size,List.length_singleton];omega
  have h4:(⟨#[32]⟩:ByteArray).size = 1:=rfl;rw [strJ]
  split
  ·omega
  ·rw [ByteArray.size_append,ByteArray.size_append]
   omega
theorem spec_text_step {l:List S56} (hl:l.length ≤ 31) {m k:Nat} (hm:m < l.length) (hk:10 ≤ k) (ho:∀ i:Nat,i < m → impl_FormatDiagram.ok (rd_T56 l (i:Int)) = true) :
  spec_FormatDiagram.l0 (k + 2) l (strJ l m) m = if impl_FormatDiagram.ok (rd_T56 l (m:Int)) = true then spec_FormatDiagram.l0 k l (strJ l (m + 1)) ((m + 1:Nat):Int) else some ⟨#[]⟩:=by
 have hs:=(strJ_size m ho).1;rw [show k + 2 = (k + 1) + 1 by omega,spec_FormatDiagram.l0,if_pos (by omega),if_pos (Int.natCast_nonneg _),if_neg (by omega),strJ];generalize hn:rd_T56 l (m:Int) = s;obtain ⟨n0,n1,n2⟩:=s;dsimp only
 have ein:∀ x lo hi:Int,spec_l1In.f x lo hi = some (decide (lo ≤ x ∧ x ≤ hi)):=by
  intro x lo hi;unfold spec_l1In.f
  by_cases h:x ≥ lo
  ·rw [if_pos h];congr 1;exact decide_eq_decide.mpr (by omega)
  ·rw [if_neg h];congr 1;symm;exact decide_eq_false (by omega)
 have hok:impl_FormatDiagram.ok ⟨n0,n1,n2⟩ = (decide (0 ≤ n0 ∧ n0 < 5) && (impl_FormatDiagram.endOk n1 && impl_FormatDiagram.endOk n2)):=rfl;rw [ein,Option.bind_some,hok]
 by_cases c0:0 ≤ n0 ∧ n0 < 5
 ·rw [decide_eq_true (show 0 ≤ n0 ∧ n0 ≤ 4 by omega),if_pos rfl,ein,Option.bind_some,decide_eq_true c0,Bool.true_and]
  by_cases c1:impl_FormatDiagram.endOk n1 = true
  ·have c1':=of_decide_eq_true c1
   rw [decide_eq_true (show -2 ≤ n1 ∧ n1 ≤ 30 by omega),if_pos rfl,ein,Option.bind_some,c1,Bool.true_and]
   by_cases c2:impl_FormatDiagram.endOk n2 = true
   ·have c2':=of_decide_eq_true c2
    have z1:=impl_FormatDiagram.num_size c1;have z2:=impl_FormatDiagram.num_size c2;have hw:impl_FormatDiagram.word ⟨n0,n1,n2⟩ = ((strOfNums [97 + n0] ++ impl_FormatDiagram.num n1) ++ ⟨#[44]⟩) ++ impl_FormatDiagram.num n2:=rfl;have hz:(strOfNums [97 + n0]).size = 1:=by rw [strOfNums_size];rfl
    have z4:(⟨#[44]⟩:ByteArray).size = 1:=rfl;have z3:(⟨#[32]⟩:ByteArray).size = 1:=rfl;have hwr:wrap64 (n0 + 1) = n0 + 1:=wrap64_of (by omega) (by omega);rw [decide_eq_true (show -2 ≤ n2 ∧ n2 ≤ 30 by omega),if_pos c2,spec_FormatDiagram.j1,if_neg (by decide),hw,letter_is c0];generalize strOfNums [97 + n0] = S at hz ⊢;rw [num_some c1 (by omega),num_some c2 (by omega)];generalize impl_FormatDiagram.num n1 = A at z1 ⊢;generalize impl_FormatDiagram.num n2 = C at z2 ⊢
    by_cases h0:m = 0
    ·subst h0
     rw [if_neg (by omega),if_pos c0.1,if_pos (by omega),if_pos (by omega),if_pos (by rw [hz];omega),Option.bind_some,if_pos (by rw [ByteArray.size_append];omega),if_pos (by rw [ByteArray.size_append,ByteArray.size_append];omega),Option.bind_some,if_pos (by rw [ByteArray.size_append,ByteArray.size_append,ByteArray.size_append];omega),if_pos rfl,wrap64_succ (by omega)];have e:strJ l 0 = ⟨#[]⟩:=rfl;have e2:(⟨#[]⟩:ByteArray) ++ S = S:=ByteArray.empty_append;rw [e,e2]
    ·rw [if_pos (by omega),if_pos (by omega),if_pos c0.1,if_pos (by omega),if_pos (by omega),if_pos (by rw [ByteArray.size_append];omega),Option.bind_some,if_pos (by rw [ByteArray.size_append,ByteArray.size_append];omega),if_pos (by rw [ByteArray.size_append,ByteArray.size_append,ByteArray.size_append];omega),Option.bind_some,if_pos (by rw [ByteArray.size_append,ByteArray.size_append,ByteArray.size_append,ByteArray.size_append];omega),if_neg h0,wrap64_succ (by omega)]
     simp only [ByteArray.append_assoc]
   ·rw [decide_eq_false (fun z=>c2 (decide_eq_true (by omega))),if_neg c2,spec_FormatDiagram.j1,if_pos (show (!false) = true from rfl)]
  ·rw [decide_eq_false (fun z=>c1 (decide_eq_true (by omega))),if_neg (by decide),spec_FormatDiagram.j1,if_pos rfl,Bool.eq_false_iff.mpr c1,Bool.false_and,if_neg (by decide)]
 ·rw [decide_eq_false (show ¬ (0 ≤ n0 ∧ n0 ≤ 4) by omega),if_neg (by decide),spec_FormatDiagram.j1,if_pos rfl,decide_eq_false c0,Bool.false_and,if_neg (by decide)]
theorem spec_text_loop {l:List S56} (hl:l.length ≤ 31) (h0:0 < l.length):∀ d k m:Nat,m + d = l.length → 2 * d + 20 < k → (∀ i:Nat,i < m → impl_FormatDiagram.ok (rd_T56 l (i:Int)) = true) →
  spec_FormatDiagram.l0 k l (strJ l m) m = if allN (fun i=>impl_FormatDiagram.ok (rd_T56 l (i:Int))) l.length = true then some (strJ l l.length) else some ⟨#[]⟩:=by
 intro d
 induction d with
 | zero =>
  intro k m hm hk ho;obtain ⟨k,rfl⟩:∃ z,k = z + 1:=⟨k - 1,by omega⟩;obtain rfl:m = l.length:=by omega
  have hs:=(strJ_size l.length ho).2 h0;rw [spec_FormatDiagram.l0,if_neg (by omega),if_pos (allN_iff.mpr ho),if_neg];intro he;have e:(strJ l l.length).toList = (strJ l l.length).data.toList:=ByteArray.toList_eq _;rw [e] at he;have:(strJ l l.length).data.toList.length = 0:=by rw [he];rfl
  have h2:(strJ l l.length).size = (strJ l l.length).data.toList.length:=rfl;omega
 | succ d ih =>
  intro k m hm hk ho;obtain ⟨k,rfl⟩:∃ z,k = z + 2:=⟨k - 2,by omega⟩;rw [spec_text_step hl (by omega) (by omega) ho]
  by_cases c:impl_FormatDiagram.ok (rd_T56 l (m:Int)) = true
  ·rw [if_pos c]
   refine ih k (m + 1) (by omega) (by omega) fun i hi=>?_
   by_cases e:i = m
   ·subst e;exact c
   ·exact ho i (by omega)
  ·rw [if_neg c,if_neg fun z=>c (allN_iff.mp z m (by omega))]
theorem text_both (l:List S56) {k:Nat} (hk:100 < k) (hl:l.length ≤ 9223372036854775807):∃ s,impl_FormatDiagram.f l = some s ∧ spec_FormatDiagram.f k l = some s:=by
 unfold impl_FormatDiagram.f spec_FormatDiagram.f
 by_cases h0:l.length = 0
 ·obtain ⟨k,rfl⟩:∃ z,k = z + 1:=⟨k - 1,by omega⟩
  refine ⟨_,if_pos h0,?_⟩;rw [spec_FormatDiagram.l0,if_neg (by omega),if_pos (show (⟨#[]⟩:ByteArray).toList = [] by rw [ByteArray.toList_eq])]
 ·rw [if_neg h0]
  by_cases h1:31 < l.length
  ·obtain ⟨k,rfl⟩:∃ z,k = z + 2:=⟨k - 2,by omega⟩
   refine ⟨_,if_pos h1,?_⟩;rw [spec_FormatDiagram.l0,if_pos (by omega),if_pos (Int.le_refl 0),if_pos (by omega),spec_FormatDiagram.j1,if_pos rfl]
  ·rw [if_neg h1]
   have h:=spec_text_loop (l:=l) (by omega) (by omega) l.length k 0 (by omega) (by omega) (fun i hi=>absurd hi (Nat.not_lt_zero _));have h:spec_FormatDiagram.l0 k l ⟨#[]⟩ 0 = _:=h;rw [h,strJ_join]
   by_cases c:allN (fun i=>impl_FormatDiagram.ok (rd_T56 l (i:Int))) l.length = true
   ·rw [if_pos c];exact ⟨_,rfl,rfl⟩
   ·rw [if_neg c];exact ⟨_,rfl,rfl⟩
theorem same_loop (l:List Int) (hl:l.length < 1000000):∀ (d k x:Nat),x + d = l.length → d < k → laws_sameInts.l0 k l l (x:Nat) = some true:=by
 intro d
 induction d with
 | zero =>
  intro k x hx hk;obtain ⟨k,rfl⟩:∃ m,k = m + 1:=⟨k - 1,by omega⟩;rw [laws_sameInts.l0,if_neg (by omega)]
 | succ d ih =>
  intro k x hx hk;obtain ⟨k,rfl⟩:∃ m,k = m + 1:=⟨k - 1,by omega⟩;rw [laws_sameInts.l0,if_pos (by omega),if_pos (Int.natCast_nonneg _),if_pos (by omega),if_pos rfl,wrap64_succ (by omega)];exact ih k (x + 1) (by omega) (by omega)
theorem same_ints (l:List Int) (hl:l.length < 1000000) {k:Nat} (hk:l.length < k):laws_sameInts.f k l l = some true:=by
 unfold laws_sameInts.f;rw [if_pos rfl];exact same_loop l hl l.length k 0 (by omega) hk
theorem big_wrap {n:Nat} (hn:n ≤ 5):wrap64 ((2:Int) ^ min ((n:Nat):Int).toNat 64) = ((2 ^ n:Nat):Int):=by
 have q:∀ n:Fin 6,wrap64 ((2:Int) ^ min ((n.val:Nat):Int).toNat 64) = ((2 ^ n.val:Nat):Int):=by decide +kernel
 exact q ⟨n,by omega⟩
theorem dia_big {a b:Int} {p:List Int} {k:Nat} (hk:3000000 < k) (h:(diaI a b p).2 = true):∃ (cn:Int) (sp:Nat) (vl:Nat → Int) (lq:List Int) (nn:Int) (fine:Bool) (vs:List Int),DiaBig k (diaI a b p).1 p a b cn sp vl lq nn fine vs:=by
 obtain ⟨n,w,rfl,rfl,ht,hl,hp⟩:=dia_true h;have hlt:=ht.lt63;have hle:=ht.1;have hpw:=pow_le hle;have hpp:=pow_pos n;have H:=dia_is ht hl hp;have hz:=least_is (k:=k) ht hl hp hk;rw [dia_eq ht hl hp];generalize (bld n p n 0 w [] []).2.2 = m at H hz;dsimp only;refine ⟨((cnt w:Nat):Int),2 ^ n,fun x=>((bitN w x:Nat):Int),(leI n w).1,(leI n w).2.1,(leI n w).2.2,filtN (dep n w) n,?_⟩
 exact {
  con:=by
   unfold impl_IsConstant.f;rw [impl_isTable (by omega) (by omega),isTab_of ht,Option.bind_some,if_pos rfl,impl_same ht,Option.bind_some,H.con]
  isd:=fun h0=>by rw [impl_diag,H.diag h0]
  cnt:=fun h0=>by rw [impl_count _ _ (by omega),H.cnt_ h0]
  ones:=fun h0=>by
   rw [impl_cntI ⟨by omega,by omega⟩];unfold cntI;rw [if_pos (isTab_of ht),Int.toNat_natCast]
  f0:=Int.natCast_nonneg _
  sh:=big_wrap hle
  s0:=hpp
  sM:=by omega
  vals:=fun h0 x hx=>by
   have hd:=vd_of (H.diag h0);have:=hd.most;refine ⟨by rw [impl_dval _ _ (by omega) (by omega),H.val h0 x hx],?_⟩;rw [impl_valI _ ⟨by omega,by omega⟩];unfold valI noInp;rw [if_pos (isTab_of ht),Int.toNat_natCast,Int.toNat_natCast,Int.toNat_natCast,decide_eq_true (show 0 ≤ (x:Int) ∧ (x:Int) < ((2 ^ n:Nat):Int) by omega),if_neg (by decide)]
  least:=impl_least (by omega) (by omega)
  fin1:=fun hf=>(hz hf).1
  fin2:=fun hf=>(hz hf).2.1
  fin3:=fun hf=>impl_varsI ht (by omega)
  fin4:=fun hf=>(hz hf).2.2 }
theorem FnDiagrams (l:List Int) (_:l.length ≤ maxLen) (hy:l.length * 1 ≤ 140737488351232) (hw:∀ x ∈ l,(Lit.int .u8 x).wf = true):∃ k,laws_FnDiagrams.f k l = some true:=by
 refine ⟨2000000000000,?_⟩;unfold laws_FnDiagrams.f;refine if_pos ?_
 by_cases hb:(l.length:Int) > 1048576
 ·left
  unfold laws_big.f;rw [decide_eq_true hb]
 ·right
  have hl:l.length ≤ 9223372036854775807:=by omega
  obtain ⟨f1,f2,p,hd,⟨w0,w1⟩,hp⟩:=drawDia_some (k:=2000000000000) hl (by decide);obtain ⟨g1,g2,hdl,g0,g3⟩:=drawLeast_some (k:=2000000000000) hl (by decide);obtain ⟨dm,dp,hdi,hi1,hi2⟩:=drawIsDia_some (k:=2000000000000) hl (by decide);obtain ⟨vm,vx,hdv,hv1⟩:=drawVal_some (k:=2000000000000) hl (by decide);obtain ⟨km,kp,hdc,hc1,hc2⟩:=drawCnt_some (k:=2000000000000) hl (by decide);obtain ⟨fm,hdf,hf1⟩:=drawText_some (k:=2000000000000) hl (by decide);obtain ⟨s,ht1,ht2⟩:=text_both fm (k:=2000000000000) (by decide) (by omega);have hm:=diaI_len f1 f2 p;have hq:=leI_len g1 g2;refine ⟨f1,f2,p,(diaI f1 f2 p).1,(diaI f1 f2 p).2,szD f1 f2 p,g1,g2,(leI g1 g2).1,(leI g1 g2).2.1,(leI g1 g2).2.2,dm,dp,vm,vx,km,kp,fm,diagB dm dp,dvalI vm vx,cntD km kp,s,?_⟩
  exact {
   small:=by unfold laws_big.f;rw [decide_eq_false hb]
   draw:=hd
   d1:=impl_diagram w0 w1 (by omega) (by decide)
   d2:=spec_diagram f1 f2 (by omega) (by decide)
   same:=same_nodes _ (by omega) (by omega)
   z1:=impl_szD w0 w1 (by omega) (by decide)
   z2:=spec_szD f1 f2 (by omega) (by decide)
   mlen:=by omega
   big:=fun h=>dia_big (by decide) h
   dl:=hdl
   l1:=impl_least g0 g3
   l2:=spec_least g1 g2 (by decide)
   lsame:=same_ints _ (by omega) (by omega)
   di:=hdi
   i1:=impl_diag dm dp
   i2:=spec_diag dm dp (by omega) (by omega) (by decide)
   dv:=hdv
   v1:=impl_dval vm vx (by omega) (by decide)
   v2:=spec_dval vm vx (by omega) (by decide)
   dc:=hdc
   c1:=impl_count km kp (by decide)
   c2:=spec_count km kp (by omega) (by omega) (by decide)
   df:=hdf
   t1:=ht1
   t2:=ht2 }
end Go.Proofs.YtflacbjpeecjcabGreatDoor.U
