/- Lemmas, part 21. -/
import Derived.Lib.SlicesCompact
import Derived.Test.YtjagmhagphbfcaaGreatDoorQ20
set_option maxRecDepth 100000
set_option linter.all false
namespace Go.Proofs.YtjagmhagphbfcaaGreatDoor
def adz:=@List.not_mem_nil
def aeP:=@or_false
def adw:=@Option.some.inj
def afQ:=@of_decide_eq_true
def ae1:=@List.mem_cons_self
def af0:=@List.length_mergeSort
open Go
section
variable{α:Type}[Inhabited α][DecidableEq α]
theorem Dm(l m:List α)(k:Nat)(hk:k<=l.length):Lib.compactUpTo (l++m).toArray k=Lib.compactUpTo l.toArray k:=by
 induction k with
 |zero=>rfl
 |succ k E=>
  have g (j:Nat) (H:j<l.length):(l++m).toArray[j]! =l.toArray[j]! :=by
   rw[getElem!_pos _ _ (by simp;omega),getElem!_pos _ _ (by simp;omega)];simp[List.getElem_append_left H]
  have p:Lib.keeps (l++m).toArray k=Lib.keeps l.toArray k:=by
   unfold Lib.keeps;rw[g k (by omega),g (k-1) (by omega)]
  rw[Lib.compactUpTo_succ,Lib.compactUpTo_succ,E (by omega),p,g k (by omega)]
theorem lB:Lib.compact ([]:List α)= []:=rfl
theorem j3(l:List α)(x:α):Lib.compact (l++ [x])=Lib.compact l++(if l.getLast?=some x then[] else[x]):=by
 have h1:Lib.compact (l++ [x])=Lib.compactUpTo (l++ [x]).toArray (l.length+1):=by unfold Lib.compact;rw[abj];rfl
 have h2:Lib.compact l=Lib.compactUpTo l.toArray l.length:=rfl;rw[h1,Lib.compactUpTo_succ,Dm _ _ _ (aax _),h2];congr 1;have g:(l++ [x]).toArray[l.length]! =x:=by rw[getElem!_pos _ _ (by simp)];simp
 rw[g];unfold Lib.keeps;rw[g];by_cases h0:l.length=0
 ·have:l= []:=abA h0;subst this;simp
 ·have e:(l++ [x]).toArray[l.length-1]! =l[l.length-1]:=by
   rw[getElem!_pos _ _ (by simp;omega)];simp[List.getElem_append_left (show l.length-1<l.length by omega)]
  rw[e,List.getLast?_eq_getElem?,aaf (by omega)];by_cases hx:l[l.length-1]=x
  ·simp[h0,hx]
  ·simp[h0,hx,Ne.symm hx]
theorem wF{p:List α->Prop}(h0:p [])(h1:∀l x,p l->p (l++ [x]))(l:List α):p l:=by
 have:∀n (l:List α),l.length=n->p l:=by
  intro n
  induction n with
  |zero=>intro l hl;rw[abA hl];exact h0
  |succ n E=>
   intro l hl;have H:l≠ []:=λe=>by subst e;cases hl
   rw[<-List.dropLast_concat_getLast H];exact h1 _ _ (E _ (by simp[hl]))
 exact this _ l rfl
theorem arh(l:List α)(a:α):a∈Lib.compact l↔a∈l:=by
 induction l using wF with
 |h0=>simp[lB]
 |h1 l x p=>
  rw[j3,abH,abH,p];split
  ·rename_i h;have hx:x∈l:=List.mem_of_getLast? h;simp only[adz,aeP,acE];exact⟨.inl,λh=>h.elim id (λe=>e▸hx)⟩
  ·rfl
theorem iv(l:List α):(Lib.compact l).length<=l.length:=by
 induction l using wF with
 |h0=>simp[lB]
 |h1 l x p=>
  rw[j3,abj,abj];split
  ·simp;omega
  ·simp;omega
structure Ord(le:α->α->Prop):Prop where
 tr:∀a b c,le a b->le b c->le a c
 tot:∀a b,le a b\/le b a
 acL:∀a b,le a b->le b a->a=b
theorem xN{le:α->α->Prop}(ho:Ord le)(l:List α)(h:l.Pairwise le):(Lib.compact l).Pairwise (λa b=>le a b/\a≠b):=by
 induction l using wF with
 |h0=>simp[lB]
 |h1 l x L=>
  rw[List.pairwise_append] at h;obtain⟨h1,_,J⟩:=h;rw[j3,List.pairwise_append];refine⟨L h1,?_,?_⟩
  ·split <;>simp
  ·intro a ha b hb;split at hb
   ·simp at hb
   ·rename_i hl;rw[acE] at hb;subst hb;have H:a∈l:=(arh l a).1 ha;refine⟨J a H b (by simp),λe=>?_⟩;subst e;have p:l≠ []:=λe=>by subst e;simp at H
    obtain⟨y,hy⟩:∃y,l.getLast?=some y:=⟨l.getLast p,List.getLast?_eq_some_getLast p⟩
    have N:y∈l:=List.mem_of_getLast? hy;have M:l=l.dropLast++ [l.getLast p]:=(List.dropLast_concat_getLast p).symm;have E:y=l.getLast p:=by rw[List.getLast?_eq_some_getLast p] at hy;exact(adw hy).symm
    have I:le a y:=by
     rw[M] at H h1;rw[List.pairwise_append] at h1;rcases abH.1 H with h|h
     ·rw[E];exact h1.2.2 a h _ (by simp)
     ·rw[E,acE.1 h];rcases ho.tot (l.getLast p) (l.getLast p) with h|h <;>exact h
    have:=ho.acL a y I (J y N a (by simp));exact hl (by rw[hy,this])
def uniq(le:α->α->Prop)[∀a b,Decidable (le a b)](l:List α):List α:=Lib.compact (l.mergeSort λx y=>decide (le x y))
variable{le:α->α->Prop}[∀a b,Decidable (le a b)]
theorem lW(l:List α)(a:α):a∈uniq le l↔a∈l:=by
 unfold uniq;rw[arh];exact(List.mergeSort_perm l _).mem_iff
theorem ua(ho:Ord le)(l:List α):(uniq le l).Pairwise (λa b=>le a b/\a≠b):=by
 refine xN ho _ ?_;refine(List.pairwise_mergeSort (λa b c h1 h2=>?_) (λa b=>?_) l).imp (λh=>afQ h)
 ·exact decide_eq_true (ho.tr a b c (afQ h1) (afQ h2))
 ·rcases ho.tot a b with h|h <;>simp[h]
omit [Inhabited α] [DecidableEq α] [∀a b,Decidable (le a b)] in
theorem nP(ho:Ord le):∀ {l m:List α},l.Pairwise (λa b=>le a b/\a≠b)->m.Pairwise (λa b=>le a b/\a≠b)->(∀a,a∈l↔a∈m)->l=m
 | [],[],_,_,_=>rfl
 | [],b::m,_,_,h=>absurd ((h b).2 ae1) (by simp)
 |a::l,[],_,_,h=>absurd ((h a).1 ae1) (by simp)
 |a::l,b::m,h1,h2,h=>by
  rw[List.pairwise_cons] at h1 h2;have p:a=b:=by
   rcases abZ.1 ((h a).1 ae1) with e|e
   ·exact e
   ·rcases abZ.1 ((h b).2 ae1) with e'|e'
    ·exact e'.symm
    ·exact ho.acL a b (h1.1 b e').1 (h2.1 a e).1
  subst p;congr 1;refine nP ho h1.2 h2.2 (λx=>?_);constructor
  ·intro hx;rcases abZ.1 ((h x).1 (aed _ hx)) with e|e
   ·exact absurd e.symm (h1.1 x hx).2
   ·exact e
  ·intro hx;rcases abZ.1 ((h x).2 (aed _ hx)) with e|e
   ·exact absurd e.symm (h2.1 x hx).2
   ·exact e
theorem kX(l:List α):(uniq le l).length<=l.length:=by
 unfold uniq;refine aaY (iv _) ?_;rw[af0];exact aax _
theorem akN:uniq le ([]:List α)= []:=by simp[uniq,lB]
end
theorem M0:Ord (λa b:Int=>a<=b):=⟨λ_ _ _=>Int.le_trans,Int.le_total,λ_ _=>Int.le_antisymm⟩
theorem MZ:Ord (λa b:List UInt8=>a<=b):=⟨λ_ _ _=>List.le_trans,List.le_total,λ_ _=>List.le_antisymm⟩
theorem asq:Ord (λa b:UInt8=>a<=b):=⟨λ_ _ _=>UInt8.le_trans,UInt8.le_total,λ_ _=>UInt8.le_antisymm⟩
def uI(l:List Int):List Int:=uniq (λa b=>a<=b) l
def uS(l:List (List UInt8)):List (List UInt8):=uniq (λa b=>a<=b) l
def uB(l:List UInt8):List UInt8:=uniq (λa b=>a<=b) l
end Go.Proofs.YtjagmhagphbfcaaGreatDoor
