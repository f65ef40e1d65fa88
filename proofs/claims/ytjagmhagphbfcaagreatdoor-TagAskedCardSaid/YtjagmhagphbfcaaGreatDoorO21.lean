/- Lemmas, part 21. -/
import Derived.Lib.SlicesCompact
import Derived.Test.YtjagmhagphbfcaaGreatDoorO20
set_option maxRecDepth 100000
set_option linter.all false
namespace Go.Proofs.YtjagmhagphbfcaaGreatDoor
def afQ:=@of_decide_eq_true
def ae1:=@List.mem_cons_self
open Go
section
variable{α:Type}[Inhabited α][DecidableEq α]
theorem Dm(l m:List α)(k:Nat)(hk:k<=l.length):Lib.compactUpTo (l++m).toArray k=Lib.compactUpTo l.toArray k:=by
 induction k with
 |zero=>rfl
 |succ k p=>
  grind [Lib.compactUpTo_succ,Lib.keeps]
theorem lB:Lib.compact ([]:List α)= []:=rfl
theorem j3(l:List α)(x:α):Lib.compact (l++ [x])=Lib.compact l++(if l.getLast?=some x then[] else[x]):=by
 have h1:Lib.compact (l++ [x])=Lib.compactUpTo (l++ [x]).toArray (l.length+1):=by unfold Lib.compact;simp_all
 have h2:Lib.compact l=Lib.compactUpTo l.toArray l.length:=rfl;rw[h1,Lib.compactUpTo_succ,Dm _ _ _ (aax _),h2]
 grind [Lib.keeps]
theorem wF{p:List α->Prop}(h0:p [])(h1:∀l x,p l->p (l++ [x]))(l:List α):p l:=by
 have:∀n (l:List α),l.length=n->p l:=by
  intro n
  induction n with
  |zero=>simp_all
  |succ n E=>
   intro l hl;have cr:l≠ []:=λe=>by grind
   rw[<-List.dropLast_concat_getLast cr]
   simp_all
 simp_all
theorem ux(l:List α)(a:α):a∈Lib.compact l↔a∈l:=by
 induction l using wF with
 |h0=>rfl
 |h1 l x p=>
  grind [j3]
theorem iv(l:List α):(Lib.compact l).length<=l.length:=by
 induction l using wF with
 |h0=>simp[lB]
 |h1 l x p=>
  grind [j3]
structure Ord(le:α->α->Prop):Prop where
 tr:∀a b c,le a b->le b c->le a c
 tot:∀a b,le a b\/le b a
 acL:∀a b,le a b->le b a->a=b
theorem xN{le:α->α->Prop}(ho:Ord le)(l:List α)(h:l.Pairwise le):(Lib.compact l).Pairwise (λa b=>le a b/\a≠b):=by
 induction l using wF with
 |h0=>simp[lB]
 |h1 l x I=>
  rw[List.pairwise_append] at h;obtain⟨h1,_,E⟩:=h;rw[j3,List.pairwise_append];refine⟨I h1,?_,?_⟩
  ·split <;>simp
  ·intro a ha b hb;split at hb
   ·grind
   ·rename_i hl;rw[acE] at hb;subst hb;have H:a∈l:=(ux l a).1 ha;refine⟨E a H b (by simp),λe=>?_⟩;subst e;have cr:l≠ []:=λe=>by simp_all
    obtain⟨y,hy⟩:∃y,l.getLast?=some y:=⟨l.getLast cr,List.getLast?_eq_some_getLast cr⟩
    have L:y∈l:=List.mem_of_getLast? hy;have M:l=l.dropLast++ [l.getLast cr]:=(List.dropLast_concat_getLast cr).symm;have J:y=l.getLast cr:=by grind
    have p:le a y:=by
     grind
    have:=ho.acL a y p (E y L a (by simp))
    grind
def uniq(le:α->α->Prop)[∀a b,Decidable (le a b)](l:List α):List α:=Lib.compact (l.mergeSort λx y=>decide (le x y))
variable{le:α->α->Prop}[∀a b,Decidable (le a b)]
theorem lW(l:List α)(a:α):a∈uniq le l↔a∈l:=by
 simp_all [ux,uniq]
theorem ua(ho:Ord le)(l:List α):(uniq le l).Pairwise (λa b=>le a b/\a≠b):=by
 refine xN ho _ ?_;refine(List.pairwise_mergeSort (λa b c h1 h2=>?_) (λa b=>?_) l).imp (λh=>afQ h)
 ·exact decide_eq_true (ho.tr a b c (afQ h1) (afQ h2))
 ·rcases ho.tot a b with h|h <;>simp[h]
omit [Inhabited α] [DecidableEq α] [∀a b,Decidable (le a b)] in
theorem nP(ho:Ord le):∀ {l m:List α},l.Pairwise (λa b=>le a b/\a≠b)->m.Pairwise (λa b=>le a b/\a≠b)->(∀a,a∈l↔a∈m)->l=m
 | [],[],_,_,_=>rfl
 | [],b::m,_,_,h=>absurd ((h b).2 ae1) (by simp)
 |a::l,[],_,_,h=>absurd ((h a).1 ae1) (by simp)
 |a::l,b::m,h1,h2,h=>by
  rw[List.pairwise_cons] at h1 h2;have p:a=b:=by
   rcases abZ.1 ((h a).1 ae1) with e|e
   ·exact e
   ·rcases abZ.1 ((h b).2 ae1) with e'|e'
    ·exact e'.symm
    ·exact ho.acL a b (h1.1 b e').1 (h2.1 a e).1
  subst p;congr 1;refine nP ho h1.2 h2.2 (λx=>?_)
  grind
theorem kX(l:List α):(uniq le l).length<=l.length:=by
 unfold uniq;refine aaY (iv _) ?_
 simp_all
theorem akN:uniq le ([]:List α)= []:=by simp[uniq,lB]
end
theorem M0:Ord (λa b:Int=>a<=b):=⟨λ_ _ _=>Int.le_trans,Int.le_total,λ_ _=>Int.le_antisymm⟩
theorem MZ:Ord (λa b:List UInt8=>a<=b):=⟨λ_ _ _=>List.le_trans,List.le_total,λ_ _=>List.le_antisymm⟩
def uI(l:List Int):List Int:=uniq (λa b=>a<=b) l
def uS(l:List (List UInt8)):List (List UInt8):=uniq (λa b=>a<=b) l
end Go.Proofs.YtjagmhagphbfcaaGreatDoor
