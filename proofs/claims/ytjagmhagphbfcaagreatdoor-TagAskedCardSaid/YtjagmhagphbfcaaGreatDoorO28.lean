/- Lemmas, part 28. -/
import Derived.Below
import Derived.Conc.CrowdRun
import Derived.Test.YtjagmhagphbfcaaGreatDoorO27
set_option maxRecDepth 100000
set_option linter.all false
namespace Go.Proofs.YtjagmhagphbfcaaGreatDoor
open Go Go.Proofs Go.Conc
structure Gd where
 c:Nat
 o:Nat
 xs:Array Value
structure FW(w:World)(x:Gd):Prop where
 ge:4<=x.c
 get:∃ys e fr,w.heap[x.c]?=some (.cells ys e fr)/\∀(i:Nat) (v:Value),x.xs[i]?=some v->ys[i+x.o]?=some v
 cl:∀v∈x.xs.toList,Closed v
def uz(ws:List Gd)(w:World):List Obj:= [shown w.heap[0]?,shown w.heap[1]?,bare,bare]++ws.map λx=>.cells x.xs 1000000 (0,x.xs.size)
def iq(ws:List Gd)(w:World):World:= { w with heap:=(uz ws w).toArray }
def rk(ws:List Gd):Ren:=λb=>if b<2 then some (b,0) else if 4<=b then(ws[b-4]?).map λx=>(x.c,x.o) else none
def ShW(ws:List Gd):Nat->Prop:=λb=>b<4+ws.length
def YX(ws:List Gd):aG:=λc=>c<2\/∃x∈ws,x.c=c
def gW(ws:List Gd):Gh:= { hw:=λb=>if b=0 then 3 else if 4<=b then(match ws[b-4]? with|some x=>x.xs.size|none=>0) else 0,aD:=λ_=>none }
section
variable{ws:List Gd}{w:World}
theorem ajD:(iq ws w).heap.size=4+ws.length:=by grind [iq,uz]
theorem nV(b:Nat):(iq ws w).heap[b]?=(uz ws w)[b]?:=by simp[iq]
theorem xc{i:Nat}{x:Gd}(h:ws[i]?=some x):(iq ws w).heap[4+i]?=some (.cells x.xs 1000000 (0,x.xs.size)):=by
 rw[nV];show([shown w.heap[0]?,shown w.heap[1]?,bare,bare]++_)[4+i]?=_
 grind
theorem iP{b c d:Nat}(h:rk ws b=some (c,d)):(b<2/\c=b/\d=0)\/∃i x,b=4+i/\ws[i]?=some x/\c=x.c/\d=x.o:=by
 grind [rk]
theorem QN{i:Nat}{x:Gd}(h:ws[i]?=some x):rk ws (4+i)=some (x.c,x.o):=by
 unfold rk
 grind
theorem aoU{b:Nat}(hb:b<2)(p:sF w):∃xs e,(iq ws w).heap[b]?=some (.cells xs e (0,xs.size))/\(∃fr,w.heap[b]?=some (.cells xs e fr))/\
  ∀(K:fO),K.S 255/\K.S 256/\K.S 257->∀(ρ:Ren) (i:Nat) (x:Value),xs[i]?=some x->aI K.S ρ x x:=by
 match b,hb with
 |0,_=>
  obtain⟨e,fr,h0⟩:=p.t;refine⟨F0,e,by grind [nV,uz,shown],⟨fr,h0⟩,λK E ρ i x hx=>?_⟩;have hf (f:FuncId) (hf:K.S f):aI K.S ρ (.func (.func f) #[] #[]) (.func (.func f) #[] #[]):=.func f hf _ _ _ _ rfl (by simp) rfl (by simp)
  grind [F0]
 |1,_=>
  obtain⟨k,n,e,fr,h0⟩:=p.n;refine⟨#[.int k n],e,by grind [nV,uz,shown],⟨fr,h0⟩,λK E ρ i x hx=>?_⟩
  match i with
  |0=>cases hx;exact .int k n
  |i+1=>grind
theorem Ei{K:fO}{P:Program}(N:P.globals.size=4)(O:P.info? 1000000=none)(L:K.S 255/\K.S 256/\K.S 257)(I:sF w)(U:4<=w.heap.size)(H:∀x∈ws,FW w x){CO:Code->Prop} :
  cp P K.S CO (ShW ws) (rk ws) (iq ws w) w:=by
 have J:∀b c d,rk ws b=some (c,d)->ShW ws b:=λb c d h=>by
  rcases iP h with ⟨h1,_⟩|⟨i,x,rfl,h2,_⟩
  ·show b<4+ws.length;omega
  ·have:=(abi.1 h2).1;show 4+i<4+ws.length;omega
 refine⟨λb b' c d d' h1 h2=>.inr ⟨J _ _ _ h1,J _ _ _ h2⟩,λb c d h hs=>absurd (J _ _ _ h) hs,λb c d h _=>?_,λb c d h _=>?_,λb hb=>by rw[ajD];exact hb,λb c d h hg=>?_,by grind [ajD],by omega⟩
 ·rcases iP h with ⟨h1,rfl,rfl⟩|⟨i,x,rfl,h2,rfl,rfl⟩
  ·obtain⟨xs,e,E,⟨fr,p⟩,M⟩:=aoU (ws:=ws) h1 I;exact⟨xs,e,xs.size,xs,e,fr,E,aax _,p,λi x hx=>⟨x,by omega,M K L _ i x hx⟩⟩
  ·obtain⟨ys,e,fr,E,p⟩:=(H x (List.mem_of_getElem? h2)).get;exact⟨_,_,_,ys,e,fr,xc h2,aax _,E,λj v hv=>⟨v,p j v hv,(H x (List.mem_of_getElem? h2)).cl v (by grind) _ _⟩⟩
 ·rcases iP h with ⟨h1,rfl,rfl⟩|⟨i,x,rfl,h2,rfl,rfl⟩
  ·obtain⟨xs,e,E,⟨fr,p⟩,_⟩:=aoU (ws:=ws) h1 I
   simp_all [World.shape?]
  simp_all [xc,World.shape?]
 ·rcases iP h with ⟨h1,rfl,rfl⟩|⟨i,x,rfl,h2,rfl,rfl⟩
  ·obtain⟨xs,e,E,⟨fr,p⟩,_⟩:=aoU (ws:=ws) h1 I
   simp_all [World.shape?]
  ·have:=(H x (List.mem_of_getElem? h2)).ge;omega
theorem Ni:J (iq ws w):=by
 intro b d p e;rw[nV] at e;have hb:(uz ws w)[b]?≠none:=by grind
 unfold uz at e;rw[List.getElem?_append] at e;split at e
 ·rename_i hl;have h0:∀o:Option Obj,∃xs e fr,shown o=.cells xs e fr:=λo=>by
   unfold shown;split
   ·simp_all
   ·exact⟨_,_,_,rfl⟩
  match b,hl with
  |0,_=>obtain⟨_,_,_,h⟩:=h0 w.heap[0]?;grind
  |1,_=>obtain⟨_,_,_,h⟩:=h0 w.heap[1]?;grind
  |2,_=>grind [bare]
  |3,_=>grind [bare]
 simp_all
theorem Ks(E:4<=w.heap.size)(p:∀x∈ws,FW w x):mn (ShW ws) (rk ws) (λ_=>False) (YX ws) w.heap.size:=by
 have H:∀x∈ws,x.c<w.heap.size:=λx hx=>by
  obtain⟨_,_,_,e,_⟩:=(p x hx).get
  grind
 refine⟨λb c d h=>?_,λb c d h hs=>?_,λb c d h _=>?_,λ_ h=>h.elim,λ_ h=>h.elim,λc h=>?_⟩
 ·rcases iP h with ⟨h1,rfl,rfl⟩|⟨i,x,rfl,h2,rfl,rfl⟩
  ·omega
  grind
 ·rcases iP h with ⟨h1,rfl,rfl⟩|⟨i,x,rfl,h2,rfl,rfl⟩
  ·exact hs (show c<4+ws.length by omega)
  ·have:=(abi.1 h2).1;exact hs (show 4+i<4+ws.length by omega)
 ·rcases iP h with ⟨h1,rfl,rfl⟩|⟨i,x,rfl,h2,rfl,rfl⟩
  ·exact .inl h1
  ·exact .inr ⟨x,List.mem_of_getElem? h2,rfl⟩
 ·rcases h with h|⟨x,hx,rfl⟩
  ·omega
  grind
theorem Rg(p:sF w):WI (gW ws) (iq ws w):=by
 refine⟨λb hb=>⟨?_,rfl⟩,λb d e=>(by cases e),λb o v hg=>?_⟩
 ·grind [ajD,gW]
 ·obtain⟨e,fr,h0⟩:=p.t;have h:(iq ws w).heap[0]?=some (.cells F0 e (0,F0.size)):=by grind [nV,uz,shown]
  unfold KX at hg
  grind [gW,World.cell?,F0]
theorem Kt{i:Nat}{x:Gd}(h:ws[i]?=some x){o:Nat}{y:Value}(hy:x.xs[o]?=some y):o<(gW ws).hw (4+i)/\(iq ws w).cell? ⟨4+i,o,none⟩=some y:=by
 grind [xc,World.cell?,gW]
end
def ac_:(Nat->Own)->World->Prop:=λO w=>(O 0=.shared/\O 1=.shared)/\4<=w.heap.size/\sF w
theorem HI:UL ac_:=by
 rintro O O' w w' ⟨⟨h0,h1⟩,E,p⟩ hs _ hz;obtain⟨a1,a2⟩:=hs 0 (by omega) h0;obtain⟨b1,b2⟩:=hs 1 (by omega) h1;exact⟨⟨a1,b1⟩,by omega,⟨by rw[a2];exact p.t,by rw[b2];exact p.n⟩⟩
end Go.Proofs.YtjagmhagphbfcaaGreatDoor
