/- Lemmas, part 28. -/
import Derived.Below
import Derived.Conc.CrowdRun
import Derived.Test.YtjagmhagphbfcaaGreatDoorQ27
set_option maxRecDepth 100000
set_option linter.all false
namespace Go.Proofs.YtjagmhagphbfcaaGreatDoor
open Go renaming World→ap
open Go Go.Proofs Go.Conc
theorem Aa(xs:Array Value)(v:ap)(hx:xs.size=KL.ar 17):Calls PL 17 xs v fun| .returned x,w=>x=.bool true/\w=v|_,_=>False:=by
 have hx:xs= #[]:=Array.eq_empty_of_size_eq_zero hx;subst hx;have hn:AZ.ntmps=224:=rfl;go_enter l17,hn;go_wp2;refine⟨rfl,.bool true,?_,rfl,rfl⟩;have hr:AZ.results= #[.tmp 0]:=rfl;rw[cX,hr];simp[abC,ey]
theorem Qv:aq PL 17 [] (.b true):=by
 intro g w ys hW hr;cases hr.nE;refine(Aa #[] w rfl).mono λe w' h=>?_
 cases e with
 |returned x=>
  obtain⟨rfl,rfl⟩:=h;exact⟨_,g,rfl,.refl g w',hW,.refl g w',.b true,trivial⟩
 |_=>exact h.elim
theorem Ds:Enters PL 17:=enters_of l17 rfl (by decide)
structure Gd where
 c:Nat
 o:Nat
 xs:Array Value
structure FW(w:ap)(x:Gd):Prop where
 ge:4<=x.c
 get:∃ys e fr,w.heap[x.c]?=some (.cells ys e fr)/\∀(i:Nat) (v:Value),x.xs[i]?=some v->ys[i+x.o]?=some v
 cl:∀v∈x.xs.toList,Closed v
def uz(ws:List Gd)(w:ap):List Obj:= [shown w.heap[0]?,shown w.heap[1]?,bare,bare]++ws.map λx=>.cells x.xs 1000000 (0,x.xs.size)
def iq(ws:List Gd)(w:ap):ap:= { w with heap:=(uz ws w).toArray }
def rk(ws:List Gd):Ren:=λb=>if b<2 then some (b,0) else if 4<=b then(ws[b-4]?).map λx=>(x.c,x.o) else none
def ShW(ws:List Gd):Nat->Prop:=λb=>b<4+ws.length
def YX(ws:List Gd):aG:=λc=>c<2\/∃x∈ws,x.c=c
def gW(ws:List Gd):Gh:= { hw:=λb=>if b=0 then 3 else if 4<=b then(match ws[b-4]? with|some x=>x.xs.size|none=>0) else 0,aD:=λ_=>none }
section
variable{ws:List Gd}{w:ap}
theorem ajD:(iq ws w).heap.size=4+ws.length:=by grind [iq,uz]
theorem nV(b:Nat):(iq ws w).heap[b]?=(uz ws w)[b]?:=by simp[iq]
theorem xc{i:Nat}{x:Gd}(h:ws[i]?=some x):(iq ws w).heap[4+i]?=some (.cells x.xs 1000000 (0,x.xs.size)):=by
 rw[nV];show([shown w.heap[0]?,shown w.heap[1]?,bare,bare]++_)[4+i]?=_
 grind
theorem iP{b c d:Nat}(h:rk ws b=some (c,d)):(b<2/\c=b/\d=0)\/∃i x,b=4+i/\ws[i]?=some x/\c=x.c/\d=x.o:=by
 grind [rk]
theorem QN{i:Nat}{x:Gd}(h:ws[i]?=some x):rk ws (4+i)=some (x.c,x.o):=by
 unfold rk
 grind
theorem aoU{b:Nat}(hb:b<2)(p:sF w):∃xs e,(iq ws w).heap[b]?=some (.cells xs e (0,xs.size))/\(∃fr,w.heap[b]?=some (.cells xs e fr))/\
  ∀(K:fO),K.S 255/\K.S 256/\K.S 257->∀(ρ:Ren) (i:Nat) (x:Value),xs[i]?=some x->aI K.S ρ x x:=by
 match b,hb with
 |0,_=>
  obtain⟨e,fr,h0⟩:=p.t;refine⟨F0,e,by grind [nV,uz,shown],⟨fr,h0⟩,λK E ρ i x hx=>?_⟩;have hf (f:FuncId) (hf:K.S f):aI K.S ρ (.func (.func f) #[] #[]) (.func (.func f) #[] #[]):=.func f hf _ _ _ _ rfl (by simp) rfl (by simp)
  grind [F0]
 |1,_=>
  obtain⟨k,n,e,fr,h0⟩:=p.n;refine⟨#[.int k n],e,by grind [nV,uz,shown],⟨fr,h0⟩,λK E ρ i x hx=>?_⟩
  match i with
  |0=>cases hx;exact .int k n
  |i+1=>grind
theorem Ei{K:fO}{P:Program}(N:P.globals.size=4)(O:P.info? 1000000=none)(L:K.S 255/\K.S 256/\K.S 257)(I:sF w)(U:4<=w.heap.size)(H:∀x∈ws,FW w x){CO:Code->Prop} :
  cp P K.S CO (ShW ws) (rk ws) (iq ws w) w:=by
 have J:∀b c d,rk ws b=some (c,d)->ShW ws b:=λb c d h=>by
  rcases iP h with ⟨h1,_⟩|⟨i,x,rfl,h2,_⟩
  ·show b<4+ws.length;omega
  ·have:=(abi.1 h2).1;show 4+i<4+ws.length;omega
 refine⟨λb b' c d d' h1 h2=>.inr ⟨J _ _ _ h1,J _ _ _ h2⟩,λb c d h hs=>absurd (J _ _ _ h) hs,λb c d h _=>?_,λb c d h _=>?_,λb hb=>by rw[ajD];exact hb,λb c d h hg=>?_,by grind [ajD],by omega⟩
 ·rcases iP h with ⟨h1,rfl,rfl⟩|⟨i,x,rfl,h2,rfl,rfl⟩
  ·obtain⟨xs,e,E,⟨fr,p⟩,M⟩:=aoU (ws:=ws) h1 I;exact⟨xs,e,xs.size,xs,e,fr,E,aax _,p,λi x hx=>⟨x,by omega,M K L _ i x hx⟩⟩
  ·obtain⟨ys,e,fr,E,p⟩:=(H x (List.mem_of_getElem? h2)).get;exact⟨_,_,_,ys,e,fr,xc h2,aax _,E,λj v hv=>⟨v,p j v hv,(H x (List.mem_of_getElem? h2)).cl v (by grind) _ _⟩⟩
 ·rcases iP h with ⟨h1,rfl,rfl⟩|⟨i,x,rfl,h2,rfl,rfl⟩
  ·obtain⟨xs,e,E,⟨fr,p⟩,_⟩:=aoU (ws:=ws) h1 I
   simp_all [World.shape?]
  simp_all [xc,World.shape?]
 ·rcases iP h with ⟨h1,rfl,rfl⟩|⟨i,x,rfl,h2,rfl,rfl⟩
  ·obtain⟨xs,e,E,⟨fr,p⟩,_⟩:=aoU (ws:=ws) h1 I
   simp_all [World.shape?]
  ·have:=(H x (List.mem_of_getElem? h2)).ge;omega
theorem Ni:J (iq ws w):=by
 intro b d p e;rw[nV] at e;have hb:(uz ws w)[b]?≠none:=by grind
 unfold uz at e;rw[List.getElem?_append] at e;split at e
 ·rename_i hl;have h0:∀o:Option Obj,∃xs e fr,shown o=.cells xs e fr:=λo=>by
   unfold shown;split
   ·simp_all
   ·exact⟨_,_,_,rfl⟩
  match b,hl with
  |0,_=>obtain⟨_,_,_,h⟩:=h0 w.heap[0]?;grind
  |1,_=>obtain⟨_,_,_,h⟩:=h0 w.heap[1]?;grind
  |2,_=>grind [bare]
  |3,_=>grind [bare]
 simp_all
theorem Ks(E:4<=w.heap.size)(p:∀x∈ws,FW w x):mn (ShW ws) (rk ws) (λ_=>False) (YX ws) w.heap.size:=by
 have H:∀x∈ws,x.c<w.heap.size:=λx hx=>by
  obtain⟨_,_,_,e,_⟩:=(p x hx).get
  grind
 refine⟨λb c d h=>?_,λb c d h hs=>?_,λb c d h _=>?_,λ_ h=>h.elim,λ_ h=>h.elim,λc h=>?_⟩
 ·rcases iP h with ⟨h1,rfl,rfl⟩|⟨i,x,rfl,h2,rfl,rfl⟩
  ·omega
  grind
 ·rcases iP h with ⟨h1,rfl,rfl⟩|⟨i,x,rfl,h2,rfl,rfl⟩
  ·exact hs (show c<4+ws.length by omega)
  ·have:=(abi.1 h2).1;exact hs (show 4+i<4+ws.length by omega)
 ·rcases iP h with ⟨h1,rfl,rfl⟩|⟨i,x,rfl,h2,rfl,rfl⟩
  ·exact .inl h1
  ·exact .inr ⟨x,List.mem_of_getElem? h2,rfl⟩
 ·rcases h with h|⟨x,hx,rfl⟩
  ·omega
  grind
theorem Rg(p:sF w):WI (gW ws) (iq ws w):=by
 refine⟨λb hb=>⟨?_,rfl⟩,λb d e=>(by cases e),λb o v hg=>?_⟩
 ·grind [ajD,gW]
 ·obtain⟨e,fr,h0⟩:=p.t;have h:(iq ws w).heap[0]?=some (.cells F0 e (0,F0.size)):=by grind [nV,uz,shown]
  unfold KX at hg
  grind [gW,World.cell?,F0]
theorem Kt{i:Nat}{x:Gd}(h:ws[i]?=some x){o:Nat}{y:Value}(hy:x.xs[o]?=some y):o<(gW ws).hw (4+i)/\(iq ws w).cell? ⟨4+i,o,none⟩=some y:=by
 grind [xc,World.cell?,gW]
end
def ac_:(Nat->Own)->ap->Prop:=λO w=>(O 0=.shared/\O 1=.shared)/\4<=w.heap.size/\sF w
theorem HI:UL ac_:=by
 rintro O O' w w' ⟨⟨h0,h1⟩,E,p⟩ hs _ hz;obtain⟨a1,a2⟩:=hs 0 (by omega) h0;obtain⟨b1,b2⟩:=hs 1 (by omega) h1;exact⟨⟨a1,b1⟩,by omega,⟨by rw[a2];exact p.t,by rw[b2];exact p.n⟩⟩
theorem VK:(Tryz.prog.inits.all λf=> !mask.testBit f)=true:=by kernel_rfl
theorem Vz(f:FuncId)(h:KL.S f\/KL.H f):Tryz.prog.inits.idxOf? f=none:=by
 have hf:mask.testBit f=true:=by
  rcases h with h|h
  ·exact h
  ·cases h
 grind [Array.all_eq_true_iff_forall_mem,VK]
theorem ZM:(PL.info? 1000000).isNone=true:=by kernel_rfl
theorem Nr{f:FuncId}(hf:KL.s f=true)(hb:∃fn c,PL.funcs[f]?=some fn/\fn.body=some c){ws:List Gd}{W:ap}(H:sF W)(E:4<=W.heap.size)(I:∀x∈ws,FW W x){args:Array Value}{xs:List Value}
  (ha:∀S,AR S (rk ws) xs.toArray args) {la:List AV} (hc:aq PL f la (.b true)) (hr:cS (gW ws) (iq ws W) la xs):
  ∃N last o w' t',runNT Tryz.prog (N+1) (solo (G (Frame.enter Tryz.prog f args .normal) []) W) #[]=(.ended o w',t')/\runN Tryz.prog N (solo (G (Frame.enter Tryz.prog f args .normal) []) W)=.next last/\
   step Tryz.prog last=.ended o w'/\Conc.Good Tryz.prog (λv w'=>v=.bool true/\RowKit.Below W.heap.size W w') last o w' t':=by
 classical
 have Y:PL.globals.size=4:=by rfl
 have hI:PL.info? 1000000=none:=by rfl
 have M:=IL Qi (by decide);have hS:=IL KL (by decide);have V:=Ei (P:=PL) (K:=Qi) (CO:=Qi.CO PL) Y hI M H E I;have Cb:=Ei (P:=PL) (K:=KL) (CO:=KL.CO PL) Y hI hS H E I;have hG:∀g,(λg=>Nat.blt g 2) g=true->rk ws g=some (g,0):=λg hg=>by
  simp_all [rk]
 have HA:∀t:Nat->Question->Nat,Calls PL f xs.toArray { iq ws W with tape:=t } fun
  | .returned x,_=>x=.bool true
  |_,_=>False:=λt=>by
  refine(hc (gW ws) { iq ws W with tape:=t } xs ((Rg H).heap rfl) ⟨hr.1,λj a y h1 h2=>(hr.2 j a y h1 h2).heap rfl⟩).mono ?_;rintro e w' ⟨y,g',rfl,_,_,_,hy,_⟩;cases hy;rfl
 have Z:gu PL mi (λv _=>v=.bool true) (Frame.enter PL f xs.toArray .normal) [] (iq ws W):=by
  refine pC (K:=Qi) ack (λ_=>rfl) HA (λ_ _ _ h=>h) ?_ hb (λ_ _ _ h=>h.elim) hG V (ha _) Ni;show(mask.testBit f||f==17)=true;have:mask.testBit f=true:=hf
  simp_all
 let O:Nat->Own:=λc=>if YX ws c then .shared else .kept
 have U:∀c,YX ws c->O c=.shared:=λc h=>aay h
 have hl:=Ks E I;have J:Co Tryz.prog none (λ_=>undef) O (λ_ _=>True) (λ_=>False) W #[LG (Frame.enter Tryz.prog f args .normal) []] #[] []:=by
  have ht:∀i a,touchAt #[] i=some a->False:=λi a h=>by grind [touchAt,Trace.act?]
  refine⟨rfl,⟨λop h=>by simp at h,λsaid=>ConcN.noRace_nil said,λi a b h=>(ht i a h).elim,λi a b g h=>(ht i a h).elim,λi a b h=>(ht i a h).elim,λi a b h=>(ht i a h).elim,λ_=>trivial,λi z h=>by simp at h⟩,λi r g h=>by simp at h,λc h=>?_,λc k h=>(by cases h),λp h=>h.elim⟩;refine aaO λhn=>h ?_
  exact aat λhs=>hn (hl.GG c hs)
 have Od:gy PL Tryz.prog KL (ShW ws) mi (λv _=>v=.bool true) (rk ws) (Frame.enter PL f xs.toArray .normal) [] (iq ws W) (Frame.enter Tryz.prog f args .normal) [] W:=
  ⟨Z,hG,Cb,⟨fL.enter acm hf (ha _) hb,.nil,rfl⟩,Ni⟩
 have L:=Ns (P:=PL) (Q:=Tryz.prog) (K:=KL) (Sd:=YX ws) acm (λf h=>show f=17 by grind [KL]) Vz (told:=17) (λf h=>by grind [KL]) Aa (W0:=W) (G:=ac_)
  (λys hy=>by
   have hy:ys= #[]:=Array.eq_empty_of_size_eq_zero hy;subst hy;intro pr O Rd w gs t rs sl c0 cs J h0 hg;exact JQ _ pr O Rd w gs t rs sl c0 cs J h0 hg.2) HI _ Z.acc.transGen (rk ws) _ [] W O (λ_ _=>True) _ #[] [] (λ_=>False) (λ_=>undef) none Od hl (λ_ h=>h.elim) U J rfl
  ⟨⟨U 0 (.inl (by decide)),U 1 (.inl (by decide))⟩,E,H⟩ (λb hb=>⟨rfl,by
   grind⟩) (aax _) ⟨rfl,rfl,rfl⟩
 obtain⟨N,last,o,w',t',h1,h2,h3,E⟩:=L.run;refine⟨N,last,o,w',t',h1,h2,h3,?_⟩;obtain⟨v,hv,⟨e1,e2,e3,e4,e5,e6⟩,kE⟩:=E;exact⟨v,hv,⟨e1,⟨e2,e4,e3,e5,e6⟩⟩,kE⟩
end Go.Proofs.YtjagmhagphbfcaaGreatDoor
