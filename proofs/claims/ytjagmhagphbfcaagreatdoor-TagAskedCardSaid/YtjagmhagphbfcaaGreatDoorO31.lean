/- Lemmas, part 31. -/
import Derived.Test.YtjagmhagphbfcaaGreatDoorO30
set_option maxRecDepth 100000
set_option linter.all false
namespace Go.Proofs.YtjagmhagphbfcaaGreatDoor
open Go Go.Proofs
section
variable{P:Program}
def fr7:Frame:= { (default:Frame) with fn:=7,kind:=.normal }
def ans(i v e:Int):Value:=.tuple #[.int .i64 i,.int .i64 v,.int .i64 e]
theorem aqX(Y:P.funcs[7]?=some Tryz.f7){h:ay}{k:Int}{B0:World}{i v e:Int}(M:∀(g0:Gh) (w0:World) (T:Nat->AV) (B:Nat->Option (Bool×List AV)),T 1=.i .u8 k->T 2=.bx 2 0->B 2=some (true,o6 h)->T 5=.i .i64 i->T 6=.i .i64 v->T 7=.i .i64 e->swp P g0 w0 n6 (λe s'=>(e=.normal\/e=.ret)/\s'.T 4=.b true) ⟨T,B,λ_=>none,22,146⟩)
  {c1:Frame} {u:World} (hg:TG7 P h k B0 fr7 [] c1 u):eV P mi (c1.finish (ans i v e)) u (λx _=>x=.bool true):=by
 intro t;obtain⟨a,⟨T,B,lv,nx,n⟩,b0,g0,w0,g,m,rfl,_,_,hs,aJ,ba⟩:=hg;obtain⟨hn,hnx,L,t1,t2,B2⟩:=hs;simp only at hn hnx L t1 t2 B2;subst hn hnx L;have dJ:=aJ.dI t (λ_ _ _=>trivial);have W:jb P a_ (base g0):=.of (au P) ⟨λ_ _=>rfl,λ_ _ _=>rfl⟩;have hb:kI (aqI.toList.drop 2)= [⟨some 23,.move (.tmp 25),63, "",#[],none⟩,⟨some 26,.extract (.tmp 23) 0,3, "",#[],none⟩,⟨some 27,.extract (.tmp 23) 1,3, "",#[],none⟩,⟨some 28,.extract (.tmp 23) 2,29, "",#[],none⟩,⟨some 5,.assign (.tmp 26),3, "",#[],none⟩,⟨some 6,.assign (.tmp 27),3, "",#[],none⟩,⟨some 7,.assign (.tmp 28),29, "",#[],none⟩]:=rfl;have hd:zf aqI= [some 24,some 25,some 23,some 26,some 27,some 28,some 5,some 6,some 7]:=rfl;have hz:Gl aqI=9:=rfl;have vG:aqI.size=9:=rfl;have gf:Rd g { u with tape:=t } (.tu [.i .i64 i,.i .i64 v,.i .i64 e]) (ans i v e):=by
  have:cS g { u with tape:=t } [.i .i64 i,.i .i64 v,.i .i64 e] [.int .i64 i,.int .i64 v,.int .i64 e]:=.cons (.i _ _) (.cons (.i _ _) (.cons (.i _ _) (.nil _ _)));exact .tu _ _ this.1 this.2
 have fE:=dJ.put (d:=25) (show 25<146 by decide) (a:=.tu [.i .i64 i,.i .i64 v,.i .i64 e]) (.inl (.of gf rfl));have p:wpOps P aqI (λe a w=>e=.normal/\n6.wp P (QS P (base g0) { w0 with tape:=t } (λe s'=>(e=.normal\/e=.ret)/\s'.T 4=.b true)) a w) [2,3,4,5,6,7,8] (a.put (some 25) (ans i v e)) { u with tape:=t } :=by
  refine DY (k:=2) (tb:=a_) (mt:=λ_=>false) W (by decide) (fE.sub λj U=>?_) ba ?_
  ·have:13+2<=j:=U;show 13+1<=j;omega
  ·rw[hb,hd,hz];simp;intro a w E;exact M _ _ _ _ (by simp[t1]) (by simp[t2]) B2 (by simp) (by simp) (by simp) a w E
 have cn:(fr7.at a (.inRegion aqI [1,2,3,4,5,6,7,8]::.code n6:: [])).finish (ans i v e)=fr7.at (a.put (some 25) (ans i v e)) (.inRegion aqI [2,3,4,5,6,7,8]::.code n6:: []):=
  OQ (o:=⟨some 25,.call { callee:=.value (.func 41),args:= #[.tmp 24],argTypes:= #[25] },63, "own.go:371",#[{ on:=0,ground:=.data }],none⟩) rfl _
 rw[cn];obtain⟨e1,a1,w1,⟨rfl,h2⟩,⟨n1,I⟩⟩:=wp_ops _ _ _ p fr7 [.code n6] [bz P];obtain⟨J,a2,w2,⟨x',s',he,⟨hx,h0⟩,E⟩,H⟩:=h2 fr7 [] [bz P];obtain⟨g2,m2,cU,O⟩:=E;have N:(results Tryz.f7 a2.tmps).run P w2=.ok (.bool true) w2:=by
  rw[results_tmp (t:=4) rfl];have:=cU.tmps 4;rw[h0] at this;rw[this.b]
 have key:∃todo,Steps P (lone (fr7.at (a.put (some 25) (ans i v e)) (.inRegion aqI [2,3,4,5,6,7,8]::.code n6:: [])) [bz P] { u with tape:=t }) (lone { fr7.at a2 todo with mode:=.returning } [bz P] w2):=by
  rcases hx with rfl|rfl
  ·cases J <;>simp only[c8,Option.some.injEq,reduceCtorEq] at he
   exact⟨_,Steps.trans ⟨n1,I⟩ (Steps.trans H (.one Go.step_end))⟩
  ·cases J <;>simp only[c8,Option.some.injEq,reduceCtorEq] at he
   obtain⟨todo,Z⟩:=H;exact⟨todo,Steps.trans ⟨n1,I⟩ Z⟩
 obtain⟨todo,k,hk⟩:=key;exact⟨k,{ fr7.at a2 todo with mode:=.returning },[],w2,hk,.inr ⟨rfl,rfl,O,rfl,.bool true,Tryz.f7,Y,N,rfl⟩⟩
variable[l:cL P]
noncomputable def aqw(h:ay):Value:=if aB h= [] then ans 0 0 9 else ans (bV (λi=>ry h (dP h i) i) ((aB h).length:Nat) h.tags.length).1 (bV (λi=>ry h (dP h i) i) ((aB h).length:Nat) h.tags.length).2 0
theorem ary(H:P.funcs[7]?=some Tryz.f7)(e17:Enters P 17)(p:aq P 17 [] (.b true)){h:ay}{k:Int}(E:0<=k)(hk:k<=255)(hf:Fo h=true)(hn:h.tags≠ []){B0:World}{c1:Frame}{u:World}(hg:TG7 P h k B0 fr7 [] c1 u):
  eV P mi (c1.finish (aqw h)) u (λx _=>x=.bool true):=by
 unfold aqw;by_cases hw:aB h= []
 ·rw[aay hw];exact aqX H (λg0 w0 T B t1 t2 B2 t5 t6 t7=>art e17 p hf hw t1 t2 B2 t5 t6 t7) hg
 ·rw[aat hw];refine aqX H (λg0 w0 T B t1 t2 B2 t5 t6 t7=>?_) hg;rcases aqW (λi=>ry h (dP h i) i) ((aB h).length:Nat) h.tags.length with ⟨e,h1⟩|⟨j,I,e,h1,h2,J⟩
  ·rw[e] at t5 t6;exact arw e17 p E hk hf hn hw h1 t1 t2 B2 t5 t6 t7
  ·rw[e] at t5 t6;exact ar0 e17 p E hk hf hn hw I h1 h2 J t1 t2 B2 t5 t6 t7
end
section
variable{P:Program}[l:cL P]
theorem ara(e17:Enters P 17)(N:aq P 17 [] (.b true))(h:ay)(k:Int)(hs:Fo h=false\/h.tags= []):aq P 7 [eG h,.i .u8 k] (.b true):=by
 obtain⟨A,M,p⟩:=ca (Si (P:=P) h);obtain⟨T,L,H⟩:=ca N;simp only[o6] at p;have J:=cV h.tags;cases hf:Fo h with
 |false=>
  rw[hf] at p;refine fi (ak (aR Tryz.func30) M (ak e17 L (au P))) (lf Tryz.func7) ?_
  repeat' (first|with_reducible refine t_ ?_|with_reducible refine Gj ?_|with_reducible refine Ml ?_|with_reducible refine Pn ?_|with_reducible refine II ?_|with_reducible refine kW ?_|with_reducible refine US ?_|with_reducible refine Mm ?_|with_reducible refine NB ?_|with_reducible refine Po ?_|with_reducible refine L0 ?_|with_reducible refine Y7 ?_|with_reducible refine ZL ?_|with_reducible refine acB ?_|(with_reducible refine Jy ?_ ?_;focus (decide;done))|(with_reducible refine oR [0,1,2,4,5,6,7,8,9,10,11,12,21,36,38,76,96,124,126] ?_ (λK I=>?_);(first|exact(λh=>Bool.noConfusion h)|exact(λ_=>⟨by kernel_rfl,by kernel_rfl⟩));simp[eG,o6,ab,az,p,H];repeat' (first|(with_reducible refine I _ ?_;clear I K)|(with_reducible refine aE (λhc=>?_) (λhc=>?_) <;>(try simp only[aan,aac] at hc) <;>simp[hc,eG,o6,ab,az,p,H])))|(with_reducible refine aqj ?_ ?_;focus (simp[eG,o6,ab,az,p,H];done))|(with_reducible refine xd ?_ ?_;focus (simp[eG,o6,ab,az,p,H];done)))
  simp[Dn,aH,Tryz.f7]
 |true=>
  rw[hf] at p;have hn:h.tags= []:=hs.resolve_left (by simp[hf]);have E:((h.tags.length:Int)==0)=true:=by simp[hn]
  refine fi (ak (aR Tryz.func30) M (ak e17 L (au P))) (lf Tryz.func7) ?_
  repeat' (first|with_reducible refine t_ ?_|with_reducible refine Gj ?_|with_reducible refine Ml ?_|with_reducible refine Pn ?_|with_reducible refine II ?_|with_reducible refine kW ?_|with_reducible refine US ?_|with_reducible refine Mm ?_|with_reducible refine NB ?_|with_reducible refine Po ?_|with_reducible refine L0 ?_|with_reducible refine Y7 ?_|with_reducible refine ZL ?_|with_reducible refine acB ?_|(with_reducible refine Jy ?_ ?_;focus (decide;done))|(with_reducible refine oR [0,1,2,4,5,6,7,8,9,10,11,12,21,36,38,76,96,124,126] ?_ (λK I=>?_);(first|exact(λh=>Bool.noConfusion h)|exact(λ_=>⟨by kernel_rfl,by kernel_rfl⟩));simp[eG,o6,ab,az,p,H,J,E];repeat' (first|(with_reducible refine I _ ?_;clear I K)|(with_reducible refine aE (λhc=>?_) (λhc=>?_) <;>(try simp only[aan,aac] at hc) <;>simp[hc,eG,o6,ab,az,p,H,J,E])))|(with_reducible refine aqj ?_ ?_;focus (simp[eG,o6,ab,az,p,H,J,E];done))|(with_reducible refine xd ?_ ?_;focus (simp[eG,o6,ab,az,p,H,J,E];done)))
  simp[Dn,aH,Tryz.f7]
def arM(P:Program)(h:ay)(k:Int)(B:World)(p:Value)(fr:Frame)(fs:List Frame)(v:World):Prop:=∃c1,fr=Frame.enter P 41 #[p] .normal/\fs= [c1]/\TG7 P h k B fr7 [] c1 v
omit l in
theorem TG7.dI{h:ay}{k:Int}{B:World}{b:Frame}{p:List Item}{c1:Frame}{u:World}(hg:TG7 P h k B b p c1 u)(t:Nat->Question->Nat):TG7 P h k B b p c1 { u with tape:=t } :=by
 obtain⟨a,s,b0,g0,w0,g,m,I,H,E,hs,L,J⟩:=hg;exact⟨a,s,b0,g0,_,g,m,I,H,E,hs,L.dI t (λ_ _ _=>trivial),J⟩
omit l in
theorem asY(p:P.funcs[7]?=some Tryz.f7)(xs:Array Value):Frame.enter P 7 xs .normal=fr7.at { tmps:=xs++Array.replicate (146-xs.size) undef,defers:= [] } [.code c7]:=by
 simp only[Frame.enter,p];rfl
theorem arZ(H:P.funcs[7]?=some Tryz.f7)(J:Enters P 41){h:ay}{k:Int}(hf:Fo h=true)(hn:h.tags≠ []){g:Gh}{v:World}(hW:WI g v)(E:∀b,g.aD b=none){ys:List Value}{y2:Value}(hr:cS g v [eG h,.i .u8 k] [.agg ys.toArray,y2]){R:Value->World->Prop} :
  eV P (arM P h k v (.agg ys.toArray)) (Frame.enter P 7 #[.agg ys.toArray,y2] .normal) v R:=by
 intro t;have I:=uV (P:=P) (g:=g) (w:= { v with tape:=t }) (hW.heap rfl) (args:= [.ag (o6 h),.i .u8 k]) (ys:= [.agg ys.toArray,y2]) ⟨hr.1,λj a y h1 h2=>(hr.2 j a y h1 h2).heap rfl⟩ (n:=146) (show 2<=146 by decide);have hz:∀(z:Array Value),({ tmps:= [Value.agg ys.toArray,y2].toArray++z,defers:= [] } :Act).eval (.tmp 0)=.agg ys.toArray:=λz=>by
  show([Value.agg ys.toArray,y2].toArray++z).getD 0 undef=_;rw[aba,Array.getElem?_append_left (by simp)];rfl
 obtain⟨m',⟨k',hk⟩,c1,u,rfl,p⟩:=arX (P:=P) J hf hn (by exact E) I (hz (Array.replicate (146- [Value.agg ys.toArray,y2].length) undef)) fr7 [] [bz P];rw[asY H];exact⟨k',_,[c1],u,hk,.inl λt'=>⟨c1,rfl,rfl,p.dI t'⟩⟩
end
section
variable{h:ay}(hc:aO h=0)(hm:j9 h)
include hc hm
theorem arW(hw:aB h= []){g:Gh}{v0:World}{E:Value}(hW:WI g v0)(hr:Rd g v0 (.ag (o6 h)) E):Calls Tryz.prog 74 #[E,.slice none 0 0] v0 fun
  | .returned x,_=>∃a1 a2 a3 p4 n4 m4 p5 n5 m5 p6 pl lw ml,x=.tuple #[.agg #[.string a1,.string a2,.string a3,.slice p4 n4 m4,.slice p5 n5 m5,.map p6],.slice pl lw ml,.int .i64 9]
  |_,_=>False:=by
 have W:aq Tryz.prog 74 [.ag (o6 h),.sq none 0 []] (cG 9):=by
  have:=aq.ZE (P:=Tryz.prog) (k:=1) (by simpa using wT (P:=Tryz.prog) h [] hm.L hm.S hm.R hm.n hm.a hm.m hm.t (by simp));have H:bJ h []=9:=by have:=alN hc;rwa[aay hw] at this
  have e:bZ h []=cG 9:=by unfold bZ;rw[aay (by rw[H];decide),H]
  simp_all
 refine(W g v0 [E,.slice none 0 0] hW (.cons hr (.cons (.nil _ _) (.nil _ _)))).mono ?_;rintro e v ⟨y,g',rfl,_,_,_,gf,_⟩;obtain⟨ys,rfl,hr⟩:=Zm gf;obtain⟨y1,ys,rfl,r1,hr⟩:=hr.dX;obtain⟨y2,ys,rfl,U,hr⟩:=hr.dX;obtain⟨Y,ys,rfl,O,hr⟩:=hr.dX;cases hr.nE;cases Zo O;obtain⟨pl,nl,ml,rfl,_⟩:=MR U;obtain⟨p,rfl,hz⟩:=Zp r1;simp only[dQ] at hz;obtain⟨z1,p,rfl,s1,hz⟩:=hz.dX;obtain⟨z2,p,rfl,s2,hz⟩:=hz.dX;obtain⟨z3,p,rfl,s3,hz⟩:=hz.dX;obtain⟨z4,p,rfl,N,hz⟩:=hz.dX;obtain⟨z5,p,rfl,M,hz⟩:=hz.dX;obtain⟨I,p,rfl,J,hz⟩:=hz.dX;cases hz.nE;cases U9 s1;cases U9 s2;cases U9 s3;obtain⟨p4,n4,m4,rfl,_⟩:=MR N;obtain⟨p5,n5,m5,rfl,_⟩:=MR M;have:I=.map none:=by cases J;rfl
 subst this;exact⟨_,_,_,p4,n4,m4,p5,n5,m5,none,pl,nl,ml,rfl⟩
theorem asu{V:D1}{D:Nat->Bool}{F:World->Prop}{s1 s2 s3:ByteArray}{av av':Value}{pt pt':Option Addr}{n mt:Nat}(hn:n=h.tags.length)(H:∀g,Nat.blt g 2=true->D g=true/\V g=none)(p:Vw Tryz.prog V D)
  (L:∀w w':World,w.heap.size<=w'.heap.size->(∀b,D b=true->w'.heap[b]?=w.heap[b]?)->F w->F w') (I:∀w,F w->mh KQ.S V D w) (E:∀w,F w->sF w)
  (hv:aI KQ.S (B6 V D) (.agg #[.string s1,.string s2,.string s3,av',.slice pt' n mt]) (.agg #[.string s1,.string s2,.string s3,av,.slice pt n mt]))
  (gf:∀w D',F w->(∀b,D b=true->D' b=true)->Rd (gD V D' w) (cK V D' w) (.ag (o6 h)) (.agg #[.string s1,.string s2,.string s3,av',.slice pt' n mt])) (Qp:Machine->Outcome->World->Trace->Prop):
  Phase Tryz.prog Qp 41 #[.agg #[.string s1,.string s2,.string s3,av,.slice pt n mt]] (aqw h) (λ_ w=>F w/\4<=w.heap.size):=by
 unfold aqw;by_cases hw:aB h= []
 ·rw[aay hw];exact @ari Tryz.prog (Twin.self _) KQ V D F s1 s2 s3 av av' pt pt' n mt 9 U5 (λ_=>rfl) (by decide) ⟨_,_,(lf Tryz.func74),rfl⟩ H p L I hv (by decide) (λw J t=>arW hc hm hw ((Ut (I w J) (H 0 rfl).1 (H 0 rfl).2 (E w J)).heap rfl) ((gf w D J λ_ h=>h).heap rfl)) Qp
 ·rw[aat hw];subst hn;exact @akf Tryz.prog (Twin.self _) KQ V D F s1 s2 s3 av av' pt pt' _ mt _ _ _ _ U5 (λ_=>rfl) (aqY hc hm hw rfl H p L I E hv gf) Qp
end
theorem aqK{V:D1}{D:Nat->Bool}{F:World->Prop}{k:Nat}{l:List AV}{y:Value}{w:World}{id:Nat}(v0:V 0=none)(v1:V 1=none)(d0:D 0=true)(d1:D 1=true)
  (h:aqC k l y\/∃c o n m ys,y=.slice (some ⟨c,o,none⟩) n m/\D5 w k l c o n m ys/\V id=some (c,o,ys.length)/\∀w',F w'->id<w'.heap.size/\w'.heap[c]?=w.heap[c]?):
  ∃H,(∀p n m,y=.slice p n m->∃M,H=.slice M n m)/\aI KQ.S (B6 V D) H y/\∀w' D',F w'->Rd (gD V D' w') (cK V D' w') (.sq none k l) H:=by
 rcases h with ⟨h1,h2⟩|⟨c,o,n,m,ys,rfl,⟨W3,hk,Y,W,U,L,gf,xs,e,fr,hx,J⟩,hv,N⟩
 ·exact⟨y,λp n m e=>⟨p,e⟩,h1 _ V D v0 v1 d0 d1,λw' D' _=>h2 _ _⟩
 ·refine⟨.slice (some ⟨id,0,none⟩) n m,λp n' m' e=>by cases e;exact⟨_,rfl⟩,?_,λw' D' hw=>?_⟩
  ·have:=aI.slice (S:=KQ.S) id c o 0 none n m (asj (D:=D) hv);simpa using this
  ·obtain⟨O,Z⟩:=N w' hw;refine .sq none k l id 0 n m ys hk Y W U (λy hy=>(L y hy).one) (λj y I=>?_) (gf _ _).2;rw[abY];refine asW O hv (Z.trans hx) ?_;have Am:=(abi.1 I).1;rw[Array.getElem?_extract];have E:=J j y I;have aK:=(aah.1 E).1;rw[aay (by omega)];exact E
def WOK(w:World)(x:Nat×Nat×Nat):Prop:=4<=x.1/\∃xs e fr,w.heap[x.1]?=some (.cells xs e fr)/\∀(i:Nat) (y:Value),(xs.extract x.2.1 (x.2.1+x.2.2))[i]?=some y->Closed y
theorem D5.wok{w:World}{k:Nat}{l:List AV}{c o n m:Nat}{ys:List Value}(h:D5 w k l c o n m ys):WOK w (c,o,ys.length)/\WOK w (c,0,0):=by
 obtain⟨p,hk,L,J,I,H,gf,xs,e,fr,hx,E⟩:=h;refine⟨⟨p,xs,e,fr,hx,λi y hy=>?_⟩,⟨p,xs,e,fr,hx,λi y hy=>by simp at hy⟩⟩;have hg:=arK hy;have hi:i<ys.length:=by
  have:=(aah.1 hy).1;rw[Array.size_extract] at this;simp only at this;omega
 have:=E i ys[i] (aaf hi);rw[afV] at this;have e:y=ys[i]:=by rw[this] at hg;exact(adw hg).symm
 rw[e];exact(H _ (abG hi)).cl
section
variable(x1 x2:Nat×Nat×Nat)
def V2:D1:=λb=>if b=4 then some x1 else if b=5 then some x2 else if b=x1.1\/b=x2.1 then some (b,0,0) else none
def D2:Nat->Bool:=λb=>Nat.blt b 2||(b==x1.1||b==x2.1)
def F2(w:World)(w':World):Prop:=sF w'/\6<=w'.heap.size/\w'.heap[x1.1]?=w.heap[x1.1]?/\w'.heap[x2.1]?=w.heap[x2.1]?
variable{x1 x2}{w:World}(h1:WOK w x1)(h2:WOK w x2)
include h1 h2
theorem vw2:Vw Tryz.prog (V2 x1 x2) (D2 x1 x2):=by
 have hg:Tryz.prog.globals.size=4:=rfl;have hi:Tryz.prog.info? 1000000=none:=by rfl
 intro b c o n hv;have hd:c=x1.1\/c=x2.1:=by grind [V2]
 have hb:4<=b:=by
  have:=h1.1;have:=h2.1;unfold V2 at hv;split at hv
  ·omega
  ·split at hv
   ·omega
   ·split at hv
    ·omega
    ·cases hv
 refine⟨?_,by omega,?_,hi⟩
 ·rcases hd with rfl|rfl <;>simp[D2]
 ·have:=h1.1;have:=h2.1;rw[hg];rcases hd with rfl|rfl <;>omega
theorem ar4{b:Nat}(hb:b<2):D2 x1 x2 b=true/\V2 x1 x2 b=none:=by
 have:=h1.1;have:=h2.1;refine⟨by simp[D2,hb],?_⟩;unfold V2;rw[aat (by omega),aat (by omega),aat (by omega)]
theorem ash(u p:World)(hz:u.heap.size<=p.heap.size)(hs:∀b,D2 x1 x2 b=true->p.heap[b]?=u.heap[b]?)(h:F2 x1 x2 w u):F2 x1 x2 w p:=by
 obtain⟨a,b,c,d⟩:=h;have J:=hs 0 (ar4 h1 h2 (by decide)).1;have I:=hs 1 (ar4 h1 h2 (by decide)).1;have H:=hs x1.1 (by simp[D2]);have E:=hs x2.1 (by simp[D2]);exact⟨⟨by rw[J];exact a.t,by rw[I];exact a.n⟩,by omega,H.trans c,E.trans d⟩
theorem asJ(w':World)(h:F2 x1 x2 w w'):mh KQ.S (V2 x1 x2) (D2 x1 x2) w':=by
 obtain⟨J,hz,N,M⟩:=h;have L:=IL KQ (by decide);obtain⟨a1,xs1,t1,f1,c1,cl1⟩:=h1;obtain⟨a2,xs2,t2,f2,c2,cl2⟩:=h2;rw[<-N] at c1;rw[<-M] at c2;have p:∀b,D2 x1 x2 b=true->b<2\/b=x1.1\/b=x2.1:=λb hb=>by
  simpa[D2] using hb
 refine⟨λc hc hv=>?_,λb c o n hv=>?_,λc hc=>?_⟩
 ·have E:c<2:=by
   rcases p c hc with hl|hl
   ·exact hl
   ·exfalso;unfold V2 at hv
    grind
  obtain⟨xs,e,_,⟨fr,I⟩,H⟩:=aoU (ws:= []) E J;exact⟨xs,e,fr,I,λi x hx=>H KQ L _ i x hx⟩
 ·have l1:=(aah.1 c1).1;have l2:=(aah.1 c2).1;unfold V2 at hv;split at hv
  ·cases hv;exact⟨by omega,xs1,t1,f1,c1,λi x hx=>cl1 i x hx _ _⟩
  ·split at hv
   ·cases hv;exact⟨by omega,xs2,t2,f2,c2,λi x hx=>cl2 i x hx _ _⟩
   ·split at hv
    ·rename_i hb;cases hv;rcases hb with rfl|rfl
     ·exact⟨l1,xs1,t1,f1,c1,λi x hx=>by simp at hx⟩
     ·exact⟨l2,xs2,t2,f2,c2,λi x hx=>by simp at hx⟩
    ·cases hv
 ·have l1:=(aah.1 c1).1;have l2:=(aah.1 c2).1;rcases p c hc with hl|rfl|rfl <;>omega
end
section
variable{h:ay}(hc:aO h=0)(hm:j9 h)
include hc hm
theorem arL{V:D1}{D:Nat->Bool}{F:World->Prop}{s1 s2 s3:ByteArray}{av tv:Value}(q1:sv h.L=.string s1)(q2:sv h.S=.string s2)(q3:sv h.R=.string s3)(O:∃p n m,av=.slice p n m)(N:∃p m,tv=.slice p h.tags.length m)(Z:∀g,Nat.blt g 2=true->D g=true/\V g=none)(M:Vw Tryz.prog V D)
  (bH:∀w w':World,w.heap.size<=w'.heap.size->(∀b,D b=true->w'.heap[b]?=w.heap[b]?)->F w->F w') (qp:∀w,F w->mh KQ.S V D w) (U:∀w,F w->sF w)
  (hA:∃E,(∀p n m,av=.slice p n m->∃H,E=.slice H n m)/\aI KQ.S (B6 V D) E av/\∀w' D',F w'->Rd (gD V D' w') (cK V D' w') (.sq none 1 (h.alike.map .s)) E)
  (hB:∃E,(∀p n m,tv=.slice p n m->∃H,E=.slice H n m)/\aI KQ.S (B6 V D) E tv/\∀w' D',F w'->Rd (gD V D' w') (cK V D' w') (.sq none 3 (bI h.tags)) E) (Qp:Machine->Outcome->World->Trace->Prop):
  Phase Tryz.prog Qp 41 #[.agg #[.string s1,.string s2,.string s3,av,tv]] (aqw h) (λ_ w=>F w/\4<=w.heap.size):=by
 obtain⟨p,n,m,rfl⟩:=O;obtain⟨pt,mt,rfl⟩:=N;obtain⟨av',ha1,LV,ha3⟩:=hA;obtain⟨tv',HC,Y,xB⟩:=hB;obtain⟨H,rfl⟩:=ha1 p n m rfl;obtain⟨pt',rfl⟩:=HC pt _ mt rfl;refine asu (av':=.slice H n m) (pt':=pt') hc hm rfl Z M bH qp U ?_ (λw D' W _=>?_) Qp
 ·refine .agg _ _ rfl λi x y I J=>?_
  match i with
  |0=>cases I;cases J;exact .string _
  |1=>cases I;cases J;exact .string _
  |2=>cases I;cases J;exact .string _
  |3=>cases I;cases J;exact LV
  |4=>cases I;cases J;exact Y
  |i+5=>simp at I
 ·have hr:cS (gD V D' w) (cK V D' w) (o6 h) [.string s1,.string s2,.string s3,.slice H n m,.slice pt' h.tags.length mt]:=by
   rw[<-q1,<-q2,<-q3];exact .cons (.s _) (.cons (.s _) (.cons (.s _) (.cons (ha3 w D' W) (.cons (xB w D' W) (.nil _ _)))))
  refine .ag _ _ hr.1 (λy hy=>?_) hr.2;simp only[abZ,adz,aeP] at hy;rcases hy with rfl|rfl|rfl|rfl|rfl <;>rfl
theorem ar1{w:World}(hT:sF w)(h4:4<=w.heap.size){s1 s2 s3:ByteArray}{av tv:Value}(q1:sv h.L=.string s1)(q2:sv h.S=.string s2)(q3:sv h.R=.string s3)(U:∃p n m,av=.slice p n m)(N:∃p m,tv=.slice p h.tags.length m)
  (J:aqC 1 (h.alike.map .s) av\/∃c o n m ys,av=.slice (some ⟨c,o,none⟩) n m/\D5 w 1 (h.alike.map .s) c o n m ys/\6<=w.heap.size) (H:aqC 3 (bI h.tags) tv\/∃c o n m ys,tv=.slice (some ⟨c,o,none⟩) n m/\D5 w 3 (bI h.tags) c o n m ys/\6<=w.heap.size) (Qp:Machine->Outcome->World->Trace->Prop):
  ∃W:(Nat->Own)->World->Prop,(∀O,W O w)/\Phase Tryz.prog Qp 41 #[.agg #[.string s1,.string s2,.string s3,av,tv]] (aqw h) W:=by
 have two:∀(x1 x2:Nat×Nat×Nat),WOK w x1->WOK w x2->6<=w.heap.size->(aqC 1 (h.alike.map .s) av\/∃c o n m ys,av=.slice (some ⟨c,o,none⟩) n m/\D5 w 1 (h.alike.map .s) c o n m ys/\x1=(c,o,ys.length))->
   (aqC 3 (bI h.tags) tv\/∃c o n m ys,tv=.slice (some ⟨c,o,none⟩) n m/\D5 w 3 (bI h.tags) c o n m ys/\x2=(c,o,ys.length))->∃W:(Nat->Own)->World->Prop,(∀O,W O w)/\Phase Tryz.prog Qp 41 #[.agg #[.string s1,.string s2,.string s3,av,tv]] (aqw h) W:=by
  intro x1 x2 k1 k2 M J H;have Y:=ar4 k1 k2 (b:=0) (by decide);have l1:=ar4 k1 k2 (b:=1) (by decide);refine⟨λ_ w'=>F2 x1 x2 w w'/\4<=w'.heap.size,λ_=>⟨⟨hT,M,rfl,rfl⟩,h4⟩,arL hc hm q1 q2 q3 U N (λg hg=>ar4 k1 k2 (by simpa using hg)) (vw2 k1 k2) (ash k1 k2) (asJ k1 k2) (λw' h=>h.1) ?_ ?_ Qp⟩
  ·refine aqK (w:=w) (id:=4) Y.2 l1.2 Y.1 l1.1 (J.imp_right ?_);rintro⟨c,o,n,m,ys,e,hp,rfl⟩;exact⟨c,o,n,m,ys,e,hp,by simp[V2],λw' hw=>⟨by have:=hw.2.1;omega,hw.2.2.1⟩⟩
  ·refine aqK (w:=w) (id:=5) Y.2 l1.2 Y.1 l1.1 (H.imp_right ?_);rintro⟨c,o,n,m,ys,e,hp,rfl⟩;exact⟨c,o,n,m,ys,e,hp,by simp[V2],λw' hw=>⟨by have:=hw.2.1;omega,hw.2.2.2⟩⟩
 rcases J with J|⟨c,o,n,m,ys,e,hp,M⟩
 ·rcases H with H|⟨c',o',Z,m',ys',e',E,M⟩
  ·have hS:=IL KQ (by decide);refine⟨λ_ w'=>(sF w'/\4<=w'.heap.size)/\4<=w'.heap.size,λ_=>⟨⟨hT,h4⟩,h4⟩,arL hc hm (V:=noW) (D:=Dg) q1 q2 q3 U N (λg hg=>⟨hg,rfl⟩) (aq6 _ _) (λu u' hz hs I=>⟨⟨by rw[hs 0 rfl];exact I.1.t,by rw[hs 1 rfl];exact I.1.n⟩,aaY I.2 hz⟩) (λu I=>sU hS.1 hS.2.1 hS.2.2 P1 I.1) (λu I=>I.1) ?_ ?_ Qp⟩
   ·exact aqK (w:=w) (id:=4) rfl rfl rfl rfl (.inl J)
   ·exact aqK (w:=w) (id:=5) rfl rfl rfl rfl (.inl H)
  ·exact two (c',0,0) (c',o',ys'.length) E.wok.2 E.wok.1 M (.inl J) (.inr ⟨c',o',Z,m',ys',e',E,rfl⟩)
 ·rcases H with H|⟨c',o',Z,m',ys',e',E,_⟩
  ·exact two (c,o,ys.length) (c,0,0) hp.wok.1 hp.wok.2 M (.inr ⟨c,o,n,m,ys,e,hp,rfl⟩) (.inl H)
  ·exact two (c,o,ys.length) (c',o',ys'.length) hp.wok.1 E.wok.1 M (.inr ⟨c,o,n,m,ys,e,hp,rfl⟩) (.inr ⟨c',o',Z,m',ys',e',E,rfl⟩)
end
end Go.Proofs.YtjagmhagphbfcaaGreatDoor
namespace Go.Proofs.YtjagmhagphbfcaaGreatDoor
open Go Go.Conc
section
variable{P:Program}{K:fO}{Sh:Nat->Prop}{St:Frame->List Frame->World->Prop}{R:Value->World->Prop}
theorem asi(J: @Env P P (Twin.self P) K.S (K.CO P) K.g K.H)(U:∀f,K.j4 f=false):∀(n:Nat) {g:Frame} {gs:List Frame} {u:World} {fr:Frame} {hs:List Frame} {w':World},Inv P K Sh g gs u->runN P n (lone g (gs++ [bz P]) u)=.next (lone fr (hs++ [bz P]) w')->
  (fr.mode=.run\/fr.mode=.returning)->Inv P K Sh fr hs w':=by
 intro n
 induction n with
 |zero=>
  intro g gs u fr hs w' p h _;simp only[runN,adW] at h;obtain⟨rfl,W,rfl⟩:=gn h;have:=gI W;subst this;exact p
 |succ n O=>
  intro g gs u fr hs w' p h hm;rcases NC J U p with hend|⟨N,hu,I⟩|⟨dL,dG,v1,hs1,hi⟩
  ·exfalso;obtain⟨Y,E,hd⟩:=hend;subst Y
   letI:Twin P P:=Twin.self P
   obtain⟨I,ρ,fr',eP,w0,hG,hw,L⟩:=p;have M:∃f,P.funcs[g.fn]?=some f:=let ⟨f,_,e,_⟩:=Env.res J L.top.ok;⟨f,e⟩
   exact Fv (fr:=g) ⟨rfl,E,hd⟩ L.top.kind.1 M h
  ·exfalso;rcases hu with ⟨o,Z,es,e⟩|⟨dL,dG,ch,es,e,E,hp⟩
   ·rw[ky (step_end e)] at h;cases h
   ·rw[ff (jQ e)] at h;exact IW n dL dG ch N E hp I fr hs w' hm h
  ·obtain⟨es,e⟩:=hs1.2.2.2 u.tape (λ_ _ _ _=>rfl);have e':stepG P true (LG g (gs++ [bz P])) u=.go (LG dL (dG++ [bz P])) v1 es:=by
    have h2:=hs1.2.1;obtain⟨hp,tp,dr,os,out⟩:=v1
    simp_all
   rw[ff (jQ e')] at h;exact O hi h hm
theorem aqS(H:∀fr fs v,UK St fr fs v->∀d m',runN P (d+1) (lone fr (fs++ [bz P]) v)≠.next m'):∀(n:Nat) {g:Frame} {gs:List Frame} {u:World} {fr:Frame} {hs:List Frame} {w':World},gu P St R g gs u->runN P n (lone g (gs++ [bz P]) u)=.next (lone fr (hs++ [bz P]) w')->
  gu P St R fr hs w'/\((fr,hs,w')=(g,gs,u)\/Relation.TransGen (oM P St) (fr,hs,w') (g,gs,u)):=by
 intro n
 induction n with
 |zero=>
  intro g gs u fr hs w' hr h;simp only[runN,adW] at h;obtain⟨rfl,I,rfl⟩:=gn h
  simp_all
 |succ n E=>
  intro g gs u fr hs w' hr h;have p:¬UK St g gs u:=λx=>H _ _ _ x n _ h
  cases hr with
  |stop h=>exact(p h).elim
  |leave hm hd hk hf hx=>
   exfalso;obtain⟨x,v1,e,_⟩:=hx u.tape;rw[aaV,ff (jQ (my hm hd hk hf e))] at h
   grind [ud]
  |step hn F G V hs' k=>
   obtain⟨⟨es,e⟩,_⟩:=hs' u.tape;rw[ff (jQ e)] at h;obtain⟨h1,h2⟩:=E (k u.tape) h;have hb:oM P St (F u.tape,G u.tape,V u.tape) (g,gs,u):=⟨p,u.tape,es,e⟩
   exact⟨h1,.inr (h2.elim (λe=>by rw[e];exact .single hb) (λh2=>h2.tail hb))⟩
theorem arj(I:∀fr fs v,UK St fr fs v->∀d m',runN P (d+1) (lone fr (fs++ [bz P]) v)≠.next m'){f:FuncId}{xs:Array Value}{c1:Frame}{dG:List Frame}{v:World}{H:Value->World->Prop}(hr:gu P St R (Frame.enter P f xs .normal) (c1::dG) v)(hc:Calls P f xs v fun
  | .returned x,w=>H x w
  |_,_=>False):∃x v2,H x v2/\gu P St R (c1.finish x) dG v2/\Relation.TransGen (oM P St) (c1.finish x,dG,v2) (Frame.enter P f xs .normal,c1::dG,v):=by
 obtain⟨e,w',fr,p,J,_,hl⟩:=hc (c1::dG++ [bz P]);cases e with
 |panicked ch=>exact p.elim
 |outgrown=>exact p.elim
 |returned x=>
  obtain⟨n,hn⟩:=J;obtain⟨h1,h2⟩:=aqS I n hr hn;refine⟨x,w',p,?_⟩;obtain⟨L,E⟩:=aqS I 1 (fr:=c1.finish x) (hs:=dG) (w':=w') h1 (by
   rw[aaT,ff (step_leave_returned hl)];rfl)
  refine⟨L,?_⟩;have cr:(c1.finish x,dG,w')≠((fr,c1::dG,w'):Frame×List Frame×World):=by
   simp_all
  rcases E with e|E
  ·grind
  ·rcases h2 with e|h2
   ·simp_all
   ·exact E.trans h2
end
section
variable{P Q:Program}[Twin P Q]{K:fO}{Sh:Nat->Prop}{St:Frame->List Frame->World->Prop}{Sd:aG}
structure asy(Q:Program)(W0:World)(G:(Nat->Own)->World->Prop)(Sd Ow:aG)(pr:Nat->Value)(g0:Goroutine)(O:Nat->Own)(Rd:Nat->aG)(w:World)(gs:Array Goroutine)(t:Trace)(rs:List Rk):Prop where
 ow:∀b,Ow b->O b=.of 0
 sd:∀b,Sd b->O b=.shared
 co:Co Q none pr O Rd (λ_=>False) w gs t rs
 h0:gs[0]?=some g0
 g:G O w
 mo:∀b,b<W0.heap.size->w.heap[b]?=W0.heap[b]?/\(O b=.kept\/O b=.shared)
 size:W0.heap.size<=w.heap.size
 os:w.os=W0.os/\w.output=W0.output/\w.tape=W0.tape
theorem aqM{W0:World}{G G2:(Nat->Own)->World->Prop}(hG:UL G){f:FuncId}{ys:Array Value}{x:Value}(U:Phase Q (Ends Q W0) f ys x G2){Ow:aG}{pr:Nat->Value}{c1:Frame}{Y:List Frame}{O:Nat->Own}{Rd:Nat->aG}{w:World}{gs:Array Goroutine}{t:Trace}{rs:List Rk}{sl:Option (Nat×Nat)}
  (h:asy Q W0 G Sd Ow pr (LG (Frame.enter Q f ys .normal) (c1::Y)) O Rd w gs t rs) (I:∀b,Ow b->b<w.heap.size) (W:∀O',G O' w->G2 O' w)
  (kk:∀H Rd2 w2 J t2 L M,asy Q W0 G Sd Ow pr (LG (c1.finish x) Y) H Rd2 w2 J t2 L->aU Ow Sd w w2->AE Q (Ends Q W0) (crowd J w2 M) t2):AE Q (Ends Q W0) (crowd gs w sl) t:=by
 obtain⟨uH,oa,E,E9,F5,TU,Rp,Z⟩:=h;have Hy:Co Q none pr (qG O) Rd (λ_=>False) w gs t rs:=E.GO (E.tr.Oy λb _=>by
   grind [uP,iX])
  (λb i hi e=>by grind [iX]) (λb e=>by grind [iX])
  (λb hb=>E.lt b (λe=>hb (by grind [iX]))) (λc k e=>by cases e)
 refine U pr (qG O) Rd w gs t rs sl c1 Y Hy E9 (W _ (hG O _ w w F5 (λb hb e=>⟨by grind [iX],rfl⟩) E.lt (aax _))) (λH Rd2 w2 J t2 L M N Cq p=>?_);have vG:∀b,b<w.heap.size->O b=.of 0->H b=.kept:=λb hb e=>by
  rcases p.own b hb with e1|⟨e1,_⟩
  ·grind [uP]
  ·exact e1
 have Hp:∀b,b<w.heap.size->(O b=.kept\/O b=.shared)->qJ O H w.heap.size b=O b:=λb hb e=>by
  rw[o_ (by grind)];exact p.same hb e
 have xz:Co Q none pr (qJ O H w.heap.size) Rd2 (λ_=>False) w2 J t2 L:=N.GO (N.tr.Oy λb _=>by
   grind [uT,o_,mX])
  (λb i hi e=>by
   grind [o_,mX])
  (λb e=>by
   grind [o_,mX])
  (λb hb=>by
   rcases adv b w.heap.size with hl|hl
   ·have:=p.size;omega
   ·rw[mX hl] at hb;exact N.lt b hb)
  (λc k e=>by cases e)
 have vn:aU Ow Sd w w2:=⟨p.size,λb hb=>p.heap b (I b hb),λb hb=>p.heap b (E.lt b (by grind)),p.os,p.out,p.tape⟩
 refine kk (qJ O H w.heap.size) Rd2 w2 J t2 L M ⟨λb hb=>uT (I b hb) (uH b hb),λb hb=>by rw[Hp b (E.lt b (by grind)) (.inr (oa b hb))];grind,xz,Cq,?_,λb hb=>?_,aaY Rp p.size,p.os.trans Z.1,p.out.trans Z.2.1,p.tape.trans Z.2.2⟩ vn
 ·exact hG O _ w w2 F5 (λb hb e=>⟨by grind,p.heap b hb⟩) E.lt p.size
 ·obtain⟨h1,h2⟩:=TU b hb;have fM:=abD hb Rp;exact⟨by rw[p.heap b fM];exact h1,by grind⟩
theorem aqT(hE:Env P Q K.S (K.CO P) K.g K.H)(gp:∀f,K.j4 f=true->Twin.B P Q f)(N8:∀f,K.S f\/K.H f->Q.inits.idxOf? f=none){told ask:FuncId}(R5:∀f,K.j4 f=true->f=told\/f=ask)
  (ahZ:∀fr fs v,St fr fs v->¬(K.S fr.fn\/K.H fr.fn)) (Xb:∀fr fs v,UK St fr fs v->∀d m',runN P (d+1) (lone fr (fs++ [bz P]) v)≠.next m')
  (iK:∀xs (v:World),xs.size=K.ar told->Calls P told xs v fun| .returned x,w=>x=.bool true/\w=v|_,_=>False) {W0:World} {G:(Nat->Own)->World->Prop} {R:Value->World->Prop} (hR:∀x v,R x v->x=.bool true)
  (We:∀ys:Array Value,ys.size=K.ar told->Phase Q (Ends Q W0) told ys (.bool true) G) (hG:UL G)
  (Ot:∀ρ xs dG v1 ys E Ow O Rd w gs t rs sl pr,CZ P Q K Sh St R ρ ask xs dG v1 ys E w->mn Sh ρ Ow Sd w.heap.size->asy Q W0 G Sd Ow pr (LG (Frame.enter Q ask ys .normal) E) O Rd w gs t rs->AE Q (Ends Q W0) (crowd gs w sl) t):
  ∀(y:Frame×List Frame×World),Acc (Relation.TransGen (oM P St)) y->∀(ρ:Ren) (fr':Frame) (eP:List Frame) (w:World) (O:Nat->Own) (Rd:Nat->aG) (gs:Array Goroutine) (t:Trace) (rs:List Rk) (Ow:aG) (pr:Nat->Value) (sl:Option (Nat×Nat)),
  gy P Q K Sh St R ρ y.1 y.2.1 y.2.2 fr' eP w->mn Sh ρ Ow Sd w.heap.size->asy Q W0 G Sd Ow pr (LG fr' eP) O Rd w gs t rs->
  AE Q (Ends Q W0) (crowd gs w sl) t:=by
 intro y oB
 induction oB with
 |intro y _ ih=>
  intro ρ fr' eP w O Rd gs t rs Ow pr sl hf hl ⟨ho,iC,mq,h0,hg,hold,cq,LQ⟩;obtain⟨fr,fs,v⟩:=y
  let ajw:GS->Prop:=λs=>s.g.frame.mode=.returning/\∃w1 es,stepG Q true s.g s.w=.ended (.done (.bool true)) w1 es/\jM s.ow s.w w1/\(∀e∈es,EvW (bU s.ow s.w w1) Sd e)
  let Call:GS->Prop:=λs=>∃f ρ1 xs dG v1 ys E,K.Bg f xs.size/\s.g=LG (Frame.enter Q f ys .normal) E/\CZ P Q K Sh St R ρ1 f xs dG v1 ys E s.w/\mn Sh ρ1 s.ow Sd s.w.heap.size/\
   Relation.TransGen (oM P St) (Frame.enter P f xs .normal,dG,v1) (fr,fs,v)
  have nj:WT Q true Sd (λs=>ajw s\/Call s) ⟨LG fr' (eP++ []),w,Ow⟩:=by
   refine hf.tree hE gp ahZ hl (Kp:=λ_=>False) (λ_ h=>h.elim) (λc0 cs e=>by cases e) (λ_=>⟨rfl,N8,?_⟩) ?_
   ·intro Uu ρ1 a a' v1 w' w1 es fN _ _ _ _ hmd bH dt cu _ hv ha;have ha:=hR _ _ ha;subst ha;cases hv;exact .inl ⟨hmd,w1,es,bH,dt,cu⟩
   ·intro f ρ1 xs dG v1 ys E w1 fN _ _ hl1 _ _ _ p hb;refine .stop rfl λw' ha=>.inr ⟨f,ρ1,xs,dG,v1,ys,E,p.j4,by simp,⟨p.runs,p.cz,p.rel.agree hl1 ha,p.args,p.rest,p.bot,p.j4,p.ne,p.j⟩,hl1.agree ha.size,hb⟩
  rw[acO] at nj;refine mq.phase nj h0 (aU.refl _ _ _) ho iC (λs' O' gs' t' nR sJ nk L E9 hrun I Z oa ov _ _=>?_) sl;have TU:∀b,b<W0.heap.size->s'.w.heap[b]?=W0.heap[b]?/\(O' b=.kept\/O' b=.shared):=λb hb=>by
   obtain⟨h1,h2⟩:=hold b hb;have fM:=abD hb cq;exact⟨by rw[I.heap b h2 fM];exact h1,by rw[I.own b fM];exact h2⟩
  have M:s'.w.os=W0.os/\s'.w.output=W0.output/\s'.w.tape=W0.tape:=⟨I.os.trans LQ.1,I.out.trans LQ.2.1,I.tape.trans LQ.2.2⟩
  have U:=aaY cq I.size;have F5:G O' s'.w:=hG O O' w s'.w hg (λb hb hs=>⟨by rw[I.own b hb];exact hs,I.heap b (.inr hs) hb⟩) mq.lt I.size;rcases nk s'.w (aU.refl _ _ _) with hd|⟨f,ρ1,xs,dG,v1,ys,E,J,N,p,hl1,aK⟩
  ·
   refine L.Dq E9 hrun (λW w2 Cr t2 BB Y d Yh uJ Cq has _=>?_) sJ;have F8:aU s'.ow Sd s'.w (w2.at d):=(has.trans (Aside.at W w2 d)).agree L.lt Z oa;have C3:∀b,s'.ow b->W b=.of 0:=λb hb=>by rw[has.own b (L.lt b (by grind))];grind
   have pd:∀b,Sd b->W b=.shared:=λb hb=>by rw[has.own b (L.lt b (by grind))];grind
   rcases nk (w2.at d) F8 with ⟨_,w3,es,e1,e2,e3⟩|⟨f,ρ1,xs,dG,v1,ys,E,_,N,_⟩
   ·exact uJ.done Cq e1 e2 e3 C3 pd (λb hb=>by
     obtain⟨h1,h2⟩:=TU b hb;have fM:=abD hb U;exact⟨by rw[has.heap b (by grind) fM];exact h1,by rw[has.own b fM];exact h2⟩)
     (aaY U has.size) ⟨has.os.trans M.1,has.out.trans M.2.1,has.tape.trans M.2.2⟩ Y Yh
   ·exfalso;have hd:=hd.1;simp only at N;rw[N] at hd;cases hd
  ·
   have h01:gs'[0]?=some (LG (Frame.enter Q f ys .normal) E):=by rw[E9,N]
   rcases R5 f J.1 with rfl|rfl
   ·cases dG with
    |nil=>exact absurd rfl p.ne
    |cons c1 Se=>
     have kE:=p.rest;cases kE with
     | @cons _ Qg _ HL HB WM=>
      obtain⟨x,v2,⟨hx,hv⟩,uG,E1⟩:=arj Xb p.runs (iK xs v1 J.2);subst hx hv;refine aqM hG (We ys (p.args.1.symm.trans J.2)) ⟨Z,oa,L,h01,F5,TU,U,M⟩ hl1.vc (λ_ h=>h) λW Rd2 w2 Cr t2 BB Y hh vn=>?_
      exact ih _ (E1.trans aK) ρ1 (Qg.finish (.bool true)) HL w2 _ Rd2 Cr t2 BB s'.ow pr Y ⟨uG,p.cz,p.rel.agree hl1 vn,⟨HB.finish (.bool true),WM,jL.same (fr:=c1) (show jL c1 Se from p.bot) (eQ _ _)⟩,p.j⟩ (hl1.agree vn.size) hh
   ·exact Ot ρ1 xs dG v1 ys E s'.ow O' Rd s'.w gs' t' nR sJ pr p hl1 ⟨Z,oa,L,h01,F5,TU,U,M⟩
end
open Go.Proofs
theorem arV{P:Program}{K:fO}{Sh:Nat->Prop}{St:Frame->List Frame->World->Prop}{R:Value->World->Prop}{kG:Frame}{v0:World}(I: @Env P P (Twin.self P) K.S (K.CO P) K.g K.H)(J:∀f,K.j4 f=false)(hC:eV P St kG v0 R)(L:∀fr fs v,St fr fs v->fr.mode=.run)(E:Inv P K Sh kG [] v0):
  eV P (λfr fs v=>St fr fs v/\Inv P K Sh fr fs v) kG v0 R:=by
 intro t;obtain⟨m,g,gs,u,hr,hg⟩:=hC t;refine⟨m,g,gs,u,hr,hg.imp (λhs=>?_) id⟩;have p:=asi I J m (gs:= []) (E.dI t) hr (.inl (L _ _ _ (hs u.tape)));exact λt'=>⟨hs t',p.dI t'⟩
theorem arA(i v e:Int):Closed (ans i v e):=by
 intro S ρ;refine .tuple _ _ rfl λj x y h1 h2=>?_
 rw[h1] at h2;cases h2
 match j with
 |0=>cases h1;exact .int _ _
 |1=>cases h1;exact .int _ _
 |2=>cases h1;exact .int _ _
 |j+3=>simp at h1
theorem aqH(h:ay):Closed (aqw h):=by
 unfold aqw;split <;>exact arA _ _ _
theorem aq_(xs:Array Value):(Frame.enter PA 41 xs .normal).mode=.run:=by rfl
theorem fnA(xs:Array Value):(Frame.enter PA 41 xs .normal).fn=41:=by rfl
theorem arU{xs ys:Array Value}(h1:xs.size=1)(h2:ys.size=1)(e:Frame.enter PA 41 xs .normal=Frame.enter PA 41 ys .normal):xs=ys:=by
 have hb:A_.body=some (.exit 0):=rfl;rw[enter_at xs a41 hb,enter_at ys a41 hb] at e;have p:xs++Array.replicate (A_.ntmps-xs.size) undef=ys++Array.replicate (A_.ntmps-ys.size) undef:=congrArg Frame.tmps e
 grind [Array.append_inj]
def StA(ws:List Gd)(W:World)(h:ay)(k:Int)(p:Value)(fr:Frame)(fs:List Frame)(v:World):Prop:=((Fo h=true/\h.tags≠ [])/\arM PA h k (iq ws W) p fr fs v)/\Inv PA KA0 (ShW ws) fr fs v
theorem StA.mode{ws:List Gd}{W:World}{h:ay}{k:Int}{p:Value}{fr:Frame}{fs:List Frame}{v:World}(hs:StA ws W h k p fr fs v):fr=Frame.enter PA 41 #[p] .normal:=by
 obtain⟨⟨_,c1,e,_⟩,_⟩:=hs;exact e
theorem aro{ws:List Gd}{W:World}(hT:sF W){h:ay}{k:Int}{ys:List Value}(E:cS (gW ws) (iq ws W) (o6 h) ys){a0:Value}(ha0:∀S,aI S (rk ws) (.agg ys.toArray) a0){K:fO}{ρ:Ren}{v1 w:World}(J:cp PA K.S (K.CO PA) (ShW ws) ρ v1 w){c1 Qg:Frame}(hTG:TG7 PA h k (iq ws W) fr7 [] c1 v1)(og:AR K.S ρ c1.tmps Qg.tmps)
  {y:Value} (hy:aI K.S ρ (.agg ys.toArray) y) (hf:Fo h=true) (Z:sF w) (h4w:4<=w.heap.size) (Qp:Machine->Outcome->World->Trace->Prop):
  ∃G2:(Nat->Own)->World->Prop,(∀O,G2 O w)/\Phase Tryz.prog Qp 41 #[y] (aqw h) G2:=by
 have yW:PA.globals.size=4:=rfl;obtain⟨a,s,b0,g0,w0,g,m,ec,⟨C6,ZU⟩,ht2,hs,aJ,ba⟩:=hTG;simp only[o6] at E;obtain⟨y1,M,rfl,r1,E⟩:=E.dX;obtain⟨y2,M,rfl,r2,E⟩:=E.dX;obtain⟨y3,M,rfl,r3,E⟩:=E.dX;obtain⟨y4,M,rfl,r4,E⟩:=E.dX;obtain⟨y5,M,rfl,r5,E⟩:=E.dX;cases E.nE;have e1:=U9 r1;have e2:=U9 r2;have e3:=U9 r3;subst e1 e2 e3;have ha:=ha0 K.S;cases ha with
 |agg _ cs hs1 hr1=>
 cases hy with
 |agg _ bs hs2 H=>
 have n1:cs.size=5:=hs1.symm;have n2:bs.size=5:=hs2.symm;have ha4:=hr1 3 _ cs[3] rfl (aa_ (by omega));have ha5:=hr1 4 _ cs[4] rfl (aa_ (by omega));have z1:=(H 0 _ bs[0] rfl (aa_ (by omega))).fB;have z2:=(H 1 _ bs[1] rfl (aa_ (by omega))).fB;have z3:=(H 2 _ bs[2] rfl (aa_ (by omega))).fB;have hy4:=H 3 _ bs[3] rfl (aa_ (by omega));have hy5:=H 4 _ bs[4] rfl (aa_ (by omega));have Y:bs= #[.string ⟨h.L.toArray⟩,.string ⟨h.S.toArray⟩,.string ⟨h.R.toArray⟩,bs[3],bs[4]]:=by
  grind
 have yx:c1.tmps[2]?=some (.pointer (some ⟨b0,0,none⟩)):=by
  rw[ec];show a.tmps[2]?=_;rw[aba] at ht2;have cq:a.tmps.size=146:=aJ.size.trans hs.n;rw[aa_ (by omega)] at ht2 ⊢;simpa using ht2
 obtain⟨p,hp⟩:∃p,Qg.tmps[2]?=some p:=by
  have aK:=(aah.1 yx).1;exact⟨Qg.tmps[2]'(by have:=og.1;omega),aa_ _⟩
 have avY:=og.2 2 _ _ yx hp;obtain⟨c0,d0,hρ0⟩:∃c d,ρ b0=some (c,d):=by
  cases avY with
  |ptr _ c d _ _ hb=>exact⟨c,d,hb⟩
 have Wi:¬ShW ws b0:=by
  intro hs;have:b0<4+ws.length:=hs;rw[ajD] at C6;omega
 obtain⟨_,o,o',_,uH,_⟩:=J.own _ _ _ hρ0 Wi;have hc0:c0<w.heap.size:=(aah.1 uH).1;have aAK:4<=c0:=by
  refine af2 λaK=>?_
  have:=(J.cz _ _ _ hρ0 (.inr (by omega))).1;rw[ajD] at C6;omega
 have I:∀ {k l c o n m ys},D5 w k l c o n m ys->(∃b d,ρ b=some (c,d)/\ShW ws b)->6<=w.heap.size:=by
  rintro k l c o n m ys ⟨W3,_,_,_,_,_,_,xs,e,fr,hx,_⟩ ⟨b,d,hb,U⟩;have hc:=(aah.1 hx).1;have cr:c≠c0:=by
   rintro rfl;rcases J.inj _ _ _ _ _ hb hρ0 with rfl|⟨_,h2⟩
   ·exact Wi U
   ·exact Wi h2
  omega
 have hA:=arE J ZU hT (arT h.alike) ha4 r4 hy4;have hB:=arE J ZU hT (aqV h.tags) ha5 r5 hy5;rw[Y];refine ar1 (Sj hf) (K4 (OO hf)) Z h4w rfl rfl rfl ?_ ?_ (hA.imp_right ?_) (hB.imp_right ?_) Qp
 ·obtain⟨p,n,m,rfl,_⟩:=MR r4;obtain⟨N,e⟩:=hy4.lT;exact⟨N,n,m,e⟩
 ·obtain⟨p,n,m,rfl,hl⟩:=MR r5;obtain⟨N,e⟩:=hy5.lT;rw[cV] at hl;have:n=h.tags.length:=by omega
  subst this;exact⟨N,m,e⟩
 ·rintro⟨c,o,n,m,ys,e,hp,hb⟩;exact⟨c,o,n,m,ys,e,hp,I hp hb⟩
 ·rintro⟨c,o,n,m,ys,e,hp,hb⟩;exact⟨c,o,n,m,ys,e,hp,I hp hb⟩
theorem aqP(W:World)(ys:Array Value)(hy:ys.size=KA.ar 17):Phase Tryz.prog (Ends Tryz.prog W) 17 ys (.bool true) ac_:=by
 have hy:ys= #[]:=Array.eq_empty_of_size_eq_zero hy;subst hy;intro pr O Rd w gs t rs sl c0 cs p h0 hg;exact JQ _ pr O Rd w gs t rs sl c0 cs p h0 hg.2
theorem arv{ws:List Gd}{W:World}(I:sF W)(J:4<=W.heap.size)(Y:∀x∈ws,FW W x){args:Array Value}{xs:List Value}(ha:∀S,AR S (rk ws) xs.toArray args){h:ay}{k:Int}(vJ:0<=k)(hk:k<=255)(hr:cS (gW ws) (iq ws W) [eG h,.i .u8 k] xs):
  ∃N last o w' t',runNT Tryz.prog (N+1) (solo (G (Frame.enter Tryz.prog 7 args .normal) []) W) #[]=(.ended o w',t')/\runN Tryz.prog N (solo (G (Frame.enter Tryz.prog 7 args .normal) []) W)=.next last/\
   step Tryz.prog last=.ended o w'/\Conc.Good Tryz.prog (λv w'=>v=.bool true/\RowKit.Below W.heap.size W w') last o w' t':=by
 classical
 have yW:PA.globals.size=4:=by rfl
 have hI:PA.info? 1000000=none:=by rfl
 have hS0:=IL KA0 (by decide);have hS:=IL KA (by decide);have aae:=Ei (P:=PA) (K:=KA0) (CO:=KA0.CO PA) yW hI hS0 I J Y;have Cb:=Ei (P:=PA) (K:=KA) (CO:=KA.CO PA) yW hI hS I J Y;have hG:∀g,(λg=>Nat.blt g 2) g=true->rk ws g=some (g,0):=λg hg=>by
  simp_all [rk]
 have hb:∃fn c,PA.funcs[7]?=some fn/\fn.body=some c:=⟨_,_,a7,rfl⟩
 have V_:=hr;obtain⟨x0,zs,rfl,r0,hr⟩:=hr.dX;obtain⟨y2,zs,rfl,r2,hr⟩:=hr.dX;cases hr.nE;obtain⟨ys,rfl,hrh⟩:=Zp r0;have M:Inv PA KA0 (ShW ws) (Frame.enter PA 7 [Value.agg ys.toArray,y2].toArray .normal) [] (iq ws W):=
  ⟨Ni,rk ws,_,[],W,hG,aae,@CW.mk PA PA (Twin.self PA) _ _ _ _ _ _ (@fL.enter PA PA (Twin.self PA) _ _ arI _ (show KA0.s 7=true from rfl) _ _ (ha _) hb) .nil rfl⟩
 have asS:eV PA (λfr fs v=>(Fo h=true/\h.tags≠ [])/\arM PA h k (iq ws W) (.agg ys.toArray) fr fs v) (Frame.enter PA 7 [Value.agg ys.toArray,y2].toArray .normal) (iq ws W) (λv _=>v=.bool true):=by
  by_cases hs:Fo h=true/\h.tags≠ []
  ·intro t;obtain⟨m,g,gs,u,h1,h2⟩:=arZ (P:=PA) a7 arc hs.1 hs.2 (Rg I) (λ_=>rfl) V_ (R:=λv _=>v=.bool true) t;exact⟨m,g,gs,u,h1,h2.imp (λh t'=>⟨hs,h t'⟩) id⟩
  ·have hc:=ara (P:=PA) aqx aq9 h k (by
    rcases Bool.eq_false_or_eq_true (Fo h) with e|e
    ·exact .inr (aaO λhn=>hs ⟨e,hn⟩)
    ·exact .inl e)
   refine vu λt=>?_
   refine(hc (gW ws) { iq ws W with tape:=t } _ ((Rg I).heap rfl) ⟨V_.1,λj a y h1 h2=>(V_.2 j a y h1 h2).heap rfl⟩).mono ?_;rintro e w' ⟨y,g',rfl,_,_,_,hy,_⟩;cases hy;rfl
 have np:∀fr fs v,((Fo h=true/\h.tags≠ [])/\arM PA h k (iq ws W) (.agg ys.toArray) fr fs v)->fr.mode=.run:=by
  rintro fr fs v ⟨_,c1,rfl,_⟩;exact aq_ _
 have uG:gu PA (StA ws W h k (.agg ys.toArray)) (λv _=>v=.bool true) (Frame.enter PA 7 [Value.agg ys.toArray,y2].toArray .normal) [] (iq ws W):=
  QG (K:=KA0) arI (λ_=>rfl) (arV arI (λ_=>rfl) asS np M) (λfr fs v hs=>by rw[hs.mode];exact aq_ _) (λ_ _ _ h=>h) M
 let O:Nat->Own:=λc=>if YX ws c then .shared else .kept
 have hO:∀c,YX ws c->O c=.shared:=λc h=>aay h
 have hl:=Ks J Y;have mq:Co Tryz.prog none (λ_=>undef) O (λ_ _=>True) (λ_=>False) W #[LG (Frame.enter Tryz.prog 7 args .normal) []] #[] []:=by
  have ht:∀i a,touchAt #[] i=some a->False:=λi a h=>by grind [touchAt,Trace.act?]
  refine⟨rfl,⟨λop h=>by simp at h,λsaid=>ConcN.noRace_nil said,λi a b h=>(ht i a h).elim,λi a b g h=>(ht i a h).elim,λi a b h=>(ht i a h).elim,λi a b h=>(ht i a h).elim,λ_=>trivial,λi z h=>by simp at h⟩,λi r g h=>by simp at h,λc h=>?_,λc k h=>(by cases h),λp h=>h.elim⟩;refine aaO λhn=>h ?_
  exact aat λhs=>hn (hl.GG c hs)
 have Od:gy PA Tryz.prog KA (ShW ws) (StA ws W h k (.agg ys.toArray)) (λv _=>v=.bool true) (rk ws) (Frame.enter PA 7 [Value.agg ys.toArray,y2].toArray .normal) [] (iq ws W) (Frame.enter Tryz.prog 7 args .normal) [] W:=
  ⟨uG,hG,Cb,⟨fL.enter asX (show KA.s 7=true from rfl) (ha _) hb,.nil,rfl⟩,Ni⟩
 have H:∀f,KA.j4 f=true->f=17\/f=41:=λf hf=>by simpa[KA] using hf
 have hae:=aqT (P:=PA) (Q:=Tryz.prog) (K:=KA) (Sh:=ShW ws) (St:=StA ws W h k (.agg ys.toArray)) (Sd:=YX ws) asX (λf hf=>H f hf) arF (told:=17) (ask:=41) H
  (λfr fs v hs=>by
   rw[hs.mode,fnA];rintro(h|h)
   ·have h:KA.s 41=true:=h;rw[ath] at h;cases h
   ·cases h)
  (λfr fs v hs d m'=>by rw[(hs v.tape).mode];exact arz _ _ _ _ _) aqt (W0:=W) (G:=ac_) (R:=λv _=>v=.bool true) (λ_ _ h=>h) (aqP W) HI
  (λρ C0 dG v1 ys' fH Ow O Rd w gs t rs sl pr E hl ar9=>by
   obtain⟨⟨⟨hf,hn⟩,c1,e1,e2,L⟩,awB⟩:=aqE E.runs v1.tape;have cq:=E.j4.2;have exx:=arU cq rfl e1;subst exx e2;have Z:=E.rest;cases Z with
   | @cons _ Qg _ HL HB WM=>
   cases WM;obtain⟨y,rfl⟩:∃y,ys'= #[y]:=by
    have:ys'.size=1:=E.args.1.symm;exact⟨ys'[0],by grind⟩
   have hy:=E.args.2 0 _ y rfl rfl;obtain⟨a0,ea0⟩:∃a0,args[0]?=some a0:=⟨args[0]'(by have:=(ha (λ_=>True)).1;simp at this;omega),aa_ _⟩
   obtain⟨G2,hG2,hph⟩:=aro I hrh (a0:=a0) (λS=>(ha S).2 0 _ _ rfl ea0) E.rel L HB.tmps hy hf ar9.g.2.2 ar9.g.2.1 (Ends Tryz.prog W);refine aqM HI hph ar9 hl.vc (λO' _=>hG2 O') λO2 Rd2 w2 Cr t2 BB zF hh vn=>?_
   have hI2:Inv PA KA0 (ShW ws) (c1.finish (aqw h)) [] v1:=by
    letI:Twin PA PA:=Twin.self PA
    obtain⟨hj,ρ0,aBy,aBx,U,hG0,kC,hs0⟩:=awB;have asQ:=hs0.rest;cases asQ with
    | @cons _ c2' _ HL uJ awj=>
    cases awj;exact⟨hj,ρ0,c2'.finish (aqw h),[],U,hG0,kC,@CW.mk PA PA (Twin.self PA) _ _ _ _ _ _ (@fL.finish PA PA (Twin.self PA) _ _ _ _ uJ _ _ (aqH h _ _)) .nil (jL.same (fr:=c1) (show jL c1 [] from hs0.bot) (eQ _ _))⟩
   have ar7:gu PA mi (λv _=>v=.bool true) (c1.finish (aqw h)) [] v1:=
    QG (K:=KA0) arI (λ_=>rfl) (ary (P:=PA) a7 aqx aq9 vJ hk hf hn L) (λ_ _ _ h=>h.elim) (λ_ _ _ h=>h) hI2
   have aa7:gy PA Tryz.prog KA (ShW ws) mi (λv _=>v=.bool true) ρ (c1.finish (aqw h)) [] v1 (Qg.finish (aqw h)) [] w2:=
    ⟨ar7,E.cz,E.rel.agree hl vn,⟨HB.finish (aqH h _ _),.nil,jL.same (fr:=c1) (show jL c1 [] from E.bot) (eQ _ _)⟩,E.j⟩
   exact aqT (P:=PA) (Q:=Tryz.prog) (K:=KA) (Sh:=ShW ws) (St:=mi) (Sd:=YX ws) asX (λf hf=>H f hf) arF (told:=17) (ask:=41) H (λ_ _ _ h=>h.elim) (λfr fs v hs=>(hs v.tape).elim) aqt (W0:=W) (G:=ac_) (R:=λv _=>v=.bool true) (λ_ _ h=>h) (aqP W) HI
    (λρ3 xs3 fs3 v3 ys3 aBw Td O3 Rd3 w3 Sc t3 rs3 QD pr3 ar_ _ _=>(aqE ar_.runs v3.tape).elim) _ ar7.acc.transGen ρ _ [] w2 O2 Rd2 Cr t2 BB Ow pr zF aa7 (hl.agree vn.size) hh)
  _ uG.acc.transGen (rk ws) _ [] W O (λ_ _=>True) _ #[] [] (λ_=>False) (λ_=>undef) none Od hl
  ⟨λ_ h=>h.elim,hO,mq,rfl,⟨⟨hO 0 (.inl (by decide)),hO 1 (.inl (by decide))⟩,J,I⟩,λb hb=>⟨rfl,by grind⟩,aax _,⟨rfl,rfl,rfl⟩⟩
 obtain⟨N,last,o,w',t',h1,h2,h3,J⟩:=hae.run;refine⟨N,last,o,w',t',h1,h2,h3,?_⟩;obtain⟨v,hv,⟨e1,e2,e3,e4,e5,e6⟩,Z⟩:=J;exact⟨v,hv,⟨e1,⟨e2,e4,e3,e5,e6⟩⟩,Z⟩
end Go.Proofs.YtjagmhagphbfcaaGreatDoor
