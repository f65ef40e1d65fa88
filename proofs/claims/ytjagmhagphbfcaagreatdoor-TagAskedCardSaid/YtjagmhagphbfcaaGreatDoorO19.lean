/- Lemmas, part 19. -/
import Derived.Lib.OwnBridge
import Derived.Test.YtjagmhagphbfcaaGreatDoorO18
set_option maxRecDepth 100000
set_option linter.all false
namespace Go.Proofs.YtjagmhagphbfcaaGreatDoor
def ac4:=@List.mem_map
def aeB:=@List.getElem?_take_of_lt
open Go Go.Proofs
def base(g:Gh):Gh:= { g with ex:=λ_ _ _=>True,iF:=λ_=>none }
section
variable{P:Program}{g0:Gh}{w0:World}{fr:Nat->Prop}{s:AS}{g:Gh}{w:World}{m:Mem}{tmps:Array Value}
theorem SR.mF(h:SR P g0 w0 fr s g w m tmps)(H:∀id,s.B id=none)(hl:∀τ,s.lv τ=none):SR P (base g) w fr s g w m tmps where
 size:=h.size
 tmps:=h.tmps
 free:=h.free
 boxes:=λid ro cells e=>by simp_all
 cD:=λi _ hi=>absurd (H i) hi
 cB:=λτ e he=>by simp_all
 c_:=λσ _ _ E=>absurd (hl σ) E
 vd:=λτ _ p=>absurd (hl τ) p
 wi:=h.wi
 ext:=⟨aax _,λ_=>aax _,λ_ _ _=>rfl,λ_ _ h=>h,rfl,rfl,rfl,λ_ _ h _=>h⟩
 keeps:=⟨λ_ _ _=>rfl,λ_ _=>rfl,λ_ _=>rfl⟩
 gi:=λ_ _ _ _ _ _=>trivial
 fV:=trivial
 pins:=λid b e=>by cases e
theorem Ft{g1 g2:Gh}{w1 w2:World}(h:Lw (base g1) g2 w1 w2):Lw g1 g2 w1 w2:=⟨h.1,h.2,h.3,h.4,h.5,h.6,h.7,h.8⟩
theorem dZ{g1 g2:Gh}{w1 w2:World}(h:anw (base g1) g2 w1 w2):anw g1 g2 w1 w2:=⟨h.1,h.2,h.3⟩
theorem SR.nF{dL:Nat->Prop}{s1:AS}{g1:Gh}{w1:World}{m1:Mem}{t1:Array Value}(h0:SR P g0 w0 dL s1 g1 w1 m1 t1)(h:SR P (base g1) w1 fr s g w m tmps)(I:∀id,g0.iF id=none)(hl:∀τ,s.lv τ=none):
  SR P g0 w0 fr { s with B:=λ_=>none } g w m tmps where
 size:=h.size
 tmps:=h.tmps
 free:=λid H=>⟨rfl,(h.free id H).2⟩
 boxes:=λid ro cells e=>by cases e
 cD:=λi _ hi=>absurd rfl hi
 cB:=λτ e he=>by simp_all
 c_:=λσ _ _ E=>absurd (hl σ) E
 vd:=λτ _ p=>absurd (hl τ) p
 wi:=h.wi
 ext:=h0.ext.trans (Ft h.ext)
 keeps:=h0.keeps.trans h0.ext.size (dZ h.keeps)
 gi:=h0.gi
 fV:=h0.gi _ _ _ _ (Ft h.ext) h0.fV
 pins:=λid b e=>by simp_all
def Yu(u:Value):Prop:=∃z,u=.int .i64 z
def ClI(e:TypeId)(w:World)(x:Value):Prop:=e=3->∀c cur fr,x.ownBlock=some c->w.heap[c]?=some (.cells cur e fr)->∀u∈cur.toList,Yu u
structure Row(B:Nat)(e:TypeId)(g:Gh)(w:World)(x:Value)(ys:List Value):Prop where
 own:w.ownsRow B e 1 x ys.length ys
 loose:∀c,x.ownBlock=some c->g.hw c=0/\g.aD c=none
 cl:ClI e w x
theorem Row.keep{B:Nat}{e:TypeId}{g':Gh}{w':World}{x:Value}{ys:List Value}(h:Row B e g w x ys)(p:anw g g' w w'):Row B e g' w' x ys:=by
 refine⟨⟨h.own.1,?_⟩,λc hc=>?_,?_⟩
 ·rcases h.own.2 with h1|⟨c,cap,cur,rfl,hb,hg,h2⟩
  ·grind
  ·exact .inr ⟨c,cap,cur,rfl,hb,by rw[p.block c (aah.1 hg).1 (h.loose c rfl).2];exact hg,h2⟩
 ·have H:=(h.own.lt c hc).2;rw[p.hw c H,p.aD c H];exact h.loose c hc
 ·intro he c cur fr hc E;rw[p.block c (h.own.lt c hc).2 (h.loose c hc).2] at E;exact h.cl he c cur fr hc E
theorem Row.Mb{B:Nat}{e:TypeId}{w':World}{x x':Value}{ys ys':List Value}(h:Row B e g w x ys)(hW:WI g w)(J:w'.ownsRow B e 1 x' ys'.length ys')(hx:∀c,x'.ownBlock=some c->x.ownBlock=some c\/w.heap.size<=c)(p:w.grownBy w' x.ownBlock)(I:ClI e w' x'):
  Lw g g w w'/\WI g w'/\Row B e g w' x' ys':=by
 have H:∀b,b<w.heap.size->x.ownBlock≠some b->w'.heap[b]?=w.heap[b]?:=λb hb hn=>p.block b hb (λe=>hn e.symm)
 have E:Lw g g w w':=by
  refine⟨p.size,λ_=>aax _,λb o ho=>?_,λ_ _ h=>h,p.os,p.tape,p.output,λb o hb hs=>?_⟩
  ·refine World.cell?_of_block (H b (hW.lt (by omega)) (λe=>?_));have:=(h.loose b e).1;omega
  ·rw[H b (aah.1 hb).1 (λe=>?_)]
   ·exact hb
   ·rcases h.own.2 with ⟨rfl,_⟩|⟨c,cap,cur,rfl,_,hg,_⟩
    ·cases e
    ·cases e;rw[hg] at hb;cases hb;cases hs
 refine⟨E,⟨λb hb=>hW.out b (aaY p.size hb),λb d hd=>?_,hW.cz.mono E⟩,J,λc hc=>?_,I⟩
 ·obtain⟨es,ck,h1,h2⟩:=hW.aD b d hd;refine⟨es,ck,?_,λy hy=>by obtain⟨a,k1,k2⟩:=h2 y hy;exact⟨a,k1,k2.mono E⟩⟩;rw[H b (aah.1 h1).1 (λe=>by have:=(h.loose b e).2;simp_all)];exact h1
 ·rcases hx c hc with h1|h1
  ·exact h.loose c h1
  ·exact hW.out c h1
structure LX{α:Type}(ea:α->AV)(ev:α->Value):Prop where
 to:∀g w a,Rd g w (ea a) (ev a)
 of:∀g w a y,Rd g w (ea a) y->y=ev a
 one:∀a,(ev a).oneCell'=true
theorem LX.rds{α:Type}{ea:α->AV}{ev:α->Value}(h:LX ea ev)(l:List α):cS g w (l.map ea) (l.map ev):=by
 induction l with
 |nil=>exact .nil g w
 |cons a l p=>exact .cons (h.to g w a) p
theorem LX.L1{α:Type}{ea:α->AV}{ev:α->Value}(h:LX ea ev):∀(l:List α) (ys:List Value),cS g w (l.map ea) ys->ys=l.map ev
 | [],ys,hr=>by rw[hr.nE];rfl
 |a::l,ys,hr=>by
  obtain⟨y,ys',rfl,h1,h2⟩:=cS.dX (show cS g w (ea a::l.map ea) ys from hr);rw[h.of g w a y h1,h.L1 l ys' h2];rfl
theorem MJ{α:Type}{ea:α->AV}{ev:α->Value}(h:LX ea ev){B:Nat}{e:TypeId}{x:Value}{n:Nat}{ys:List Value}(ho:w.ownsRow B e 1 x n ys){c:Option Nat}{l:List α}(hr:Rd g w (.sq c 1 (l.map ea)) x):ys=l.map ev/\n=ys.length:=by
 have hn:n=ys.length:=by have:=ho.1;omega
 refine⟨?_,hn⟩;rcases ho.2 with ⟨rfl,h0⟩|⟨b,cap,cur,rfl,hb,hg,h1,h2,Y,W⟩
 ·have hy:ys= []:=abA (by omega);subst hy;generalize hq:l.map ea=q at hr;cases hr with
  |nil=>simp_all
 ·generalize hq:l.map ea=q at hr;cases hr with
  |sq _ _ _ b' o M m' p U k1 k2 O N H E=>
   have I:p.length=ys.length:=by omega
   have hz:p=ys:=by
    apply aer;intro j;rcases adv j ys.length with J|J
    ·have L:p[j]?=some p[j]:=aaf (by omega);have:=(H j _ L).2;rw[abY,aeg w b j cur e _ hg] at this
     grind
    simp_all
   rw[<-hz];refine h.L1 (g:=g) (w:=w) l p ?_;rw[hq];exact⟨k1,E⟩
theorem Row.rd{α:Type}{ea:α->AV}{ev:α->Value}(h:LX ea ev){B:Nat}{e:TypeId}{x:Value}{l:List α}(hr:Row B e g w x (l.map ev)){g':Gh}(hg:∀c,x.ownBlock=some c->l.length<=g'.hw c):Rd g' w (.sq none 1 (l.map ea)) x:=by
 rcases hr.own.2 with ⟨rfl,h0⟩|⟨b,cap,cur,rfl,hb,p,h1,h2,J,H⟩
 ·have:l= []:=abA (by grind);subst this;exact .nil _ _
 ·have gf:=h.rds (g:=g') (w:=w) l;refine .sq _ _ _ b 0 _ cap (l.map ev) (by omega) gf.1 (by simp) h1 (λy hy=>?_) (λj y E=>?_) gf.2
  ·obtain⟨a,_,rfl⟩:=ac4.1 hy;exact h.one a
  ·have I:j<l.length:=by grind
   have:=hg b rfl;refine⟨by omega,?_⟩;rw[abY,aeg w b j cur e _ p,<-E,<-H,<-Array.getElem?_toList,aeB (by grind)]
theorem Lu{C:Value->Prop}{t e ty:TypeId}(ht:gY P t=some e)(hg:bL P e=true)(hs:aQ P e=1)(hz:∀j z,P.info? e=some j->j.zero=some z->∀u∈z.cells.toList,C u){B n:Nat}{v:Value}{xs:List Value}(ho:w.ownsRow B e 1 v n xs)(yS:∀u∈xs,C u)
  (hc:∀c cur fr,v.ownBlock=some c->w.heap[c]?=some (.cells cur e fr)->∀u∈cur.toList,C u) {y:Value} {c':Option Nat} {k':Nat} {r:List AV} (hy:Rd g w (.sq c' k' r) y) (hk:k'=1\/r= []) (hr:∀a∈r,∀u,Rd g w a u->C u) (hb:(n+r.length)*(qM P e+1)<=2^46)
  {v':Value} {w':World} (hrun:(Builtin.append_ #[t,t] ty #[v,y]).run P w=.ok v' w'):∀c cur fr,v'.ownBlock=some c->w'.heap[c]?=some (.cells cur e fr)->∀u∈cur.toList,C u:=by
 obtain⟨j,z,hi,N,Yv,mM,cq,W5⟩:=dy hg;have W:=eY ht;have T_:j.size=1:=by omega
 have ZQ:=hz j z hi N;have hzc:∀(n:Nat),∀u∈(Builtin.zeroCells z.cells n).toList,C u:=λn u hu=>by
  grind [Builtin.zeroCells]
 have hvs:∃p Z c,v=.slice p Z c/\Z<=c:=by
  rcases ho.2 with ⟨rfl,_⟩|⟨c,cap,cur,rfl,_,_,hc,_⟩
  ·grind
  grind
 have zero:(∃q d,y=.slice q 0 d)->∀c cur fr,v'.ownBlock=some c->w'.heap[c]?=some (.cells cur e fr)->∀u∈cur.toList,C u:=λHj=>by
  grind [ng]
 rcases hy.QC with ⟨rfl,_⟩|⟨b,of,mm,L,ys,rfl,vJ,ED,hmx,O,dn,jX⟩
 ·grind
 by_cases Rv:mm=0
 ·grind
 have V9:r≠ []:=λe=>by
  grind [Nat.mul_eq_zero]
 have qO:k'=1:=hk.resolve_right V9;subst qO;have I:∀M u,ys[M]?=some u->w.cell? ((⟨b,of,none⟩:Addr).add M)=some u:=λM u hu=>by grind [anA]
 have Y:ys.length=mm*j.size:=by rw[jX.1,ED,T_]
 have R8:∀u∈ys,C u:=λu hu=>by
  obtain⟨i,hi⟩:=List.getElem?_of_mem hu;have aK:=(abi.1 hi).1;have Rx:i<r.length:=by simp_all
  exact hr r[i] (abG Rx) u (jX.2 i _ u (aaf Rx) hi)
 have yx:(n+mm)*j.bytes+(n+mm)<=2^46:=by
  grind
 have fresh:∀(q:Array Value),(∀u∈q.toList,C u)->∀p m cap,v'=.slice (some ⟨w.heap.size,p,none⟩) m cap->w'=w.drew.alloc (.cells q e)->∀c cur fr,v'.ownBlock=some c->w'.heap[c]?=some (.cells cur e fr)->∀u∈cur.toList,C u:=by
  rintro q hq p m cap rfl rfl c cur fr E H;cases E;have:(w.drew.alloc (.cells q e)).heap[w.heap.size]?=some (.cells q e):=by
   show(w.heap.push _)[w.heap.size]?=_;simp
  simp_all
 have RJ:=grownCap_ge w;rcases ho.2 with ⟨rfl,NZ⟩|⟨c2,U,cur,rfl,hcB,H,NY,Uh,yw,xn⟩
 ·subst NZ;simp only[abY] at yx;have J:=run_append_nil (P:=P) w t ty e j z W hi N ⟨b,of,none⟩ mm L ys Y I (by omega) (by omega) (by omega)
  grind
 ·by_cases xq:n+mm<=U
  ·have WO:n*j.size+ys.length<=cur.size:=by grind
   have J:=run_append_room (P:=P) w t ty e j W hi c2 n U cur H ⟨b,of,none⟩ mm L ys Y I O xq WO;rw[J] at hrun;cases hrun;intro c apt fr E Uf;cases E;have dm:=setRow_heap w c2 cur (cur.toList.take (n*j.size)++ys++cur.toList.drop (n*j.size+ys.length)).toArray e _ H;rw[dm] at Uf;cases Uf;intro u hu;have h0:=hc c2 cur _ rfl H
   grind
  ·have TF:xs.length=n*1:=ho.1;have holds:∀q u,xs[q]?=some u->w.cell? ((⟨c2,0,none⟩:Addr).add q)=some u:=λq u hu=>by
    have aK:=(abi.1 hu).1;rw[anA,abY,aeg w c2 q cur e _ H]
    grind
   have J:=run_append_grow (P:=P) w t ty e j z W hi N ⟨c2,0,none⟩ n U xs (by grind) holds ⟨b,of,none⟩ mm L ys Y I (by omega) (by omega) (growslice_fits (by omega) (by omega))
   grind
theorem Row.append{α:Type}{ea:α->AV}{ev:α->Value}(he:LX ea ev){B:Nat}{e ty ot:TypeId}{x:Value}{l r:List α}(hr:Row B e g w x (l.map ev))(hW:WI g w)(Z:B<=w.heap.size)(ht:gY P ty=some e)(hg:bL P e=true)(hs:aQ P e=1){c':Option Nat}{k':Nat}{y:Value}
  (hy:Rd g w (.sq c' k' (r.map ea)) y) (hk:k'=1\/r= []) (hb:(l.length+r.length)*(qM P e+1)<=2^46) (Y:e=3->(∀a,Yu (ev a))/\∀j z,P.info? e=some j->j.zero=some z->∀u∈z.cells.toList,Yu u):
  ∃x' w',(Builtin.append_ #[ty,ty] ot #[x,y]).run P w=.ok x' w'/\Lw g g w w'/\WI g w'/\Row B e g w' x' ((l++r).map ev)/\(∀b,b<w.heap.size->x.ownBlock≠some b->w'.heap[b]?=w.heap[b]?):=by
 classical
 let J:Gh:= { g with hw:=λb=>if x.ownBlock=some b then l.length else g.hw b }
 have I:Lw g J w w:=⟨aax _,λb=>by
  show g.hw b<=if x.ownBlock=some b then l.length else g.hw b
  split
  ·rename_i h;rw[(hr.loose b h).1];exact aet _
  omega,λ_ _ _=>rfl,λ_ _ h=>h,rfl,rfl,rfl,λ_ _ h _=>h⟩
 have H:WI J w:=⟨λb hb=>⟨by
  show(if x.ownBlock=some b then l.length else g.hw b)=0;rw[aat (λh=>by have:=(hr.own.lt b h).2;omega)];exact(hW.out b hb).1,(hW.out b hb).2⟩,λb d hd=>by
   obtain⟨es,ck,h1,h2⟩:=hW.aD b d hd;exact⟨es,ck,h1,λy hy=>by obtain⟨a,k1,k2⟩:=h2 y hy;exact⟨a,k1,k2.mono I⟩⟩,hW.cz.mono I⟩
 have W:Rd J w (.sq none 1 (l.map ea)) x:=hr.rd he λc hc=>by grind
 have hlen:(l.map ev).length=l.length:=by simp
 obtain⟨v',w',g',n',ys,r1,L,r3,p,r5,E,U,r8,O⟩:=oH (P:=P) H ht hg (B:=B) (v:=x) (n:=l.length) (xs:=l.map ev) (by rw[hs];have:=hr.own;simp_all) Z
  (λc hc=>by grind) (l:=l.map ea) (by simp_all) (y:=y) (c':=c') (k':=k') (r:=r.map ea) (hy.mono I) (by simp_all) (by grind) (ty:=ot)
 rw[hs] at L E;rw[<-List.map_append] at E;obtain⟨e1,e2⟩:=MJ he L E;have N:w.grownBy w' x.ownBlock:=⟨p.os,p.tape,p.output,p.size,λb hb hn=>(U b hb (λe=>hn e.symm)).1⟩
 obtain⟨k1,k2,k3⟩:=hr.Mb hW (x':=v') (ys':=(l++r).map ev) (by simp_all) O N (λM=>by
  obtain⟨i1,i2⟩:=Y M;refine Lu (P:=P) (g:=g) ht hg hs i2 (B:=B) (n:=l.length) (v:=x) (xs:=l.map ev) (by have:=hr.own;simp_all) (λu hu=>?_) (λc cur fr hc gS=>hr.cl M c cur fr hc gS) hy (hk.imp id λh=>by grind) (λa ha u hu=>?_) (by grind) r1
  ·grind
  ·obtain⟨b,_,rfl⟩:=ac4.1 ha;rw[he.of _ _ _ _ hu];exact i1 b)
 grind
theorem SR.MW(h:SR P g0 w0 fr s g w m tmps)(H:∀id,s.B id=none)(hl:∀τ,s.lv τ=none){w':World}(E:Lw g g w w')(hW:WI g w')(c:Option Nat)(hc:∀b,c=some b->w0.heap.size<=b)(I:∀b,b<w.heap.size->c≠some b->w'.heap[b]?=w.heap[b]?):SR P g0 w0 fr s g w' m tmps:=
 h.grow E hW ⟨λb hb hm=>by rw[I b (abD hb h.ext.size) (λe=>by grind)];exact h.keeps.block b hb hm,h.keeps.hw,h.keeps.aD⟩ (λid hb=>absurd (H id) hb) (λτ _ p=>absurd (hl τ) p)
noncomputable def mG(T:Nat->AV)(k:Nat)(x:Value)(t:Nat):AV:=if t=k then .v x else match T t with
 | .bx _ _=>.any
 |a=>a.strip
theorem SR.VG(h:SR P g0 w0 fr s g w m tmps)(I:∀id,g0.iF id=none)(k:Nat):SR P g0 w0 fr ⟨mG s.T k (tmps.getD k undef),λ_=>none,λ_=>none,s.nx,s.n⟩ g w m tmps where
 size:=h.size
 tmps:=λt=>by
  show RV fr (λ_=>none) g w m (mG s.T k (tmps.getD k undef) t) (tmps.getD t undef);unfold mG;split
  ·rename_i e;subst e;exact .inl ⟨.v _,λτ k l e=>by cases e⟩
  ·rcases h.tmps t with hr|⟨id,off,e,_⟩
   ·have hs:RV fr (λ_=>none) g w m (s.T t).strip (tmps.getD t undef):=.inl ⟨by rw[eH];exact hr.1,λτ k l e=>by
     generalize s.T t=z at e;cases z <;>simp at e⟩
    generalize hz:s.T t=z at hs;cases z <;>first|exact hs|exact .inl ⟨.any _,λτ k l e=>by cases e⟩
   ·rw[e];exact .inl ⟨.any _,λτ k l e=>by cases e⟩
 free:=λid H=>⟨rfl,rfl⟩
 boxes:=λid ro cells e=>by cases e
 cD:=λi _ hi=>absurd rfl hi
 cB:=λτ e he=>by cases he
 c_:=λσ _ _ E=>absurd rfl E
 vd:=λτ _ p=>absurd rfl p
 wi:=h.wi
 ext:=h.ext
 keeps:=h.keeps
 gi:=h.gi
 fV:=h.fV
 pins:=λid b e=>by simp_all
section
variable{tb:qd}{mt:Nat->Bool}{ops:Array Oper}{a:Act}
theorem iQ(k:Nat)(E:jb P tb g0){id:Nat}{Q:Exit->Act->World->Prop}(hk:k<=ops.size)(h:ST P g0 w0 s a w)
  (hp:∀K:AS->Prop,(∀s1,(∀g w m a,SR P g0 w0 (λj=>s.nx+k<=j) s1 g w m a.tmps->a.defers= []->wpOps P ops Q (List.range' k (ops.size-k)) a w)->K s1)->JI s.nx (eM P tb mt (zf ops) 0 (kI (ops.toList.take k)) s) K):(Code.region id ops false).wp P Q a w:=by
 have h1:=hp _ (λ_ h=>h);unfold eM at h1;rw[ju] at h1;cases hr:fJ P tb mt (dl (zf ops)) 0 (ops.toList.take k) s with
 |none=>simp_all
 |some s1=>
  rw[hr] at h1;have hn:=sr _ _ _ _ hr;have J:({ s1 with nx:=s.nx } :AS)=s1:=by rw[<-hn]
  have h1:∀g w m a,SR P g0 w0 (λj=>s.nx+k<=j) s1 g w m a.tmps->a.defers= []->wpOps P ops Q (List.range' k (ops.size-k)) a w:=by
   have h2:(∀g w m a,SR P g0 w0 (λj=>s.nx+k<=j) { s1 with nx:=s.nx } g w m a.tmps->a.defers= []->wpOps P ops Q (List.range' k (ops.size-k)) a w):=h1
   grind
  obtain⟨g,m,L,H⟩:=h;refine wp_region ?_;have hl1:(ops.toList.take k).length=k:=by grind
  have p:List.range ops.size=List.range' 0 (ops.toList.take k).length++List.range' k (ops.size-k):=by
   rw[hl1,afd];have e:ops.size=k+(ops.size-k):=by omega
   conv=>lhs;rw[e,<-List.range'_append_1]
   simp
  rw[p];refine jk (g0:=g0) (w0:=w0) E _ (ops.toList.take k) 0 s s1 g w m a (λj I=>by
   simp_all) (by rw[tE];exact hr) (by omega) H (λg' w' m' a' k1 k2=>?_)
  rw[abY,hl1] at k1
  grind
theorem aW{Q:Exit->Act->World->Prop}{i:Nat}{K:Act->World->Prop}{o:Oper}(ho:ops[i]?=some o)(hg:o.guard=none)(h:o.wp P a w K Q):wpOp P ops Q i K a w:=by
 grind [wpOp,Region.wanted]
theorem rp{o:Oper}{c:Call}{f:FuncId}(hop:o.op=.call c)(hc:c.callee=.value (.func f))(E:Enters P f){xs:Array Value}(H:(c.args.toList.map a.eval).toArray=xs){K:Act->World->Prop}{Q:Exit->Act->World->Prop}
  (p:Calls P f xs w (λe w'=>∃y,e=.returned y/\K (a.put o.dst y) w')):o.wp P a w K Q:=by
 have hrun:(execOp a.eval o).run P w=.ok (.enter f xs) w:=by
  have hf:a.eval (.func f)=.func (.func f) #[] #[]:=rfl;simp only[execOp,hop,resolve,hc,Deferred.ofValue,hf,aaw,aaS,aas,invoke];rw[E];congr 2
  grind
 unfold Oper.wp;rw[hrun,Oper.upon_enter];refine p.mono ?_
 simp_all
theorem SR.nx(h:SR P g0 w0 fr s g w m tmps)(k:Nat):SR P g0 w0 fr { s with nx:=k } g w m tmps:=⟨h.size,h.tmps,h.free,h.boxes,h.cD,h.cB,h.c_,h.vd,h.wi,h.ext,h.keeps,h.gi,h.fV,h.pins⟩
theorem yM{o:Oper}{x y:Operand}{ty:TypeId}{v':Value}{w':World}(hop:o.op=.call { callee:=.builtin .append,args:= #[x,y],argTypes:= #[ty,ty] })(hrun:(Builtin.append_ #[ty,ty] o.type #[a.eval x,a.eval y]).run P w=.ok v' w'){K:Act->World->Prop}{Q:Exit->Act->World->Prop}
  (p:K (a.put o.dst v') w'):o.wp P a w K Q:=by
 have h1:(execOp a.eval o).run P w=.ok (.value v') w':=by
  unfold execOp;simp only[hop,resolve,invoke,builtin,aaw,aaS,aas,adt,List.map_cons,List.map_nil]
  simp_all
 unfold Oper.wp;rw[h1];exact p
theorem i_{o:Oper}{x:Operand}(hop:o.op=.assign x){K:Act->World->Prop}{Q:Exit->Act->World->Prop}(p:K (a.put o.dst (a.eval x)) w):o.wp P a w K Q:=by
 have h1:(execOp a.eval o).run P w=.ok (.value (a.eval x)) w:=by
  unfold execOp
  simp_all
 unfold Oper.wp;rw[h1];exact p
theorem dv{Q:Exit->Act->World->Prop}(h:Q .normal a w):wpOps P ops Q [] a w:=h
theorem piece(O:∀g,jb P tb (base g))(hm:P.follows .mixedOrders=true)(H:SR P g0 w0 (λj=>s.nx<=j) s g w m a.tmps)(N:a.defers= [])(J:∀id,s.B id=none)(hl:∀τ,s.lv τ=none)(M:∀id,g0.iF id=none){c:Code}{Q':Ex->AS->Prop}(h:awp P tb mt c Q' s)(E:∀x s',Q' x s'->∀τ,s'.lv τ=none)
  {B:Nat} {e:TypeId} {x:Value} {ys:List Value} (L:Row B e g w x ys):
  c.wp P (λe' a' w'=>∃x' s' g' m',c8 e'=some x'/\Q' x' s'/\SR P g0 w0 (λj=>s'.nx<=j) { s' with B:=λ_=>none } g' w' m' a'.tmps/\a'.defers= []/\Row B e g' w' x ys) a w:=by
 refine wp_mono (fj (O g) hm c Q' s a w h ⟨g,m,H.mF J hl,N⟩) ?_;rintro e' a' w' ⟨x',s',he,hq,g',m',p,I⟩;exact⟨x',s',g',m',he,hq,H.nF p M (E x' s' hq),I,L.keep (dZ p.keeps)⟩
end
end
end Go.Proofs.YtjagmhagphbfcaaGreatDoor
