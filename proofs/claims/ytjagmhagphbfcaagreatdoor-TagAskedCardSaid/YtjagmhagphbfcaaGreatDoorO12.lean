/- Lemmas, part 12. -/
import Derived.Laws.Tables
import Derived.Test.YtjagmhagphbfcaaGreatDoorO11
set_option maxRecDepth 100000
set_option linter.all false
namespace Go.Proofs.YtjagmhagphbfcaaGreatDoor
def ab0:=@List.length_cons
def aeq:=@List.getElem?_map
open Go Go.Proofs
section
variable{P:Program}{g0:Gh}{w0:World}{fr:Nat->Prop}{s:AS}{g:Gh}{w:World}{m:Mem}{a:Act}{o:Oper}{i:Nat}
theorem Jm:∀(v:List Value) (off j:Nat) (cs:Array Value),off+j+v.length<=cs.size->
  ((v.zipIdx j).foldl (λcs (x:Value×Nat)=>cs.setIfInBounds (off+x.2) x.1) cs).toList=cs.toList.take (off+j)++v++cs.toList.drop (off+j+v.length)
 | [],off,j,cs,h=>by simp
 |x::v,off,j,cs,h=>by
  simp only[List.zipIdx_cons,List.foldl_cons];simp only[ab0] at h;rw[Jm v off (j+1) _ (by grind)];have hlen:off+j<cs.toList.length:=by grind
  simp only[Array.toList_setIfInBounds,ab0]
  grind [List.take_add_one,List.take_set_of_le,List.drop_set_of_lt]
theorem RV.cellsOf{x:AV}{y:Value}{l:List AV}(h:RV fr s.lv g w m x y)(hl:eU x=some l):∃ys:List Value,y.cells=ys.toArray/\(∀y∈ys,y.oneCell'=true)/\ys.length=l.length/\
  (∀(j:Nat) (a:AV) (y:Value),l[j]?=some a->ys[j]?=some y->RC fr s.lv g w m a y):=by
 have single:∀ {x:AV} {y:Value},RV fr s.lv g w m x y->(∀id off,x≠.bx id off)->y.cells= #[y]->y.oneCell'=true->∃ys:List Value,y.cells=ys.toArray/\(∀y∈ys,y.oneCell'=true)/\ys.length= [x].length/\
  (∀(j:Nat) (a:AV) (y:Value),[x][j]?=some a->ys[j]?=some y->RC fr s.lv g w m a y):=by
  intro x y h hb hc h1;refine⟨[y],by omega,by grind,rfl,λj a I p E=>?_⟩;cases j with
  |zero=>
   simp at p E;subst p;subst E;rcases h with h|⟨id,off,e,_⟩
   ·exact h
   simp_all
  |succ j=>grind
 cases x with
 |i k n=>cases hl;cases h.i;exact single h (by simp) rfl rfl
 |b t=>cases hl;cases h.b;exact single h (by simp) rfl rfl
 |s t=>cases hl;cases h.s;exact single h (by simp) rfl rfl
 |v t=>cases hl
 |sq c k t=>
  cases hl;have:=h.rd (by simp);rcases this.QC with ⟨rfl,_⟩|⟨b,o,n,J,ys,rfl,_⟩
  ·exact single h (by simp) rfl rfl
  ·exact single h (by simp) rfl rfl
 |sp t=>cases hl;obtain⟨b,o,ys,rfl,_⟩:=h.sp;exact single h (by simp) rfl rfl
 |bx id off=>cases hl
 |ag t=>
  cases hl;obtain⟨ys,rfl,h1,h2⟩:=h.ag;refine⟨ys,rfl,h1,by simp[h2.1],λj a y p E=>?_⟩;rw[aeq] at p;cases H:t[j]? with
  |none=>simp_all
  |some x=>rw[H] at p;cases p;exact .cw (h2.2 j x y H E)
 |tu t=>cases hl
 |fn f t u=>cases hl;obtain⟨y1,y2,rfl,_⟩:=h.fn;exact single h (by simp) rfl rfl
 |any=>cases hl
 |mm d=>
  cases hl;have:=h.rd (by simp);cases this;exact single h (by simp) rfl rfl
def X6(fr:Nat->Prop)(lv:Nat->Option TypeId)(g:Gh)(w:World)(m:Mem):List (Nat×AV)->List (Nat×Value)->Prop
 | [],[]=>True
 |(i,x)::r,(j,y)::q=>i=j/\RV fr lv g w m x y/\X6 fr lv g w m r q
 |_,_=>False
theorem BN(h:SR P g0 w0 fr s g w m a.tmps):∀l:List (Nat×Operand),X6 fr s.lv g w m (l.map λx=>(x.1,s.ev x.2)) (l.map λx=>(x.1,a.eval x.2))
 | []=>trivial
 |x::l=>⟨rfl,h.ev x.2,BN h l⟩
theorem AD(place:Nat->Option (Nat×Nat))(i off:Nat)(v:Value)(rest:List (Nat×Value))(cells:Array Value)(hp:place i=some (off,v.cells.size))(hl:off+v.cells.size<=cells.size):
  ∃c':Array Value,c'.toList=cells.toList.take off++v.cells.toList++cells.toList.drop (off+v.cells.size)/\Instr.fill place cells ((i,v)::rest)=Instr.fill place c' rest:=by
 refine⟨v.cells.zipIdx.foldl (λcs (x:Value×Nat)=>cs.setIfInBounds (off+x.2) x.1) cells,?_,?_⟩
 ·rw[<-Array.foldl_toList,Array.toList_zipIdx]
  simp_all [Jm]
 grind [Instr.fill]
theorem Jo(place:Nat->Option (Nat×Nat))(t:TypeId)(hp:∀i off size,dH P t i=some (off,size)->place i=some (off,size)):
  ∀(ps:List (Nat×AV)) (qs:List (Nat×Value)) (cells l:List AV) (ys:Array Value),X6 fr s.lv g w m ps qs->cS g w cells ys.toList->(∀y∈ys.toList,y.oneCell'=true)->sC P t cells ps=some l->
   ∃p:Array Value,Instr.fill place ys qs=some p/\cS g w l p.toList/\∀y∈p.toList,y.oneCell'=true
 | [],[],cells,l,ys,_,hr,h1,h=>by
  cases h;exact⟨ys,rfl,hr,h1⟩
 |(i,x)::ps,(j,y)::qs,cells,l,ys,E,hr,h1,h=>by
  obtain⟨rfl,M,E⟩:=E;unfold sC at h;cases ht:dH P t i with
  |none=>simp_all
  |some q=>
   obtain⟨off,size⟩:=q;cases hc:eU x with
   |none=>simp_all
   |some la=>
    rw[ht,hc] at h;simp only at h;split at h
    ·cases h
    ·rename_i hn;obtain⟨p,hz,z1,z2,z3⟩:=M.cellsOf hc;have O:y.cells.size=size:=by simp_all
     have hle:off+y.cells.size<=ys.size:=by
      have:=hr.1;grind
     obtain⟨c',L,hf⟩:=AD place i off y qs ys (by grind) hle;rw[hf];have N:y.cells.toList=p:=by rw[hz]
     have H:cS g w la p:=⟨z2,λj a y J I=>(z3 j a y J I).rd⟩
     refine Jo place t hp ps qs (lay cells off la) l c' E ?_ ?_ h
     ·rw[L,N,show y.cells.size=la.length from by omega];unfold lay;exact((hr.take off).append H).append (hr.drop _)
     grind
 | [],_::_,_,_,_,h,_,_,_=>h.elim
 |(_,_)::_,[],_,_,_,h,_,_,_=>h.elim
theorem zM:∀(fs:List Field),(fs.all λf=>(P.info? f.type).isSome)=true->fs.mapM (λf=>(P.info? f.type).map λi=>(f.offset,i.size))=some (fs.map λf=>(f.offset,aQ P f.type))
 | [],_=>rfl
 |f::fs,h=>by
  simp only[List.all_cons,aaZ] at h;obtain⟨j,p⟩:=afj.1 h.1;simp[ag3,p,zM fs h.2,aQ]
theorem kr{t:TypeId}{z:List AV}(h:anE P t=some z):∃it v,P.info? t=some it/\it.zero=some v/\z=v.cells.toList.map vV/\∀y∈v.cells.toList,y.oneCell'=true:=by
 unfold anE at h;cases hi:P.info? t with
 |none=>simp_all
 |some it=>
  rw[hi] at h;simp only[abN] at h;cases hz:it.zero with
  |none=>simp_all
  |some v=>
   grind
theorem QO(l:List Value):cS g w (l.map vV) l:=by
 refine⟨by simp,λj a y E p=>?_⟩
 grind [GQ]
theorem Pk{t:TypeId}(hf:ku P t=true){z l:List AV}(hz:anE P t=some z){ps:List (Nat×AV)}{qs:Array (Nat×Value)}(H:X6 fr s.lv g w m ps qs.toList)(h:sC P t z ps=some l):
  lG P g w (.ag l) (Instr.build t qs):=by
 obtain⟨it,v,h1,h2,rfl,L⟩:=kr hz;have key:∀place:Nat->Option (Nat×Nat),(∀i off size,dH P t i=some (off,size)->place i=some (off,size))->∃p:Array Value,Instr.fill place v.cells qs.toList=some p/\cS g w l p.toList/\∀y∈p.toList,y.oneCell'=true:=
  λplace hp=>Jo place t hp ps qs.toList _ l v.cells H (QO _) L h
 have fin:∀p:Array Value,P.built t qs.toList=some p->cS g w l p.toList->(∀y∈p.toList,y.oneCell'=true)->lG P g w (.ag l) (Instr.build t qs):=λp hb hr ho=>
  ⟨.agg p,run_build w t qs p hb,by have:=Rd.vC hr ho;omega⟩
 unfold ku at hf;cases hu:P.underlying t with
 |none=>simp_all
 |some d=>
  rw[hu] at hf;cases d <;>first|cases hf;done|skip
  case struct fs=>
   obtain⟨p,k1,k2,I⟩:=key ((fs.map λf=>(f.offset,aQ P f.type))[·]?) (λi off size e=>by
    grind [dH])
   simp_all [zM,Program.built]
  case array n e=>
   obtain⟨E,J⟩:=afj.1 hf;obtain⟨p,k1,k2,I⟩:=key (λi=>some (i*E.size,E.size)) (λi off size e=>by
    grind [dH,aQ])
   grind [Program.built]
theorem AF(k:Nat):∀(ps:List (Nat×AV)) (qs:List (Nat×Value)) (j:Nat) (l:List AV) (ys:Array Value),X6 fr s.lv g w m ps qs->sx k j ps=some l->ys.size=(j+ps.length)*k->
  ∃(p:Array Value) (vs:List Value),Instr.fill (λi=>some (i*k,k)) ys qs=some p/\p.toList=ys.toList.take (j*k)++vs/\cS g w l vs/\(∀y∈vs,y.oneCell'=true)/\l.length=ps.length*k
 | [],[],j,l,ys,_,h,hs=>by
  cases h;exact⟨ys,[],rfl,by grind [List.take_of_length_le],.nil _ _,by simp,by simp⟩
 |(i,x)::ps,(W,y)::qs,j,l,ys,E,h,hs=>by
  obtain⟨rfl,N,E⟩:=E;unfold sx at h;cases hc:eU x with
  |none=>simp_all
  |some la=>
   rw[hc] at h;simp only at h;split at h
   ·rename_i hi;obtain⟨rfl,Z⟩:=hi;cases hr:sx k (i+1) ps with
    |none=>simp_all
    |some l2=>
     rw[hr] at h;cases h;obtain⟨p,hz,z1,z2,z3⟩:=N.cellsOf hc;have Y:y.cells.size=k:=by simp_all
     have H:(i+((i,x)::ps).length)*k=i*k+k+ps.length*k:=by grind
     have hle:i*k+y.cells.size<=ys.size:=by omega
     obtain⟨c',M,hf⟩:=AD (λi=>some (i*k,k)) i (i*k) y qs ys (by grind) hle;have I:c'.size=(i+1+ps.length)*k:=by
      grind [Array.length_toList]
     obtain⟨us,vs,f1,f2,f3,f4,f5⟩:=AF k ps qs (i+1) l2 c' E hr I;have O:y.cells.toList=p:=by rw[hz]
     refine⟨us,p++vs,by simp_all,?_,?_,λU B8=>?_,by grind⟩
     ·rw[f2,M,O];have J:p.length=k:=by omega
      rw[show(i+1)*k=(ys.toList.take (i*k)++p).length from by grind]
      grind
     ·exact cS.append ⟨z2,λj a y H L=>(z3 j a y H L).rd⟩ f3
     grind
   ·cases h
 | [],_::_,_,_,_,h,_,_=>h.elim
 |(_,_)::_,[],_,_,_,h,_,_=>h.elim
theorem amQ:∀ {ps:List (Nat×AV)} {qs:List (Nat×Value)},X6 fr s.lv g w m ps qs->ps.length=qs.length
 | [],[],_=>rfl
 |_::_,_::_,h=>by simp[amQ h.2.2]
 | [],_::_,h=>h.elim
 |_::_,[],h=>h.elim
theorem MH{t e:TypeId}(ht:gY P t=some e)(hg:bL P e=true){ps:List (Nat×AV)}{qs:Array (Nat×Value)}{l:List AV}(p:X6 fr s.lv g w m ps qs.toList)(h:sx (aQ P e) 0 ps=some l)(hb:qs.size*aQ P e<=2^24):
  ∃vs:List Value,(Instr.buildSlice t qs.size qs).run P w=.ok (.slice (some ⟨w.heap.size,0,none⟩) qs.size qs.size) (w.alloc (.cells vs.toArray e))/\cS g w l vs/\(∀y∈vs,y.oneCell'=true)/\l.length=qs.size*aQ P e:=by
 obtain⟨j,z,E,hz,N,L,M,_⟩:=dy hg;have J:ps.length=qs.size:=by rw[amQ p];simp
 have cr:z.cells.size≠0:=by omega
 have mk:∀zero:Array Value,∃vs:List Value,Instr.fill (λi=>some (i*aQ P e,aQ P e)) ((Array.range (qs.size*aQ P e)).map (zero[· %zero.size]!)) qs.toList=some vs.toArray/\cS g w l vs/\(∀y∈vs,y.oneCell'=true)/\l.length=qs.size*aQ P e:=by
  intro zero;obtain⟨I,vs,f1,f2,f3,f4,f5⟩:=AF (aQ P e) ps qs.toList 0 l ((Array.range (qs.size*aQ P e)).map (zero[· %zero.size]!)) p h (by grind);refine⟨vs,?_,f3,f4,by grind⟩;rw[f1];simp at f2;rw[<-f2]
 have H:(zeroValue e).run P w=.ok z w:=by
  unfold zeroValue typeInfo
  simp_all
 by_cases h0:qs.size*aQ P e=0
 ·obtain⟨vs,f1,f2,f3,f4⟩:=mk #[];refine⟨vs,?_,f2,f3,f4⟩;unfold Instr.buildSlice;simp only[aaw,bT (eY ht),aas,ew E];rw[aat (by omega)];simp only[aaw,aaS,aas,h0,acC];rw[h0] at f1;rw[f1];rfl
 ·obtain⟨vs,f1,f2,f3,f4⟩:=mk z.cells;refine⟨vs,?_,f2,f3,f4⟩;unfold Instr.buildSlice;simp only[aaw,bT (eY ht),aas,ew E];rw[aat (by omega)];simp only[aaw,aaS,aas,h0,ab3,H,f1];rfl
end
def afb:=@List.size_toArray
def abj:=@List.length_append
def afB:=@Nat.le_mul_of_pos_right
def aeA:=@List.length_nil
def ab2:=@Nat.mul_le_mul_right
def aer:=@List.ext_getElem?
def aby:=@List.getElem?_eq_none
section
variable{P:Program}{g:Gh}{w:World}
theorem ng(t ty e:TypeId)(ht:P.underlying t=some (.slice e)){j:TypeInfo}(hi:P.info? e=some j)(v y:Value)(hv:∃p n c,v=.slice p n c/\n<=c)(hy:∃p c,y=.slice p 0 c):
  (Builtin.append_ #[t,t] ty #[v,y]).run P w=.ok v w:=by
 obtain⟨p,n,c,rfl,hn⟩:=hv;obtain⟨q,d,rfl⟩:=hy;have hf:(Builtin.firstCells j.size 0 (.slice q 0 d)).run P w=.ok #[] w:=by
  cases q with
  |none=>rfl
  |some q=>grind [run_firstCells_some]
 cases p with
 |none=>simp[Builtin.append_,aff ht,sizeOf,typeInfo,hi,Builtin.lenOf,hn,hf]
 |some p=>simp[Builtin.append_,aff ht,sizeOf,typeInfo,hi,Builtin.lenOf,hn,hf,storeCells]
theorem iU{g':Gh}(E:WI g w)(w':World)(p:Obj)(hh:w'.heap=w.heap.push p)(ho:w'.os=w.os)(ht:w'.tape=w.tape)(hu:w'.output=w.output)(hw:∀b,g.hw b<=g'.hw b)(hm:g'.aD=g.aD):Lw g g' w w':=by
 refine⟨by simp_all,hw,λb o hb=>?_,λb d hd=>by simp_all,ho,ht,hu,λb o e _=>by
  grind⟩
 have H:=E.lt (b:=b) (by omega);unfold World.cell?
 grind
theorem ko{g':Gh}(p:WI g w)(w':World)(I:Obj)(hh:w'.heap=w.heap.push I)(E:Lw g g' w w')(H:∀b,w.heap.size<b->g'.hw b=0)(hm:g'.aD=g.aD):WI g' w':=by
 refine⟨λb hb=>?_,λb d hd=>?_,p.cz.mono E⟩
 ·rw[hh] at hb;simp at hb;exact⟨H b (by omega),by rw[hm];exact(p.out b (by omega)).2⟩
 ·rw[hm] at hd;obtain⟨es,ck,M,J⟩:=p.aD b d hd;refine⟨es,ck,?_,λe he=>by obtain⟨a,ha,L⟩:=J e he;exact⟨a,ha,L.mono E⟩⟩
  grind
theorem BS(p:WI g w){k:Nat}(hk:0<k){e:TypeId}{B:Nat}(J:B<=w.heap.size){l:List AV}{vs rest:List Value}{n cap:Nat}(hl:cS g w l vs)(h1:∀y∈vs,y.oneCell'=true)(hn:vs.length=n*k)(hr:rest.length=(cap-n)*k)(hc:n<=cap)(hm:cap<=maxLen)
  (w':World) (hh:w'.heap=w.heap.push (.cells (vs++rest).toArray e (0,0))) (ho:w'.os=w.os) (ht:w'.tape=w.tape) (hu:w'.output=w.output):
  ∃g',Lw g g' w w'/\WI g' w'/\w'.ownsRow B e k (.slice (some ⟨w.heap.size,0,none⟩) n cap) n vs/\g'.hw w.heap.size=n*k/\(∀b,b<w.heap.size->g'.hw b=g.hw b)/\g'.aD=g.aD/\
   Rd g' w' (.sq none k l) (.slice (some ⟨w.heap.size,0,none⟩) n cap):=by
 have hz:=(p.out w.heap.size (aax _)).1;have E:Lw g { g with hw:=Lo g.hw w.heap.size (n*k) } w w':=iU p w' _ hh ho ht hu (λb=>by
  by_cases e:b=w.heap.size
  ·simp_all
  simp_all) rfl
 have H:w'.heap[w.heap.size]?=some (.cells (vs++rest).toArray e (0,0)):=by simp_all
 refine⟨{ g with hw:=Lo g.hw w.heap.size (n*k) },E,?_,?_,by simp,λb hb=>by
  have e:b≠w.heap.size:=by omega
  simp_all,rfl,?_⟩
 ·exact ko p w' _ hh E (λb hb=>by
   have e:b≠w.heap.size:=by omega
   simp only[aL _ _ _ _ e];exact(p.out b (by omega)).1) rfl
 ·refine⟨hn,.inr ⟨w.heap.size,cap,_,rfl,J,H,hc,hm,?_,?_⟩⟩
  ·simp only[afb,abj,hn,hr,<-Nat.add_mul]
   grind
  simp_all
 ·refine .sq none k l w.heap.size 0 n cap vs hk hl.1 (by rw[<-hl.1,hn]) hc h1 (λj y I=>?_) (λj a y M L=>(hl.2 j a y M L).mono E);have N:=(abi.1 I).1;refine⟨by simp_all,?_⟩;rw[abY,aeg w' w.heap.size j _ e _ H]
  grind
theorem oH(M:WI g w){t e ty:TypeId}(ht:gY P t=some e)(hg:bL P e=true){B:Nat}{v:Value}{n:Nat}{xs:List Value}(ho:w.ownsRow B e (aQ P e) v n xs)(hB:B<=w.heap.size)
  (RI:∀c,v.ownBlock=some c->g.hw c=n*aQ P e) {l:List AV} (hl:Rd g w (.sq none (aQ P e) l) v) {y:Value} {c':Option Nat} {k':Nat} {r:List AV} (hy:Rd g w (.sq c' k' r) y) (hk:k'=aQ P e\/r= [])
  (hbound:(l.length+r.length)*(qM P e+1)<=2^46):
  ∃v' w' g' H ys,(Builtin.append_ #[t,t] ty #[v,y]).run P w=.ok v' w'/\w'.ownsRow B e (aQ P e) v' H ys/\(∀c,v'.ownBlock=some c->g'.hw c=H*aQ P e)/\Lw g g' w w'/\WI g' w'/\Rd g' w' (.sq none (aQ P e) (l++r)) v'/\
   (∀b,b<w.heap.size->v.ownBlock≠some b->w'.heap[b]?=w.heap[b]?/\g'.hw b=g.hw b)/\g'.aD=g.aD/\(∀c,v'.ownBlock=some c->v.ownBlock=some c\/w.heap.size<=c):=by
 obtain⟨j,z,hi,hz,Yv,mM,cq,W5⟩:=dy hg;have Y:=eY ht;have lq:0<aQ P e:=by omega
 have hvs:∃p H c,v=.slice p H c/\H<=c:=by
  rcases ho.2 with ⟨rfl,_⟩|⟨c,cap,cur,rfl,_,_,hc,_⟩
  ·grind
  grind
 have zero:r= []->(∃q d,y=.slice q 0 d)->∃v' w' g' H ys,(Builtin.append_ #[t,t] ty #[v,y]).run P w=.ok v' w'/\w'.ownsRow B e (aQ P e) v' H ys/\(∀c,v'.ownBlock=some c->g'.hw c=H*aQ P e)/\Lw g g' w w'/\WI g' w'/\Rd g' w' (.sq none (aQ P e) (l++r)) v'/\
   (∀b,b<w.heap.size->v.ownBlock≠some b->w'.heap[b]?=w.heap[b]?/\g'.hw b=g.hw b)/\g'.aD=g.aD/\(∀c,v'.ownBlock=some c->v.ownBlock=some c\/w.heap.size<=c):=λhr Hj=>
  ⟨v,w,g,n,xs,ng t ty e Y hi v y hvs Hj,ho,RI,.refl _ _,M,by simp_all,λ_ _ _=>⟨rfl,rfl⟩,rfl,λc hc=>.inl hc⟩
 rcases hy.QC with ⟨rfl,hr⟩|⟨b,of,mm,mx,ys,rfl,vJ,ED,hmx,N,dn,U⟩
 ·simp_all
 ·by_cases Rv:mm=0
  ·simp_all
  ·have V9:r≠ []:=λe=>by
    grind [Nat.mul_eq_zero]
   have qO:k'=aQ P e:=hk.resolve_right V9;subst qO;have xu:∀jj u,ys[jj]?=some u->w.cell? ((⟨b,of,none⟩:Addr).add jj)=some u:=λjj u hu=>by grind [anA]
   have Ag:ys.length=mm*j.size:=by rw[U.1,ED,cq]
   have agM:mm<=r.length:=by simp_all [afB]
   rcases hl.QC with ⟨rfl,rfl⟩|⟨c,of1,n1,cap,E,rfl,_,TW,Yy,TT,Ol,Z⟩
   ·
    have NZ:n=0:=by
     rcases ho.2 with ⟨_,h⟩|⟨c,cap,cur,h,_⟩
     ·exact h
     ·cases h
    subst NZ;simp only[aeA,abY] at hbound;have HC:mm*(qM P e+1)<=2^46:=aaY (ab2 _ agM) hbound;have yx:mm*j.bytes+mm<=2^46:=by grind
    have hrun:=run_append_nil (P:=P) w t ty e j z Y hi hz ⟨b,of,none⟩ mm mx ys Ag xu (by omega) (by omega) (by omega);have RJ:=grownCap_ge w mm 0 e;have I:grownCap w mm 0 e<=maxLen:=grownCap_le_maxLen w mm 0 e (by grind [maxLen]);obtain⟨g',k1,k2,k3,k4,k5,k6,k7⟩:=BS M lq (e:=e) hB (vs:=ys) (rest:=(Builtin.zeroCells z.cells (grownCap w mm 0 e-mm)).toList) (n:=mm) (cap:=grownCap w mm 0 e) U N (by simp_all)
     (by grind [size_zeroCells]) RJ I (w.drew.alloc (.cells (ys.toArray++Builtin.zeroCells z.cells (grownCap w mm 0 e-mm)) e)) (by
      show w.heap.push _=_;congr 2
      grind) rfl rfl rfl
    refine⟨_,_,g',mm,ys,hrun,k3,λc hc=>by cases hc;exact k4,k1,k2,by grind,λb hb _=>⟨?_,k5 b hb⟩,k6,λc hc=>by cases hc;simp_all⟩;show(w.heap.push _)[b]?=_
    grind
   ·
    rcases ho.2 with ⟨h,_⟩|⟨c2,SH,cur,hv,hcB,L,NY,Uh,yw,xn⟩
    ·cases h
    ·cases hv;have TF:xs.length=n*aQ P e:=ho.1;have yS:E=xs:=by
      apply aer;intro q;by_cases hq:q<xs.length
      ·have hq1:q<E.length:=by rw[Z.1,TW];omega
       rw[aaf hq1];have:=(Ol q _ (aaf hq1)).2;rw[abY,aeg w c q cur e _ L] at this
       grind
      ·rw[aby (by rw[Z.1,TW];omega),aby (by omega)]
     subst yS;have hnl:n<=l.length:=by simp_all [afB]
     have HC:(n+mm)*(qM P e+1)<=2^46:=aaY (ab2 _ (by omega)) hbound;have yx:(n+mm)*j.bytes+(n+mm)<=2^46:=by rw[W5] at HC;omega
     by_cases O:n+mm<=cap
     ·have WO:n*j.size+ys.length<=cur.size:=by rw[Ag,yw,cq,<-Nat.add_mul];exact ab2 _ O
      have hrun:=run_append_room (P:=P) w t ty e j Y hi c n cap cur L ⟨b,of,none⟩ mm mx ys Ag xu N O WO;have hhc:g.hw c=n*aQ P e:=RI c rfl;have ahv:c<w.heap.size:=(aah.1 L).1
      let w':=w.setRow c (cur.toList.take (n*j.size)++ys++cur.toList.drop (n*j.size+ys.length)).toArray
      let g':Gh:= { g with hw:=Lo g.hw c ((n+mm)*aQ P e) }
      have dm:w'.heap[c]?=some (.cells (cur.toList.take (n*j.size)++ys++cur.toList.drop (n*j.size+ys.length)).toArray e (0,0)):=setRow_heap w c cur _ e _ L;have dS:∀b,b≠c->w'.heap[b]?=w.heap[b]?:=λb hb=>afW w c b _ hb
      have W:Lw g g' w w':=by
       refine⟨by grind [World.setRow],λb=>?_,λb o hb=>?_,λ_ _ h=>h,rfl,rfl,rfl,λb o e hs=>by
        rw[dS b (λe'=>by subst e';rw[L] at e;cases e;cases hs)];exact e⟩
       ·by_cases e':b=c
        ·grind [bc]
        ·simp only[g',aL _ _ _ _ e'];exact aax _
       ·by_cases e':b=c
        ·subst e';rw[hhc] at hb;rw[aeg w' b o _ e _ dm,aeg w b o cur e _ L]
         grind
        grind [cell_setRow_other]
      have hW:WI g' w':=by
       refine⟨λb hb=>?_,λb d hd=>?_,M.cz.mono W⟩
       ·have tB:w.heap.size<=b:=by grind [World.setRow]
        have e':b≠c:=by omega
        simp only[g',aL _ _ _ _ e'];exact M.out b tB
       ·obtain⟨es,ck,e1,e2⟩:=M.aD b d hd;have e':b≠c:=λe'=>by simp_all
        exact⟨es,ck,by simp_all,λx hx=>by obtain⟨a,ha,Cd⟩:=e2 x hx;exact⟨a,ha,Cd.mono W⟩⟩
      have jF:(cur.toList.take (n*j.size))=E:=by simp_all
      have anm:E.length=n*j.size:=by simp_all
      refine⟨_,w',g',n+mm,E++ys,hrun,⟨by grind,.inr ⟨c,cap,_,rfl,hcB,dm,O,Uh,?_,?_⟩⟩,λc' J=>by cases J;simp[g'],W,hW,?_,λb hb F7=>?_,rfl,λc' J=>.inl J⟩
      ·grind
      ·rw[jF,show(n+mm)*aQ P e=(E++ys).length from by grind];exact List.take_left
      ·refine .sq none _ _ c 0 (n+mm) cap (E++ys) lq (by simp_all) (by grind) O (λy' B8=>?_) (λq y' hq=>?_) (((Z.append U).mono W).2)
       ·grind
       ·have hq':=(abi.1 hq).1;refine⟨?_,?_⟩
        ·simp only[g',bc,abY]
         grind
        ·rw[abY,aeg w' c q _ e _ dm,aek,jF,abJ hq',hq]
      ·have e':b≠c:=λe'=>F7 (by rw[e'];rfl)
       grind [aL]
     ·have holds:∀q u,E[q]?=some u->w.cell? ((⟨c,0,none⟩:Addr).add q)=some u:=λq u hu=>by grind [anA]
      have hrun:=run_append_grow (P:=P) w t ty e j z Y hi hz ⟨c,0,none⟩ n cap E (by simp_all) holds ⟨b,of,none⟩ mm mx ys Ag xu (by omega) (by omega) (growslice_fits (by omega) (by omega));have RJ:=grownCap_ge w (n+mm) cap e;have I:grownCap w (n+mm) cap e<=maxLen:=grownCap_le_maxLen w (n+mm) cap e (by grind [maxLen]);obtain⟨g',k1,k2,k3,k4,k5,k6,k7⟩:=BS M lq (e:=e) hB (vs:=E++ys) (rest:=(Builtin.zeroCells z.cells (grownCap w (n+mm) cap e-(n+mm))).toList) (n:=n+mm) (cap:=grownCap w (n+mm) cap e) (Z.append U)
       (λy' B8=>by
        grind) (by grind)
       (by grind [size_zeroCells]) RJ I (w.drew.alloc (.cells (E.toArray++ys.toArray++Builtin.zeroCells z.cells (grownCap w (n+mm) cap e-(n+mm))) e)) (by
        show w.heap.push _=_;congr 2
        grind) rfl rfl rfl
      refine⟨_,_,g',n+mm,E++ys,hrun,k3,λc' J=>by cases J;exact k4,k1,k2,k7,λb hb _=>⟨?_,k5 b hb⟩,k6,λc' J=>by cases J;simp_all⟩;show(w.heap.push _)[b]?=_
      grind
end
def adx:=@Go.heap_alloc_old
def aep:=@Go.heap_alloc_new
section
variable{P:Program}{g0:Gh}{w0:World}{fr:Nat->Prop}{s:AS}{g:Gh}{w:World}{m:Mem}{a:Act}{o:Oper}{i:Nat}{tb:qd}{mt:Nat->Bool}{dsts:Nat->Option Nat}{z:AV}{u:jA}
theorem fX.gives(h:SR P g0 w0 fr s g w m a.tmps)(p:a.defers= [])(hd:∀d,o.dst=some d->d<s.n){c:Sem Value}(he:execOp a.eval o=(do pure (Next.value (<-c))))(hg:lG P g w z c):fX P g0 w0 fr s i a o w z.strip {} :=by
 obtain⟨Z,hz,hr⟩:=hg;refine .IU h p hd (y:=Z) ?_ (RC.zS hr)
 simp_all
theorem fX.own(H:a.defers= [])(hd:∀d,o.dst=some d->d<s.n)(p:fr (s.nx+i)){lv1:Nat->Option TypeId}{kl:Option Nat}(L:lv1=match kl with|some τ=>Lo s.lv τ none|none=>s.lv)
  {y:Value} {w':World} {g':Gh} (hrun:(execOp a.eval o).run P w=.ok (.value y) w') (h:SR P g0 w0 fr { s with lv:=lv1 } g' w' m a.tmps) {e:TypeId} {n:Nat} {ys:List Value} (ho:w'.ownsRow w0.heap.size e (aQ P e) y n ys) (hh:∀c,y.ownBlock=some c->g'.hw c=n*aQ P e)
  (hnb:∀id c,s.B id≠none->y.ownBlock=some c->c≠m.bm id) (I:∀τ c,lv1 τ≠none->y.ownBlock=some c->(m.tm τ).ownBlock≠some c) {k:Nat} {l:List AV} (hr:Rd g' w' (.sq none k l) y):
  fX P g0 w0 fr s i a o w (.sq (some (s.nx+i)) k l) { kill:=kl,made:=some e } :=by
 intro K Q E;unfold Oper.wp;rw[hrun];have h2:=h.made (id:=s.nx+i) p ho hh hnb I;refine E _ _ g' { m with tm:=Lo m.tm (s.nx+i) y } ?_ (put_defers _ _ _ H);have J:=h2.iR (dst:=o.dst) hd (z:=.sq (some (s.nx+i)) k l) (y:=y) (.inl ⟨hr,λτ k' l' e'=>by simp_all⟩) a rfl
 grind [upd]
theorem yO(h:SR P g0 w0 fr s g w m a.tmps)(E:a.defers= [])(hd:∀d,o.dst=some d->d<s.n)(p:fr (s.nx+i))(hop:o.op=.assign (.const (.slice none 0 0)))(e:TypeId):fX P g0 w0 fr s i a o w (.sq (some (s.nx+i)) (aQ P e) []) { made:=some e } :=
 .own (kl:=none) E hd p rfl (y:=.slice none 0 0) (w':=w) (by simp_all [execOp,Act.eval]) h (World.ownsRow_nil w _ e _) (λc hc=>by cases hc) (λ_ c _ hc=>by cases hc) (λ_ c _ hc=>by cases hc) (.nil _ _)
theorem SR.alloc(h:SR P g0 w0 fr s g w m a.tmps){g':Gh}{w':World}(E:Lw g g' w w')(hW:WI g' w')(hb:∀b,b<w.heap.size->w'.heap[b]?=w.heap[b]?)(hh:∀b,b<w.heap.size->g'.hw b=g.hw b)(hm:g'.aD=g.aD):SR P g0 w0 fr s g' w' m a.tmps:=
 h.keep E hW ⟨λb p _=>hb b p,hh,λb _=>by rw[hm]⟩
theorem yN(h:SR P g0 w0 fr s g w m a.tmps)(ba:a.defers= [])(hd:∀d,o.dst=some d->d<s.n)(J:fr (s.nx+i)){t e:TypeId}{parts:Array (Nat×Operand)}(hop:o.op=.buildSlice t parts.size parts)(ht:gY P t=some e){l:List AV}(hl:sx (aQ P e) 0 (parts.toList.map λx=>(x.1,s.ev x.2))=some l)
  (hb:parts.size*aQ P e<=2^24) (hg:bL P e=true):fX P g0 w0 fr s i a o w (.sq (some (s.nx+i)) (aQ P e) l) { made:=some e } :=by
 have I:=BN h parts.toList;have hq:((parts.map λx=>(x.1,a.eval x.2)).toList)=parts.toList.map λx=>(x.1,a.eval x.2):=by simp
 have cq:(parts.map λx=>(x.1,a.eval x.2)).size=parts.size:=by simp
 obtain⟨vs,h1,h2,Y,H⟩:=MH (P:=P) (w:=w) ht hg (qs:=parts.map λx=>(x.1,a.eval x.2)) (by rw[hq];exact I) hl (by simp_all);rw[cq] at h1 H;obtain⟨j,zz,hj,_,_,mM,W,_⟩:=dy hg;have E:0<aQ P e:=by omega
 have p:parts.size<=maxLen:=by
  have:=afB parts.size E
  grind [maxLen]
 obtain⟨g',k1,k2,U,O,N,M,L⟩:=BS h.wi E (e:=e) h.ext.size (vs:=vs) (rest:= []) (n:=parts.size) (cap:=parts.size) h2 Y (by rw[h2.1,H]) (by simp) (aax _) p (w.alloc (.cells vs.toArray e)) (by show w.heap.push _=_;simp) rfl rfl rfl;refine .own (kl:=none) ba hd J rfl (y:=.slice (some ⟨w.heap.size,0,none⟩) parts.size parts.size) (w':=w.alloc (.cells vs.toArray e)) ?_ (h.alloc k1 k2 (λb hb=>adx w _ hb) N M) U (λc hc=>by cases hc;exact O) (λid c hb hc=>by
  have Z:w.heap.size=c:=by grind [Value.ownBlock]
  have:=(h.lt hb).1;omega) (λτ c hl hc=>by
  have Z:w.heap.size=c:=by grind [Value.ownBlock]
  intro e';have:=(h.LK hl e').2.1;omega) L
 grind [Sem.run_bind,Result.andThen_ok,Sem.run_pure,execOp]
theorem zO(h:SR P g0 w0 fr s g w m a.tmps)(O:a.defers= [])(hd:∀d,o.dst=some d->d<s.n)(E:fr (s.nx+i)){ys:List Value}{ty:TypeId}{l:List AV}(hrun:(execOp a.eval o).run P w=.ok (.value (.pointer (some ⟨w.heap.size,0,none⟩))) (w.alloc (.cells ys.toArray ty)))
  (hl:ys.length=l.length) (h1:∀y∈ys,y.oneCell'=true) (hr:∀(j:Nat) (a:AV) (y:Value),l[j]?=some a->ys[j]?=some y->RC fr s.lv g w m a y):fX P g0 w0 fr s i a o w (.bx (s.nx+i) 0) { bx:=some (s.nx+i,(false,l)) } :=by
 intro K Q H;unfold Oper.wp;rw[hrun];have p:Lw g g w (w.alloc (.cells ys.toArray ty)):=iU h.wi _ _ rfl rfl rfl rfl (λ_=>aax _) rfl;have hW:WI g (w.alloc (.cells ys.toArray ty)):=ko h.wi _ _ rfl p (λb hb=>(h.wi.out b (by omega)).1) rfl;have N:Mv fr fr s.lv s.lv g g w (w.alloc (.cells ys.toArray ty)) m m:=⟨p,λ_ h=>h,λ_ _ h=>⟨h,rfl⟩,λ_ _=>rfl⟩
 have h2:=h.alloc p hW (λb hb=>adx w _ hb) (λ_ _=>rfl) rfl;have J:=h2.boxed (id:=s.nx+i) E (cells:=l) (ys:=ys) (blk:=w.heap.size) (ty:=ty) h.ext.size (aep w _) hl h1 (λj a y M L=>(hr j a y M L).mv N) (h.wi.out _ (aax _)).1 (λid hb e=>by have:=(h.lt hb).1;omega) (λτ hb e=>by have:=(h.LK hb e).2.1;omega);refine H _ _ g { m with bm:=Lo m.bm (s.nx+i) w.heap.size } ?_ (put_defers _ _ _ O);have I:=J.iR (dst:=o.dst) hd (z:=.bx (s.nx+i) 0) (y:=.pointer (some ⟨w.heap.size,0,none⟩)) (.inr ⟨_,0,rfl,λhn=>hn.2 rfl,by simp⟩) a rfl;exact I
theorem M3(h:SR P g0 w0 fr s g w m a.tmps)(L:a.defers= [])(hd:∀d,o.dst=some d->d<s.n){t:TypeId}{x y:Operand}(hop:o.op=.store t x y){id off:Nat}(hx:s.ev x=.bx id off){cells l:List AV}(J:s.B id=some (false,cells))(hy:eU (s.ev y)=some l)
  (hl:l.length=aQ P t) (hp:0<l.length) (hle:off+l.length<=cells.length):fX P g0 w0 fr s i a o w (.tu []) { bx:=some (id,(false,lay cells off l)) } :=by
 have p:=h.ev x;rw[hx] at p;obtain⟨H,O⟩:=p.bx;obtain⟨ys,hz,z1,z2,z3⟩:=(h.ev y).cellsOf hy;obtain⟨w',N,M⟩:=h.stored J z2 z1 z3 hle;have E:∃j,P.info? t=some j:=by
  cases hi:P.info? t with
  |none=>grind [aQ]
  |some j=>grind
 obtain⟨j,E⟩:=E;intro K Q I;have hrun:(execOp a.eval o).run P w=.ok .skip w':=by
  simp_all [ew,execOp,Instr.storeAt,Instr.sureAddr,storeVar]
 unfold Oper.wp;rw[hrun];refine I _ _ g m ?_ (put_defers _ _ _ L);exact(M.less (s.nx+i)).iR (dst:=o.dst) hd (z:=.tu []) (y:=undef) (.cw (.tu [] [] rfl (λ_ _ _ e=>by simp at e)) rfl) a rfl
theorem Km(h:SR P g0 w0 fr s g w m a.tmps)(ba:a.defers= [])(hd:∀d,o.dst=some d->d<s.n)(og:fr (s.nx+i)){t:Nat}{y:Operand}{ty e:TypeId}(hop:o.op=.call { callee:=.builtin .append,args:= #[.tmp t,y],argTypes:= #[ty,ty] })
  {τ k k':Nat} {c':Option Nat} {l r:List AV} (hx:s.T t=.sq (some τ) k l) (hy:s.ev y=.sq c' k' r) (cT:s.lv τ=some e) (hk:k=aQ P e) (EN:k'=k\/r= []) (hg:bL P e=true) (ht:gY P ty=some e) (hb:(l.length+r.length)*(qM P e+1)<=2^46):
  fX P g0 w0 fr s i a o w (.sq (some (s.nx+i)) k (l++r)) { kill:=some τ,made:=some e } :=by
 subst hk;have E:=h.tmps t;rw[hx] at E;obtain⟨H,W⟩:Rd g w (.sq none (aQ P e) l) (a.tmps.getD t undef)/\a.tmps.getD t undef=m.tm τ:=by
  rcases E with E|⟨_,_,e',_⟩
  ·exact⟨E.1,(E.2 τ _ _ rfl).2 (by simp_all)⟩
  ·cases e'
 have O:=h.ev y;rw[hy] at O;obtain⟨n,xs,fF,RI⟩:=h.cB τ e cT;rw[W] at H;obtain⟨v',w',g',n',ys,r1,r2,r3,r4,r5,Z,J,Y,N⟩:=oH (P:=P) h.wi ht hg fF h.ext.size RI H (O.rd (by simp)) EN hb (ty:=o.type);have cr:s.lv τ≠none:=by simp_all
 have U:∀σ,Lo s.lv τ none σ≠none->σ≠τ/\s.lv σ≠none:=λσ p=>by
  by_cases e':σ=τ
  ·simp_all
  simp_all
 have h1:=h.kill τ;have YK:anw g0 g' w0 w':=by
  have cq:=h.ext.size;refine⟨λb hb hm=>?_,λb hb=>?_,λb hb=>by rw[Y];exact h.keeps.aD b hb⟩
  ·have hnb:(m.tm τ).ownBlock≠some b:=λe'=>by have:=(h.LK cr e').1;omega
   rw[(J b (by omega) hnb).1];exact h.keeps.block b hb hm
  ·have hnb:(m.tm τ).ownBlock≠some b:=λe'=>by have:=(h.LK cr e').1;omega
   rw[(J b (by omega) hnb).2];exact h.keeps.hw b hb
 have h2:=h1.grow r4 r5 YK (λid hb=>J _ (h.lt hb).1 (h.vd τ id cr hb)) (λσ c p hc=>by
  obtain⟨M,I⟩:=U σ p;exact J c (h.LK I hc).2.1 (λe'=>M (h.c_ σ τ c I cr hc e')))
 refine .own (kl:=some τ) ba hd og rfl (y:=v') (w':=w') ?_ h2 r2 r3 (λid c hb hc=>?_) (λσ c p hc=>?_) Z
 ·unfold execOp;simp only[hop,resolve,invoke,builtin,aaw,aaS,aas,adt,List.map_cons,List.map_nil];rw[show a.eval (.tmp t)=m.tm τ from W,r1];rfl
 ·rcases N c hc with L|L
  ·exact λe'=>h.vd τ id cr hb (by grind)
  ·have:=(h.lt hb).1;omega
 ·obtain⟨M,I⟩:=U σ p;rcases N c hc with L|L
  ·exact λe'=>M (h.c_ σ τ c I cr e' L)
  ·exact λe'=>by have:=(h.LK I e').2.1;omega
theorem yP(h:SR P g0 w0 fr s g w m a.tmps)(ba:a.defers= [])(hd:∀d,o.dst=some d->d<s.n)(Z:fr (s.nx+i)){t:Nat}{y:Operand}{ty e:TypeId}(hop:o.op=.call { callee:=.builtin .append,args:= #[.tmp t,y],argTypes:= #[ty,ty] })
  {k':Nat} {c':Option Nat} {r:List AV} (hx:s.T t=.sq none 0 []) (hy:s.ev y=.sq c' k' r) (EN:k'=aQ P e\/r= []) (hg:bL P e=true) (ht:gY P ty=some e) (hb:r.length*(qM P e+1)<=2^46):
  fX P g0 w0 fr s i a o w (.sq (some (s.nx+i)) (aQ P e) r) { made:=some e } :=by
 have L:=h.tmps t;rw[hx] at L;have LP:a.tmps.getD t undef=.slice none 0 0:=by
  have hr:=RV.rd L (by simp);generalize a.tmps.getD t undef=q at hr;cases hr with
  |nil=>rfl
  |sq _ _ _ b o n m ys h0=>omega
 have M:=h.ev y;rw[hy] at M;obtain⟨v',w',g',n',ys,r1,Y,W,U,O,J,H,N,I⟩:=oH (P:=P) h.wi ht hg (World.ownsRow_nil w w0.heap.size e (aQ P e)) h.ext.size (λc hc=>by cases hc) (l:= []) (.nil _ _) (M.rd (by simp)) EN (by grind) (ty:=o.type);rw[aaV] at J;have YK:anw g0 g' w0 w':=by
  have cq:=h.ext.size;exact⟨λb hb hm=>by rw[(H b (by omega) (by simp[Value.ownBlock])).1];exact h.keeps.block b hb hm,λb hb=>by rw[(H b (by omega) (by simp[Value.ownBlock])).2];exact h.keeps.hw b hb,λb hb=>by rw[N];exact h.keeps.aD b hb⟩
 have h2:=h.grow U O YK (λid hb=>H _ (h.lt hb).1 (by simp[Value.ownBlock])) (λσ c p hc=>H c (h.LK p hc).2.1 (by simp[Value.ownBlock]));refine .own (kl:=none) ba hd Z rfl (y:=v') (w':=w') ?_ h2 Y W (λid c hb hc=>?_) (λσ c p hc=>?_) J
 ·unfold execOp;simp only[hop,resolve,invoke,builtin,aaw,aaS,aas,adt,List.map_cons,List.map_nil];rw[show a.eval (.tmp t)=.slice none 0 0 from LP,r1];rfl
 ·rcases I c hc with E|E
  ·cases E
  ·have:=(h.lt hb).1;omega
 ·rcases I c hc with E|E
  ·cases E
  ·exact λe'=>by have:=(h.LK p e').2.1;omega
end
def abZ:=@List.mem_cons
def abH:=@List.mem_append
section
variable{P:Program}{g0:Gh}{w0:World}{fr:Nat->Prop}{s:AS}{g:Gh}{w:World}{m:Mem}{a:Act}{o:Oper}{i:Nat}{tb:qd}{mt:Nat->Bool}{dsts:Nat->Option Nat}{z:AV}{u:jA}
def mR(B:Nat->Option (Bool×List AV))(l:List Nat):Nat->Option (Bool×List AV):=l.foldl (λB id=>Lo B id ((B id).map λx=>(true,x.2))) B
theorem AA{tmps:Array Value} :∀(ids:List Nat) (s:AS) (g:Gh),SR P g0 w0 fr s g w m tmps->(∀id∈ids,∃x,s.B id=some x)->
  ∃g',SR P g0 w0 fr { s with B:=mR s.B ids } g' w m tmps/\Lw g g' w w/\∀id∈ids,∀x,s.B id=some x->Rd g' w (.sp x.2) (.pointer (some ⟨m.bm id,0,none⟩))
 | [],s,g,h,_=>⟨g,h,.refl _ _,λid L=>by cases L⟩
 |id::ids,s,g,h,hx=>by
  obtain⟨⟨ro,cells⟩,H⟩:=hx id (by simp);obtain⟨g1,h1,h2,J⟩:=h.froze H;obtain⟨g2,k1,k2,I⟩:=AA ids { s with B:=Lo s.B id (some (true,cells)) } g1 h1 (λj E=>by
   obtain⟨x,hx⟩:=hx j (by grind);by_cases e:j=id
   ·simp_all
   simp_all)
  refine⟨g2,?_,h2.trans k2,λj E x p=>?_⟩
  ·grind [mR]
  ·by_cases e:j=id
   ·subst e;rw[H] at p;cases p;exact J.mono k2
   ·rcases abZ.1 E with E|E
    ·omega
    ·exact I j E x (by simp_all)
theorem tN:∀ {ops:List Operand} {la:List AV} {ids:List Nat},jv s ops=some (la,ids)->∀id∈ids,∃x,s.B id=some x
 | [],la,ids,h,id,p=>by cases h;cases p
 |x::r,la,ids,h,id,p=>by
  unfold jv at h;cases h1:CU s (s.ev x) with
  |none=>simp_all
  |some q=>
   obtain⟨a1,l1⟩:=q;rw[h1] at h;simp only[abN] at h;cases h2:jv s r with
   |none=>simp_all
   |some E=>
    obtain⟨a2,l2⟩:=E;rw[h2] at h;cases h;rcases abH.1 p with p|p
    ·unfold CU at h1
     grind
    ·exact tN h2 id p
theorem tM(h:SR P g0 w0 fr s g w m a.tmps){g':Gh}(p:Lw g g' w w):∀ {ops:List Operand} {la:List AV} {ids:List Nat},jv s ops=some (la,ids)->(∀id∈ids,∀x,s.B id=some x->Rd g' w (.sp x.2) (.pointer (some ⟨m.bm id,0,none⟩)))->cS g' w la (ops.map a.eval)
 | [],la,ids,h1,_=>by cases h1;exact .nil _ _
 |x::r,la,ids,h1,hr=>by
  unfold jv at h1;cases h2:CU s (s.ev x) with
  |none=>simp_all
  |some q=>
   obtain⟨a1,l1⟩:=q;rw[h2] at h1;simp only[abN] at h1;cases E:jv s r with
   |none=>simp_all
   |some H=>
    obtain⟨a2,l2⟩:=H;rw[E] at h1;cases h1;refine .cons ?_ (tM h p E λid M=>hr id (by grind));have hx:=h.ev x;unfold CU at h2;split at h2
    ·rename_i id heq;split at h2
     ·rename_i ro cells I;cases h2;rw[heq] at hx;rw[hx.bx.2];exact hr id (by simp) _ I
     ·cases h2
    ·cases h2
    ·rename_i L J;cases h2;have hnb:∀id off,s.ev x≠.bx id off:=λid off e=>by
      cases off with
      |zero=>grind
      |succ k=>grind
     exact((hx.rd hnb).mono p).strip
theorem D7(h:SR P g0 w0 fr s g w m a.tmps)(J:a.defers= [])(hd:∀d,o.dst=some d->d<s.n){f:FuncId}{first cap:Array Operand}(hop:o.op=.makeFunc (.func f) first cap){l1 l2:List AV}{f1 f2:List Nat}(h1:jv s first.toList=some (l1,f1))(h2:jv s cap.toList=some (l2,f2)):
  fX P g0 w0 fr s i a o w (.fn f l1 l2) { pL:=f1++f2 } :=by
 obtain⟨g',k1,k2,E⟩:=AA (f1++f2) s g h (λid H=>by
  grind [tN])
 have r1:=tM h k2 h1 (λid H=>E id (by grind));have p:=tM h k2 h2 (λid H=>E id (by grind));intro K Q I;have hrun:(execOp a.eval o).run P w=.ok (.value (.func (.func f) (first.toList.map a.eval).toArray (cap.toList.map a.eval).toArray)) w:=by
  have M:(first.toList.map a.eval).toArray=first.map a.eval:=by grind
  have L:(cap.toList.map a.eval).toArray=cap.map a.eval:=by grind
  grind [Sem.run_pure,execOp,Instr.makeFunc]
 unfold Oper.wp;rw[hrun];refine I _ _ g' m ?_ (put_defers _ _ _ J);exact(k1.less (s.nx+i)).iR (dst:=o.dst) hd (z:=.fn f l1 l2) (.cw (.fn f l1 l2 _ _ r1.1 p.1 r1.2 p.2) rfl) a rfl
theorem cS.app{x:List AV}{y:List Value}{x':List AV}{p:List Value}(h:cS g w x y)(k:cS g w x' p):cS g w (x++x') (y++p):=h.append k
theorem so(h:SR P g0 w0 fr s g w m a.tmps):∀(l:List Operand),(∀x∈l,∀id off,s.ev x≠.bx id off)->cS g w (l.map λx=>(s.ev x).strip) (l.map a.eval)
 | [],_=>.nil _ _
 |x::l,hb=>.cons ((h.ev x).rd (hb x (by simp))).strip (so h l λy hy=>hb y (by grind))
theorem QV(hT:jb P tb g0)(h:SR P g0 w0 fr s g w m a.tmps)(J:a.defers= [])(hd:∀d,o.dst=some d->d<s.n)(Z:fr (s.nx+i)){c:Call}{x:Operand}(hop:o.op=.call c)(hc:c.callee=.value x){f:FuncId}{l1 l2:List AV}(hx:s.ev x=.fn f l1 l2)
  (hb:∀y∈c.args.toList,∀id off,s.ev y≠.bx id off) {r:AV} (hr:tb f (l1++(c.args.toList.map λx=>(s.ev x).strip)++l2)=some r)
  {z:AV} {u:jA} (hz:jH P s.nx i r=some (z,u)):fX P g0 w0 fr s i a o w z u:=by
 obtain⟨lM,p⟩:=hT.1.1 f _ r hr;have H:=h.ev x;rw[hx] at H;obtain⟨y1,y2,WL,VU,VT⟩:=H.fn;have hargs:=(VU.append (so h c.args.toList hb)).append VT;have M:=p g w _ h.wi hargs;intro K Q I;have hrun:(execOp a.eval o).run P w=.ok (.enter f (y1++c.args.toList.map a.eval++y2).toArray) w:=by
  simp only[execOp,hop,resolve,hc,Deferred.ofValue,WL,aaw,aaS,aas,invoke];rw[lM]
  simp_all
 unfold Oper.wp;rw[hrun,Oper.upon_enter];refine M.mono ?_;rintro e w' ⟨y,g',rfl,k1,k2,k3,E,k5⟩;have h2:=h.keep k1 k2 k3;by_cases fF:∃e k l,r=.sq (some e) k l
 ·obtain⟨e,k,l,rfl⟩:=fF;obtain⟨n,ys,o1,o2⟩:=k5;unfold jH at hz;split at hz
  ·rename_i e' k' l' heq;cases heq;split at hz
   ·rename_i O;subst O;cases hz;have N:w'.ownsRow w0.heap.size e (aQ P e) y n ys:=by
     refine⟨o1.1,?_⟩;rcases o1.2 with h9|⟨c',cap,cur,Y,W,U⟩
     ·grind
     ·exact .inr ⟨c',cap,cur,Y,aaY h.ext.size W,U⟩
    have L:∀c,y.ownBlock=some c->w.heap.size<=c:=λc hc=>(o1.lt c hc).1
    have h3:=h2.made (id:=s.nx+i) Z N o2 (λid c hb hc=>by have:=L c hc;have:=(h.lt hb).1;omega) (λτ c hl hc e'=>by have:=L c hc;have:=(h.LK hl e').2.1;omega);refine I _ _ g' { m with tm:=Lo m.tm (s.nx+i) y } ?_ (put_defers _ _ _ J);exact h3.iR (dst:=o.dst) hd (z:=.sq (some (s.nx+i)) (aQ P e) l) (y:=y) (.inl ⟨E.tok,λτ k' l' e'=>by simp_all⟩) a rfl
   ·cases hz
  simp_all
 ·have e1:jH P s.nx i r=some (r,{}):=by
   unfold jH
   simp_all
  have e2:r.strip=r:=by
   cases r with
   |sq c k l=>cases c with
    |none=>rfl
    |some e=>grind
   |_=>rfl
  rw[e1] at hz;cases hz;refine I _ _ g' m ?_ (put_defers _ _ _ J);exact(h2.less (s.nx+i)).iR (dst:=o.dst) hd (z:=r) (.cw E e2) a rfl
def Ss(g:Gh)(w:World):(Nat->Nat)->(Nat->Option (Value->Option AV))->World->Prop:=λhw aD w'=>Lw g { hw:=hw,aD:=aD } w w'
theorem Vo(W:jb P tb g0)(h:SR P g0 w0 fr s g w m a.tmps)(ba:a.defers= [])(hd:∀d,o.dst=some d->d<s.n)(og:fr (s.nx+i)){c:Call}{x:Operand}(hop:o.op=.call c)(hc:c.callee=.value x){f:FuncId}{l1 l2:List AV}(hx:s.ev x=.fn f l1 l2)
  (hb:∀y∈c.args.toList,∀id off,s.ev y≠.bx id off) {r:List AV} (hr:tb.ac f (l1++(c.args.toList.map λx=>(s.ev x).strip)++l2)=some r)
  {z:AV} {u:jA} (hz:CV P tb.ty s i r=some (z,u)):fX P g0 w0 fr s i a o w z u:=by
 obtain⟨lM,oB⟩:=W.1.2.1 f _ r hr;have eF:=W.2.1 f _ r hr;have U:=h.ev x;rw[hx] at U;obtain⟨y1,y2,WL,VU,VT⟩:=U.fn;have hargs:=(VU.append (so h c.args.toList hb)).append VT;unfold CV at hz;split at hz
 rotate_left
 ·cases hz
 rename_i τ k l jy;split at hz
 rotate_left
 ·cases hz
 rename_i xx;obtain⟨rfl,cT,M,hLo,hle⟩:=xx;cases hz;obtain⟨Ob,jZ⟩:=h.pins 0 _ eF;obtain⟨Z,Ma,b1,b2,b3,b4,b5,b6⟩:=h.boxes 0 false _ jy;obtain⟨n0,UN,t1,t2⟩:=h.cB τ _ cT;have hτ:¬fr τ:=λhf=>by have:=(h.free τ hf).2;simp_all
 have Ca:SR P { g0 with ex:=Ss g w,iF:=λid=>if id=0 then some (m.bm 0) else none } w0 (λj=>1<=j) (zE P tb.ty l) g w { bm:=λ_=>m.bm 0,tm:=λ_=>m.tm τ } #[]:= {
  size:=rfl
  tmps:=λt=>.cw (.any _) rfl
  free:=λid fg=>⟨wH (by omega),qb (by omega)⟩
  boxes:=λid ro cells e=>by
   by_cases L:id=0
   ·subst L;simp only[zE,bc,Option.some.injEq,Prod.mk.injEq] at e;obtain⟨rfl,rfl⟩:=e;refine⟨Z,Ma,b1,b2,by omega,b4,λj a' y J I=>?_,by omega⟩;cases j with
    |zero=>
     simp only[abe,Option.some.injEq] at J;subst J;have hq:=b5 0 _ y rfl I;refine⟨hq.1,λτ' k' l' e'=>?_⟩;cases e';exact⟨by omega,λ_=>(hq.2 τ _ _ rfl).2 (by simp_all)⟩
    |succ j=>grind
   simp_all [zE]
  cD:=λi j hi E _=>by
   have WG:i=0:=aaO λe=>hi (wH e)
   have Ua:j=0:=aaO λe=>E (wH e)
   omega
  cB:=λσ e he=>by
   by_cases L:σ=0
   ·subst L;simp only[zE,bc,Option.some.injEq] at he
    grind
   simp_all [zE]
  c_:=λi j c hi E _ _=>by
   have WG:i=0:=aaO λe=>hi (qb e)
   have Ua:j=0:=aaO λe=>E (qb e)
   omega
  vd:=λσ id _ _=>h.vd τ 0 (by simp_all) (by simp_all)
  wi:=h.wi
  ext:=⟨h.ext.1,h.ext.2,h.ext.3,h.ext.4,h.ext.5,h.ext.6,h.ext.7,h.ext.8⟩
  keeps:=⟨h.keeps.1,h.keeps.2,h.keeps.3⟩
  gi:=λg1 g2 w1 w2 hE p=>(Lw.trans (g2:=g1) ⟨p.1,p.2,p.3,p.4,p.5,p.6,p.7,p.8⟩ hE:Lw g g2 w w2)|>λq=>⟨q.1,q.2,q.3,q.4,q.5,q.6,q.7,q.8⟩
  fV:=⟨aax _,λ_=>aax _,λ_ _ _=>rfl,λ_ _ e=>e,rfl,rfl,rfl,λ_ _ e _=>e⟩
  pins:=λid b e=>by
   simp_all }
 have vK:=oB _ w0 g w _ l _ Ca jZ hle hargs;intro K Q p;have hrun:(execOp a.eval o).run P w=.ok (.enter f (y1++c.args.toList.map a.eval++y2).toArray) w:=by
  simp only[execOp,hop,resolve,hc,Deferred.ofValue,WL,aaw,aaS,aas,invoke];rw[lM]
  simp_all
 unfold Oper.wp;rw[hrun,Oper.upon_enter];refine vK.mono ?_;rintro e w' ⟨y,g',m',rfl,k1,k2,k3,O⟩;obtain⟨Tj,L_,vv,b2',b3',CK,N,H9⟩:=k2.boxes 0 false _ wG;obtain⟨n1,vW,Tr,Y8⟩:=k2.cB 0 tb.ty IN;have abl:=k2.vd 0 0 (by simp[zE]) (by simp[zE]);have ali:∀j,s.B j≠none->j=0:=λj E=>aaO λe=>E (M j e)
 have agI:(0:Nat)≠s.nx+i:=λe=>Ob (e▸og)
 let m1:Mem:= { bm:=m.bm,tm:=Lo m.tm (s.nx+i) (m'.tm 0) }
 have Y:Mv fr (λj=>fr j/\j≠s.nx+i) s.lv (Lo (Lo s.lv τ none) (s.nx+i) (some tb.ty)) g g' w w' m m1:=⟨O,λ_ h k=>h k.1,λσ H hl=>by
  grind [aL],λ_ _=>rfl⟩
 have Cf:∀σ,Lo (Lo s.lv τ none) (s.nx+i) (some tb.ty) σ≠none->σ=s.nx+i:=λσ H=>aaO λe=>by
  rw[aL _ _ _ _ e] at H;by_cases I:σ=τ
  ·subst I;simp at H
  grind [aL]
 have R9:∀j,Lo s.B 0 (some (false,[.sq (some (s.nx+i)) (aQ P tb.ty) (l++r)])) j≠none->j=0:=λj E=>aaO λe=>by
  grind [aL]
 have cn:SR P g0 w0 (λj=>fr j/\j≠s.nx+i) { s with B:=Lo s.B 0 (some (false,[.sq (some (s.nx+i)) (aQ P tb.ty) (l++r)])),lv:=Lo (Lo s.lv τ none) (s.nx+i) (some tb.ty) } g' w' m1 a.tmps:= {
  size:=h.size
  tmps:=λt=>(h.tmps t).mv Y
  free:=λid fg=>⟨by
   grind,by
   grind⟩
  boxes:=λid ro cells e=>by
   have L:id=0:=R9 id (by grind);subst L;simp only[bc,Option.some.injEq,Prod.mk.injEq] at e;obtain⟨rfl,rfl⟩:=e;refine⟨Tj,L_,?_,?_,by omega,CK,λj a' y J I=>?_,?_⟩
   ·omega
   ·grind
   ·cases j with
    |zero=>
     simp only[abe,Option.some.injEq] at J;subst J;have hq:=N 0 _ y rfl I;refine⟨hq.1,λτ' k' l' e'=>?_⟩;cases e';refine⟨λhn=>hn.2 rfl,λ_=>?_⟩;have:=(hq.2 0 _ _ rfl).2 (by rfl);simp[m1,this]
    |succ j=>grind
   grind
  cD:=λi j hi E _=>by grind
  cB:=λσ e he=>by
   grind [bc]
  c_:=λi j c hi E _ _=>by grind
  vd:=λσ id h1 h2=>by
   grind [bc]
  wi:=k2.wi
  ext:=⟨k2.ext.1,k2.ext.2,k2.ext.3,k2.ext.4,k2.ext.5,k2.ext.6,k2.ext.7,k2.ext.8⟩
  keeps:=⟨k2.keeps.1,k2.keeps.2,k2.keeps.3⟩
  gi:=h.gi
  fV:=h.gi _ _ _ _ O h.fV
  pins:=λid b e=>Y.pins (h.pins id b e) }
 refine p _ _ g' m1 ?_ (put_defers _ _ _ ba);exact cn.iR (dst:=o.dst) hd (z:=.tu []) (y:=y) (.cw k1 rfl) a rfl
theorem oZ{g:Gh}{w1:World}{g0:Gh}(he:∀hw aD w,g0.ex hw aD w↔Ss g w1 hw aD w):Xr g0 w1.heap.size:=by
 intro hw aD w b o o' hb ho hn L h;rw[he] at h ⊢;have M:=(aah.1 ho).1;have J:∀k,k≠b->(w.heap.setIfInBounds b o')[k]?=w.heap[k]?:=λk hk=>by grind
 have N:(w.heap.setIfInBounds b o')[b]?=some o':=by grind
 have I:∀k p,World.cell? { w with heap:=w.heap.setIfInBounds b o' } ⟨k,p,none⟩=w.cell? ⟨k,p,none⟩:=λk p=>by
  grind [World.cell?]
 exact⟨by grind,h.2,λk p hk=>by rw[I];exact h.3 k p hk,h.4,h.5,h.6,h.7,λk o2 H E=>by
  rw[J k (by grind)];exact h.8 k o2 H E⟩
theorem QW(hT:jb P tb g0)(h:SR P g0 w0 fr s g w m a.tmps)(ba:a.defers= [])(hd:∀d,o.dst=some d->d<s.n)(og:fr (s.nx+i)){c:Call}{x:Operand}(hop:o.op=.call c)(hc:c.callee=.value x){f:FuncId}{l1 l2:List AV}(hx:s.ev x=.fn f l1 l2)
  (hb:∀y∈c.args.toList,∀id off,s.ev y≠.bx id off) {wd:List AV} (qQ:s.B 1=some (false,wd)) {r:List AV×AV} (hr:tb.a2 f (l1++(c.args.toList.map λx=>(s.ev x).strip)++l2) wd=some r)
  {z:AV} {u:jA} (hz:sE P tb.ty s i r=some (z,u)):fX P g0 w0 fr s i a o w z u:=by
 obtain⟨lM,M⟩:=hT.1.2.2 f _ wd r hr;obtain⟨aam,aal,KE⟩:=hT.2.2 f _ wd r hr;have iz:=h.ev x;rw[hx] at iz;obtain⟨y1,y2,WL,VU,VT⟩:=iz.fn;have hargs:=(VU.append (so h c.args.toList hb)).append VT;unfold sE at hz;split at hz
 rotate_left
 ·cases hz
 rename_i τ k l jy;split at hz
 rotate_left
 ·cases hz
 rename_i xx;obtain⟨rfl,cT,hBo,N,hle⟩:=xx;cases hz;obtain⟨Ob,jZ⟩:=h.pins 0 _ aam;obtain⟨aog,ou⟩:=h.pins 1 _ aal;obtain⟨zs,Ma,b1,b2,b3,b4,b5,b6⟩:=h.boxes 0 false _ jy;obtain⟨zs1,ty1,c1,c2,c3,c4,c5,c6⟩:=h.boxes 1 false _ qQ;obtain⟨n0,UN,t1,t2⟩:=h.cB τ _ cT;have hτ:¬fr τ:=λhf=>by have:=(h.free τ hf).2;simp_all
 have iK:∀σ,s.lv σ≠none->σ=τ:=λσ p=>aaO λe=>p (N σ e)
 have Ca:SR P { g0 with ex:=Ss g w,iF:=λid=>if id=0 then some (m.bm 0) else if id=1 then some (m.bm 1) else none } w0 (λj=>2<=j) (F1 P tb.ty l (some wd)) g w { bm:=m.bm,tm:=λ_=>m.tm τ } #[]:= {
  size:=rfl
  tmps:=λt=>.cw (.any _) rfl
  free:=λid O=>⟨Bu (by omega) (by omega),Bt (by omega)⟩
  boxes:=λid ro cells e=>by
   rcases mD (by rw[e];simp) with rfl|rfl
   ·rw[nO] at e;simp only[Option.some.injEq,Prod.mk.injEq] at e;obtain⟨rfl,rfl⟩:=e;refine⟨zs,Ma,b1,b2,by omega,b4,λj a' y E I=>?_,by omega⟩;cases j with
    |zero=>
     simp only[abe,Option.some.injEq] at E;subst E;have hq:=b5 0 _ y rfl I;refine⟨hq.1,λτ' k' l' e'=>?_⟩;cases e';exact⟨by omega,λ_=>(hq.2 τ _ _ rfl).2 (by simp_all)⟩
    |succ j=>grind
   ·rw[mC] at e;simp only[acz,Option.some.injEq,Prod.mk.injEq] at e;obtain⟨rfl,rfl⟩:=e;exact⟨zs1,ty1,c1,c2,c3,c4,λj a' y E I=>⟨(c5 j a' y E I).1,λτ' k' l' e'=>absurd e' (M.plain _ (List.mem_of_getElem? E) _ _ _)⟩,c6⟩
  cD:=λi j hi J he=>by
   rcases mD hi with rfl|rfl <;>rcases mD J with rfl|rfl
   ·rfl
   ·exact h.cD 0 1 (by grind) (by grind) he
   ·exact h.cD 1 0 (by grind) (by grind) he
   ·rfl
  cB:=λσ e he=>by
   grind [lS,iZ]
  c_:=λi j c hi J _ _=>by grind [lS]
  vd:=λσ id _ O=>by
   rcases mD O with rfl|rfl
   ·exact h.vd τ 0 (by grind) (by grind)
   ·exact h.vd τ 1 (by grind) (by grind)
  wi:=h.wi
  ext:=⟨h.ext.1,h.ext.2,h.ext.3,h.ext.4,h.ext.5,h.ext.6,h.ext.7,h.ext.8⟩
  keeps:=⟨h.keeps.1,h.keeps.2,h.keeps.3⟩
  gi:=λg1 g2 w1 w2 hE H=>(Lw.trans (g2:=g1) ⟨H.1,H.2,H.3,H.4,H.5,H.6,H.7,H.8⟩ hE:Lw g g2 w w2)|>λq=>⟨q.1,q.2,q.3,q.4,q.5,q.6,q.7,q.8⟩
  fV:=⟨aax _,λ_=>aax _,λ_ _ _=>rfl,λ_ _ e=>e,rfl,rfl,rfl,λ_ _ e _=>e⟩
  pins:=λid b e=>by
   grind }
 have vK:=M.ok _ w0 g w _ l _ Ca jZ ou (oZ λ_ _ _=>Iff.rfl) (KE _ _ _ h.fV) hle hargs;intro K Q H;have hrun:(execOp a.eval o).run P w=.ok (.enter f (y1++c.args.toList.map a.eval++y2).toArray) w:=by
  simp only[execOp,hop,resolve,hc,Deferred.ofValue,WL,aaw,aaS,aas,invoke];rw[lM];congr 2
  grind
 unfold Oper.wp;rw[hrun,Oper.upon_enter];refine vK.mono ?_;rintro e w' ⟨y,g',m',rfl,k1,k2,k3,k5,k4⟩;obtain⟨Tj,L_,vv,b2',b3',CK,Z,H9⟩:=k2.boxes 0 false _ nO;obtain⟨aeT,afa,Qg,c2',Y,W,U,c6'⟩:=k2.boxes 1 false wd (by rfl);obtain⟨n1,vW,Tr,Y8⟩:=k2.cB 0 tb.ty iZ;have agI:(0:Nat)≠s.nx+i:=λe=>Ob (e▸og)
 let m1:Mem:= { bm:=m.bm,tm:=Lo m.tm (s.nx+i) (m'.tm 0) }
 have dt:Mv fr (λj=>fr j/\j≠s.nx+i) s.lv (Lo (Lo s.lv τ none) (s.nx+i) (some tb.ty)) g g' w w' m m1:=⟨k4,λ_ h k=>h k.1,λσ p hl=>by
  grind [aL],λ_ _=>rfl⟩
 have Cf:∀σ,Lo (Lo s.lv τ none) (s.nx+i) (some tb.ty) σ≠none->σ=s.nx+i:=λσ p=>aaO λe=>by
  rw[aL _ _ _ _ e] at p;by_cases I:σ=τ
  ·subst I;simp at p
  grind [aL]
 have L:∀j,Lo s.B 0 (some (false,[.sq (some (s.nx+i)) (aQ P tb.ty) (l++r.1)])) j≠none->j=0\/j=1:=λj J=>by
  grind [aL]
 have cn:SR P g0 w0 (λj=>fr j/\j≠s.nx+i) { s with B:=Lo s.B 0 (some (false,[.sq (some (s.nx+i)) (aQ P tb.ty) (l++r.1)])),lv:=Lo (Lo s.lv τ none) (s.nx+i) (some tb.ty) } g' w' m1 a.tmps:= {
  size:=h.size
  tmps:=λt=>(h.tmps t).mv dt
  free:=λid O=>⟨by
   grind,by
   grind⟩
  boxes:=λid ro cells e=>by
   rcases L id (by grind) with rfl|rfl
   ·simp only[bc,Option.some.injEq,Prod.mk.injEq] at e;obtain⟨rfl,rfl⟩:=e;refine⟨Tj,L_,?_,?_,by omega,CK,λj a' y E I=>?_,?_⟩
    ·omega
    ·grind
    ·cases j with
     |zero=>
      simp only[abe,Option.some.injEq] at E;subst E;have hq:=Z 0 _ y rfl I;refine⟨hq.1,λτ' k' l' e'=>?_⟩;cases e';refine⟨λhn=>hn.2 rfl,λ_=>?_⟩;have:=(hq.2 0 _ _ rfl).2 (by rfl);simp[m1,this]
     |succ j=>grind
    grind
   ·dsimp only at e;rw[aL _ _ _ _ (by omega),qQ] at e;simp only[Option.some.injEq,Prod.mk.injEq] at e;obtain⟨rfl,rfl⟩:=e;exact⟨aeT,afa,by omega,by grind,Y,W,λj a' y E I=>⟨(U j a' y E I).1,λτ' k' l' e'=>absurd e' (M.plain _ (List.mem_of_getElem? E) _ _ _)⟩,by grind⟩
  cD:=λi j hi J he=>by
   rcases L i hi with rfl|rfl <;>rcases L j J with rfl|rfl
   ·rfl
   ·exact h.cD 0 1 (by grind) (by grind) he
   ·exact h.cD 1 0 (by grind) (by grind) he
   ·rfl
  cB:=λσ e he=>by
   grind [bc]
  c_:=λi j c hi J _ _=>by grind
  vd:=λσ id h1 h2=>by
   rw[Cf σ h1];show(Lo m.tm (s.nx+i) (m'.tm 0) (s.nx+i)).ownBlock≠some (m.bm id);rw[bc];rcases L id h2 with rfl|rfl
   ·rw[jZ,<-k3];exact k2.vd 0 0 (by grind [iZ]) (by grind [nO])
   ·rw[ou,<-k5];exact k2.vd 0 1 (by grind [iZ]) (by grind [mC])
  wi:=k2.wi
  ext:=⟨k2.ext.1,k2.ext.2,k2.ext.3,k2.ext.4,k2.ext.5,k2.ext.6,k2.ext.7,k2.ext.8⟩
  keeps:=⟨k2.keeps.1,k2.keeps.2,k2.keeps.3⟩
  gi:=h.gi
  fV:=h.gi _ _ _ _ k4 h.fV
  pins:=λid b e=>dt.pins (h.pins id b e) }
 refine H _ _ g' m1 ?_ (put_defers _ _ _ ba);exact cn.iR (dst:=o.dst) hd (z:=r.2.strip) (y:=y) (RC.zS k1) a rfl
end
def af5:=@Array.toArray_toList
section
variable{P:Program}{g0:Gh}{w0:World}{fr:Nat->Prop}{s:AS}{g:Gh}{w:World}{m:Mem}{a:Act}{o:Oper}{i:Nat}{tb:qd}{mt:Nat->Bool}{dsts:Nat->Option Nat}{z:AV}{u:jA}
theorem wU(h:SR P g0 w0 fr s g w m a.tmps)(H:a.defers= [])(hd:∀d,o.dst=some d->d<s.n){ys:List Value}{ty:TypeId}{l:List AV}(hrun:(execOp a.eval o).run P w=.ok (.value (.pointer (some ⟨w.heap.size,0,none⟩))) (w.alloc (.cells ys.toArray ty)))
  (h1:∀y∈ys,y.oneCell'=true) (hr:cS g w l ys):fX P g0 w0 fr s i a o w (.sp l) {} :=by
 intro K Q E;unfold Oper.wp;rw[hrun];have hz:=(h.wi.out w.heap.size (aax _)).1;have p:Lw g { g with hw:=Lo g.hw w.heap.size ys.length } w (w.alloc (.cells ys.toArray ty)):=iU h.wi _ _ rfl rfl rfl rfl (λb=>by
  by_cases e:b=w.heap.size
  ·simp_all
  simp_all) rfl
 have hW:WI { g with hw:=Lo g.hw w.heap.size ys.length } (w.alloc (.cells ys.toArray ty)):=ko h.wi _ _ rfl p (λb hb=>by
  have e:b≠w.heap.size:=by omega
  simp only[aL _ _ _ _ e];exact(h.wi.out b (by omega)).1) rfl
 have h2:=h.alloc p hW (λb hb=>adx w _ hb) (λb hb=>by
  have e:b≠w.heap.size:=by omega
  simp_all) rfl
 have J:=aep w (.cells ys.toArray ty);refine E _ _ { g with hw:=Lo g.hw w.heap.size ys.length } m ?_ (put_defers _ _ _ H);have gf:Rd { g with hw:=Lo g.hw w.heap.size ys.length } (w.alloc (.cells ys.toArray ty)) (.sp l) (.pointer (some ⟨w.heap.size,0,none⟩)):=
  .sp l w.heap.size 0 ys hr.1 h1 (λj y I=>⟨by grind [bc],by
   simp_all⟩) (hr.mono p).2
 exact(h2.less (s.nx+i)).iR (dst:=o.dst) hd (.cw gf rfl) a rfl
theorem Vn(h:SR P g0 w0 fr s g w m a.tmps)(J:a.defers= [])(hd:∀d,o.dst=some d->d<s.n)(L:fr (s.nx+i)){t:TypeId}{x:Operand}(hop:o.op=.box t x){l:List AV}(hl:eU (s.ev x)=some l)(b:Bool)
  (hz:(if b=true then some (AV.bx (s.nx+i) 0,({ bx:=some (s.nx+i,(false,l)) } :jA)) else some (AV.sp l,({} :jA)))=some (z,u)):fX P g0 w0 fr s i a o w z u:=by
 obtain⟨ys,h1,h2,E,p⟩:=(h.ev x).cellsOf hl;have hrun:(execOp a.eval o).run P w=.ok (.value (.pointer (some ⟨w.heap.size,0,none⟩))) (w.alloc (.cells ys.toArray t)):=by
  simp only[execOp,hop,Instr.box,newVar,newRow,h1,newObj,aaw,aaS,Sem.run,aas];rfl
 split at hz
 ·grind [zO]
 ·cases hz;exact wU h J hd hrun h2 ⟨E,λj a y I H=>(p j a y I H).rd⟩
theorem M6(h:SR P g0 w0 fr s g w m a.tmps)(I:a.defers= [])(hd:∀d,o.dst=some d->d<s.n)(E:fr (s.nx+i)){t:TypeId}(hop:o.op=.alloc t){l:List AV}(hl:anE P t=some l):fX P g0 w0 fr s i a o w (.bx (s.nx+i) 0) { bx:=some (s.nx+i,(false,l)) } :=by
 obtain⟨it,v,h1,h2,rfl,H⟩:=kr hl;have hrun:(execOp a.eval o).run P w=.ok (.value (.pointer (some ⟨w.heap.size,0,none⟩))) (w.alloc (.cells v.cells.toList.toArray t)):=by
  have p:(zeroValue t).run P w=.ok v w:=by
   unfold zeroValue typeInfo
   simp_all
  simp only[execOp,hop,Instr.alloc,newVar,newRow,newObj,aaw,p,aaS,Sem.run,aas,af5];rfl
 grind [zO,RC.cw,GQ,zp]
theorem G6(h:SR P g0 w0 fr s g w m a.tmps)(H:a.defers= [])(hd:∀d,o.dst=some d->d<s.n){t:TypeId}{x:Operand}(hop:o.op=.load t x){id off:Nat}(hx:s.ev x=.bx id off){ro:Bool}{l:List AV}(N:s.B id=some (ro,l))(hz:cW P t (l.drop off)=some z):fX P g0 w0 fr s i a o w z {} :=by
 have E:=h.ev x;rw[hx] at E;obtain⟨ys,ty,k1,k2,L,J,I,k6⟩:=h.boxes id ro l N;have p:cS g w l ys:=⟨L,λj a y U O=>(I j a y U O).rd⟩
 have hc:∀j y,(ys.drop off)[j]?=some y->w.cell? ⟨m.bm id,off+j,none⟩=some y:=λj y hj=>by
  rw[aeg w _ _ _ ty _ k2];grind
 obtain⟨Z,hr,gf⟩:=run_load (P:=P) (p.drop off) (λy hy=>J y (ac8 hy)) hc hz;have hrun:(execOp a.eval o).run P w=.ok (.value Z) w:=by
  simp only[execOp,hop,Instr.loadAt,E.bx.2,Instr.sureAddr,aaw,aaS,aas,hr]
 by_cases W:∃τ k c,z=.sq (some τ) k c
 ·obtain⟨τ,k,c,rfl⟩:=W;refine .IU h H hd hrun (.inl ?_);unfold cW at hz;split at hz
  ·simp_all
  ·rename_i ht;have TE:l[off]?=some (.sq (some τ) k c):=by grind
   obtain⟨y,hy,M⟩:=p.get TE;have Y:=hc 0 y (by grind);rw[aeS] at Y;have:Z=y:=by
    simp_all [oX,loadVar]
   grind
  ·cases hz
 ·refine .IU h H hd hrun (.cw gf ?_);cases z with
  |sq c k l'=>cases c with
   |none=>rfl
   |some τ=>simp_all
  |_=>rfl
theorem CA{n:Int}(h0:0<=n)(h1:n<128):Value.string (Utf8.encode n)=sv [UInt8.ofNat n.toNat]:=by
 grind [Utf8.valid,Utf8.encode]
theorem J5{src dst:TypeId}{c':Option Nat}{l:List AV}{c:List UInt8}{y:Value}(hd:jd P dst=true)(hs:(gY P src).bind (nG P)=some .u8)(hl:Rd g w (.sq c' 1 l) y)(hc:iY l=some c):lG P g w (.s c) (convert src dst y):=by
 cases he:gY P src with
 |none=>simp_all
 |some e=>
  rw[he] at hs;simp only[abN] at hs;rcases hl.QC with ⟨rfl,rfl⟩|⟨b,o,n,H,ys,rfl,hk,J,hm,I,L,p⟩
  ·cases hc;refine⟨sv [],?_,.s _⟩;simp only[convert,aaw,bT (eY he),bT (kg hd),bT (sT hs),aas,Conv.bytesToString];rfl
  ·refine⟨sv c,?_,.s _⟩;have M:=uU hc p;have hlen:ys.length=n:=by rw[p.1,J];omega
   have E:(loadCells ⟨b,o,none⟩ n).run P w=.ok ((c.map λb=>(b.toNat:Int)).map (Value.int .u8)).toArray w:=by
    grind [run_loadCells_list,anA]
   have:=run_bytesToString (P:=P) w ⟨b,o,none⟩ n H _ E
   simp_all [foldl_push_byteCells,bT,eY,kg,sT,convert]
theorem QL{k:IntKind}{x y:Int}(at':Array TypeId)(ty:TypeId):(Builtin.max_ at' ty #[.int k x,.int k y]).run P w=.ok (.int k (max x y)) w:=by
 grind [Sem.run_pure,Builtin.max_,Builtin.max2]
theorem QK{k:IntKind}{x y:Int}(at':Array TypeId)(ty:TypeId):(Builtin.min_ at' ty #[.int k x,.int k y]).run P w=.ok (.int k (min x y)) w:=by
 grind [Sem.run_pure,Builtin.min_,Builtin.min2]
theorem dU(h:SR P g0 w0 fr s g w m a.tmps)(p:a.defers= [])(hd:∀d,o.dst=some d->d<s.n){c:Sem Value}(he:execOp a.eval o=(do pure (Next.value (<-c))))(hg:lG P g w z c)(hs:z.strip=z):fX P g0 w0 fr s i a o w z {} :=by
 grind [fX.gives]
theorem L2(h:SR P g0 w0 fr s g w m a.tmps)(p:a.defers= [])(hd:∀d,o.dst=some d->d<s.n){Z:Value}(he:execOp a.eval o=pure (Next.value Z))(hg:RV fr s.lv g w m z Z):fX P g0 w0 fr s i a o w z {} :=
 .IU h p hd (y:=Z) (by rw[he];rfl) hg
theorem ax{α β:Type}{x:Option α}{f:α->Option β}{y:β}(h:x.bind f=some y):∃q,x=some q/\f q=some y:=by
 cases x with
 |none=>cases h
 |some q=>simp_all
theorem Rh{l:List AV}{n k:Nat}(hk:0<k)(h:l.length=n*k):l.length/k=n:=by simp_all
theorem Rd.lens{c:Option Nat}{k e:Nat}{l:List AV}{y:Value}(h:Rd g w (.sq c k l) y)(hk:k=e\/l= [])(he:0<e):∃p n E,y=.slice p n E/\l.length=n*e/\n=l.length/e/\n<=E:=by
 rcases h.QC with ⟨rfl,rfl⟩|⟨b,o,n,E,ys,rfl,H,hl,hm,_⟩
 ·exact⟨none,0,0,rfl,by simp,by simp,aax _⟩
 grind [Rh,Nat.mul_eq_zero]
theorem Ir(hT:jb P tb g0)(h:SR P g0 w0 fr s g w m a.tmps)(E:a.defers= [])(hd:∀d,o.dst=some d->d<s.n)(og:fr (s.nx+i))(ha:gX P tb mt dsts i o s=some (z,u)):fX P g0 w0 fr s i a o w z u:=by
 unfold gX at ha;dsimp only at ha;cases hop:o.op with
 |move x=>
  rw[hop] at ha;cases ha;exact L2 h E hd (by grind [execOp]) (h.ev x)
 |assign x=>
  rw[hop] at ha;dsimp only at ha;split at ha
  ·obtain⟨e,h1,h2⟩:=ax ha
   grind [yO]
  ·cases ha;exact L2 h E hd (by grind [execOp]) (h.ev x)
 |pick c x y=>
  rw[hop] at ha;dsimp only at ha;split at ha
  ·rename_i t heq;cases ha;have hc:=h.ev c;rw[heq] at hc;refine .IU h E hd (y:=if t=true then a.eval x else a.eval y) ?_ ?_
   ·simp only[execOp,hop,hc.b,asBool,aaw,aaS,aas]
   ·cases t
    ·exact h.ev y
    ·exact h.ev x
  ·cases ha
 |binOp op t x y yt=>
  rw[hop] at ha;obtain⟨q,h1,h2⟩:=ax ha;cases h2;obtain⟨hg,hs⟩:=MI (P:=P) (ox:=x) (oy:=y) (h.ev x) (h.ev y) h1;exact dU h E hd (by grind [execOp]) hg hs
 |unOp op t x=>
  rw[hop] at ha;cases op <;>dsimp only at ha <;>try (cases ha;done)
  split at ha
  ·rename_i b heq;cases ha;have hc:=h.ev x;rw[heq] at hc;exact dU (c:=Op.unary .not (a.eval x)) h E hd (by grind [execOp]) ⟨.bool (!b),by simp[Op.unary,hc.b],.b _⟩ rfl
  ·cases ha
 |convert src dst x=>
  rw[hop] at ha;dsimp only at ha;split at ha
  ·rename_i k n heq;split at ha
   ·rename_i hs;have hc:=h.ev x;rw[heq] at hc;obtain⟨d,Jb⟩:=afj.1 hs;split at ha
    ·rename_i k' h1;cases ha;refine dU (c:=convert src dst (a.eval x)) h E hd (by grind [execOp]) ⟨.int k' (k'.wrap n),?_,.i _ _⟩ rfl;simp only[convert,hc.i,aaw,bT Jb,bT (sT h1),aas];rfl
    ·split at ha
     ·rename_i M;obtain⟨O,h5,h6⟩:=M;cases ha;refine dU (c:=convert src dst (a.eval x)) h E hd (by grind [execOp]) ⟨sv [UInt8.ofNat n.toNat],?_,.s _⟩ rfl;rw[hc.i,run_convert_int_string _ _ _ _ _ hs (kg O),CA h5 h6]
     ·cases ha
   ·cases ha
  ·rename_i c k l heq;split at ha
   ·rename_i hs;obtain⟨q,h1,h2⟩:=ax ha;cases h2;have hc:=h.ev x;rw[heq] at hc;obtain⟨L,Y,rfl⟩:=hs;exact dU (c:=convert src dst (a.eval x)) h E hd (by grind [execOp]) (J5 L Y (hc.rd (by simp)) h1) rfl
   ·cases ha
  ·cases ha
 |extract t ix=>
  rw[hop] at ha;dsimp only at ha;split at ha
  ·rename_i l heq;obtain⟨q,h1,h2⟩:=ax ha;cases h2;have hc:=h.ev t;rw[heq] at hc;obtain⟨ys,hy,hr⟩:=hc.tu;obtain⟨y,k1,k2⟩:=hr.get h1;refine fX.gives (c:=Instr.extract (a.eval t) ix) h E hd (by grind [execOp]) ⟨y,?_,k2⟩
   simp_all [Instr.extract]
  ·cases ha
 |field t x f=>
  rw[hop] at ha;dsimp only at ha;split at ha
  ·rename_i l heq;obtain⟨⟨off,ft⟩,h1,h2⟩:=ax ha;dsimp only at h2;split at h2
   ·obtain⟨q,M,O⟩:=ax h2;cases O;have hc:=h.ev x;rw[heq] at hc;obtain⟨ys,hy,H,hr⟩:=hc.ag;obtain⟨fs,fx,j,k1,k2,rfl,rfl,k3,k4⟩:=zw h1;obtain⟨Z,z1,z2⟩:=DW (P:=P) hr H M;refine fX.gives (c:=Instr.field t (a.eval x) f) h E hd (by grind [execOp]) ⟨Z,?_,z2⟩
    simp_all [bT,Instr.field,asAgg]
   ·cases h2
  ·cases ha
 |index t x ix=>
  rw[hop] at ha;dsimp only at ha;split at ha
  ·rename_i l n J I;split at ha
   ·rename_i hn;obtain⟨q,h1,h2⟩:=ax ha;cases h2;have hc:=h.ev x;rw[J] at hc;obtain⟨k,hk⟩:=(h.ev ix).aqm I;refine dU (c:=Instr.index t (a.eval x) (a.eval ix)) h E hd (by grind [execOp]) ⟨.int .u8 q.toNat,?_,.i _ _⟩ rfl;rw[hc.s,hk]
    grind [run_index_string]
   ·cases ha
  ·rename_i l n J I;obtain⟨⟨mm,e⟩,h1,h2⟩:=ax ha;dsimp only at h2;split at h2
   ·rename_i hn;obtain⟨q,M,O⟩:=ax h2;cases O;have hc:=h.ev x;rw[J] at hc;obtain⟨ys,hy,H,hr⟩:=hc.ag;obtain⟨k,hk⟩:=(h.ev ix).aqm I;refine fX.gives (c:=Instr.index t (a.eval x) (a.eval ix)) h E hd (by grind [execOp]) ?_
    grind [yF]
   ·cases h2
  ·cases ha
 |build t parts=>
  rw[hop] at ha;dsimp only at ha;split at ha
  ·cases ha
  ·rename_i hf;obtain⟨zz,h1,h2⟩:=ax ha;obtain⟨l,M,O⟩:=ax h2;cases O;refine dU (c:=Instr.build t (parts.map λ(i,x)=>(i,a.eval x))) h E hd (by grind [execOp]) ?_ rfl;refine Pk (fr:=fr) (s:=s) (m:=m) (by grind) h1 (ps:=parts.toList.map λx=>(x.1,s.ev x.2)) ?_ M;have:=BN h parts.toList;simpa using this
 |buildSlice t len parts=>
  rw[hop] at ha;obtain⟨e,h1,h2⟩:=ax ha;obtain⟨l,M,O⟩:=ax h2
  grind [yN]
 |slice t x lo hi U=>
  rw[hop] at ha;cases U with
  |some q=>cases ha
  |none=>
   dsimp only at ha;split at ha
   ·rename_i l heq;obtain⟨⟨b1,b2⟩,h1,h2⟩:=ax ha;dsimp only at h2;split at h2
    ·rename_i hs;cases h2;have hc:=h.ev x;rw[heq] at hc;obtain⟨k1,k2,k3⟩:=wL (P:=P) false h h1 (aax _);refine dU (c:=Instr.sliceAt t (a.eval x) (lo.map a.eval) (hi.map a.eval) none) h E hd (by grind [execOp]) ⟨sv ((l.take b2).drop b1),?_,.s _⟩ rfl;have cq:(⟨l.toArray⟩:ByteArray).size=l.length:=by rfl
     have he:(⟨l.toArray⟩:ByteArray).extract b1 b2=⟨((l.take b2).drop b1).toArray⟩:=by
      apply ByteArray.ext;rw[ByteArray.data_extract]
      grind
     simp only[Instr.sliceAt,Instr.slice,hc.s,aaw,bT (kg hs),aas,agK,abX,ab3,cq,k3,aaS,he]
    ·cases h2
   ·rename_i c k l heq;obtain⟨e,h0,h2⟩:=ax ha;split at h2
    ·rename_i hn;obtain⟨⟨b1,b2⟩,h1,M⟩:=ax h2;cases M;have hc:=h.ev x;rw[heq] at hc;have WW:=hc.rd (by simp);obtain⟨j,zz,N,_,_,mM,htz,_⟩:=dy hn.1;have lq:0<aQ P e:=by omega
     obtain⟨p,n,U,hy,hl,W,hmx⟩:=WW.lens hn.2 lq;rw[<-W] at h1;obtain⟨k1,k2,k3⟩:=wL (P:=P) true h h1 hmx;have hrun:(Instr.sliceAt t (a.eval x) (lo.map a.eval) (hi.map a.eval) none).run P w=.ok (.slice (if U=b1 then p else p.map (·.add (b1*aQ P e))) (b2-b1) (U-b1)) w:=by
      simp only[Instr.sliceAt,Instr.slice,hy,aaw,bT (eY h0),aas,k3,ew N,aaS]
     refine dU (c:=Instr.sliceAt t (a.eval x) (lo.map a.eval) (hi.map a.eval) none) h E hd (by grind [execOp]) ⟨_,hrun,?_⟩ rfl;have KG:b1*aQ P e<=b2*aQ P e:=ab2 _ k1;have du:b2*aQ P e<=n*aQ P e:=ab2 _ k2;have TW:((l.take (b2*aQ P e)).drop (b1*aQ P e)).length=(b2-b1)*aQ P e:=by
      grind [Nat.sub_mul]
     rcases WW.QC with ⟨hv,rfl⟩|⟨b,of,n',LL,ys,hv,vJ,aaD,hm',H,dn,jX⟩
     ·rw[hy] at hv;cases hv;have L:b1=0:=by omega
      have Y:b2=0:=by omega
      subst L;subst Y;simpa using Rd.nil none (aQ P e)
     ·rw[hy] at hv;cases hv;have qO:k=aQ P e\/(k≠aQ P e/\l= []):=by
       grind
      have vI:cS g w ((l.take (b2*aQ P e)).drop (b1*aQ P e)) ((ys.take (b2*aQ P e)).drop (b1*aQ P e)):=(jX.take _).drop _;have aa0:∀o',(∀j y,((ys.take (b2*aQ P e)).drop (b1*aQ P e))[j]?=some y->o'+j=of+b1*aQ P e+j)->
        Rd g w (.sq none (aQ P e) ((l.take (b2*aQ P e)).drop (b1*aQ P e))) (.slice (some ⟨b,o',none⟩) (b2-b1) (U-b1)):=λo' uH=>
       .sq none (aQ P e) _ b o' (b2-b1) (U-b1) _ lq vI.1 TW (by omega) (λy hy=>H y (aee (ac8 hy))) (λj y N=>by
        grind) vI.2
      by_cases hmb:U=b1
      ·grind
      ·rw[aat hmb]
       grind [anA]
    ·cases h2
   ·cases ha
 |fieldAddr t x f=>
  rw[hop] at ha;dsimp only at ha;split at ha
  ·rename_i l heq;obtain⟨⟨off,ft⟩,h1,h2⟩:=ax ha;cases h2;have hc:=h.ev x;rw[heq] at hc;obtain⟨b,of,ys,hv,H,dn,hr⟩:=hc.sp;refine dU (c:=Instr.fieldAt t (a.eval x) f) h E hd (by grind [execOp]) ⟨_,by rw[hv];exact nQ h1 b of,?_⟩ rfl;exact .sp _ b (of+off) (ys.drop off) (hr.drop off).1 (λy hy=>H y (ac8 hy)) (λj y N=>by
    grind) (hr.drop off).2
  ·rename_i id of heq;obtain⟨⟨off,ft⟩,h1,h2⟩:=ax ha;cases h2;have hc:=h.ev x;rw[heq] at hc;obtain⟨hn,hv⟩:=hc.bx;refine .IU h E hd (y:=.pointer (some ⟨m.bm id,of+off,none⟩)) ?_ (.inr ⟨id,_,rfl,hn,rfl⟩);simp only[execOp,hop,hv,aaw,nQ h1,aas,aaS]
  ·cases ha
 |indexAddr t x ix=>
  rw[hop] at ha;dsimp only at ha;split at ha
  ·rename_i c k l n J I;obtain⟨e,h1,h2⟩:=ax ha;split at h2
   ·rename_i hn;obtain⟨rfl,h0,aK,hg⟩:=hn;cases h2;have hc:=h.ev x;rw[J] at hc;have WW:=hc.rd (by simp);obtain⟨ki,hk⟩:=(h.ev ix).aqm I;obtain⟨j,zz,N,_,_,mM,htz,_⟩:=dy hg;have lq:0<aQ P e:=by omega
    rcases WW.QC with ⟨hv,rfl⟩|⟨b,of,n',LL,ys,hv,vJ,aaD,hm',H,dn,jX⟩
    ·grind
    ·have yU:n<(n':Int):=by
      rw[aaD] at aK;have:=Nat.le_of_mul_le_mul_right aK lq;omega
     refine dU (c:=Instr.indexAt t (a.eval x) (a.eval ix)) h E hd (by grind [execOp]) ⟨_,by rw[hv,hk];exact run_indexAt_slice h1 hg h0 yU b of,?_⟩ rfl;exact .sp _ b (of+n.toNat*aQ P e) (ys.drop (n.toNat*aQ P e)) (jX.drop _).1 (λy hy=>H y (ac8 hy)) (λj y N=>by
      grind) (jX.drop _).2
   ·cases h2
  ·rename_i l n J I;obtain⟨⟨mm,e⟩,h1,h2⟩:=ax ha;dsimp only at h2;split at h2
   ·rename_i hn;cases h2;have hc:=h.ev x;rw[J] at hc;obtain⟨ki,hk⟩:=(h.ev ix).aqm I;obtain⟨b,of,ys,hv,H,dn,hr⟩:=hc.sp;refine dU (c:=Instr.indexAt t (a.eval x) (a.eval ix)) h E hd (by grind [execOp]) ⟨_,by rw[hv,hk];exact nf h1 hn.2.2 hn.1 hn.2.1 b of,?_⟩ rfl;exact .sp _ b (of+n.toNat*aQ P e) (ys.drop (n.toNat*aQ P e)) (hr.drop _).1 (λy hy=>H y (ac8 hy)) (λj y N=>by
     grind) (hr.drop _).2
   ·cases h2
  ·rename_i id of n J I;obtain⟨⟨mm,e⟩,h1,h2⟩:=ax ha;dsimp only at h2;split at h2
   ·rename_i hn;cases h2;have hc:=h.ev x;rw[J] at hc;obtain⟨ki,hk⟩:=(h.ev ix).aqm I;obtain⟨hnf,hv⟩:=hc.bx;refine .IU h E hd (y:=.pointer (some ⟨m.bm id,of+n.toNat*aQ P e,none⟩)) ?_ (.inr ⟨id,_,rfl,hnf,rfl⟩)
    grind [Sem.run_bind,nf,Result.andThen_ok,Sem.run_pure,execOp]
   ·cases h2
  ·cases ha
 |load t x=>
  rw[hop] at ha;dsimp only at ha;split at ha
  ·rename_i l heq;obtain⟨q,h1,h2⟩:=ax ha;cases h2;have hc:=h.ev x;rw[heq] at hc;obtain⟨b,of,ys,hv,H,dn,hr⟩:=hc.sp;obtain⟨Z,z1,z2⟩:=run_load (P:=P) hr H (λj y N=>(dn j y N).2) h1;refine fX.gives (c:=Instr.loadAt t (a.eval x)) h E hd (by grind [execOp]) ⟨Z,?_,z2⟩
   grind [Instr.loadAt,Instr.sureAddr]
  ·rename_i id of heq;split at ha
   ·rename_i ro l hB;obtain⟨q,h1,h2⟩:=ax ha
    grind [G6]
   ·cases ha
  ·cases ha
 |store t x y=>
  grind [M3]
 |box t x=>
  rw[hop] at ha;obtain⟨l,h1,h2⟩:=ax ha;exact Vn h E hd og hop h1 _ h2
 |alloc t=>
  rw[hop] at ha;obtain⟨l,h1,h2⟩:=ax ha
  grind [M6]
 |makeFunc fn first cap=>
  rw[hop] at ha;cases fn with
  |func f=>
   obtain⟨⟨l1,f1⟩,h1,h2⟩:=ax ha;obtain⟨⟨l2,f2⟩,M,O⟩:=ax h2
   grind [D7]
  |_=>cases ha
 |call c=>
  rw[hop] at ha;dsimp only at ha;obtain⟨callee,args,argTypes⟩:=c;cases callee with
  |invoke r n=>cases ha
  |value f=>
   dsimp only at ha;split at ha
   ·rename_i f l1 l2 heq;split at ha
    ·rename_i hnb;have Wo:∀y∈args.toList,∀id off,s.ev y≠.bx id off:=λy hy id off e=>by
      have:=acp.1 hnb y hy;rw[e] at this;cases this
     cases P6:mt (o.dst.getD 0) with
     |false=>
      rw[P6] at ha;obtain⟨r,h1,h2⟩:=ax (show(tb.fn f (l1++(args.toList.map λx=>(s.ev x).strip)++l2)).bind (jH P s.nx i)=some (z,u) from ha)
      grind [QV]
     |true=>
      rw[P6] at ha;have sN:mY P tb s i f (l1++(args.toList.map λx=>(s.ev x).strip)++l2) (s.B 1)=some (z,u):=ha;cases qQ:s.B 1 with
      |none=>
       rw[qQ] at sN;obtain⟨r,h1,h2⟩:=ax (show(tb.ac f (l1++(args.toList.map λx=>(s.ev x).strip)++l2)).bind (CV P tb.ty s i)=some (z,u) from sN)
       grind [Vo]
      |some x=>
       obtain⟨ro,wd⟩:=x;rw[qQ] at sN;cases ro with
       |true=>cases sN
       |false=>
        obtain⟨r,h1,h2⟩:=ax (show(tb.a2 f (l1++(args.toList.map λx=>(s.ev x).strip)++l2) wd).bind (sE P tb.ty s i)=some (z,u) from sN)
        grind [QW]
    ·cases ha
   ·cases ha
  |builtin b=>
   have hargs:∀l,args.toList=l->args=l.toArray:=λl e=>by rw[<-e]
   have ZV:∀l,argTypes.toList=l->argTypes=l.toArray:=λl e=>by rw[<-e]
   cases b <;>dsimp only at ha <;>try (cases ha;done)
   case len=>
    split at ha
    ·rename_i x t L Y;obtain rfl:=hargs _ L;obtain rfl:=ZV _ Y;split at ha
     ·rename_i l heq;split at ha
      ·rename_i hs;cases ha;have hc:=h.ev x;rw[heq] at hc;refine .IU h E hd (y:=.int .i64 l.length) ?_ (.cw (.i _ _) rfl);simp only[execOp,hop,resolve,invoke,builtin,aaw,aaS,aas,adt,List.map_cons,List.map_nil,hc.s,QM hs]
      ·cases ha
     ·rename_i c k l heq;obtain⟨e,h1,h2⟩:=ax ha;split at h2
      ·rename_i hn;cases h2;have hc:=h.ev x;rw[heq] at hc;obtain⟨j,zz,N,_,_,mM,htz,_⟩:=dy hn.1;obtain⟨p,n,U,hy,hl,W,hmx⟩:=(hc.rd (by simp)).lens hn.2 (by omega);refine .IU h E hd (y:=.int .i64 (l.length/aQ P e:Nat)) ?_ (.cw (.i _ _) rfl);rw[<-W];simp only[execOp,hop,resolve,invoke,builtin,aaw,aaS,aas,adt,List.map_cons,List.map_nil,hy,run_len_slice h1]
      ·cases h2
     ·cases ha
    ·cases ha
   case append=>
    split at ha
    ·rename_i t y ty Qu L Y;obtain rfl:=hargs _ L;obtain rfl:=ZV _ Y;split at ha
     ·rename_i τ k l c' k' r J I;obtain⟨e,h1,h2⟩:=ax ha
      grind [Km]
     ·rename_i c' k' r J I;obtain⟨e,h1,h2⟩:=ax ha
      grind [yP]
     ·cases ha
    ·cases ha
   case max=>
    split at ha
    ·rename_i x y L;obtain rfl:=hargs _ L;obtain⟨q,h1,h2⟩:=ax ha;cases h2;unfold It at h1;split at h1
     ·rename_i k x' k' y' J I;split at h1
      ·rename_i hk;subst hk;cases h1;have hx:=h.ev x;have hy:=h.ev y;rw[J] at hx;rw[I] at hy;refine .IU h E hd (y:=.int k (max x' y')) ?_ (.cw (.i _ _) rfl);simp only[execOp,hop,resolve,invoke,builtin,aaw,aaS,aas,adt,List.map_cons,List.map_nil,hx.i,hy.i,QL]
      ·cases h1
     ·cases h1
    ·cases ha
   case min=>
    split at ha
    ·rename_i x y L;obtain rfl:=hargs _ L;obtain⟨q,h1,h2⟩:=ax ha;cases h2;unfold It at h1;split at h1
     ·rename_i k x' k' y' J I;split at h1
      ·rename_i hk;subst hk;cases h1;have hx:=h.ev x;have hy:=h.ev y;rw[J] at hx;rw[I] at hy;refine .IU h E hd (y:=.int k (min x' y')) ?_ (.cw (.i _ _) rfl);simp only[execOp,hop,resolve,invoke,builtin,aaw,aaS,aas,adt,List.map_cons,List.map_nil,hx.i,hy.i,QK]
      ·cases h1
     ·cases h1
    ·cases ha
 |_=>rw[hop] at ha;cases ha
end
end Go.Proofs.YtjagmhagphbfcaaGreatDoor
