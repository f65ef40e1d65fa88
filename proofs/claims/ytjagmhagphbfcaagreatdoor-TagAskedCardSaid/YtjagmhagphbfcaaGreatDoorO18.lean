/- Lemmas, part 18. -/
import Derived.RangeFuncRecord
import Derived.Test.YtjagmhagphbfcaaGreatDoorO17
set_option maxRecDepth 100000
set_option linter.all false
namespace Go.Proofs.YtjagmhagphbfcaaGreatDoor
open Go Go.Proofs
section
variable{P:Program}{F:Fence}{n:Nat}{g0:Gh}{w0:World}{tb:qd}{mt:Nat->Bool}{ops:Array Oper}{Q:Exit->Act->World->Prop}
theorem Wd.op(h:Wd F)(hq:∀a w,¬Q .outgrown a w)(hd:∀(i:Nat) (o:Oper),ops[i]?=some o->∀c,o.op≠.defer c){i:Nat}{K:Act->World->Prop}{a:Act}{w:World}(hw:wpOp P ops Q i K a w):wpOpIn F n P ops Q i K a w:=by
 unfold wpOp at hw;unfold wpOpIn;cases ho:ops[i]? with
 |none=>simp_all
 |some o=>
  rw[ho] at hw;simp only at hw ⊢;split at hw
  ·rename_i hg;rw[aay hg];rcases hw with hw|⟨_,a',w',hl⟩
   ·refine⟨λf _=>h.fn f,?_⟩;rw[Oper.semAt_eq _ _ _ (hd i o ho)];exact h.upon (λa w hk=>hk) hq hw
   simp_all
  ·rename_i hg;rw[aat hg];exact⟨λf _=>h.fn f,hw⟩
theorem mK(M:Wd F)(L:jb P tb g0)(hq:∀a w,¬Q .outgrown a w)(hnd:ops.toList.all G8=true)(rest:List Nat):∀(l:List Oper) (k:Nat) (s s':AS) (g:Gh) (w:World) (m:Mem) (a:Act),(∀j,j<l.length->l[j]?=ops[k+j]?)->fJ P tb mt (λj=>(ops[j]?).bind (·.dst)) k l s=some s'->
  SR P g0 w0 (λj=>s.nx+k<=j) s g w m a.tmps->a.defers= []->(∀g' w' m' (a':Act),SR P g0 w0 (λj=>s.nx+(k+l.length)<=j) s' g' w' m' a'.tmps->a'.defers= []->wpOpsIn F n P ops Q rest a' w')->
  wpOpsIn F n P ops Q (List.range' k l.length++rest) a w
 | [],k,s,s',g,w,m,a,_,h,I,E,p=>by cases h;exact p g w m a I E
 |o::l,k,s,s',g,w,m,a,hl,h,I,E,p=>by
  obtain⟨s1,N,U⟩:=ax (show(b_ P tb mt (λj=>(ops[j]?).bind (·.dst)) k o s).bind (fJ P tb mt (λj=>(ops[j]?).bind (·.dst)) (k+1) l)=some s' from h);have h0:ops[k]?=some o:=by simpa using(hl 0 (by simp)).symm
  have hnx:s1.nx=s.nx:=by obtain⟨_,z,u,_,rfl⟩:=bw.1 N;rfl
  rw[ab0,List.range'_succ,aaT,wpOpsIn_cons];refine M.op hq (G7 hnd) (vx L I E (by simp) h0 N (λa' w' g' m' H O=>?_));refine mK M L hq hnd rest l (k+1) s1 s' g' w' m' a' (λj J=>by have:=hl (j+1) (by grind);grind) U (H.sub λj J=>⟨by omega,by omega⟩) O (λg' w' m' a' k1 k2=>p g' w' m' a' ?_ k2);rw[hnx] at k1;exact k1.sub λj J=>by grind
def PY(P:Program)(g0:Gh)(w0:World)(nx k:Nat)(o:Oper)(s1:AS)(p:AS->Prop):Prop:=
 ∀g w m a (K:Act->World->Prop) (Q:Exit->Act->World->Prop),SR P g0 w0 (λj=>nx+k<=j) s1 g w m a.tmps->a.defers= []->
  (∀s2 g' w' m' (a':Act),p s2->SR P g0 w0 (λj=>nx+(k+1)<=j) s2 g' w' m' a'.tmps->a'.defers= []->K a' w')->o.wpIn Fence.wide 1 P a w K Q
theorem BD(H:jb P tb g0){id k:Nat}{o:Oper}{s s1:AS}{a:Act}{w:World}{E R:AS->Prop}(hq:∀a w,¬Q .outgrown a w)(hnd:ops.toList.all G8=true)(hk:ops[k]?=some o)(hg:o.guard=none)
  (Ce:fJ P tb mt (λj=>(ops[j]?).bind (·.dst)) 0 (ops.toList.take k) s=some s1) (hand:PY P g0 w0 s.nx k o s1 E)
  (Z:∀s2,E s2->s2.nx=s.nx/\∃s3,fJ P tb mt (λj=>(ops[j]?).bind (·.dst)) (k+1) (ops.toList.drop (k+1)) s2=some s3/\R { s3 with nx:=s.nx+ops.size })
  (h:ST P g0 w0 s a w) (O:∀s3 a' w',R s3->ST P g0 w0 s3 a' w'->Q .normal a' w'):(Code.region id ops false).wp P Q a w:=by
 obtain⟨g,m,aJ,Y⟩:=h;have N:k<ops.size:=(aah.1 hk).1;refine(wpIn_wide (n:=1)).1 (wpIn_region ?_);have I:Wd Fence.wide:=.inl rfl;have hl1:(ops.toList.take k).length=k:=by grind
 have hl2:(ops.toList.drop (k+1)).length=ops.size-(k+1):=by simp
 have hr:List.range ops.size=List.range' 0 (ops.toList.take k).length++(k::(List.range' (k+1) (ops.toList.drop (k+1)).length++ [])):=by
  rw[hl1,hl2,acO,afd];have e:ops.size=k+(1+(ops.size-(k+1))):=by omega
  conv=>lhs;rw[e,<-List.range'_append_1,<-List.range'_append_1]
  simp
 rw[hr];refine mK (g0:=g0) (w0:=w0) I H hq hnd _ (ops.toList.take k) 0 s s1 g w m a (λj hj=>by
  simp_all) Ce (by omega) Y (λg' w' m' a' k1 k2=>?_)
 rw[wpOpsIn_cons];unfold wpOpIn;rw[hk];have hw:Region.wanted o (yielded ops a'.tmps)=true:=by grind [Region.wanted]
 simp only[hw,acC];rw[abY,hl1] at k1;refine hand g' w' m' a' _ _ k1 k2 (λs2 g2 w2 m2 a2 hp k3 M=>?_);obtain⟨hnx,s3,W,U⟩:=Z s2 hp;refine mK (g0:=g0) (w0:=w0) I H hq hnd [] (ops.toList.drop (k+1)) (k+1) s2 s3 g2 w2 m2 a2 (λj _=>by simp_all) W (by simp_all) M (λg5 J m5 a5 p L=>?_);refine O _ a5 J U ⟨g5,m5,?_,L⟩;rw[hnx,hl2,show k+1+(ops.size-(k+1))=ops.size from by omega] at p;exact⟨p.size,p.tmps,p.free,p.boxes,p.cD,p.cB,p.c_,p.vd,p.wi,p.ext,p.keeps,p.gi,p.fV,p.pins⟩
theorem JU(k:Nat)(E:jb P tb g0){id:Nat}{o:Oper}{s:AS}{Q:Ex->AS->Prop}(hk:ops[k]?=some o)(hg:o.guard=none)(hnd:ops.toList.all G8=true)
  (h:∀K:AS->Prop,(∀s1,(∃p,PY P g0 w0 s.nx k o s1 p/\∀s2,p s2->s2.nx=s.nx/\JI (s.nx+Gl ops) (eM P tb mt (zf ops) (k+1) (kI (ops.toList.drop (k+1))) s2) (Q .normal))->K s1)->
   JI s.nx (eM P tb mt (zf ops) 0 (kI (ops.toList.take k)) s) K):swp P g0 w0 (.region id ops false) Q s:=by
 have h1:=h _ (λ_ h=>h);unfold eM at h1;rw[ju] at h1;cases hr:fJ P tb mt (dl (zf ops)) 0 (ops.toList.take k) s with
 |none=>simp_all
 |some s1=>
  rw[hr] at h1;have hn:=sr _ _ _ _ hr;obtain⟨p,h2,J⟩:=h1;have L:({ s1 with nx:=s.nx } :AS)=s1:=by rw[<-hn]
  rw[L] at h2;intro a w M;refine BD (tb:=tb) (mt:=mt) (R:=Q .normal) E QS.out hnd hk hg (by grind [tE]) h2 (λs2 hp=>?_) M (λs3 a' w' h1 h2=>⟨_,s3,rfl,h1,h2⟩);obtain⟨I,H⟩:=J s2 hp;refine⟨I,?_⟩;rw[ju] at H;rw[tE];cases N:fJ P tb mt (dl (zf ops)) (k+1) (ops.toList.drop (k+1)) s2 with
  |none=>simp_all
  |some s3=>
   simp_all [wm,Gl]
def YOk(P:Program)(e:TypeId)(bo b1 lp:Nat)(rec:Loop)(rc:Gh->World->Prop)(val:AV)(wd r:List AV):Prop:=
 ∀g0 w0 g w m l n y,SR P g0 w0 (λj=>2<=j) (F1 P e l (some wd)) g w m #[]->m.bm 0=bo->m.bm 1=b1->Xr g0 w.heap.size->rc { hw:=g.hw,aD:=g.aD } w->l.length+r.length<=1099511627776->Rd g w val y->
  RoundIn Fence.wide n P lp rec.fn ((rec.params.zip #[y]).foldl (λtmps (t,a)=>tmps.setIfInBounds t a) rec.tmps) rec.assign rec.body w λx w'=>∃g' m',x=.returned (.bool true)/\SR P g0 w0 (λj=>2<=j) (F1 P e (l++r) (some wd)) g' w' m' #[]/\m'.bm 0=bo/\m'.bm 1=b1/\Lw g g' w w'
theorem HD{e kk:Nat}(O:kk=aQ P e){bo b1 lp:Nat}{rec:Loop}{rc:Gh->World->Prop}{val:AV}{wd r:List AV}(Z:YOk P e bo b1 lp rec rc val wd r)(ED:∀g w,rc g w->w.heap[lp]?=some (.loop rec))(sL:nS wd)(qt:rec.params.size=1){o:Oper}{c:Call}{x q:Operand}(hop:o.op=.call c)(hc:c.callee=.value x)(hargs:c.args= #[q])
  {T:Nat->AV} {τ nx k n0:Nat} {l:List AV} (hx:(⟨T,bQ (false,[.sq (some τ) kk l]) (false,wd),bG τ e,nx,n0⟩:AS).ev x=.v (.func (.yield lp) #[] #[])) (hq:(⟨T,bQ (false,[.sq (some τ) kk l]) (false,wd),bG τ e,nx,n0⟩:AS).ev q=val) (H:val.jh=true)
  (hd:∀d,o.dst=some d->d<n0) (EG:g0.iF 0=some bo) (Wf:g0.iF 1=some b1) (KE:∀hw aD w',g0.ex hw aD w'->rc { hw:=hw,aD:=aD } w') (hle:l.length+r.length<=1099511627776):
  PY P g0 w0 nx k o ⟨T,bQ (false,[.sq (some τ) kk l]) (false,wd),bG τ e,nx,n0⟩ (λs2=>s2=⟨sI (λt=>C8 (T t)) o.dst (.b true),bQ (false,[.sq (some (nx+k)) kk (l++r)]) (false,wd),bG (nx+k) e,nx,n0⟩):=by
 subst O;intro g w m a K Q E ba p;have M:=(E.ev x).rd (by simp_all);rw[hx] at M;have I3:=s_ M;have N:=(E.ev q).rd (λid off e'=>by rw[hq] at e';rw[e'] at H;cases H);rw[hq] at N;obtain⟨hf0,Y⟩:=E.pins 0 _ EG;obtain⟨RK,U⟩:=E.pins 1 _ Wf;have I:=KE _ _ _ E.fV;have LU:=ED _ _ I;have Ca:=E.Bs (g1:= { g0 with ex:=Ss g w,iF:=λid=>if id=0 then some bo else if id=1 then some b1 else none }) (i0:=0) (i1:=1) (wd:=some wd) (l:=l) (τ:=τ) (sj (false,[.sq (some τ) (aQ P e) l]) (false,wd)) (dA _ _) (by omega) (λc' dK=>by simp_all) rfl rfl
  (λg1 g2 w1 w2 hE p=>(Lw.trans (g2:=g1) ⟨p.1,p.2,p.3,p.4,p.5,p.6,p.7,p.8⟩ hE:Lw g g2 w w2)|>λq=>⟨q.1,q.2,q.3,q.4,q.5,q.6,q.7,q.8⟩) ⟨aax _,λ_=>aax _,λ_ _ _=>rfl,λ_ _ e=>e,rfl,rfl,rfl,λ_ _ e _=>e⟩
  (λid b e'=>by
   grind)
 have hrun:(execOp a.eval o).run P w=.ok (.round lp rec.fn ((rec.params.zip #[a.eval q]).foldl (λtmps (t,a)=>tmps.setIfInBounds t a) rec.tmps) rec.assign rec.body) w:=by
  simp_all [run_yield,execOp,resolve,Deferred.ofValue,invoke]
 refine⟨λf _=>trivial,?_⟩;rw[Oper.semAt_eq _ _ _ (λc' e'=>by simp_all),hrun,Oper.uponIn_round];refine⟨λh=>by omega,?_⟩;refine RoundIn.mono (Z _ w0 g w _ l 0 _ Ca Y U (oZ λ_ _ _=>Iff.rfl) I hle N) ?_;rintro x' w' ⟨g',m',rfl,k2,k3,k5,W⟩;have J:=E.acA (i0:=0) (i1:=1) (τ':=nx+k) (l':=l++r) (wd':=some wd) (by omega) hf0 RK (aax _) k2 (λc' dK=>by simp_all) (by omega) (by omega) W rfl rfl;have hB:(λid=>if id=0 then some (false,[AV.sq (some (nx+k)) (aQ P e) (l++r)]) else if id=1 then(some wd).map (λc=>(false,c)) else none)=bQ (false,[.sq (some (nx+k)) (aQ P e) (l++r)]) (false,wd):=by
  funext j
  by_cases h0:j=0
  ·subst h0;rfl
  ·by_cases h1:j=1
   ·subst h1;rfl
   simp_all [xW]
 have L:SR P g0 w0 (λj=>nx+k<=j/\j≠nx+k) ⟨λt=>C8 (T t),bQ (false,[.sq (some (nx+k)) (aQ P e) (l++r)]) (false,wd),bG (nx+k) e,nx,n0⟩ g' w' { bm:=m.bm,tm:=Lo m.tm (nx+k) (m'.tm 0) } a.tmps:=by
  rw[<-hB];exact J
 show K (a.put o.dst (.bool true)) w';have cn:=(L.sub (fr':=λj=>nx+(k+1)<=j) λj hj=>⟨by omega,by omega⟩).iR (dst:=o.dst) hd (z:=.b true) (y:=.bool true) (.cw (.b true) rfl) a rfl
 grind [put_defers]
end
section
variable{P:Program}{g0:Gh}{w0:World}{fr:Nat->Prop}{s:AS}{g:Gh}{w:World}{m:Mem}{tmps:Array Value}
def wX(o:Obj):Prop:=(∀c t f,o≠.cells c t f)/\∀es ck,o≠.map es ck
theorem lj{b:Nat}{o o':Obj}(ho:w.heap[b]?=some o)(hn:wX o)(H:wX o')(k p:Nat):(w.putObj b o').cell? ⟨k,p,none⟩=w.cell? ⟨k,p,none⟩:=by
 have E:=(aah.1 ho).1;by_cases e':k=b
 ·subst e';unfold World.cell?;simp only[adu E,ho];cases o' with
  |cells c t f=>exact absurd rfl (H.1 c t f)
  |_=>cases o with
   |cells c t f=>exact absurd rfl (hn.1 c t f)
   |_=>rfl
 grind [World.putObj_heap_other,World.cell?]
theorem SR.To(h:SR P g0 w0 fr s g w m tmps){b:Nat}{o o':Obj}(ho:w.heap[b]?=some o)(hn:wX o)(LS:wX o'){ex':(Nat->Nat)->(Nat->Option (Value->Option AV))->World->Prop}{pin':Nat->Option Nat}
  (hm:∀g g' w w',Lw g g' w w'->ex' g.hw g.aD w->ex' g'.hw g'.aD w') (hs:ex' g.hw g.aD (w.putObj b o')) (hp:∀id b,pin' id=some b->¬fr id/\m.bm id=b):
  SR P { g0 with ex:=ex',iF:=pin' } (w0.putObj b o') fr s g (w.putObj b o') m tmps:=by
 have aK:=(aah.1 ho).1;have L:∀k,k≠b->(w.putObj b o').heap[k]?=w.heap[k]?:=λk hk=>adZ hk
 have O:∀k,k≠b->(w0.putObj b o').heap[k]?=w0.heap[k]?:=λk hk=>adZ hk
 have N:=lj (w:=w) ho hn LS;have M:Th g g w (w.putObj b o'):=⟨by simp,λ_=>aax _,λk E _=>N k E,λ_ _ h=>h⟩
 have J:∀ {a:AV} {y:Value},RC fr s.lv g w m a y->RC fr s.lv g (w.putObj b o') m a y:=λh=>⟨h.1.wZ M,h.2⟩
 have cq:(w0.putObj b o').heap.size=w0.heap.size:=by simp
 have U:g0.aD b=none:=by
  cases Rv:g0.aD b with
  |none=>rfl
  |some d=>
   obtain⟨es,ck,p,_⟩:=h.wi.aD b d (h.ext.4 b d Rv);rw[ho] at p;cases p;exact absurd rfl (hn.2 _ _)
 have h0b:b<w0.heap.size->w0.heap[b]?=some o:=λhb=>by rw[<-h.keeps.1 b hb U];exact ho
 have W2:∀k E,(w0.putObj b o').cell? ⟨k,E,none⟩=w0.cell? ⟨k,E,none⟩:=λk E=>by
  grind [lj,World.cell?]
 exact {
  size:=h.size
  tmps:=λt=>by
   rcases h.tmps t with h1|h1
   ·exact .inl (J h1)
   ·exact .inr h1
  free:=h.free
  boxes:=λid ro cells e'=>by
   obtain⟨ys,ty,k1,k2,k3,Z,Y,W⟩:=h.boxes id ro cells e';refine⟨ys,ty,by omega,?_,k3,Z,λj a y p H=>J (Y j a y p H),W⟩;rw[L _ (λH=>by rw[H,ho] at k2;cases k2;exact hn.1 _ _ _ rfl)];exact k2
  cD:=h.cD
  cB:=λτ e' he=>by
   obtain⟨n,ys,⟨h1,h2⟩,h3⟩:=h.cB τ e' he;refine⟨n,ys,⟨h1,?_⟩,h3⟩;rcases h2 with h2|⟨c,cap,cur,hv,hr⟩
   ·grind
   ·refine .inr ⟨c,cap,cur,hv,by omega,?_,hr.2.2⟩;rw[L c (λH=>by have:=hr.2.1;rw[H,ho] at this;cases this;exact hn.1 _ _ _ rfl)];exact hr.2.1
  c_:=h.c_
  vd:=h.vd
  wi:=⟨λk hk=>h.wi.out k (by simpa using hk),λk d hd=>by
   obtain⟨es,ck,p,H⟩:=h.wi.aD k d hd;refine⟨es,ck,?_,λx hx=>by obtain⟨a,ha,Cd⟩:=H x hx;exact⟨a,ha,Cd.wZ M⟩⟩;rw[L k (λI=>by rw[I,ho] at p;cases p;exact hn.2 _ _ rfl)];exact p,λk E v hv=>by
   obtain⟨q1,q2⟩:=h.wi.cz k E v hv
   simp_all⟩
  ext:=⟨by have:=h.ext.1;simpa using this,h.ext.2,λk E hk=>by rw[N,W2];exact h.ext.3 k E hk,h.ext.4,h.ext.5,h.ext.6,h.ext.7,λk o2 p H=>by
   by_cases I:k=b
   ·grind [World.putObj_heap_same]
   ·rw[O k I] at p;rw[L k I];exact h.ext.8 k o2 p H⟩
  keeps:=⟨λk hk hd=>by
   by_cases I:k=b
   ·grind [World.putObj_heap_same]
   ·rw[L k I,O k I];exact h.keeps.1 k (by omega) hd,λk hk=>h.keeps.2 k (by omega),λk hk=>h.keeps.3 k (by omega)⟩
  gi:=hm
  fV:=hs
  pins:=hp }
theorem yH{b:Nat}{o o' o2:Obj}(w:World)(ho:b<w.heap.size->w.heap[b]?=some o):(w.putObj b o').putObj b o=w:=by
 unfold World.putObj;simp only;congr 1
 grind
def rcW(E:Gh)(p:World)(lp:Nat)(rec:Loop):Gh->World->Prop:=λg w=>Lw E g p w/\w.heap[lp]?=some (.loop rec)
theorem MT{E:Gh}{p:World}{lp:Nat}{rec:Loop}(g g':Gh)(w w':World)(H:Lw g g' w w')(h:rcW E p lp rec { hw:=g.hw,aD:=g.aD } w):rcW E p lp rec { hw:=g'.hw,aD:=g'.aD } w':=
 ⟨(Lw.trans (g2:=g) ⟨h.1.1,h.1.2,h.1.3,h.1.4,h.1.5,h.1.6,h.1.7,h.1.8⟩ H:Lw E g' p w')|>λq=>⟨q.1,q.2,q.3,q.4,q.5,q.6,q.7,q.8⟩,H.8 _ _ h.2 rfl⟩
theorem ML{tb:qd}{mt:Nat->Bool}(hT:jw P tb)(F4:pN tb)(N:P.follows .mixedOrders=true){e:TypeId}{bo b1 lp n0:Nat}{rec:Loop}{gE:Gh}{Y:World}{wd r:List AV}{T0:Nat->AV}{pt:Nat}(sL:nS wd)
  (bH:rec.state=.ready) (TR:rec.pending=none) (qt:rec.params= #[pt]) (Wm:nd rec.assign=true) (Wj:nd rec.body=true) (cq:rec.tmps.size=n0) (hpt:pt<n0) (Z:T0 pt=.ag wd)
  (hT0:∀t,t≠pt->(Rd gE Y (T0 t) (rec.tmps.getD t undef)/\(T0 t).strip=T0 t/\∀id off,T0 t≠.bx id off)\/(T0 t=.bx 0 0/\rec.tmps.getD t undef=.pointer (some ⟨bo,0,none⟩)))
  (h:∀l:List AV,l.length+r.length<=1099511627776->awp P tb mt rec.assign (λx s1=>x=.normal/\awp P tb mt rec.body (λx s2=>x=.normal/\(∃τ,s2.B 0=some (false,[.sq (some τ) (aQ P e) (l++r)])/\s2.lv τ=some e)/\s2.B 1=some (false,wd)) s1)
   ⟨T0,bQ (false,[.sq (some 0) (aQ P e) l]) (false,wd),bG 0 e,2,n0⟩):YOk P e bo b1 lp rec (rcW gE Y lp rec) (.ag wd) wd r:=by
 intro g0 w0 g w m l n y p jZ ou hy KE hle ZR;obtain⟨J,Ws⟩:=KE;have hE:Lw gE g Y w:=⟨J.1,J.2,J.3,J.4,J.5,J.6,J.7,J.8⟩
 have hF:Wd (Fence.wide.inRound lp):=.inr ⟨lp,rfl⟩;have aa6:((rec.params.zip #[y]).foldl (λtmps (t,a)=>tmps.setIfInBounds t a) rec.tmps)=rec.tmps.setIfInBounds pt y:=by simp_all
 rw[aa6];have aak:∀id b,(λid=>if id=0 then some bo else if id=1 then some b1 else none:Nat->Option Nat) id=some b->¬2<=id/\m.bm id=b:=λid b e'=>by
  grind
 have Ez:ST P { g0 with ex:=lz g0 g w,iF:=λid=>if id=0 then some bo else if id=1 then some b1 else none } w0 ⟨T0,bQ (false,[.sq (some 0) (aQ P e) l]) (false,wd),bG 0 e,2,n0⟩ { tmps:=rec.tmps.setIfInBounds pt y,defers:= [] } w:=by
  refine⟨g,m,?_,rfl⟩;exact {
   size:=by grind
   tmps:=λt=>by
    show RV _ _ _ _ _ (T0 t) _;by_cases ht:t=pt
    ·subst ht;rw[aba,aaz (by omega),aem,Z];exact .cw ZR rfl
    ·rw[aba,aaL (Ne.symm ht),<-Array.getD_eq_getD_getElem?];rcases hT0 t ht with ⟨k1,k2,_⟩|⟨k1,k2⟩
     ·exact .cw (k1.mono hE) k2
     ·rw[k1,k2];exact .inr ⟨0,0,rfl,by simp_all,by grind⟩
   free:=λid fg=>by have h9:=p.free id fg;rw[eL] at h9;exact h9
   boxes:=λid ro cells e=>p.boxes id ro cells (by simp_all [eL])
   cD:=λi j hi hj=>p.cD i j (by simp_all [eL]) (by simp_all [eL])
   cB:=p.cB
   c_:=p.c_
   vd:=λσ id h1 h3=>p.vd σ id h1 (by simp_all [eL])
   wi:=p.wi
   ext:=⟨p.ext.1,p.ext.2,p.ext.3,p.ext.4,p.ext.5,p.ext.6,p.ext.7,p.ext.8⟩
   keeps:=⟨p.keeps.1,p.keeps.2,p.keeps.3⟩
   gi:=rZ p.gi g w
   fV:=rY p.fV
   pins:=aak }
 refine roundIn_of_wpIn trivial ?_;refine wpIn_mono (lC hF (.of hT F4) N rec.assign _ _ _ w Wm (h l hle) Ez) ?_;rintro x1 a1 w1 ⟨x,s1,hx,⟨rfl,hb⟩,g1,m1,dJ,jY⟩;have hx1:x1=.normal:=by cases x1 <;>simp[c8] at hx ⊢
 subst hx1;obtain⟨k0,k1⟩:=dJ.fV;have E:Lw g g1 w w1:=⟨k1.1,k1.2,k1.3,k1.4,k1.5,k1.6,k1.7,k1.8⟩
 have Rz:w1.heap[lp]?=some (.loop rec):=E.8 _ _ Ws rfl;have nl:∀r:Loop,wX (.loop r):=λr=>⟨λ_ _ _ e=>(by cases e),λ_ _ e=>(by cases e)⟩
 refine⟨_,run_beginRound Rz bH,?_⟩;have fE:=dJ.To (o':=.loop { rec with state:=.busy }) Rz (nl _) (nl _) (ex':=Ss g1 (w1.putObj lp (.loop { rec with state:=.busy }))) (pin':=λid=>if id=0 then some bo else if id=1 then some b1 else none)
  (λga gb wa wb hE I=>(Lw.trans (g2:=ga) ⟨I.1,I.2,I.3,I.4,I.5,I.6,I.7,I.8⟩ hE:Lw g1 gb (w1.putObj lp (.loop { rec with state:=.busy })) wb)|>λq=>⟨q.1,q.2,q.3,q.4,q.5,q.6,q.7,q.8⟩)
  ⟨aax _,λ_=>aax _,λ_ _ _=>rfl,λ_ _ e=>e,rfl,rfl,rfl,λ_ _ e _=>e⟩ dJ.pins
 generalize L:w1.putObj lp (.loop { rec with state:=.busy })=w2 at fE ⊢;have agR:w2.heap[lp]?=some (.loop { rec with state:=.busy }):=by grind [World.putObj_heap_same]
 refine wpIn_mono (lC hF (.of hT F4) N rec.body _ _ _ w2 Wj hb ⟨g1,m1,fE,jY⟩) ?_;rintro x3 a3 w3 ⟨x,s3,hx,⟨rfl,⟨τ,jy,cT⟩,qQ⟩,g3,m3,M,jG⟩;have hx3:x3=.normal:=by cases x3 <;>simp[c8] at hx ⊢
 subst hx3;have k2:=M.fV;have H:Lw g1 g3 w2 w3:=⟨k2.1,k2.2,k2.3,k2.4,k2.5,k2.6,k2.7,k2.8⟩
 have W:=H.8 _ _ agR rfl;have agP:=(aah.1 W).1;have pe:({ { rec with state:=LoopState.busy } with state:=if(none:Option Code).isNone then .ready else .done,pending:=none } :Loop)=rec:=by
  cases rec;simp_all
 have hend:=run_endRound (P:=P) none W;rw[pe] at hend;refine⟨_,_,hend,?_⟩;have hE4:Lw g g3 w (w3.putObj lp (.loop rec)):=by
  refine⟨?_,λb=>aaY (E.2 b) (H.2 b),λb o hb=>?_,λb d hd=>H.4 b d (E.4 b d hd),?_,?_,?_,λb o e1 e2=>?_⟩
  ·have q1:=E.1;have U:=H.1;rw[<-L] at U;simp at U ⊢;omega
  ·rw[lj W (nl _) (nl _),H.3 b o (abD hb (E.2 b)),<-L,lj Rz (nl _) (nl _),E.3 b o hb]
  ·show w3.os=w.os;rw[H.5,<-L];exact E.5
  ·show w3.tape=w.tape;rw[H.6,<-L];exact E.6
  ·show w3.output=w.output;rw[H.7,<-L];exact E.7
  ·by_cases e3:b=lp
   ·grind [World.putObj_heap_same]
   ·rw[adZ e3];refine H.8 b o ?_ e2;rw[<-L,adZ e3];exact E.8 b o e1 e2
 have O:=M.To (o':=.loop rec) W (nl _) (nl _) (ex':=g0.ex) (pin':=g0.iF) p.gi (p.gi _ _ _ _ hE4 p.fV) (λid b e'=>by
  obtain⟨q1,U⟩:=p.pins id b e';have fg:id=0\/id=1:=by omega
  rcases fg with rfl|rfl
  ·have:=M.pins 0 bo rfl;omega
  ·have:=M.pins 1 b1 rfl;omega)
 rw[yH (o2:=.loop rec) w0 (λhb=>by
  have qu:g0.aD lp=none:=by
   cases Rv:g0.aD lp with
   |none=>rfl
   |some d=>
    obtain⟨es,ck,e1,_⟩:=p.wi.aD lp d (p.ext.4 lp d Rv)
    simp_all
  rw[<-p.keeps.1 lp hb qu];exact Ws)] at O
 have d_:SR P g0 w0 (λj=>s3.nx<=j) s3 g3 (w3.putObj lp (.loop rec)) m3 a3.tmps:=O;have EG:=(M.pins 0 bo rfl).2;have Wf:=(M.pins 1 b1 rfl).2;have cn:=d_.Bs (g1:=g0) (i0:=0) (i1:=1) (wd:=some wd) jy cT (by omega) (λc hc=>by simp_all) rfl rfl p.gi d_.fV (λid b e'=>by
  obtain⟨q1,U⟩:=p.pins id b e'
  grind)
 grind
end
section
variable{P:Program}{g0:Gh}{w0:World}{tb:qd}{mt:Nat->Bool}
theorem xC{nx k:Nat}{o:Oper}{s1:AS}{z:AV}(hz:z.strip=z)(hnx:s1.nx=nx)(hd:∀d,o.dst=some d->d<s1.n)
  (h:∀g w m (a:Act),SR P g0 w0 (λj=>nx+k<=j) s1 g w m a.tmps->∃y,(execOp a.eval o).run P w=.ok (.value y) w/\Rd g w z y):Hand P g0 w0 nx k o s1 (λs2=>s2=upd s1 k o.dst z {}):=by
 subst hnx;intro g w m a KK Q p L H;obtain⟨y,h1,h2⟩:=h g w m a p;have E:fX P g0 w0 (λj=>s1.nx+k<=j) s1 k a o w z {} :=.IU p L hd h1 (.cw h2 hz);exact E KK Q (λa2 w' g' m' J I=>H _ g' w' m' a2 rfl (J.sub λj M=>⟨by omega,by omega⟩) I)
theorem Dx(hT:jb P tb g0)(L:P.follows .mixedOrders=true)(hex:∀x y z,g0.ex x y z){l:List UInt8}{t:TypeId}(ht:P.underlying t=some .string){p ZN VM:Nat}{o1 o2 W U:Oper}{xa it nt et:Nat}{x:Operand}{body:Code}{s:AS}
  (h1:o1.op=.move x) (h1d:o1.dst=some xa) (h1g:o1.guard=none) (hx:s.ev x=.s l) (h2:o2.op=.range t (.tmp xa)) (h2d:o2.dst=some it) (h2g:o2.guard=none) (h3:W.op=.next (.tmp it) true) (h3d:W.dst=some nt) (h3g:W.guard=none) (h4:U.op=.extract (.tmp nt) 0) (M:U.dst=some et) (h4g:U.guard=none)
  (Ru:xa<s.n) (Wq:it<s.n) (P5:nt<s.n) (TV:et<s.n) (J:Nat->Nat->AS->Prop) (hJn:∀b pos s',J b pos s'->s'.n=s.n/\s'.T it=.v (.pointer (some ⟨b,0,none⟩)))
  (h0:∀b,J b 0 { s with T:=Lo (Lo s.T xa (.s l)) it (.v (.pointer (some ⟨b,0,none⟩))),nx:=s.nx+1 }) {Qn Qr:AS->Prop}
  (step:∀b pos (aK:pos<l.length) (s':AS) (r:Int),J b pos s'->(l[pos].toNat<128->r=l[pos].toNat)->
   awp P tb mt body (λe s2=>(e=.normal/\l[pos].toNat<128/\J b (pos+1) s2)\/(e=.ret/\Qr s2)) { s' with T:=Lo (Lo s'.T nt (.tu [.b true,.i .i64 pos,.i .i32 r])) et (.b true) })
  (last:∀b (s':AS),J b l.length s'->awp P tb mt body (λe s2=>e=.exit p/\Qn s2) { s' with T:=Lo (Lo s'.T nt (.tu [.b false])) et (.b false) }):
  swp P g0 w0 (.seq (.region ZN #[o1,o2] false) (.block p (.loop (.seq (.region VM #[W,U] false) body)))) (λe s2=>(e=.normal/\Qn s2)\/(e=.ret/\Qr s2)) s:=by
 have hN:Xr g0 0:=λ_ _ _ _ _ _ _ _ _ _ _=>hex _ _ _
 intro a w bH;obtain⟨g,m,Y,ba⟩:=bH;refine wp_seq (nB h1g h2g ?_);have iz:=Y.ev x;rw[hx] at iz;have iD:fX P g0 w0 (λj=>s.nx<=j) s 0 a o1 w (.s l) {} :=.IU Y ba (λd hd=>by simp_all) (y:=sv l) (by simp only[execOp,h1,iz.s,aaS]) (.cw (.s l) rfl);refine iD _ _ (λa2 w2 g2 m2 E I=>?_);rw[h1d] at E;have Ah:SR P g0 w0 (λj=>s.nx+1<=j) ⟨Lo s.T xa (.s l),s.B,s.lv,s.nx+1,s.n⟩ g2 w2 m2 a2.tmps:= { E.sub (fr':=λj=>s.nx+1<=j) (λj hj=>⟨by omega,by omega⟩) with size:=E.size }
 refine D6 Ah I (d:=it) Wq h2d ht (x:=.tmp xa) h2 (l:=l) (by simp_all) (λa3 cU jG hE3=>?_);have C6:w0.heap.size<=w2.heap.size:=Ah.ext.size;generalize hb:w2.heap.size=b at cU C6;have Z:(w2.alloc (.stringIter ⟨l.toArray⟩ 0)).heap[b]?=some (.stringIter ⟨l.toArray⟩ 0):=by grind [heap_alloc_new]
 let Inv (pos:Nat) (a:Act) (w:World):Prop:=∃s' g m,J b pos s'/\SR P g0 w0 (λj=>s'.nx<=j) s' g w m a.tmps/\a.defers= []/\w.heap[b]?=some (.stringIter ⟨l.toArray⟩ pos)
 have N6:Inv 0 a3 (w2.alloc (.stringIter ⟨l.toArray⟩ 0)):=⟨_,g2,m2,h0 b,cU,jG,Z⟩
 refine af6 (wp_mono (Q:=λe a w=>(e=.exit p/\∃s2,Qn s2/\ST P g0 w0 s2 a w)\/(e=.ret/\∃s2,Qr s2/\ST P g0 w0 s2 a w)) (afX (l.length+1) ?hl) ?hend)
 case hend=>
  rintro e a4 w4 (⟨rfl,s2,hq,NN⟩|⟨rfl,s2,hq,NN⟩)
  ·simp only[Exit.inBlock,acC];exact⟨.normal,s2,rfl,.inl ⟨rfl,hq⟩,NN⟩
  ·exact⟨.ret,s2,rfl,.inr ⟨rfl,hq⟩,NN⟩
 case hl=>
  refine(?key:∀(n pos:Nat) (a:Act) (w:World),pos<=l.length->l.length<pos+n->Inv pos a w->Code.rounds P _ _ n a w) (l.length+1) 0 a3 _ (aet _) (by omega) N6;intro n
  induction n with
  |zero=>omega
  |succ n ihn=>
   intro pos a w hp hn hinv;obtain⟨s',g,m,hJ,Y,ba,Z⟩:=hinv;obtain⟨V6,ahV⟩:=hJn b pos s' hJ;rw[afe];refine wp_seq (nB h3g h4g ?_);refine IY Y ba (d:=nt) (by omega) h3d (x:=.tmp it) h3 (b:=b) ahV Z C6 hN (aet _) (λaK a' r wd hr H lN=>?_) (λRJ a' H lN=>?_)
   ·refine BR H lN (d:=et) (by simp_all) M (x:=.tmp nt) (ix:=0) h4 (l:= [.b true,.i .i64 pos,.i .i32 r]) (by simp_all) rfl (λa2 E I=>?_);refine wp_mono (vQ hT L (step b pos aK s' r hJ (λh=>(hr h).1)) E I) ?_;rintro e a5 w5 ⟨x,O,g5,m5,he,hq,d_,rK,hE5⟩;rcases hq with ⟨rfl,Ck,hJ5⟩|⟨rfl,hq⟩
    ·have N:e=.normal:=by cases e <;>simp[c8] at he ⊢
     subst N;obtain⟨_,rfl⟩:=hr Ck;have WB:(w.putObj b (.stringIter ⟨l.toArray⟩ (pos+1))).heap[b]?=some (.stringIter ⟨l.toArray⟩ (pos+1)):=adu (aah.1 Z).1;exact ihn (pos+1) a5 w5 (by omega) (by omega) ⟨O,g5,m5,hJ5,d_,rK,hE5.obj b _ WB rfl⟩
    ·have N:e=.ret:=by cases e <;>simp[c8] at he ⊢
     subst N;exact .inr ⟨rfl,O,hq,g5,m5,d_,rK⟩
   ·have TR:pos=l.length:=by omega
    subst TR;refine BR H lN (d:=et) (by simp_all) M (x:=.tmp nt) (ix:=0) h4 (l:= [.b false]) (by simp_all) rfl (λa2 E I=>?_);refine wp_mono (fj hT L body _ _ a2 w (last b s' hJ) ⟨g,m,E,I⟩) ?_;rintro e a5 w5 ⟨x,O,he,⟨rfl,hq⟩,NM⟩;have N:e=.exit p:=by cases e <;>simp[c8] at he ⊢;exact he
    subst N;exact .inl ⟨rfl,O,hq,NM⟩
end
end Go.Proofs.YtjagmhagphbfcaaGreatDoor
