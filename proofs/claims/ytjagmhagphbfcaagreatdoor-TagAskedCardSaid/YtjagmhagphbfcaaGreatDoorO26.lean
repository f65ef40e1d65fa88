/- Lemmas, part 26. -/
import Derived.Laws.OwnMore
import Derived.Test.YtjagmhagphbfcaaGreatDoorO25
set_option maxRecDepth 100000
set_option linter.all false
namespace Go.Proofs.YtjagmhagphbfcaaGreatDoor
open Go Go.Proofs
section
variable{P:Program}{g0:Gh}{w0:World}{fr:Nat->Prop}{s:AS}{g:Gh}{w:World}{m:Mem}{tmps:Array Value}
structure ny(B:Nat)(g:Gh)(w:World)(b:Nat)(ty:TypeId)(ys:List Value):Prop where
 low:B<=b
 cells:w.heap[b]?=some (.cells ys.toArray ty (0,0))
 hw:g.hw b=0
 aD:g.aD b=none
variable{B b:Nat}{ty:TypeId}{ys:List Value}
theorem ny.lt(h:ny B g w b ty ys):b<w.heap.size:=(aah.1 h.cells).1
theorem ny.keep{g':Gh}{w':World}(h:ny B g w b ty ys)(p:anw g g' w w'):ny B g' w' b ty ys:=
 ⟨h.low,(p.block b h.lt h.aD).trans h.cells,(p.hw b h.lt).trans h.hw,(p.aD b h.lt).trans h.aD⟩
theorem ny.same{w':World}(h:ny B g w b ty ys)(hs:w'.heap[b]?=w.heap[b]?):ny B g w' b ty ys:=⟨h.low,hs.trans h.cells,h.hw,h.aD⟩
theorem ny.store(h:ny B g w b ty ys)(hW:WI g w){xs:List Value}{o:Nat}(hx:∀y∈xs,y.oneCell'=true)(hl:o+xs.length<=ys.length):
  ∃w',(storeCells ⟨b,o,none⟩ xs).run P w=.ok () w'/\Lw g g w w'/\WI g w'/\ny B g w' b ty (ys.take o++xs++ys.drop (o+xs.length))/\∀c,c<w.heap.size->some b≠some c->w'.heap[c]?=w.heap[c]?:=by
 have I:=run_storeCells_at P b o ty xs 0 ys.toArray w h.cells (by omega) hx;simp only[aeS] at I;have H:∀c,c≠b->(w.setRow b (ys.take o++xs++ys.drop (o+xs.length)).toArray).heap[c]?=w.heap[c]?:=λc hc=>afW _ _ _ _ hc
 have p:Lw g g w (w.setRow b (ys.take o++xs++ys.drop (o+xs.length)).toArray):=by
  refine⟨by simp[World.setRow],λ_=>aax _,λc J ho=>?_,λ_ _ e=>e,rfl,rfl,rfl,λc o e hs=>by
   rw[H c (λe'=>by subst e';rw[h.cells] at e;cases e;cases hs)];exact e⟩
  rw[cell_setRow_other w b _ ⟨c,J,none⟩ (λe=>by simp only at e;subst e;rw[h.hw] at ho;omega)]
 refine⟨_,I,p,⟨λc hc=>hW.out c (by simp_all),λc d hd=>?_,hW.cz.mono p⟩,⟨h.low,setRow_heap w _ _ _ _ _ h.cells,h.hw,h.aD⟩,λc _ hc=>H c (λe=>hc (by rw[e]))⟩;obtain⟨es,ck,E,L⟩:=hW.aD c d hd;have M:c≠b:=λe=>by subst e;rw[h.cells] at E;cases E
 exact⟨es,ck,by simp_all,λe he=>by obtain⟨a,ha,N⟩:=L e he;exact⟨a,ha,N.mono p⟩⟩
theorem ny.freeze(h:ny B g w b ty ys)(hW:WI g w):let p:Gh:= { g with hw:=Lo g.hw b ys.length }
  Lw g p w w/\WI p w/\(∀c,c≠b->p.hw c=g.hw c)/\∀(k n cap:Nat) (la:List AV),0<k->la.length=n*k->n<=cap->(∀y∈ys.take (n*k),y.oneCell'=true)->n*k<=ys.length->cS p w la (ys.take (n*k))->Rd p w (.sq none k la) (.slice (some ⟨b,0,none⟩) n cap):=by
 intro p;have E:Lw g p w w:=by
  refine⟨aax _,λc=>?_,λ_ _ _=>rfl,λ_ _ e=>e,rfl,rfl,rfl,λ_ _ e _=>e⟩;by_cases e:c=b
  ·subst e;show g.hw c<=Lo g.hw c ys.length c;rw[h.hw];exact aet _
  grind [Lo]
 refine⟨E,⟨λc hc=>?_,λc d hd=>?_,hW.cz.mono E⟩,λc hc=>aL _ _ _ _ hc,?_⟩
 ·have:=h.lt;refine⟨?_,(hW.out c hc).2⟩;show Lo g.hw b ys.length c=0;rw[aL _ _ _ _ (by omega)];exact(hW.out c hc).1
 ·obtain⟨es,ck,L,J⟩:=hW.aD c d hd;exact⟨es,ck,L,λe he=>by obtain⟨a,ha,M⟩:=J e he;exact⟨a,ha,M.mono E⟩⟩
 ·intro k n cap la hk hl hn h1 hle hr;have hlen:(ys.take (n*k)).length=n*k:=by grind
  refine .sq none k la b 0 n cap (ys.take (n*k)) hk (by omega) hl hn h1 (λj y I=>?_) hr.2;have H:j<n*k:=by grind
  rw[aeB H] at I;refine⟨by grind [bc],?_⟩;simp only[World.cell?,h.cells,abY]
  grind
theorem SR.Cu(h:SR P g0 w0 fr s g w m tmps)(E:∀id,s.B id=none)(hl:∀τ,s.lv τ=none)(hb:ny w0.heap.size g w b ty ys):SR P g0 w0 fr s { g with hw:=Lo g.hw b ys.length } w m tmps:=by
 obtain⟨h1,h2,H,_⟩:=hb.freeze h.wi;refine h.grow h1 h2 ⟨h.keeps.block,λc hc=>?_,h.keeps.aD⟩ (λid hb=>absurd (E id) hb) (λτ _ p=>absurd (hl τ) p);have:=hb.low;rw[H c (by omega)];exact h.keeps.hw c hc
theorem Vl{tb:qd}{mt:Nat->Bool}{a:Act}(N:∀g,jb P tb (base g))(hm:P.follows .mixedOrders=true)(H:SR P g0 w0 (λj=>s.nx<=j) s g w m a.tmps)(M:a.defers= [])(J:∀id,s.B id=none)(hl:∀τ,s.lv τ=none)(L:∀id,g0.iF id=none){c:Code}{Q':Ex->AS->Prop}(h:awp P tb mt c Q' s)(E:∀x s',Q' x s'->∀τ,s'.lv τ=none):
  c.wp P (λe' a' w'=>∃x' s' g' m',c8 e'=some x'/\Q' x' s'/\SR P g0 w0 (λj=>s'.nx<=j) { s' with B:=λ_=>none } g' w' m' a'.tmps/\a'.defers= []/\anw g g' w w') a w:=by
 refine wp_mono (fj (N g) hm c Q' s a w h ⟨g,m,H.mF J hl,M⟩) ?_;rintro e' a' w' ⟨x',s',he,hq,g',m',p,I⟩;exact⟨x',s',g',m',he,hq,H.nF p L (E x' s' hq),I,dZ p.keeps⟩
variable{a:Act}
theorem QT{o:Oper}{t e:TypeId}{x:Operand}{n:Nat}{z:AV}(hop:o.op=.makeSlice t x x)(hx:a.eval x=.int .i64 n)(ht:gY P t=some e)(hg:bL P e=true)(hz:anE P e=some [z])(hW:WI g w)(N:B<=w.heap.size)(hn:n<=1000000)(W5:qM P e<=100){K:Act->World->Prop}{Q:Exit->Act->World->Prop}
  (Y:∀b y w',vV y=z->Lw g g w w'->WI g w'->anw g g w w'->w.heap.size<=b->ny B g w' b e (List.replicate n y)->K (a.put o.dst (.slice (some ⟨b,0,none⟩) n n)) w'):o.wp P a w K Q:=by
 obtain⟨j,v,M,E,W,hp,vH,O⟩:=dy hg;obtain⟨it,v',hi,hv,VQ,anH⟩:=kr hz;rw[M] at hi;cases hi;rw[E] at hv;cases hv;obtain⟨y,hy,H⟩:∃y,v.cells.toList= [y]/\vV y=z:=by
  rcases hl:v.cells.toList with _|⟨y,_|⟨y',r⟩⟩
  ·simp_all
  ·simp_all
  simp_all
 have I:v.cells= #[y]:=by grind
 have Z:j.size=1:=by grind
 have U:maxLen=9223372036854775807:=rfl;have hnb:j.bytes*n<=281474976710656:=aaY (Nat.mul_le_mul (show j.bytes<=100 by omega) hn) (by omega);obtain⟨w',r1,L,p⟩:=run_makeSlice_full (P:=P) w B t e j v 1 (eY ht) M E Z .i64 .i64 n (by omega) hnb (by omega) N;rw[I,Nat.mul_one,toList_madeCells_one] at L;have hold:∀c,c<w.heap.size->w'.heap[c]?=w.heap[c]?:=λc hc=>p.block c hc (by simp)
 have J:Lw g g w w':=⟨p.size,λ_=>aax _,λc o ho=>World.cell?_of_block (hold c (hW.lt (by omega))),λ_ _ h=>h,p.os,p.tape,p.output,λc o mr _=>by grind⟩
 have Xa:WI g w':=by
  refine⟨λc hc=>hW.out c (aaY p.size hc),λc d hd=>?_,hW.cz.mono J⟩;obtain⟨es,ck,k1,k2⟩:=hW.aD c d hd;exact⟨es,ck,by grind,λy hy=>by obtain⟨a,m1,m2⟩:=k2 y hy;exact⟨a,m1,m2.mono J⟩⟩
 have hrun:(execOp a.eval o).run P w=.ok (.value (.slice (some ⟨w.heap.size,0,none⟩) n n)) w':=by
  simp only[execOp,hop,hx,aaw,r1,aas];rfl
 have ho:=hW.out w.heap.size (aax _);unfold Oper.wp;rw[hrun];refine Y w.heap.size y w' H J Xa ⟨λc hc _=>hold c hc,λ_ _=>rfl,λ_ _=>rfl⟩ (aax _) ?_;rcases L.2 with ⟨h',_⟩|⟨b',Pf,cur,h',hb,hg,_,_,yw,jF⟩
 ·cases h'
 ·cases h';refine⟨N,?_,ho.1,ho.2⟩;rw[hg];have:cur=(List.replicate n y).toArray:=by
   grind
  grind
theorem QU{o:Oper}{t e:TypeId}{x y:Operand}{n cap:Nat}{j:Nat}{k:IntKind}(hop:o.op=.indexAddr t x y)(hx:a.eval x=.slice (some ⟨b,0,none⟩) n cap)(hy:a.eval y=.int k j)(ht:gY P t=some e)(hg:bL P e=true)(E:j<n){K:Act->World->Prop}{Q:Exit->Act->World->Prop}
  (p:K (a.put o.dst (.pointer (some ⟨b,j*aQ P e,none⟩))) w):o.wp P a w K Q:=by
 have h1:=run_indexAt_slice (P:=P) (w:=w) (c:=cap) (k:=k) ht hg (ix:=j) (by omega) (by omega:(j:Int)<n) b 0;have hrun:(execOp a.eval o).run P w=.ok (.value (.pointer (some ⟨b,j*aQ P e,none⟩))) w:=by
  simp_all [execOp]
 unfold Oper.wp;rw[hrun];exact p
theorem M4{o:Oper}{t:TypeId}{x y:Operand}{off:Nat}(hop:o.op=.store t x y)(hx:a.eval x=.pointer (some ⟨b,off,none⟩))(hb:ny B g w b ty ys)(hW:WI g w){xs:List Value}(hy:(a.eval y).cells=xs.toArray)(p:∀y∈xs,y.oneCell'=true)(hs:xs.length=aQ P t)(hp:0<xs.length)(hle:off+xs.length<=ys.length){K:Act->World->Prop}{Q:Exit->Act->World->Prop}
  (H:∀w',Lw g g w w'->WI g w'->ny B g w' b ty (ys.take off++xs++ys.drop (off+xs.length))->(∀c,c<w.heap.size->some b≠some c->w'.heap[c]?=w.heap[c]?)->K (a.put o.dst undef) w'):o.wp P a w K Q:=by
 obtain⟨w',h1,h2,L,J,I⟩:=hb.store (P:=P) hW p hle;have E:∃j,P.info? t=some j:=by
  cases hi:P.info? t with
  |none=>grind [aQ]
  |some j=>grind
 obtain⟨j,E⟩:=E;have hrun:(execOp a.eval o).run P w=.ok .skip w':=by
  simp_all [ew,execOp,Instr.storeAt,Instr.sureAddr,storeVar]
 unfold Oper.wp;rw[hrun];exact H w' h2 L J I
theorem SR.Xs(h:SR P g0 w0 fr s g w m a.tmps){t:Nat}{k:IntKind}{x:Int}(ht:s.T t=.i k x):a.eval (.tmp t)=.int k x:=by
 have h1:=h.ev (.tmp t);rw[HQ,ht] at h1;exact h1.i
theorem SR.r_(h:SR P g0 w0 fr s g w m a.tmps){t:Nat}{x:Value}(ht:s.T t=.v x):a.eval (.tmp t)=x:=by
 have h1:=h.tmps t;rw[ht] at h1;exact s_ (h1.rd (by simp))
theorem QR{o:Oper}{x:Operand}(hop:o.op=.move x){K:Act->World->Prop}{Q:Exit->Act->World->Prop}(p:K (a.put o.dst (a.eval x)) w):o.wp P a w K Q:=by
 have h1:(execOp a.eval o).run P w=.ok (.value (a.eval x)) w:=by
  unfold execOp
  simp_all
 unfold Oper.wp;rw[h1];exact p
theorem SR.GV{T:Nat->AV}{nx N:Nat}(h:SR P g0 w0 fr ⟨T,λ_=>none,λ_=>none,nx,N⟩ g w m a.tmps){d:Nat}(hd:d<N)(y:Value):SR P g0 w0 fr ⟨Lo T d (.v y),λ_=>none,λ_=>none,nx,N⟩ g w m (a.put (some d) y).tmps:=
 h.iR (dst:=some d) (λd' p=>by simp_all) (z:=.v y) (y:=y) (.cw (.v _) rfl) a rfl
theorem uy{id:Nat}{H o1 o2:Oper}{J p tb E:Nat}{t e:TypeId}{n:Nat}{z:AV}{T:Nat->AV}{nx N:Nat}{Q:Exit->Act->World->Prop}(e0:H.guard=none)(e1:o1.guard=none)(e2:o2.guard=none)
  (h0:H.op=.move (.tmp J)) (d0:H.dst=some p) (h1:o1.op=.makeSlice t (.tmp p) (.tmp p)) (d1:o1.dst=some tb) (h2:o2.op=.assign (.tmp tb)) (d2:o2.dst=some E) (la:p<N) (lb:tb<N) (ld:E<N)
  (W:SR P g0 w0 fr ⟨T,λ_=>none,λ_=>none,nx,N⟩ g w m a.tmps) (ba:a.defers= []) (Z:T J=.i .i64 n) (ht:gY P t=some e) (hg:bL P e=true) (hz:anE P e=some [z]) (hn:n<=1000000) (W5:qM P e<=100)
  (hQ:∀b y w' a' O,vV y=z->SR P g0 w0 fr ⟨O,λ_=>none,λ_=>none,nx,N⟩ g w' m a'.tmps->a'.defers= []->anw g g w w'->w.heap.size<=b->ny w0.heap.size g w' b e (List.replicate n y)->O E=.v (.slice (some ⟨b,0,none⟩) n n)->(∀j,j≠p->j≠tb->j≠E->O j=T j)->Q .normal a' w'):
  (Code.region id #[H,o1,o2] false).wp P Q a w:=by
 refine wp_region ?_;show wpOps P _ _ [0,1,2] a w;have ev0:a.eval (.tmp J)=.int .i64 n:=W.Xs Z;rw[wpOps_cons];refine aW rfl e0 (QR h0 ?_);rw[ev0,d0];have I:=W.iR (dst:=some p) (λd hd=>by simp_all) (z:=.i .i64 n) (y:=.int .i64 n) (.cw (.i _ _) rfl) a rfl;have jY:=put_defers a (some p) (.int .i64 n) ba;rw[wpOps_cons];refine aW rfl e1 (QT (g:=g) (B:=w0.heap.size) (n:=n) h1 (I.Xs (by simp_all)) ht hg hz I.wi I.ext.size hn W5 (λb y w3 ZP M L Y Ak mr=>?_));rw[d1];have U:=(I.keep M L Y).GV lb (.slice (some ⟨b,0,none⟩) n n);have jq:=put_defers _ (some tb) (.slice (some ⟨b,0,none⟩) n n) jY;rw[wpOps_cons];refine aW rfl e2 (i_ h2 ?_);rw[U.r_ (t:=tb) (by show Lo _ tb _ tb=_;rw[bc]),d2];have cU:=U.GV ld (.slice (some ⟨b,0,none⟩) n n);have jG:=put_defers _ (some E) (.slice (some ⟨b,0,none⟩) n n) jq;refine dv (hQ b y w3 _ _ ZP cU jG Y Ak mr (bc _ _ _) (λj h1 h2 h3=>?_))
 simp_all
theorem xM{ops:Array Oper}{k1 k2:Nat}{o1 o2:Oper}{L J E p:Nat}{t e:TypeId}{n cap j:Nat}{kk:IntKind}{v:Value}{T:Nat->AV}{nx N:Nat}{ys:List Value}{Q:Exit->Act->World->Prop}(i1:ops[k1]?=some o1)(i2:ops[k2]?=some o2)(e1:o1.guard=none)(e2:o2.guard=none)
  (h1:o1.op=.indexAddr t (.tmp L) (.tmp J)) (d1:o1.dst=some p) (h2:o2.op=.store e (.tmp p) (.tmp E)) (d2:o2.dst=none) (lp:p<N) (cr:E≠p)
  (I:SR P g0 w0 fr ⟨T,λ_=>none,λ_=>none,nx,N⟩ g w m a.tmps) (ba:a.defers= []) (hA:T L=.v (.slice (some ⟨b,0,none⟩) n cap)) (Z:T J=.i kk j) (hV:a.eval (.tmp E)=v) (hv:v.cells= #[v]) (ZU:v.oneCell'=true) (ht:gY P t=some e) (hg:bL P e=true) (hs:aQ P e=1) (U:j<n) (Am:j<ys.length)
  (hb:ny w0.heap.size g w b e ys)
  (Y:∀w' a',SR P g0 w0 fr ⟨Lo T p (.v (.pointer (some ⟨b,j,none⟩))),λ_=>none,λ_=>none,nx,N⟩ g w' m a'.tmps->a'.defers= []->ny w0.heap.size g w' b e (ys.set j v)->(∀c,c<w.heap.size->some b≠some c->w'.heap[c]?=w.heap[c]?)->Q .normal a' w'):
  wpOps P ops Q [k1,k2] a w:=by
 rw[wpOps_cons];refine aW i1 e1 (QU (j:=j) h1 (I.r_ hA) (I.Xs Z) ht hg U ?_);rw[d1,hs,Nat.mul_one];have H:=I.GV lp (.pointer (some ⟨b,j,none⟩));have O:=put_defers a (some p) (.pointer (some ⟨b,j,none⟩)) ba;rw[wpOps_cons];have W:(a.put (some p) (.pointer (some ⟨b,j,none⟩))).eval (.tmp E)=v:=by
  rw[<-hV];show(a.tmps.setIfInBounds p _).getD E undef=a.tmps.getD E undef
  simp_all [Ne.symm]
 refine aW i2 e2 (M4 (xs:= [v]) (off:=j) h2 (H.r_ (by simp_all)) hb H.wi (by grind) (by grind) (by grind) (by simp) (by grind) (λw' hE hW tB M=>?_));rw[d2];refine dv (Y w' _ (H.MW (λ_=>rfl) (λ_=>rfl) hE hW (some b) (λc hc=>by cases hc;exact hb.low) M) O ?_ M)
 simp_all [List.set_eq_take_append_cons_drop]
end
def adw:=@Option.some.inj
@[simp] abbrev ahQ:List Nat:=[0,1,2,3,4,5,8,9,10,11,12,13,21,31,32,33,34,61]
def cj(n:Int):Nat->List Int
 |0=> []
 |k+1=>cj (n/10) k++ [n%10]
theorem Fx(n:Int)(k:Nat):(cj n k).length=k:=by
 induction k generalizing n with
 |zero=>rfl
 |succ k p=>grind [cj]
theorem CC(n:Int)(k:Nat):∀d∈cj n k,0<=d/\d<=9:=by
 induction k generalizing n with
 |zero=>simp[cj]
 |succ k p=>
  intro d hd;rcases abH.1 hd with h|h
  ·grind
  grind
def Gc(w R:List UInt8)(last d:Int):UInt8:=if R≠ []/\d=last then R.getD 0 0 else w.getD ((d+9)%10).toNat 0
def dC(w R:List UInt8):Int->List Int->List UInt8
 |_,[]=> []
 |last,d::l=>Gc w R last d::dC w R d l
def bS(h:ay)(w:List UInt8)(n:Int)(p:Nat):List UInt8:=dC w h.R (-1) (cj n p)
theorem tX(w R:List UInt8):∀(l:List Int) (last:Int),(dC w R last l).length=l.length
 | [],_=>rfl
 |d::l,last=>by simp[dC,tX w R l]
theorem pQ(h:ay)(w:List UInt8)(n:Int)(k:Nat):(bS h w n k).length=k:=by rw[bS,tX,Fx]
theorem tY(w R:List UInt8):∀(l:List Int) (last:Int) (k:Nat) (hk:k<l.length),(dC w R last l)[k]?=some (Gc w R (if k=0 then last else l[k-1]) l[k])
 |d::l,last,0,hk=>by rfl
 |d::l,last,k+1,hk=>by
  have p:k<l.length:=by grind
  have:=tY w R l d k p;show(dC w R d l)[k]?=_
  grind
section
variable{P:Program}[l:cL P]
omit l in
theorem ny.ghost{B:Nat}{g:Gh}{w:World}{b b' n:Nat}{ty:TypeId}{ys:List Value}(h:ny B g w b ty ys)(hb:b≠b'):ny B { g with hw:=Lo g.hw b' n } w b ty ys:=⟨h.low,h.cells,(aL _ _ _ _ hb).trans h.hw,h.aD⟩
theorem Tk{y:Value}{k:IntKind}{n:Int}(h:vV y=.i k n):y=.int k n:=by
 unfold vV at h
 grind
theorem v8(w:List UInt8)(k:Nat)(hk:k<w.length):(ao w).drop k=.i .u8 w[k].toNat::(ao w).drop (k+1):=by
 grind [List.drop_eq_getElem_cons,ao]
theorem mZ:∀(l:List UInt8),iY (ao l)=some l
 | []=>rfl
 |c::l=>by
  have h1:=mZ l;have h2:(0:Int)<=c.toNat/\(c.toNat:Int)<256:=by have:=c.toNat_lt;omega
  show(if(0:Int)<=c.toNat/\(c.toNat:Int)<256 then(iY (ao l)).map (UInt8.ofNat (c.toNat:Int).toNat:: ·) else none)=_
  simp_all
theorem jE{g0:Gh}{w0:World}{g:Gh}{w:World}{m:Mem}{tb:qd}{a:Act}{T:Nat->AV}{nx n:Nat}{X:(Nat->AV)->Prop}{c:Code}{Q:Exit->Act->World->Prop}(U:∀g,jb P tb g)(J:∀id,g0.iF id=none)(O:SR P g0 w0 (λj=>nx<=j) ⟨T,λ_=>none,λ_=>none,nx,n⟩ g w m a.tmps)(M:a.defers= [])
  (h:awp P tb (λ_=>false) c (λe s1=>e=.normal/\s1.n=n/\(∀τ,s1.lv τ=none)/\X s1.T) ⟨T,λ_=>none,λ_=>none,nx,n⟩)
  (k:∀a' w' g' m' p H,SR P g0 w0 (λj=>p<=j) ⟨H,λ_=>none,λ_=>none,p,n⟩ g' w' m' a'.tmps->a'.defers= []->anw g g' w w'->X H->Q .normal a' w'):c.wp P Q a w:=by
 refine wp_mono (Vl (λg=>U (base g)) mixed O M (λ_=>rfl) (λ_=>rfl) J h (λ_ _ h=>h.2.2.1)) ?_;rintro L a4 w4 ⟨W,⟨T4,B4,lv,Q6,Y⟩,g4,m4,he4,⟨rfl,E,hl4,hx⟩,N,EX,I⟩;simp only at E hl4 hx;subst E;cases L <;>simp only[c8,Option.some.injEq,reduceCtorEq] at he4
 have Z:lv=λ_=>none:=funext hl4
 grind
set_option maxHeartbeats 4000000 in
theorem JN(h:ay)(d:Value->Option AV)(w:List UInt8)(n:Int)(p:Nat)(hw:w.length=10)(NZ:0<=n)(hn:n<=99999)(hl:p<=5):
  aq P 142 [.ag (aj h d),.ag (ao w),.i .i64 n,.i .i64 p] (.s (bS h w n p)):=by
 have I:∀g:Gh,jb P (bW 107 lA a_) g:=λg=>.of (ak (aR Tryz.func107) wS (au P)) ⟨λ_ _=>rfl,λ_ _ _=>rfl⟩
 have lr:(ao w).length=10:=by grind [ao]
 have jF:List.take 10 (ao w)=ao w:=aa1 (by omega);have bH:=bY w;intro g w0 ys hW hr;refine aey (lf (P:=P) Tryz.func142) rfl ?_;have ve:=uV (P:=P) (n:=72) hW hr (by simp);have cq:ys.toArray.size=ys.length:=by simp
 rw[cq];generalize Ar:({ g with ex:=λ_ _ _=>True,iF:=λ_=>none } :Gh)=g0 at ve;have J:∀id,g0.iF id=none:=by rw[<-Ar];simp_all
 have As:∀ {g2 w2},Lw g0 g2 w0 w2->Lw g g2 w0 w2:=by rw[<-Ar];exact λh=>⟨h.1,h.2,h.3,h.4,h.5,h.6,h.7,h.8⟩
 have N4:∀ {g2 w2},anw g0 g2 w0 w2->anw g g2 w0 w2:=by rw[<-Ar];exact λh=>⟨h.1,h.2,h.3⟩
 clear Ar;change Code.wp P _ _ { tmps:=ys.toArray++Array.replicate (72-ys.length) undef,defers:= [] } w0;generalize ({ tmps:=ys.toArray++Array.replicate (72-ys.length) undef,defers:= [] } :Act)=a at ve;refine wp_seq (wp_mono (fj (mt:=λ_=>false) (I g0) mixed _ (λe s1=>e=.normal/\s1.n=72/\(∀id,s1.B id=none)/\(∀τ,s1.lv τ=none)/\s1.T 2=.i .i64 n/\s1.T 3=.i .i64 p/\s1.T 4=.sp (aj h d)/\s1.T 5=.sp (ao w)) _ a w0 ?_ ve) ?_)
 ·repeat apply nI
  refine eI ahQ ?_;simp_all [aj,o6]
 rintro e1 a1 w1 ⟨x1,⟨T,B,lv,nx,nn⟩,he1,⟨rfl,Ru,qQ,hl1,t2,t3,t4,t5⟩,⟨g1,m1,dJ,jY⟩⟩;cases e1 <;>simp only[c8,Option.some.injEq,reduceCtorEq] at he1
 simp only at Ru qQ hl1 t2 t3 t4 t5;subst Ru;have hBn:B=λ_=>none:=funext qQ
 have cT:lv=λ_=>none:=funext hl1
 subst hBn cT;have akE:(p:Int)<=5:=by omega
 refine wp_seq (uy rfl rfl rfl rfl rfl rfl rfl rfl rfl (by decide:14<72) (by decide:15<72) (by decide:9<72) dJ jY t3 (by simp:gY P 91=some 5) (by simp) (by simp:anE P 5=some [.i .u8 0]) (by omega) (by simp) (λbo yo w2 a2 T2 vG fE jq hK2 agU KO t9 vL=>?_));have hyo:=Tk vG;subst hyo;refine wp_seq (uy rfl rfl rfl rfl rfl rfl rfl rfl rfl (by decide:16<72) (by decide:17<72) (by decide:10<72) fE jq ((vL 3 (by decide) (by decide) (by decide)).trans t3) (by simp:gY P 28=some 3) (by simp) (by simp:anE P 3=some [.i .i64 0]) (by omega) (by simp) (λN yd w3 a3 T3 ZP cU jG Un agT ahL t10 R2=>?_));have hyd:=Tk ZP;subst hyd;have Om:=KO.keep Un;have cr:bo≠N:=by have:=KO.lt;omega
 have u (j:Nat) (h1:j≠14/\j≠15/\j≠9) (h2:j≠16/\j≠17/\j≠10):T3 j=T j:=(R2 j h2.1 h2.2.1 h2.2.2).trans (vL j h1.1 h1.2.1 h1.2.2);have t9:T3 9=.v (.slice (some ⟨bo,0,none⟩) p p):=(R2 9 (by decide) (by decide) (by decide)).trans t9;have t2:T3 2=.i .i64 n:=(u 2 (by decide) (by decide)).trans t2;have t3:T3 3=.i .i64 p:=(u 3 (by decide) (by decide)).trans t3;have t4:T3 4=.sp (aj h d):=(u 4 (by decide) (by decide)).trans t4;have t5:T3 5=.sp (ao w):=(u 5 (by decide) (by decide)).trans t5;have wl:=aS ((p:Int)-1);refine wp_seq (wp_seq ?_);refine jE (X:=λT=>T 4=.sp (aj h d)/\T 5=.sp (ao w)/\T 9=.v (.slice (some ⟨bo,0,none⟩) p p)/\T 10=.v (.slice (some ⟨N,0,none⟩) p p)/\T 2=.i .i64 n/\T 11=.i .i64 ((p:Int)-1)) I J cU jG ?_ (λa4 w4 g4 m4 Q6 T4 aoa EX hK4 ⟨t4,t5,t9,t10,t2,t11⟩=>?_)
 ·repeat apply nI
  refine eI ahQ ?_;simp_all
 have RS:=Om.keep hK4;have abw:=ahL.keep hK4
 let GI:Nat->Act->World->Prop:=λk a w'=>∃T nx g m E suf,SR P g0 w0 (λj=>nx<=j) ⟨T,λ_=>none,λ_=>none,nx,72⟩ g w' m a.tmps/\a.defers= []/\T 4=.sp (aj h d)/\T 5=.sp (ao w)/\T 9=.v (.slice (some ⟨bo,0,none⟩) p p)/\T 10=.v (.slice (some ⟨N,0,none⟩) p p)/\T 2=.i .i64 E/\T 11=.i .i64 ((k:Int)-1)/\
  0<=E/\E<=99999/\cj n p=cj E k++suf/\suf.length+k=p/\ny w0.heap.size g w' N 3 ((List.replicate k 0++suf).map (Value.int .i64))/\ny w0.heap.size g w' bo 5 (List.replicate p (Value.int .u8 0))
 have hGI:GI p a4 w4:=⟨T4,Q6,g4,m4,n,[],aoa,EX,t4,t5,t9,t10,t2,t11,NZ,hn,by simp,by simp,by simpa using abw,RS⟩
 refine af6 (wp_mono (Q:=λe a w'=>e=.exit 0/\GI 0 a w') (afX (p+1) ?hl1) ?fin1)
 case hl1=>
  refine(?key:∀(k:Nat) (a:Act) (w':World),GI k a w'->Code.rounds P _ _ (k+1) a w') p a4 w4 hGI;clear hGI hK4 aoa EX RS abw t4 t5 t9 t10 t2 t11;intro k
  induction k with
  |zero=>
   intro a w' hG;obtain⟨T,nx,g5,m5,E,suf,aJ,ba,t4,t5,t9,t10,t2,t11,c0,c1,Og,KB,Jd,mr⟩:=hG;rw[afe];refine wp_seq (wp_seq (jE (X:=λT=>T 4=.sp (aj h d)/\T 5=.sp (ao w)/\T 9=.v (.slice (some ⟨bo,0,none⟩) p p)/\T 10=.v (.slice (some ⟨N,0,none⟩) p p)/\T 2=.i .i64 E/\T 11=.i .i64 ((0:Nat)-1:Int)/\T 21=.b false) I J aJ ba ?_ (λa6 w6 g6 m6 Yq T6 W EW Qc ⟨t4,t5,t9,t10,t2,t11,t21⟩=>?_)))
   ·repeat apply nI
    refine eI ahQ ?_;simp_all
   have Xk:a6.eval (.tmp 21)=.bool false:=HR W t21;refine agh Xk (wp_exit ?_);exact⟨rfl,T6,Yq,g6,m6,E,suf,W,EW,t4,t5,t9,t10,t2,t11,c0,c1,Og,KB,Jd.keep Qc,mr.keep Qc⟩
  |succ k ih=>
   intro a w' hG;obtain⟨T,nx,g5,m5,E,suf,aJ,ba,t4,t5,t9,t10,t2,t11,c0,c1,Og,KB,Jd,mr⟩:=hG;have vJ:(0:Int)<=k:=by omega
   have I7:((k+1:Nat):Int)-1=k:=by omega
   rw[I7] at t11;rw[afe];refine wp_seq (wp_seq (jE (X:=λT=>T 4=.sp (aj h d)/\T 5=.sp (ao w)/\T 9=.v (.slice (some ⟨bo,0,none⟩) p p)/\T 10=.v (.slice (some ⟨N,0,none⟩) p p)/\T 2=.i .i64 E/\T 11=.i .i64 (k:Int)/\T 21=.b true) I J aJ ba ?_ (λa6 w6 g6 m6 Yq T6 W EW Qc ⟨t4,t5,t9,t10,t2,t11,t21⟩=>?_)))
   ·repeat apply nI
    refine eI ahQ ?_;simp_all
   have Xk:a6.eval (.tmp 21)=.bool true:=HR W t21;refine ag1 Xk (wp_skip ?_);refine wp_seq (af6 (wp_seq ?_));have ahK:=Jd.keep Qc;have yY:=mr.keep Qc;have agL:E.tmod 10=E%10:=ae6 c0;have hdiv:E.tdiv 10=E/10:=Int.tdiv_eq_ediv_of_nonneg c0;have w3:=aS (E/10);have Hr:=W.mF (λ_=>rfl) (λ_=>rfl);refine iQ (s:=⟨T6,λ_=>none,λ_=>none,Yq,72⟩) (tb:=bW 107 lA a_) (mt:=λ_=>false) 4 (I (base g6)) (by decide) ⟨g6,m6,Hr,EW⟩ (λK L=>?_);simp[t10,t11,t2,agL];refine L _ (λg7 w7 m7 a7 M yX=>?_);have ahJ:=ahK.keep (dZ M.keeps);have RP:=yY.keep (dZ M.keeps);have M:=W.nF M J (λ_=>rfl);dsimp only at M;clear L Hr;have gg:k<p:=by omega
   refine xM (k1:=4) (k2:=5) (j:=k) (v:=.int .i64 (E%10)) rfl rfl rfl rfl rfl rfl rfl rfl (by decide) (by decide) M yX (by simp:_=AV.v (.slice (some ⟨N,0,none⟩) p p)) (by simp:_=AV.i .i64 (k:Int)) (M.Xs (by simp)) rfl rfl (by simp) (by simp) (by simp) gg (by grind) ahJ (λw8 a8 iB Ci abv aap=>?_);have RO:=RP.same (aap bo RP.lt (λe=>cr (adw e).symm));have V7:((List.replicate (k+1) 0++suf).map (Value.int .i64)).set k (.int .i64 (E%10))=(List.replicate k 0++(E%10::suf)).map (Value.int .i64):=by
    simp_all [List.replicate_succ']
   rw[V7] at abv;have iB:=(iB.nx (Yq+6)).sub (fr':=λj=>Yq+6<=j) (λj hj=>by omega);dsimp only at iB;generalize Je:(Lo (Lo (Lo (Lo (Lo T6 24 _) 25 _) 26 _) 27 _) 28 _:Nat->AV)=T8 at iB;have t4:T8 4=.sp (aj h d):=by rw[<-Je];simp[t4]
   have t5:T8 5=.sp (ao w):=by rw[<-Je];simp[t5]
   have t9:T8 9=.v (.slice (some ⟨bo,0,none⟩) p p):=by rw[<-Je];simp[t9]
   have t10:T8 10=.v (.slice (some ⟨N,0,none⟩) p p):=by rw[<-Je];simp[t10]
   have t2:T8 2=.i .i64 E:=by rw[<-Je];simp[t2]
   have t11:T8 11=.i .i64 (k:Int):=by rw[<-Je];simp[t11]
   clear Je;refine jE (X:=λT=>T 4=.sp (aj h d)/\T 5=.sp (ao w)/\T 9=.v (.slice (some ⟨bo,0,none⟩) p p)/\T 10=.v (.slice (some ⟨N,0,none⟩) p p)/\T 2=.i .i64 (E/10)/\T 11=.i .i64 (k:Int)) I J iB Ci ?_ (λa9 w9 g9 m9 nx9 T9 rF EU hK9 ⟨t4,t5,t9,t10,t2,t11⟩=>?_)
   ·repeat apply nI
    refine eI ahQ ?_;simp_all
   have wk:=aS ((k:Int)-1);refine jE (X:=λT=>T 4=.sp (aj h d)/\T 5=.sp (ao w)/\T 9=.v (.slice (some ⟨bo,0,none⟩) p p)/\T 10=.v (.slice (some ⟨N,0,none⟩) p p)/\T 2=.i .i64 (E/10)/\T 11=.i .i64 ((k:Int)-1)) I J rF EU ?_ (λJD Qo g10 ZG Q9 T10 iI rL KS ⟨t4,t5,t9,t10,t2,t11⟩=>?_)
   ·repeat apply nI
    refine eI ahQ ?_;simp_all
   refine ih JD Qo ⟨T10,Q9,g10,ZG,E/10,E%10::suf,iI,rL,t4,t5,t9,t10,t2,t11,by omega,by omega,?_,by grind,(abv.keep hK9).keep KS,(RO.keep hK9).keep KS⟩
   grind [cj]
 case fin1=>
  rintro e5 a5 w5 ⟨rfl,T5,Vx,g5,m5,E,suf,d_,rK,t4,t5,t9,t10,t2,t11,c0,c1,Og,KB,Oq,RR⟩;simp only[Exit.inBlock,acC];simp only[List.replicate_zero,aaV] at Oq;have qP:cj n p=suf:=by rw[Og];rfl
  rw[<-qP] at Oq;have F6:=Fx n p;have hbk:=CC n p;obtain⟨KV,hW6,_,KD⟩:=Oq.freeze d_.wi;have W:=d_.Cu (λ_=>rfl) (λ_=>rfl) Oq;have yY:=RR.ghost (n:=((cj n p).map (Value.int .i64)).length) cr;have gf:Rd ({ g5 with hw:=Lo g5.hw N ((cj n p).map (Value.int .i64)).length } :Gh) w5 (.sq none 1 ((cj n p).map (.i .i64))) (a5.tmps.getD 10 undef):=by
   have q10:a5.tmps.getD 10 undef=.slice (some ⟨N,0,none⟩) p p:=d_.r_ (t:=10) t10;rw[q10];have ht1:((cj n p).map (Value.int .i64)).take (p*1)=(cj n p).map (Value.int .i64):=aa1 (by grind);refine KD 1 p p _ (by omega) (by grind) (aax _) (λy hy=>?_) (by grind) (by rw[ht1];exact se.rds _);rw[ht1] at hy;obtain⟨z,_,rfl⟩:=ac4.1 hy;rfl
  have M:=W.wM gf rfl;dsimp only at M;have t4:Lo T5 10 (.sq none 1 ((cj n p).map (.i .i64))) 4=.sp (aj h d):=by simp[t4]
  have t5:Lo T5 10 (.sq none 1 ((cj n p).map (.i .i64))) 5=.sp (ao w):=by simp[t5]
  have t9:Lo T5 10 (.sq none 1 ((cj n p).map (.i .i64))) 9=.v (.slice (some ⟨bo,0,none⟩) p p):=by simp[t9]
  have t10:Lo T5 10 (.sq none 1 ((cj n p).map (.i .i64))) 10=.sq none 1 ((cj n p).map (.i .i64)):=by simp
  generalize Lo T5 10 (.sq none 1 ((cj n p).map (.i .i64)))=T7 at M t4 t5 t9 t10;generalize ({ g5 with hw:=Lo g5.hw N ((cj n p).map (Value.int .i64)).length } :Gh)=g7 at M yY;clear gf W KD hW6 KV d_ Oq RR KB t2 t11;refine wp_seq (wp_seq (jE (X:=λT=>T 4=.sp (aj h d)/\T 5=.sp (ao w)/\T 9=.v (.slice (some ⟨bo,0,none⟩) p p)/\T 10=.sq none 1 ((cj n p).map (.i .i64))/\T 31=.sq none 1 ((cj n p).map (.i .i64))/\T 32=.i .i64 p/\T 33=.i .i64 (0:Nat)) I J M rK ?_ (λa8 w8 g8 m8 nx8 T8 iB Ci hK8 ⟨t4,t5,t9,t10,t31,t32,t33⟩=>?_)))
  ·repeat apply nI
   refine eI ahQ ?_;simp_all
  have RO:=yY.keep hK8
  let GJ:Nat->Act->World->Prop:=λk a w'=>∃T nx g m,SR P g0 w0 (λj=>nx<=j) ⟨T,λ_=>none,λ_=>none,nx,72⟩ g w' m a.tmps/\a.defers= []/\T 4=.sp (aj h d)/\T 5=.sp (ao w)/\T 9=.v (.slice (some ⟨bo,0,none⟩) p p)/\T 10=.sq none 1 ((cj n p).map (.i .i64))/\T 31=.sq none 1 ((cj n p).map (.i .i64))/\T 32=.i .i64 p/\T 33=.i .i64 k/\
   ny w0.heap.size g w' bo 5 (((bS h w n p).take k++List.replicate (p-k) 0).map (λc:UInt8=>Value.int .u8 c.toNat))
  have hGJ:GJ 0 a8 w8:=⟨T8,nx8,g8,m8,iB,Ci,t4,t5,t9,t10,t31,t32,t33,by simpa using RO⟩
  clear RO iB Ci t4 t5 t9 t10 t31 t32 t33 hK8 yY M;have F3:=pQ h w n p;refine af6 (wp_mono (Q:=λe a w'=>e=.exit 2/\GJ p a w') (afX (p+1) ?hl2) ?fin2)
  case hl2=>
   refine(?key2:∀(d' k:Nat) (a:Act) (w':World),k+d'=p->GJ k a w'->Code.rounds P _ _ (d'+1) a w') p 0 a8 w8 (by omega) hGJ;clear hGJ;intro d'
   induction d' with
   |zero=>
    intro k a w' hk hG;have hk:p=k:=by omega
    subst hk;obtain⟨T,nx,g9,m9,aJ,ba,t4,t5,t9,t10,t31,t32,t33,mr⟩:=hG;rw[afe];refine wp_seq (jE (X:=λT=>T 4=.sp (aj h d)/\T 5=.sp (ao w)/\T 9=.v (.slice (some ⟨bo,0,none⟩) p p)/\T 10=.sq none 1 ((cj n p).map (.i .i64))/\T 31=.sq none 1 ((cj n p).map (.i .i64))/\T 32=.i .i64 p/\T 33=.i .i64 p/\T 34=.b false) I J aJ ba ?_ (λJD Qo g10 ZG Q9 T10 iI rL KS ⟨t4,t5,t9,t10,t31,t32,t33,t34⟩=>?_))
    ·repeat apply nI
     refine eI ahQ ?_;simp_all
    have h34:JD.eval (.tmp 34)=.bool false:=HR iI t34;refine wp_seq (agh h34 (wp_exit ?_));exact⟨rfl,T10,Q9,g10,ZG,iI,rL,t4,t5,t9,t10,t31,t32,t33,mr.keep KS⟩
   |succ d' ih=>
    intro k a w' hk hG;obtain⟨T,nx,g9,m9,aJ,ba,t4,t5,t9,t10,t31,t32,t33,mr⟩:=hG;have gg:k<p:=by omega
    have RD:k<(cj n p).length:=by omega
    have aaP:(k:Int)<p:=by omega
    have hdk:=hbk (cj n p)[k] (abG RD);generalize hdv:(cj n p)[k]=H at hdk;have vi:(cj n p)[k]?=some H:=by simp_all
    have Au:((cj n p).map (AV.i .i64)).drop k=.i .i64 H::((cj n p).map (AV.i .i64)).drop (k+1):=by
     grind [List.drop_eq_getElem_cons]
    have sL:((H+9)%10).toNat<w.length:=by omega
    have C7:=v8 w ((H+9)%10).toNat sL;have hpm:0<=(H+9)%10/\(H+9)%10<10:=by omega
    have hkc:(bS h w n p)[k]?=some (Gc w h.R (if k=0 then -1 else(cj n p)[k-1]) H):=by
     rw[bS,tY w h.R _ _ k RD,hdv]
    rw[afe];refine wp_seq (jE (X:=λT=>T 4=.sp (aj h d)/\T 5=.sp (ao w)/\T 9=.v (.slice (some ⟨bo,0,none⟩) p p)/\T 10=.sq none 1 ((cj n p).map (.i .i64))/\T 31=.sq none 1 ((cj n p).map (.i .i64))/\T 32=.i .i64 p/\T 33=.i .i64 k/\T 34=.b true) I J aJ ba ?_ (λJD Qo g10 ZG Q9 T10 iI rL KS ⟨t4,t5,t9,t10,t31,t32,t33,t34⟩=>?_))
    ·repeat apply nI
     refine eI ahQ ?_;simp_all
    have h34:JD.eval (.tmp 34)=.bool true:=HR iI t34;refine wp_seq (ag1 h34 (wp_skip ?_));refine wp_seq (af6 ?_);refine wp_seq (jE (X:=λT=>T 4=.sp (aj h d)/\T 5=.sp (ao w)/\T 9=.v (.slice (some ⟨bo,0,none⟩) p p)/\T 10=.sq none 1 ((cj n p).map (.i .i64))/\T 31=.sq none 1 ((cj n p).map (.i .i64))/\T 32=.i .i64 p/\T 33=.i .i64 k/\T 12=.i .i64 k/\T 13=.i .i64 H) I J iI rL ?_ (λa11 Tm g11 m11 Q8 T11 uF EZ ah7 ⟨t4,t5,t9,t10,t31,t32,t33,t12,t13⟩=>?_))
    ·repeat apply nI
     refine eI ahQ ?_;intro K L;simp[t31,t33,F6,gg,Au,vi,hdv]
     simp_all
    have abo:=(mr.keep KS).keep ah7;have Hr:=uF.mF (λ_=>rfl) (λ_=>rfl);refine wp_seq ?_;refine iQ (s:=⟨T11,λ_=>none,λ_=>none,Q8,72⟩) (tb:=bW 107 lA a_) (mt:=λ_=>false) 6 (I (base g11)) (by decide) ⟨g11,m11,Hr,EZ⟩ (λK L=>?_);simp[t9,t12,t13,t5,ab,lA,hdk.1,hdk.2,hpm.1,hpm.2,C7];refine L _ (λg12 w12 m12 a12 jo Av=>?_);have abn:=abo.keep (dZ jo.keeps);have jo:=uF.nF jo J (λ_=>rfl);dsimp only at jo;clear L Hr;refine xM (k1:=6) (k2:=7) (j:=k) (v:=.int .u8 (w[((H+9)%10).toNat]).toNat) rfl rfl rfl rfl rfl rfl rfl rfl (by decide) (by decide) jo Av (by simp:_=AV.v (.slice (some ⟨bo,0,none⟩) p p)) (by simp:_=AV.i .i64 (k:Int)) (jo.Xs (by simp)) rfl rfl (by simp) (by simp) (by simp) gg (by simp;omega) abn (λw13 a13 uE Oj Ul agF=>?_);have V7:∀c:UInt8,(((bS h w n p).take k++List.replicate (p-k) 0).map (λc:UInt8=>Value.int .u8 c.toNat)).set k (.int .u8 c.toNat)=((bS h w n p).take k++c::List.replicate (p-(k+1)) 0).map (λc:UInt8=>Value.int .u8 c.toNat):=by
     intro c;have h1:((bS h w n p).take k).length=k:=by grind
     have e:p-k=(p-(k+1))+1:=by omega
     simp_all [List.replicate_succ]
    have Z8:∀c c':UInt8,(((bS h w n p).take k++c::List.replicate (p-(k+1)) 0).map (λc:UInt8=>Value.int .u8 c.toNat)).set k (.int .u8 c'.toNat)=((bS h w n p).take k++c'::List.replicate (p-(k+1)) 0).map (λc:UInt8=>Value.int .u8 c.toNat):=by
     intro c c';have h1:((bS h w n p).take k).length=k:=by grind
     simp_all
    have Aj:∀c,Gc w h.R (if k=0 then -1 else(cj n p)[k-1]) H=c->(bS h w n p).take k++c::List.replicate (p-(k+1)) 0=(bS h w n p).take (k+1)++List.replicate (p-(k+1)) 0:=by
     intro c hc;have YA:k<(bS h w n p).length:=by omega
     simp_all [aaN]
    rw[V7] at Ul;have uE:=(uE.nx (Q8+8)).sub (fr':=λj=>Q8+8<=j) (λj hj=>by omega);dsimp only at uE;generalize U:(Lo (Lo (Lo (Lo (Lo (Lo (Lo T11 38 _) 39 _) 40 _) 41 _) 42 _) 43 _) 44 _:Nat->AV)=Y at uE;have t4:Y 4=.sp (aj h d):=by rw[<-U];simp[t4]
    have t5:Y 5=.sp (ao w):=by rw[<-U];simp[t5]
    have t9:Y 9=.v (.slice (some ⟨bo,0,none⟩) p p):=by rw[<-U];simp[t9]
    have t10:Y 10=.sq none 1 ((cj n p).map (.i .i64)):=by rw[<-U];simp[t10]
    have t31:Y 31=.sq none 1 ((cj n p).map (.i .i64)):=by rw[<-U];simp[t31]
    have t32:Y 32=.i .i64 p:=by rw[<-U];simp[t32]
    have t33:Y 33=.i .i64 k:=by rw[<-U];simp[t33]
    have t12:Y 12=.i .i64 k:=by rw[<-U];simp[t12]
    have t13:Y 13=.i .i64 H:=by rw[<-U];simp[t13]
    clear U
    let C:Bool:=decide (0<k)&&((if k=0 then -1 else(cj n p)[k-1])==H)&& !(h.R== [])
    have hC:Gc w h.R (if k=0 then -1 else(cj n p)[k-1]) H=if C=true then h.R.getD 0 0 else w[((H+9)%10).toNat]:=by
     have e0:w.getD ((H+9)%10).toNat 0=w[((H+9)%10).toNat]:=by simp_all
     unfold Gc;rw[e0];by_cases vJ:k=0
     ·have:¬(H= -1):=by omega
      grind
     ·by_cases hR:h.R= []
      ·grind
      ·by_cases hd:(cj n p)[k-1]=H
       ·simp[C,vJ,hR,hd]
       grind
    refine wp_seq ?_;refine jE (X:=λT=>T 4=.sp (aj h d)/\T 5=.sp (ao w)/\T 9=.v (.slice (some ⟨bo,0,none⟩) p p)/\T 10=.sq none 1 ((cj n p).map (.i .i64))/\T 31=.sq none 1 ((cj n p).map (.i .i64))/\T 32=.i .i64 p/\T 33=.i .i64 k/\T 12=.i .i64 k/\T 61=.b C) I J uE Oj ?_ (λa14 w14 g14 m14 Q7 T14 uD EY ah6 ⟨t4,t5,t9,t10,t31,t32,t33,t12,t61⟩=>?_)
    ·by_cases vJ:k=0
     ·have hC0:C=false:=by grind
      rw[hC0];subst vJ
      repeat apply nI
      refine eI ahQ ?_;intro K L;simp[t12]
      repeat' (first|apply L|(refine aE (λhc=>?_) (λhc=>?_) <;>(try simp only[aan,aac] at hc) <;>simp[hc,t12])|fail)
      exact⟨rfl,rfl,λ_=>rfl,by simp[t4],by simp[t5],by simp[t9],by simp[t10],by simp[t31],by simp[t32],by simp[t33],by rfl,by simp⟩
     ·have YD:0<k:=by omega
      have wk:=aS ((k:Int)-1);have hkm:k-1<(cj n p).length:=by omega
      have I7:(0:Int)<=(k:Int)-1:=by omega
      have YB:((k:Int)-1).toNat=k-1:=by omega
      have KI:(1:Int)<=k/\k<=p:=by omega
      have qv:((cj n p).map (AV.i .i64)).drop (k-1)=.i .i64 (cj n p)[k-1]::((cj n p).map (AV.i .i64)).drop k:=by
       grind [List.drop_eq_getElem_cons]
      obtain⟨dp,RM⟩:∃dp,(cj n p)[k-1]=dp:=⟨_,rfl⟩
      have Aq:(cj n p)[k-1]?=some dp:=by grind
      rw[RM] at qv;have hCd:C=(decide (0<k)&&(dp==H)&& !(h.R== [])):=by simp only[C,aat vJ,RM]
      rw[hCd];clear hCd hC;cases Jb:(H==dp) with
      |false=>
       have WV:(dp==H)=false:=by grind
       rw[WV,Bool.and_false,Bool.false_and]
       repeat apply nI
       refine eI ahQ ?_;intro K L;simp[t12,t13,t10,YD,wk,I7,YB,KI,F6,qv,Aq,RM,Jb]
       simp_all
      |true=>
       cases YJ:(h.R== []) with
       |true=>
        rw[aeF,Bool.and_false]
        repeat apply nI
        refine eI ahQ ?_;intro K L;simp[t12,t13,t10,t4,aj,o6,YD,wk,I7,YB,KI,F6,qv,Aq,RM,Jb,bne,YJ]
        simp_all [aj,o6]
       |false=>
        have WV:(dp==H)=true:=by simp_all
        rw[WV,decide_eq_true (show 0<k by omega),Bool.not_false,Bool.and_true,Bool.and_true]
        repeat apply nI
        refine eI ahQ ?_;intro K L;simp[t12,t13,t10,t4,aj,o6,YD,wk,I7,YB,KI,F6,qv,Aq,RM,Jb,bne,YJ]
        simp_all [aj,o6]
    have Oo:=Ul.keep ah6;have h61:a14.eval (.tmp 61)=.bool C:=HR uD t61;have UO:=aS ((k:Int)+1);cases hCv:C with
    |false=>
     rw[hCv] at h61 hC;simp only[abX,↓reduceIte] at hC;rw[Aj _ hC] at Oo;refine agh h61 (wp_skip ?_);refine jE (X:=λT=>T 4=.sp (aj h d)/\T 5=.sp (ao w)/\T 9=.v (.slice (some ⟨bo,0,none⟩) p p)/\T 10=.sq none 1 ((cj n p).map (.i .i64))/\T 31=.sq none 1 ((cj n p).map (.i .i64))/\T 32=.i .i64 p/\T 33=.i .i64 ((k+1:Nat):Int)) I J uD EY ?_ (λa15 w15 g15 m15 afw T15 Z Oi ah5 ⟨t4,t5,t9,t10,t31,t32,t33⟩=>?_)
     ·repeat apply nI
      refine eI ahQ ?_;simp_all
     exact ih (k+1) a15 w15 (by omega) ⟨T15,afw,g15,m15,Z,Oi,t4,t5,t9,t10,t31,t32,t33,Oo.keep ah5⟩
    |true=>
     rw[hCv] at h61 hC;simp only[↓reduceIte] at hC;obtain⟨c0,r0,hR⟩:∃c0 r0,h.R=c0::r0:=by
      cases hR:h.R with
      |nil=>grind
      |cons c0 r0=>simp_all
     have hR1:h.R.getD 0 0=c0:=by grind
     rw[hR1] at hC;refine ag1 h61 ?_;have Hr:=uD.mF (λ_=>rfl) (λ_=>rfl);refine iQ (s:=⟨T14,λ_=>none,λ_=>none,Q7,72⟩) (tb:=bW 107 lA a_) (mt:=λ_=>false) 6 (I (base g14)) (by decide) ⟨g14,m14,Hr,EY⟩ (λK L=>?_);simp[t9,t12,t4,aj,o6,hR];refine L _ (λg15 w15 m15 a15 Z Oi=>?_);have abm:=Oo.keep (dZ Z.keeps);have Z:=uD.nF Z J (λ_=>rfl);dsimp only at Z;clear L Hr;refine xM (k1:=6) (k2:=7) (j:=k) (v:=.int .u8 c0.toNat) rfl rfl rfl rfl rfl rfl rfl rfl (by decide) (by decide) Z Oi (by simp:_=AV.v (.slice (some ⟨bo,0,none⟩) p p)) (by simp:_=AV.i .i64 (k:Int)) (Z.Xs (by simp)) rfl rfl (by simp) (by simp) (by simp) gg (by simp;omega) abm (λw16 a16 rG Ja Uk agE=>?_);rw[Z8,Aj _ hC] at Uk;have rG:=(rG.nx (Q7+8)).sub (fr':=λj=>Q7+8<=j) (λj hj=>by omega);dsimp only at rG;generalize E5:(Lo (Lo (Lo (Lo (Lo (Lo (Lo T14 62 _) 63 _) 64 _) 65 _) 66 _) 67 _) 68 _:Nat->AV)=X4 at rG;have t4:X4 4=.sp (aj h d):=by rw[<-E5];simp[t4]
     have t5:X4 5=.sp (ao w):=by rw[<-E5];simp[t5]
     have t9:X4 9=.v (.slice (some ⟨bo,0,none⟩) p p):=by rw[<-E5];simp[t9]
     have t10:X4 10=.sq none 1 ((cj n p).map (.i .i64)):=by rw[<-E5];simp[t10]
     have t31:X4 31=.sq none 1 ((cj n p).map (.i .i64)):=by rw[<-E5];simp[t31]
     have t32:X4 32=.i .i64 p:=by rw[<-E5];simp[t32]
     have t33:X4 33=.i .i64 k:=by rw[<-E5];simp[t33]
     clear E5;refine jE (X:=λT=>T 4=.sp (aj h d)/\T 5=.sp (ao w)/\T 9=.v (.slice (some ⟨bo,0,none⟩) p p)/\T 10=.sq none 1 ((cj n p).map (.i .i64))/\T 31=.sq none 1 ((cj n p).map (.i .i64))/\T 32=.i .i64 p/\T 33=.i .i64 ((k+1:Nat):Int)) I J rG Ja ?_ (λa17 Tl g17 m17 afv T17 pJ Oh ah4 ⟨t4,t5,t9,t10,t31,t32,t33⟩=>?_)
     ·repeat apply nI
      refine eI ahQ ?_;simp_all
     exact ih (k+1) a17 Tl (by omega) ⟨T17,afv,g17,m17,pJ,Oh,t4,t5,t9,t10,t31,t32,t33,Uk.keep ah4⟩
  case fin2=>
   rintro e17 a17 Tl ⟨rfl,T,nx,g17,m17,pJ,Oh,t4,t5,t9,t10,t31,t32,t33,On⟩;simp only[Exit.inBlock,acC];have e1:(bS h w n p).take p++List.replicate (p-p) 0=bS h w n p:=by
    grind
   rw[e1] at On;obtain⟨KV,hW6,_,KD⟩:=On.freeze pJ.wi;have Z4:=pJ.Cu (λ_=>rfl) (λ_=>rfl) On;have gf:Rd ({ g17 with hw:=Lo g17.hw bo ((bS h w n p).map (λc:UInt8=>Value.int .u8 c.toNat)).length } :Gh) Tl (.sq none 1 (ao (bS h w n p))) (a17.tmps.getD 9 undef):=by
    have q9:a17.tmps.getD 9 undef=.slice (some ⟨bo,0,none⟩) p p:=pJ.r_ (t:=9) t9;rw[q9];have ht1:((bS h w n p).map (λc:UInt8=>Value.int .u8 c.toNat)).take (p*1)=(bS h w n p).map (λc:UInt8=>Value.int .u8 c.toNat):=aa1 (by grind);refine KD 1 p p _ (by omega) (by grind [ao]) (aax _) (λy hy=>?_) (by grind) (by rw[ht1];exact CB.rds _);rw[ht1] at hy;obtain⟨z,_,rfl⟩:=ac4.1 hy;rfl
   have NO:=Z4.wM gf rfl;dsimp only at NO;have fT:=mZ (bS h w n p);generalize ({ g17 with hw:=Lo g17.hw bo ((bS h w n p).map (λc:UInt8=>Value.int .u8 c.toNat)).length } :Gh)=g19 at NO;refine wp_seq (wp_mono (fj (mt:=λ_=>false) (I g0) mixed _ (λe s1=>e=.normal/\s1.T 8=.s (bS h w n p)) ⟨Lo T 9 (.sq none 1 (ao (bS h w n p))),λ_=>none,λ_=>none,nx,72⟩ a17 Tl ?_ ⟨g19,m17,NO,Oh⟩) ?_)
   ·repeat apply nI
    refine eI ahQ ?_;simp_all
   rintro e20 a20 w20 ⟨x20,⟨T20,B20,lv,amS,nn⟩,ahk,⟨rfl,t8⟩,⟨g20,m20,O,abd⟩⟩;cases e20 <;>simp only[c8,Option.some.injEq,reduceCtorEq] at ahk
   refine wp_ret ?_;simp only at t8;have q8:Rd g20 w20 (.s (bS h w n p)) (a20.tmps.getD 8 undef):=aqs O (t:=8) t8 (by simp);refine⟨abd,a20.tmps.getD 8 undef,?_,_,g20,rfl,As ⟨O.ext.1,O.ext.2,O.ext.3,O.ext.4,O.ext.5,O.ext.6,O.ext.7,O.ext.8⟩,O.wi,N4 O.keeps,q8,trivial⟩
   simp_all [cX,ey]
end
@[simp] abbrev ais:List Nat:=[0,1,4,5,10,12,13,14,24]
theorem aoE:∀(L S:List UInt8),(e_ L S).length<=S.length^L.count 63
 | [],S=>by simp[e_]
 |c::L,S=>by
  unfold e_;split
  ·rename_i h;subst h;rw[List.count_cons_self];have h1:=rU (λk=>(e_ L (S.take k++S.drop (k+1))).map (S.getD k 0:: ·)) (S.length^L.count 63) (List.range S.length) (λk hk=>by
    rw[abz];have hk:k<S.length:=aeh.1 hk;refine aaY (aoE L _) (agv ?_ _)
    grind)
   grind
  ·rename_i h;have h2:(c::L).count 63=L.count 63:=List.count_cons_of_ne (λe=>h e);rw[h2,abz];exact aoE L S
theorem sP{h:ay}(hc:aO h=0):(aB h).length<=256:=by
 have h1:=aoE h.L h.S;obtain⟨⟨_,_,_,_,_,E,p,_⟩,_⟩:=checked h hc;rw[<-E] at h1;have h2:h.S.length^h.S.length<=4^4:=aaY (agv p _) (aef (by omega) p);exact aaY (ael _ _) (by omega)
section
variable{P:Program}[l:cL P]
theorem HT(a b:List Int)(ha:a.length<100000000000000)(hb:b.length<100000000000000):aq P 94 [ints a,ints b] (.b (a==b)):=by
 refine fi (au P) (lf Tryz.func94) ?_;by_cases hl:a.length=b.length
 ·have I:((a.length:Int)==b.length)=true:=by grind
  repeat apply nI
  refine eI ais ?_;intro K p;simp[ints]
  repeat' (first|apply p|(refine aE (λhc=>?_) (λhc=>?_) <;>(try simp only[aan,aac] at hc) <;>simp[hc,ints])|fail)
  repeat' first|apply nI|(refine eI ais λK p=>?_;simp[ints,I,bne];apply p)
  refine amF (λd T B lv nx=>∃k,k+d=a.length/\T 0=ints a/\T 1=ints b/\T 12=.i .i64 a.length/\T 13=.i .i64 k/\a.take k=b.take k) a.length ?_ ?_
  ·exact⟨0,by simp,by rfl,by rfl,by simp,by simp,by simp⟩
  ·rintro d T B lv nx ⟨k,hk,t0,t1,t12,t13,hp⟩;have w1:=aS ((k:Int)+1);by_cases H:k<a.length
   ·have E:k<b.length:=by omega
    have L:a[k]?=some a[k]:=aaf H;have J:b[k]?=some b[k]:=aaf E;have N:(a.map (AV.i .i64)).drop k=.i .i64 a[k]::(a.map (AV.i .i64)).drop (k+1):=by grind [List.drop_eq_getElem_cons]
    have M:(b.map (AV.i .i64)).drop k=.i .i64 b[k]::(b.map (AV.i .i64)).drop (k+1):=by grind [List.drop_eq_getElem_cons]
    have U:a.take (k+1)=a.take k++ [a[k]]:=aaN H;have Y:b.take (k+1)=b.take k++ [b[k]]:=aaN E;generalize a[k]=x at L N U;generalize b[k]=y at J M Y;cases O:(x==y) with
    |true=>
     have Z:x=y:=by grind
     repeat' first|apply nI|(refine eI ais λK p=>?_;simp[t0,t1,t12,t13,ints,H,E,L,J,N,M,bne,O,w1];apply p)
     refine aN (d-1) ⟨k+1,by omega,by rfl,by rfl,by rfl,by simp,by simp_all⟩
    |false=>
     have cr:(a==b)=false:=by
      grind
     repeat' first|apply nI|(refine eI ais λK p=>?_;simp[t0,t1,t12,t13,ints,H,E,L,J,N,M,bne,O,w1];apply p)
     simp_all [Dn,aH]
   ·have W:k=a.length:=by omega
    subst W;have he:(a==b)=true:=by
     grind
    repeat' first|apply nI|(refine eI ais λK p=>?_;simp[t12,t13];apply p)
    simp_all [Dn,aH]
 ·have I:((a.length:Int)==b.length)=false:=by grind
  have cr:(a==b)=false:=by
   grind
  repeat apply nI
  refine eI ais ?_;intro K p;simp[ints]
  repeat' (first|apply p|(refine aE (λhc=>?_) (λhc=>?_) <;>(try simp only[aan,aac] at hc) <;>simp[hc,ints])|fail)
  repeat' first|apply nI|(refine eI ais λK p=>?_;simp[ints,I,bne];apply p)
  simp_all [Dn,aH]
theorem Dc(h:ay)(w:List UInt8)(n:Int)(p:Nat)(hw:w.length=10)(N:0<=n)(hn:n<=99999)(hl:p<=5):
  aq P 141 [.ag (ao w),.sp (aj h (bF h)),.sp [.i .i64 n],.sp [.i .i64 p]] (strs [bS h w n p]):=by
 obtain⟨A,M,E⟩:=ca (JN (P:=P) h (bF h) w n p hw N hn hl);simp only[aj,o6,aaT,aaV] at E;have H:(ao w).length=10:=by grind [ao]
 have I:List.take 10 (ao w)=ao w:=aa1 (by omega);have L:=bY w;refine fi (ak (aR Tryz.func142) M (au P)) (lf Tryz.func141) ?_
 repeat' first|apply nI|(refine eI aiX λK J=>?_;simp[aj,o6,H,I,L,ab,E];apply J)
 simp[Dn,aH,Tryz.f141,strs]
def qT(h:ay)(ws:List (List UInt8))(n:Int)(p:Nat):List (List UInt8):=uS (ws.map λw=>bS h w n p)
theorem rT{α β:Type}(f:α->β)(l:List α):(l.flatMap λx=> [f x])=l.map f:=by
 induction l with
 |nil=>rfl
 |cons a l p=>simp_all
theorem vZ(h:ay)(ws:List (List UInt8))(H:∀w∈ws,w.length=10)(hc:ws.length<100000000)(n:Int)(p:Nat)(M:0<=n)(hn:n<=99999)(hl:p<=5):
  aq P 86 [.ag (aj h (bF h)),.sq none 10 (amE ws),.i .i64 n,.i .i64 p] (strs (qT h ws n p)):=by
 have J:aq P 140 [.sq none 10 (amE ws),.fn 141 [] [.sp (aj h (bF h)),.sp [.i .i64 n],.sp [.i .i64 p]]] (strs (qT h ws n p)):=by
  unfold qT;rw[<-rT];refine Fc ws H hc (λw=> [bS h w n p]) 141 [] [.sp (aj h (bF h)),.sp [.i .i64 n],.sp [.i .i64 p]] (aR Tryz.func141) rfl (by simp) (λw hw=>?_) ?_
  ·grind [Dc]
  ·rw[rT,abz];omega
 obtain⟨A,L,E⟩:=ca J;simp only[aj,o6,aaT,aaV] at E;refine fi (ak (aR Tryz.func140) L (au P)) (lf Tryz.func86) ?_
 repeat' first|apply nI|(refine eI [0,1,2,3,4,6,7,8] λK I=>?_;simp[aj,o6,ab,E,strs];apply I)
 simp[Dn,aH,Tryz.f86,strs]
theorem nz{n g:Int}(h:bN [aV n g]=0):0<=n/\n<=99999/\1<=g/\g<=5/\aV n g=0:=by
 grind [aV,bN]
def cM(h:ay)(n g:Int):List (List UInt8):=qT h (aB h) n g.toNat
theorem v7(h:ay)(hm:j9 h)(n g:Int):aq P 23 [.ag (o6 h),.i .i64 n,.i .i64 g] (.tu [strs (bK h [aV n g] (cM h n g) []),.i .i64 (bJ h [aV n g])]):=by
 obtain⟨A,J,p⟩:=kA (P:=P) h hm [aV n g] (by simp);obtain⟨B,I,H⟩:=ca (tU (P:=P) n g);simp only[o6,List.map_cons,List.map_nil] at p;by_cases ho:bJ h [aV n g]=0
 ·have hr:bZ h [aV n g]=opened h:=by grind [bZ]
  rw[hr] at p;simp only[opened,aj,o6,aaT,aaV] at p;obtain⟨hc,fM,_⟩:=ij ho;obtain⟨b1,b2,W,U,O⟩:=nz fM;have N:(g.toNat:Int)=g:=by omega
  obtain⟨C,M,hC⟩:=ca (vZ (P:=P) h (aB h) (cI hc) (jc hc) n g.toNat b1 b2 (by omega));rw[N] at hC;simp only[aj,o6,aaT,aaV,strs] at hC;refine fi (ak (aR Tryz.func74) J (ak (aR Tryz.func85) I (ak (aR Tryz.func86) M (au P)))) (lf Tryz.func23) ?_
  repeat' first|apply nI|(refine eI [0,1,2,3,6,7,8,9,10,22] λK E=>?_;simp[o6,ab,az,p,H,hC,bne];apply E)
  simp_all [Dn,dc,aH,bK,strs,cM]
 ·have hr:bZ h [aV n g]=cG (bJ h [aV n g]):=by grind [bZ]
  rw[hr] at p;simp only[cG,dQ] at p;have L:(bJ h [aV n g]==0)=false:=by grind
  refine fi (ak (aR Tryz.func74) J (ak (aR Tryz.func85) I (au P))) (lf Tryz.func23) ?_
  repeat' first|apply nI|(refine eI [0,1,2,3,6,7,8,9,10,22] λK E=>?_;simp[o6,ab,az,p,H,bne,L];apply E)
  simp_all [Dn,dc,aH,bK,strs]
def il(h:ay)(ws:List (List UInt8))(s:List UInt8):List Int:=uI (ws.flatMap λw=>(bf h w s (-1) 0 false).map (·.1))
theorem GY(h:ay)(hc:aO h=0)(n:Int)(s:List UInt8)(hs:s.length<=5):
  aq P 93 [.s s,.sp [.sq none 10 (amE (aB h))],.sp (aj h (bF h)),.sp [.i .i64 n]] (.b (!(il h (aB h) s== [n]))):=by
 have H:=fI hc _ λw hw=>mI h w s hs
 have J:aq P 76 [.sq none 10 (amE (aB h)),.fn 82 [.ag (dh h s 0)] []] (ints (il h (aB h) s)):=by
  refine lu (aB h) (cI hc) (jc hc) _ 82 [.ag (dh h s 0)] [] (aR Tryz.func82) (by simp) rfl (λw hw=>?_) H;exact ru (P:=P) h w s 0 (cI hc w hw) (dO h hc).al (aaY hs (by decide))
 obtain⟨C,M,hC⟩:=ca J;have hle:(il h (aB h) s).length<=4000000000000:=aaY (kX _) H;obtain⟨E,L,p⟩:=ca (HT (P:=P) (il h (aB h) s) [n] (by omega) (by simp));simp only[dh,aj,o6,aaT,aaV,ints,List.map_cons,List.map_nil] at hC p;refine fi (ak (aR Tryz.func76) M (ak (aR Tryz.func94) L (au P))) (lf Tryz.func93) ?_
 repeat' first|apply nI|(refine eI [0,1,2,3,5] λK I=>?_;simp[aj,o6,ab,az,hC,p];apply I)
 simp[Dn,aH,Tryz.f93]
def ig(h:ay)(n g:Int):Bool:= !(cM h n g).any λs=> !(il h (aB h) s== [n])
theorem aoF(h:ay)(hm:j9 h)(n g:Int):aq P 28 [.ag (o6 h),.i .i64 n,.i .i64 g] (.tu [.b (bK h [aV n g] (ig h n g) false),.i .i64 (bJ h [aV n g])]):=by
 obtain⟨A,M,p⟩:=kA (P:=P) h hm [aV n g] (by simp);obtain⟨B,L,J⟩:=ca (tU (P:=P) n g);simp only[o6,List.map_cons,List.map_nil] at p;by_cases ho:bJ h [aV n g]=0
 ·have hr:bZ h [aV n g]=opened h:=by grind [bZ]
  rw[hr] at p;simp only[opened,aj,o6,aaT,aaV] at p;obtain⟨hc,fM,_⟩:=ij ho;obtain⟨b1,b2,b3,b4,b5⟩:=nz fM;have Y:(g.toNat:Int)=g:=by omega
  obtain⟨C,W,hC⟩:=ca (vZ (P:=P) h (aB h) (cI hc) (jc hc) n g.toNat b1 b2 (by omega));rw[Y] at hC;have hlen:∀s∈cM h n g,s.length<=5:=λs hs=>by
   obtain⟨w,_,rfl⟩:=ac4.1 ((lW _ s).1 hs)
   grind [pQ]
  have Z:(cM h n g).length<1000000:=by
   have h1:(cM h n g).length<=((aB h).map λw=>bS h w n g.toNat).length:=kX _
   grind [sP]
  obtain⟨D,U,hD⟩:=cC (P:=P) (f:=93) (ι:=List UInt8) (λs=> [.s s,.sp [.sq none 10 (amE (aB h))],.sp (aj h (bF h)),.sp [.i .i64 n]]) (λs=>.b (!(il h (aB h) s== [n]))) (λs=>s.length<=5) (λx y _ _ e=>by
   simp_all) (λs hs=>GY h hc n s hs)
  obtain⟨E,O,I⟩:=ca (me (P:=P) (tb:=bW 93 D a_) (ak (aR Tryz.func93) U (au P)) ⟨λ_ _=>rfl,λ_ _ _=>rfl⟩ 93 [.sp [.sq none 10 (amE (aB h))],.sp (aj h (bF h)),.sp [.i .i64 n]] (cM h n g) (λs=> !(il h (aB h) s== [n])) (λs hs=>by
   grind [ab]) Z)
  simp only[aj,o6,aaT,aaV,strs] at hC I;have bH:(amE (aB h)).map AV.strip=amE (aB h):=by simp_all [List.map_flatMap,bY,amE]
  refine fi (ak (aR Tryz.func74) M (ak (aR Tryz.func85) L (ak (aR Tryz.func86) W (ak (aR Tryz.func92) O (au P))))) (lf Tryz.func28) ?_;unfold cM at I
  repeat' first|apply nI|(refine eI [0,1,2,3,4,6,7,8,9,10,11,23] λK H=>?_;simp[o6,ab,az,p,J,hC,I,bne];apply H)
  simp_all [Dn,dc,aH,bK,ig,cM]
 ·have hr:bZ h [aV n g]=cG (bJ h [aV n g]):=by grind [bZ]
  rw[hr] at p;simp only[cG,dQ] at p;have N:(bJ h [aV n g]==0)=false:=by grind
  refine fi (ak (aR Tryz.func74) M (ak (aR Tryz.func85) L (au P))) (lf Tryz.func28) ?_
  repeat' first|apply nI|(refine eI [0,1,2,3,4,6,7,8,9,10,11,23] λK H=>?_;simp[o6,ab,az,p,J,bne,N];apply H)
  simp_all [Dn,dc,aH,bK]
end
def ahi:=@Bool.not_eq_true
def qn(w:List UInt8)(c:UInt8):Int:=match w.findIdx? (· ==c) with
 |some k=>k
 |none=> -1
theorem NF(w:List UInt8)(c:UInt8)(k:Nat)(hk:k<w.length)(hn:c∉w.take k)(he:w[k]=c):qn w c=k:=by
 have:w.findIdx? (· ==c)=some k:=by
  rw[List.findIdx?_eq_some_iff_getElem];refine⟨hk,by grind,λj E=>?_⟩;have p:j<w.length:=by omega
  simp only[ahi,ady]
  grind [List.mem_take_iff_getElem]
 unfold qn;grind
theorem Ky(w:List UInt8)(c:UInt8)(hn:c∉w):qn w c= -1:=by
 grind [qn]
theorem Kf(w:List UInt8)(c:UInt8):placeOf w c=if qn w c<0 then -1 else(qn w c+1)%10:=by
 unfold placeOf qn
 grind
section
variable{P:Program}[l:cL P]
theorem Hi(w:List UInt8)(c:UInt8)(hl:w.length<1000000):aq P 177 [.sq none 1 (ao w),.i .u8 c.toNat] (.i .i64 (qn w c)):=by
 refine fi (au P) (lf Tryz.func177) ?_;have H:(ao w).length=w.length:=by simp[ao]
 repeat apply nI
 refine eI aib ?_;intro K p;simp
 repeat' (first|apply p|(refine aE (λhc=>?_) (λhc=>?_) <;>(try simp only[aan,aac] at hc) <;>simp[hc])|fail)
 repeat apply nI
 refine eI aib ?_;intro K p;simp[H]
 repeat' (first|apply p|(refine aE (λhc=>?_) (λhc=>?_) <;>(try simp only[aan,aac] at hc) <;>simp[hc,H])|fail)
 repeat apply nI
 refine amF (λd T B lv nx=>∃k,k+d=w.length/\T 0=.sq none 1 (ao w)/\T 1=.i .u8 c.toNat/\T 7=.i .i64 w.length/\T 8=.i .i64 k/\c∉w.take k) w.length ?_ ?_
 ·simp_all
 ·rintro d T B lv nx ⟨k,hk,t0,t1,t7,t8,hp⟩;have w1:=aS ((k:Int)+1);by_cases E:k<w.length
  ·have I:=v8 w k E;cases hc:(c==w[k]) with
   |true=>
    have he:w[k]=c:=by simp_all
    have hb:((c.toNat:Int)==(w[k].toNat:Int))=true:=by simp_all
    repeat' first|apply nI|(refine eI aib λK p=>?_;simp[t0,t1,t7,t8,E,H,I,hb];apply p)
    simp[Dn,aH,Tryz.f177,NF w c k E hp he]
   |false=>
    have he:¬w[k]=c:=λe=>by simp_all
    have hb:((c.toNat:Int)==(w[k].toNat:Int))=false:=by grind [dV]
    repeat' first|apply nI|(refine eI aib λK p=>?_;simp[t0,t1,t7,t8,E,H,I,hb,w1];apply p)
    refine aN (d-1) ⟨k+1,by omega,by rfl,by rfl,by rfl,by simp,D_ w c k E hp he⟩
  ·have J:k=w.length:=by omega
   subst J;have hn:c∉w:=by grind
   repeat' first|apply nI|(refine eI aib λK p=>?_;simp[t7,t8];apply p)
   simp_all [Ky,Dn,aH]
theorem L7:P.underlying 116=some (.array 10 5):=by simp_all [aX]
theorem yG{g:Gh}{w:World}{t e:TypeId}{n:Nat}(ht:P.underlying t=some (.array n e))(he:bL P e=true)(hs:aQ P e=1)(hn:0<n){cells:List AV}(hc:cells.length=n){y:Value}(hr:Rd g w (.sp cells) y):∃z,(Instr.sliceAt t y none none none).run P w=.ok z w/\Rd g w (.sq none 1 cells) z:=by
 obtain⟨j,v,p,_,_,_,M,_⟩:=dy he;have L:P.arrayLen t=n:=by grind [Program.arrayLen]
 have J:P.elem t=e:=by grind [Program.elem]
 cases hr with
 |sp _ b o ys h1 I H E=>
  have hrun:=run_sliceAt_array_all (P:=P) w t ⟨b,o,none⟩ (by simp_all);rw[L,J] at hrun;refine⟨_,by rw[hrun,ew p];rfl,?_⟩;show Rd g w _ (.slice (some (if n=0 then _ else _)) (n-0) (n-0));rw[aat (by omega)];have ha:∀q,(⟨b,o,none⟩:Addr).add (0*q)=⟨b,o,none⟩:=λq=>by rw[Nat.zero_mul,anA,aeS]
  rw[ha];exact .sq none 1 cells b o n n ys (by omega) h1 (by omega) (aax _) I H E
theorem Lb(w:List UInt8)(c:UInt8)(hw:w.length=10):aq P 153 [.ag (ao w),.i .u8 c.toNat] (.i .i64 (placeOf w c)):=by
 obtain⟨A,N,M⟩:=ca (Hi (P:=P) w c (by omega));have J:(ao w).length=10:=by grind [ao]
 have U:=bY w;refine gG (lf (P:=P) Tryz.func153) rfl (Nat.le_of_ble_eq_true rfl) (λg0 w0=>?_);have H:jb P (bW 177 A a_) g0:=.of (ak (aR Tryz.func177) N (au P)) ⟨λ_ _=>rfl,λ_ _ _=>rfl⟩;refine bO ?_;refine bD ?_ (aY (tb:=bW 177 A a_) (mt:=λ_=>false) (Q:=λe s1=>e=.normal/\s1.T 1=.i .u8 c.toNat/\s1.T 2=.sp (ao w)/\s1.n=14) H mixed ?_)
 rotate_left
 ·
  repeat apply nI
  refine eI [0,1,2,4,5,10] ?_;simp_all
 rintro e ⟨T,Y,lv,nx,n⟩ ⟨rfl,t1,t2,rfl⟩;simp only at t1 t2;refine bO ?_;refine je (tb:=bW 177 A a_) (mt:=λ_=>false) (o:=?o) 0 H ?hk ?hg ?hh
 case hk=>exact rfl
 case hg=>exact rfl
 intro K p;simp[t1];refine p _ ⟨_,xC (z:=.sq none 1 (ao w)) rfl rfl ?hd ?hrun,?post⟩
 case hd=>simp_all
 case hrun=>
  intro g w' m a O;have I:Rd g w' (.sp (ao w)) (a.eval (.tmp 2)):=aqs O (by omega) (by simp);obtain⟨z,z1,z2⟩:=yG (P:=P) (t:=116) L7 (by simp) (by simp) (by omega) J I
  simp_all [execOp]
 case post=>
  rintro s2 rfl;refine⟨rfl,?_⟩;simp[upd,t1,ab,M];refine aY (tb:=a_) (mt:=λ_=>false) (.of (au P) ⟨λ_ _=>rfl,λ_ _ _=>rfl⟩) mixed ?_;have hp:=Kf w c;have W:=GZ w c;by_cases E:qn w c<0
  ·rw[aay E] at hp
   repeat' first|apply nI|(refine eI [0,1,2,4,5,10] λK p=>?_;simp[E];apply p)
   simp_all [Dn,aH]
  ·rw[aat E] at hp;have L:qn w c<10:=by
    have:qn w c<=9:=by
     unfold qn;cases hf:w.findIdx? (· ==c) with
     |none=>simp
     |some k=>
      grind [List.findIdx?_eq_some_iff_getElem]
    omega
   have w1:=aS (qn w c+1);have hm:(qn w c+1).tmod 10=(qn w c+1)%10:=ae6 (by omega)
   repeat' first|apply nI|(refine eI [0,1,2,4,5,10] λK p=>?_;simp[E,w1,hm];apply p)
   simp_all [Dn,aH]
def digitsOf(w:List UInt8)(c:UInt8):List Int:=if 0<=placeOf w c then[placeOf w c] else[]
theorem HW(h:ay)(w:List UInt8)(c:UInt8)(hw:w.length=10):aq P 114 [.ag (dh h [c] 0),.ag (ao w)] (ints (digitsOf w c)):=by
 obtain⟨A,M,H⟩:=ca (Lb (P:=P) w c hw);have I:(ao w).length=10:=by grind [ao]
 have J:List.take 10 (ao w)=ao w:=aa1 (by omega);have L:=bY w;refine fi (ak (aR Tryz.func153) M (au P)) (lf Tryz.func114) ?_;unfold digitsOf;generalize placeOf w c=p at H;by_cases hp:0<=p
 ·repeat' first|apply nI|(refine eI [0,1,2,3,4,5,12] λK E=>?_;simp[dh,aj,o6,I,J,L,ab,H,hp];apply E)
  simp_all [Dn,aH,ints]
 ·repeat' first|apply nI|(refine eI [0,1,2,3,4,5,12] λK E=>?_;simp[dh,aj,o6,I,J,L,ab,H,hp];apply E)
  simp_all [Dn,aH,ints]
def CD(h:ay)(s:List UInt8):List Int:=match s with
 | []=> []
 |c::_=>uI ((aB h).flatMap λw=>digitsOf w c)
theorem HX(h:ay)(hm:j9 h)(s:List UInt8)(hs:s.length<1000000):aq P 51 [.ag (o6 h),.s s] (.tu [ints (bK h [eN s] (CD h s) []),.i .i64 (bJ h [eN s])]):=by
 obtain⟨A,J,p⟩:=kA (P:=P) h hm [eN s] (by simp);obtain⟨B,I,H⟩:=ca (Em (P:=P) s hs);simp only[o6,List.map_cons,List.map_nil] at p;by_cases ho:bJ h [eN s]=0
 ·have hr:bZ h [eN s]=opened h:=by grind [bZ]
  rw[hr] at p;simp only[opened,aj,o6,aaT,aaV] at p;obtain⟨hc,fM,_⟩:=ij ho;have O:s.length=1:=by
   refine aaO λhn=>?_
   grind [eN,bN]
  obtain⟨c,rfl⟩:=aeR.1 O;have M:aq P 76 [.sq none 10 (amE (aB h)),.fn 114 [.ag (dh h [c] 0)] []] (ints (CD h [c])):=by
   refine lu (aB h) (cI hc) (jc hc) _ 114 [.ag (dh h [c] 0)] [] (aR Tryz.func114) (by simp) rfl (λw hw=>?_) (fI hc _ λw hw=>?_)
   ·grind [HW,cI]
   grind [digitsOf]
  obtain⟨C,N,hC⟩:=ca M;simp only[dh,aj,o6,aaT,aaV,ints] at hC;refine fi (ak (aR Tryz.func74) J (ak (aR Tryz.func113) I (ak (aR Tryz.func76) N (au P)))) (lf Tryz.func51) ?_
  repeat' first|apply nI|(refine eI aiG λK E=>?_;simp[o6,ab,az,p,H,hC,bne];apply E)
  simp_all [Dn,dc,aH,bK,ints]
 ·have hr:bZ h [eN s]=cG (bJ h [eN s]):=by grind [bZ]
  rw[hr] at p;simp only[cG,dQ] at p;have L:(bJ h [eN s]==0)=false:=by grind
  refine fi (ak (aR Tryz.func74) J (ak (aR Tryz.func113) I (au P))) (lf Tryz.func51) ?_
  repeat' first|apply nI|(refine eI aiG λK E=>?_;simp[o6,ab,az,p,H,bne,L];apply E)
  simp_all [Dn,dc,aH,bK,ints]
def nX(w:List UInt8)(d:Int):UInt8:=w.getD ((d+9)%10).toNat 0
theorem BV(w:List UInt8)(d:Int)(hw:w.length=10)(h0:0<=d)(I:d<=9):aq P 106 [.ag (ao w),.sp [.i .i64 d]] (.sq none 1 (ao [nX w d])):=by
 have M:(ao w).length=10:=by grind [ao]
 have J:=bY w;have p:0<=(d+9)%10/\(d+9)%10<10:=by omega
 have E:((d+9)%10).toNat<w.length:=by omega
 have L:=v8 w ((d+9)%10).toNat E;have hl:nX w d=w[((d+9)%10).toNat]:=by grind [nX]
 refine fi (ak (aR Tryz.func107) wS (au P)) (lf Tryz.func106) ?_
 repeat' first|apply nI|(refine eI [0,1,2,3] λK H=>?_;simp[J,ab,lA,h0,I,p.1,p.2,L];apply H)
 simp_all [Dn,aH,ao]
def nW(h:ay)(d:Int):List UInt8:=(aB h).map λw=>nX w d
theorem El(h:ay)(hm:j9 h)(d:Int)(ho:bJ h [mT d]=0)(h1:(aB h).length<=1):aq P 46 [.ag (o6 h),.i .i64 d] (.tu [.s (nW h d),.i .i64 0]):=by
 obtain⟨A,N,p⟩:=kA (P:=P) h hm [mT d] (by simp);obtain⟨B,M,I⟩:=ca (HY (P:=P) d);simp only[o6,List.map_cons,List.map_nil] at p;have hr:bZ h [mT d]=opened h:=by grind [bZ]
 rw[hr] at p;simp only[opened,aj,o6,aaT,aaV] at p;obtain⟨hc,fM,_⟩:=ij ho;have hd:0<=d/\d<=9:=by
  refine aaO λhn=>?_
  grind [mT,bN]
 have H:aq P 105 [.sq none 10 (amE (aB h)),.fn 106 [] [.sp [.i .i64 d]]] (.sq none 1 (ao (nW h d))):=by
  unfold nW;rw[<-rT];refine Fe (aB h) (cI hc) (jc hc) (λw=> [nX w d]) 106 [] [.sp [.i .i64 d]] (aR Tryz.func106) rfl (by simp) (λw hw=>?_) ?_
  ·grind [BV,cI]
  simp_all [rT]
 obtain⟨C,L,hC⟩:=ca H;have J:=mZ (nW h d);refine fi (ak (aR Tryz.func74) N (ak (aR Tryz.func104) M (ak (aR Tryz.func105) L (au P)))) (lf Tryz.func46) ?_
 repeat' first|apply nI|(refine eI [0,1,2,3,4,5,7,8,19] λK E=>?_;simp[o6,ab,az,p,I,hC,bne,J];apply E)
 simp[Dn,dc,aH,Tryz.f46]
end
@[simp] abbrev ahX:List Nat:=[0,1,2,4,5,6,7,8,9,10,12,14,26,28,29,30,31,41,42,43,44,60,63]
def allM(h:ay)(t:Tag)(ws:List (List UInt8)):List (Int×Bool):=ws.flatMap λw=>cF h w t
def VC(L:List (Int×Bool)):Int:=if(L.any λm=> !m.2)=false then 1 else if(L.any (·.2))=false then 2 else 0
def vE(h:ay)(i:Int):Int:=match h.tags[i.toNat]? with
 |some t=>VC (allM h t (aB h))
 |none=>0
theorem FN{α:Type}(p:α->Bool)(l:List α)(k:Nat)(hk:k<l.length):(l.take (k+1)).any p=((l.take k).any p||p l[k]):=by
 grind [List.take_succ_eq_append_getElem]
theorem Kq(l:List (Int×Bool))(j:Nat)(p:j<l.length):(bt l).drop (j*2)=.i .i64 l[j].1::.b l[j].2::bt (l.drop (j+1)):=ln l j l[j] (aaf p)
theorem Ef(l:List (Int×Bool)):(bt l).length=l.length*2:=by
 induction l with
 |nil=>rfl
 |cons a l p=>grind [bt,zY]
section
variable{P:Program}[l:cL P]
set_option maxHeartbeats 4000000 in
theorem Ec(h:ay)(hm:j9 h)(i:Int):aq P 26 [.ag (o6 h),.i .i64 i] (.tu [.i .i64 (bK h [iN h i] (vE h i) 0),.i .i64 (bJ h [iN h i])]):=by
 obtain⟨A,ad,H⟩:=kA (P:=P) h hm [iN h i] (by simp);obtain⟨B,bd,hB⟩:=ca (Dw (P:=P) h i hm.m);simp only[o6,List.map_cons,List.map_nil] at H;simp only[eG,o6] at hB;by_cases ho:bJ h [iN h i]=0
 ·have hr:bZ h [iN h i]=opened h:=by grind [bZ]
  rw[hr] at H;simp only[opened,aj,o6,aaT,aaV] at H;obtain⟨hc,fM,_⟩:=ij ho;have TL:0<=i/\i<h.tags.length:=by
   refine aaO λhn=>?_
   grind [iN,bN]
  have I8:i.toNat<h.tags.length:=by omega
  have V1:h.tags[i.toNat]?=some h.tags[i.toNat]:=aaf I8;have M:vE h i=VC (allM h h.tags[i.toNat] (aB h)):=by unfold vE;grind
  have ht5:=qW hc (abG I8);generalize h.tags[i.toNat]=t at V1 M ht5;obtain⟨C,cd,hC⟩:=zJ (P:=P) h (dO h hc).al;have vl:=fA h.tags i.toNat t V1;have kN:=cV h.tags;have hle:(i.toNat+1)*3<=h.tags.length*3:=by omega
  have pc:=cI hc;have aoi:=sP hc;have F3:(amE (aB h)).length=(aB h).length*10:=by grind [fy]
  have anv:(amE (aB h)).map AV.strip=amE (aB h):=by simp_all [List.map_flatMap,bY,amE]
  generalize pb:aB h=ws at *;refine fi (ak (aR Tryz.func74) ad (ak (aR Tryz.func75) bd (ak (aR Tryz.func89) cd (au P)))) (lf Tryz.func26) ?_
  repeat' first|apply nI|(refine eI ahX λK p=>?_;simp[o6,ab,az,H,hB,bne,F3];apply p)
  refine amF (λd T B lv nx=>∃k,k+d=ws.length/\T 1=.i .i64 i/\T 2=.sp (o6 h)/\T 6=.bx 13 0/\B 13=some (false,aj h (bF h))/\17<=nx/\T 28=.sq none 10 (amE ws)/\T 29=.i .i64 ws.length/\T 30=.i .i64 k/\T 9=.b ((allM h t (ws.take k)).any (·.2))/\T 10=.b ((allM h t (ws.take k)).any λm=> !m.2)) ws.length ?_ ?_
  ·exact⟨0,by simp,by simp,by rfl,by simp,by rfl,by simp,by simp,by simp,by simp,by rfl,by rfl⟩
  ·rintro d T B lv nx ⟨k,hk,t1,t2,t6,U,hnx,t28,t29,t30,t9,t10⟩;by_cases W:k<ws.length
   ·have Z:=pc ws[k] (abG W);have C7:=zr ws pc k W;have I6:(k+1)*10<=ws.length*10:=by omega
    have lr:(ao ws[k]).length=10:=by grind [ao]
    have h9:9<10+(amE (ws.drop (k+1))).length:=by omega
    have jF:(ao ws[k]++amE (ws.drop (k+1))).take 10=ao ws[k]:=by simp_all
    have agc:(ao ws[k]).take 10=ao ws[k]:=aa1 (by omega);have bH:=bY ws[k];have N2:lay [.i .u8 0,.i .u8 0,.i .u8 0,.i .u8 0,.i .u8 0,.i .u8 0,.i .u8 0,.i .u8 0,.i .u8 0,.i .u8 0] 0 (ao ws[k])=ao ws[k]:=by simp_all
    have E:=hC ws[k] t Z (by omega);have gU:allM h t (ws.take (k+1))=allM h t (ws.take k)++cF h ws[k] t:=by
     unfold allM;rw[aaN W,aft]
     simp_all
    have hRb:(cF h ws[k] t).length<=161051:=by
     grind [kz]
    have w1:=aS ((k:Int)+1);generalize hs0:(allM h t (ws.take k)).any (·.2)=s0 at t9;generalize NZ:((allM h t (ws.take k)).any λm=> !m.2)=n0 at t10;generalize hRL:cF h ws[k] t=L at E gU hRb;have N:=Ef L;simp only[aj,o6,fP,aaT,aaV] at E U;simp only[o6] at t2;have n1:¬13=nx+3:=by omega
    repeat' first|apply nI|(refine eI ahX λK p=>?_;simp[t1,t2,t6,U,t28,t29,t30,W,F3,I6,C7,lr,h9,jF,agc,bH,N2,n1,TL.1,TL.2,vl,kN,hle,ab,az,E,N];apply p)
    refine amF (λd' T B lv nx=>∃j,j+d'=L.length/\T 1=.i .i64 i/\T 2=.sp [.s h.L,.s h.S,.s h.R,.sq none 1 (h.alike.map .s),.sq none 3 (bI h.tags)]/\T 6=.bx 13 0/\B 13=some (false,[.s h.L,.s h.S,.s h.R,.sq none 1 (h.alike.map .s),.sq none 3 (bI h.tags),.mm (bF h)])/\17<=nx/\T 28=.sq none 10 (amE ws)/\T 29=.i .i64 ws.length/\T 30=.i .i64 k/\T 41=.sq none 2 (bt L)/\T 42=.i .i64 L.length/\T 43=.i .i64 j/\T 9=.b (s0||(L.take j).any (·.2))/\T 10=.b (n0||(L.take j).any λm=> !m.2)) L.length ?_ ?_
    ·exact⟨0,by simp,by rfl,by rfl,by rfl,by simp_all,by omega,by rfl,by rfl,by rfl,by simp,by simp,by simp,by simp[t9],by simp[t10]⟩
    ·rintro d' T B lv nx ⟨j,hj,t1,t2,t6,U,hnx,t28,t29,t30,t41,t42,t43,t9,t10⟩;by_cases Y:j<L.length
     ·have Wr:=Kq L j Y;have du:(j+1)*2<=L.length*2:=by omega
      have e1:=FN (·.2) L j Y;have e2:=FN (λm=> !m.2) L j Y;have w2:=aS ((j:Int)+1);have n1:¬13=nx+3:=by omega
      generalize (L.take j).any (·.2)=s1 at t9 e1;generalize ((L.take j).any λm=> !m.2)=J at t10 e2;generalize L[j].1=v at Wr;generalize L[j].2=o at Wr e1 e2;have Xy:(s0||(L.take (j+1)).any (·.2))=((s0||s1)||o):=by rw[e1,Bool.or_assoc]
      have O:(n0||(L.take (j+1)).any λm=> !m.2)=((n0||J)|| !o):=by rw[e2,Bool.or_assoc]
      generalize (s0||s1)=s2 at t9 Xy;generalize (n0||J)=n2 at t10 O;cases s2 <;>cases n2 <;>cases o
      all_goals (repeat' (first|apply nI|(refine eI ahX λK p=>?_;simp[t9,t10,t41,t42,t43,Y,N,du,Wr,n1,w2];apply p)|fail))
      all_goals exact aN (d'-1) ⟨j+1,by omega,by simp[t1],by simp[t2],by simp[t6],by simp[U,n1],by simp <;>omega,by simp[t28],by simp[t29],by simp[t30],by simp[t41],by simp[t42],by simp,by simp[Xy,t9],by simp[O,t10]⟩
     ·have ag5:j=L.length:=by omega
      subst ag5;rw[aeo] at t9 t10
      repeat' first|apply nI|(refine eI ahX λK p=>?_;simp[t42,t43,t30,w1];apply p)
      refine aN (d-1) ⟨k+1,by omega,by simp[t1],by simp[t2,o6],by simp[t6],by simp[U,aj,o6],by grind,by simp[t28],by simp[t29],by simp,?_,?_⟩
      ·simp[t9,gU,aeC,hs0]
      ·simp[t10,gU,aeC,NZ]
   ·have gg:k=ws.length:=by omega
    subst gg;rw[aeo] at t9 t10;have I:=M;unfold VC at I;generalize (allM h t ws).any (·.2)=sb at t9 I;generalize ((allM h t ws).any λm=> !m.2)=nb at t10 I;cases nb with
    |false=>
     repeat' first|apply nI|(refine eI ahX λK p=>?_;simp[t29,t30,t10];apply p)
     simp[Dn,dc,aH,Tryz.f26,bK,ho,I]
    |true=>
     cases sb with
     |false=>
      repeat' first|apply nI|(refine eI ahX λK p=>?_;simp[t29,t30,t9,t10];apply p)
      simp[Dn,dc,aH,Tryz.f26,bK,ho,I]
     |true=>
      repeat' first|apply nI|(refine eI ahX λK p=>?_;simp[t29,t30,t9,t10];apply p)
      simp[Dn,dc,aH,Tryz.f26,bK,ho,I]
 ·have hr:bZ h [iN h i]=cG (bJ h [iN h i]):=by grind [bZ]
  rw[hr] at H;simp only[cG,dQ] at H;have uH:(bJ h [iN h i]==0)=false:=by grind
  refine fi (ak (aR Tryz.func74) ad (ak (aR Tryz.func75) bd (au P))) (lf Tryz.func26) ?_
  repeat' first|apply nI|(refine eI ahX λK p=>?_;simp[o6,ab,az,H,hB,bne,uH];apply p)
  simp_all [Dn,dc,aH,bK]
end
end Go.Proofs.YtjagmhagphbfcaaGreatDoor
