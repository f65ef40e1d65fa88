/- Lemmas, part 17. -/
import Derived.Lib.OthersKept
import Derived.Test.YtjagmhagphbfcaaGreatDoorO16
set_option maxRecDepth 100000
set_option linter.all false
namespace Go.Proofs.YtjagmhagphbfcaaGreatDoor
open Go Go.Proofs
section
variable{P:Program}{tb:qd}{mt:Nat->Bool}{g0:Gh}{w0:World}{fr:Nat->Prop}{s:AS}{g:Gh}{w:World}{m:Mem}{tmps:Array Value}
theorem SR.Uv(h:SR P g0 w0 fr s g w m tmps){ex':(Nat->Nat)->(Nat->Option (Value->Option AV))->World->Prop}{pin':Nat->Option Nat}(hm:∀g g' w w',Lw g g' w w'->ex' g.hw g.aD w->ex' g'.hw g'.aD w')(hs:ex' g.hw g.aD w)(hp:∀id b,pin' id=some b->¬fr id/\m.bm id=b):
  SR P { g0 with ex:=ex',iF:=pin' } w0 fr s g w m tmps:= {
 size:=h.size,tmps:=h.tmps,free:=h.free,boxes:=h.boxes,cD:=h.cD,cB:=h.cB,c_:=h.c_,vd:=h.vd,wi:=h.wi
 ext:=⟨h.ext.1,h.ext.2,h.ext.3,h.ext.4,h.ext.5,h.ext.6,h.ext.7,h.ext.8⟩
 keeps:=⟨h.keeps.1,h.keeps.2,h.keeps.3⟩
 gi:=hm,fV:=hs,pins:=hp }
def lz(g0:Gh)(g:Gh)(w:World):(Nat->Nat)->(Nat->Option (Value->Option AV))->World->Prop:=λhw aD w'=>g0.ex hw aD w'/\Ss g w hw aD w'
theorem rZ(hm:∀g g' w w',Lw g g' w w'->g0.ex g.hw g.aD w->g0.ex g'.hw g'.aD w')(g1:Gh)(w1:World):∀g g' w w',Lw g g' w w'->lz g0 g1 w1 g.hw g.aD w->lz g0 g1 w1 g'.hw g'.aD w':=
 λJ I L H E p=>⟨hm _ _ _ _ E p.1,(Lw.trans (g2:=J) ⟨p.2.1,p.2.2,p.2.3,p.2.4,p.2.5,p.2.6,p.2.7,p.2.8⟩ E:Lw g1 I w1 H)|>λq=>⟨q.1,q.2,q.3,q.4,q.5,q.6,q.7,q.8⟩⟩
theorem rY(hs:g0.ex g.hw g.aD w):lz g0 g w g.hw g.aD w:=⟨hs,aax _,λ_=>aax _,λ_ _ _=>rfl,λ_ _ e=>e,rfl,rfl,rfl,λ_ _ e _=>e⟩
theorem jb.Uv(p:jb P tb g0)(g:Gh)(w:World):jb P tb { g0 with ex:=lz g0 g w } :=
 ⟨p.1,p.2.1,λf args wd r hr=>by
  obtain⟨h1,h2,E⟩:=p.2.2 f args wd r hr;exact⟨h1,h2,λhw aD w' he=>E hw aD w' he.1⟩⟩
def QE(P:Program)(g0:Gh)(w0:World)(g:Gh)(w:World)(Q:Ex->AS->Prop)(e:Exit)(a:Act)(w':World):Prop:=
 ∃x s g' m',c8 e=some x/\Q x s/\SR P g0 w0 (λj=>s.nx<=j) s g' w' m' a.tmps/\a.defers= []/\Lw g g' w w'
theorem vQ(I:jb P tb g0)(hm:P.follows .mixedOrders=true){c:Code}{Q:Ex->AS->Prop}{a:Act}(h:awp P tb mt c Q s)(E:SR P g0 w0 (λj=>s.nx<=j) s g w m a.tmps)(J:a.defers= []):c.wp P (QE P g0 w0 g w Q) a w:=by
 have h1:SR P { g0 with ex:=lz g0 g w } w0 (λj=>s.nx<=j) s g w m a.tmps:=E.Uv (rZ E.gi g w) (rY E.fV) E.pins;refine wp_mono (fj (I.Uv g w) hm c Q s a w h ⟨g,m,h1,J⟩) ?_;rintro e a' w' ⟨x,s',he,hq,g',m',p,H⟩;obtain⟨k1,k2⟩:=p.fV;exact⟨x,s',g',m',he,hq,p.Uv (ex':=g0.ex) (pin':=g0.iF) E.gi k1 p.pins,H,⟨k2.1,k2.2,k2.3,k2.4,k2.5,k2.6,k2.7,k2.8⟩⟩
def UJ(P:Program)(ty:TypeId)(args l wd:List AV)(n:Nat):AS:=⟨λt=>(args.getD t (.tu [])).strip,bQ (false,[.sq (some 0) (aQ P ty) l]) (false,wd),bG 0 ty,2,n⟩
@[simp] theorem alZ (ty:TypeId) (args l wd:List AV) (n j:Nat):(UJ P ty args l wd n).T j=(args.getD j (.tu [])).strip:=(rfl)
@[simp] theorem al0 (ty:TypeId) (args l wd:List AV) (n:Nat):(UJ P ty args l wd n).B=bQ (false,[.sq (some 0) (aQ P ty) l]) (false,wd):=(rfl)
@[simp] theorem ajq (ty:TypeId) (args l wd:List AV) (n:Nat):(UJ P ty args l wd n).lv=bG 0 ty:=(rfl)
@[simp] theorem ajp (ty:TypeId) (args l wd:List AV) (n:Nat):(UJ P ty args l wd n).nx=2:=(rfl)
@[simp] theorem alY (ty:TypeId) (args l wd:List AV) (n:Nat):(UJ P ty args l wd n).n=n:=(rfl)
theorem eL(ty:TypeId)(l wd:List AV):(F1 P ty l (some wd)).B=bQ (false,[.sq (some 0) (aQ P ty) l]) (false,wd):=by
 funext j
 by_cases h0:j=0
 ·subst h0;rfl
 ·by_cases h1:j=1
  ·subst h1;rfl
  grind [Bu,xW]
def JK(P:Program)(ty:TypeId)(l wd:List AV)(z:AV)(rt:Nat)(s:AS):Prop:=(∃τ,s.B 0=some (false,[.sq (some τ) (aQ P ty) l])/\s.lv τ=some ty)/\s.B 1=some (false,wd)/\s.T rt=z
def ac7(P:Program)(g0:Gh)(w0:World)(ty:TypeId)(l wd:List AV)(z:AV)(rt:Nat)(e:Exit)(a:Act)(w:World):Prop:=∃x s,c8 e=some x/\(x=.normal\/x=.ret)/\JK P ty l wd z rt s/\ST P g0 w0 s a w
theorem IB{ty bo b1:Nat}{rc:Gh->World->Prop}(Cc:∀g g' w w',Lw g g' w w'->rc { hw:=g.hw,aD:=g.aD } w->rc { hw:=g'.hw,aD:=g'.aD } w'){f:FuncId}{fn:Func}{c:Code}(hf:P.funcs[f]?=some fn)(hb:fn.body=some c){args args' wd r:List AV}{z:AV}{rt:Nat}(sL:nS wd)(hz:z.strip=z)(H:z.jh=true)(hn:args.length<=fn.ntmps)(Hq:fn.results= #[.tmp rt])
  (hlen:args'.length=args.length) (ho:∀t:Nat,args'[t]?=args[t]?\/(args[t]?=some (AV.v (.pointer (some ⟨bo,0,none⟩)))/\args'[t]?=some (AV.bx 0 0))\/(args[t]?=some (AV.v (.pointer (some ⟨b1,0,none⟩)))/\args'[t]?=some (AV.bx 1 0)))
  (h:∀(g0:Gh) w0 l a w,l.length+r.length<=1099511627776->g0.iF 0=some bo->g0.iF 1=some b1->(∀hw aD w',g0.ex hw aD w'->rc { hw:=hw,aD:=aD } w')->Xr g0 w.heap.size->(∀hw aD w',g0.ex hw aD w'->w.heap.size<=w'.heap.size)->
   ST P g0 w0 (UJ P ty args' l wd fn.ntmps) a w->c.wp P (ac7 P g0 w0 ty (l++r) wd z rt) a w):oO P ty bo b1 rc f args wd r z:=by
 refine⟨sL,?_⟩;intro g0 w0 g w m l ys p jZ ou hy KE hle hr;refine aey hf hb ?_;have cq:ys.toArray.size=ys.length:=by simp
 rw[cq];have bH:ST P { g0 with ex:=lz g0 g w,iF:=λid=>if id=0 then some bo else if id=1 then some b1 else none } w0 (UJ P ty args' l wd fn.ntmps) { tmps:=ys.toArray++Array.replicate (fn.ntmps-ys.length) undef,defers:= [] } w:=by
  refine⟨g,m,?_,rfl⟩;exact {
   size:=by simp[UJ,hr.1];omega
   tmps:=λt=>by
    rw[aba,aev];simp only[afb];split
    ·rename_i ht;have J:t<args.length:=by rw[<-hr.1];exact ht
     have N:(ys.toArray[t]?).getD undef=ys[t]:=by grind
     rw[N];show RV _ _ _ _ _ (args'.getD t (.tu [])).strip _;rw[abM];rcases ho t with e|⟨M,L⟩|⟨M,L⟩
     ·rw[e,aaf J,aem];exact RC.zS (hr.2 t _ _ (aaf J) (aaf ht))
     ·rw[L,aem];have gf:=hr.2 t _ _ M (aaf ht);have:ys[t]=.pointer (some ⟨bo,0,none⟩):=s_ gf;refine .inr ⟨0,0,rfl,by simp_all,?_⟩
      simp_all
     ·rw[L,aem];have gf:=hr.2 t _ _ M (aaf ht);have:ys[t]=.pointer (some ⟨b1,0,none⟩):=s_ gf;refine .inr ⟨1,0,rfl,by simp_all,?_⟩
      simp_all
    ·rename_i ht;have J:args'.length<=t:=by rw[hlen,<-hr.1];omega
     have N:((Array.replicate (fn.ntmps-ys.length) undef)[t-ys.length]?).getD undef=undef:=by
      grind
     rw[N];show RV _ _ _ _ _ (args'.getD t (.tu [])).strip _;rw[abM,aby J,ahj];exact .cw (.tu [] [] rfl (λ_ _ _ e=>by simp at e)) rfl
   free:=λid fg=>by
    have Z:=p.free id fg;rw[eL] at Z;exact Z
   boxes:=λid ro cells e=>p.boxes id ro cells (by simp_all [eL])
   cD:=λi j hi hj=>p.cD i j (by simp_all [eL]) (by simp_all [eL])
   cB:=p.cB
   c_:=p.c_
   vd:=λσ id h1 h2=>p.vd σ id h1 (by simp_all [eL])
   wi:=p.wi
   ext:=⟨p.ext.1,p.ext.2,p.ext.3,p.ext.4,p.ext.5,p.ext.6,p.ext.7,p.ext.8⟩
   keeps:=⟨p.keeps.1,p.keeps.2,p.keeps.3⟩
   gi:=rZ p.gi g w
   fV:=rY p.fV
   pins:=λid b e=>by
    dsimp only at e;split at e
    ·simp_all
    simp_all }
 refine wp_mono (h { g0 with ex:=lz g0 g w,iF:=λid=>if id=0 then some bo else if id=1 then some b1 else none } w0 l _ w hle rfl rfl (λhw aD w' he=>Cc g { hw:=hw,aD:=aD } w w' (he:lz g0 g w hw aD w').2 KE) ?_ (λhw aD w' he=>(he:lz g0 g w hw aD w').2.1) bH) ?_
 ·intro hw aD w' b o o' hb ho hn dK he;exact⟨hy hw aD w' b o o' hb ho hn dK he.1,oZ (g0:= { g0 with ex:=Ss g w }) (λ_ _ _=>Iff.rfl) hw aD w' b o o' hb ho hn dK he.2⟩
 rintro e a w' ⟨x,s,he,hx,⟨⟨τ,jy,hl⟩,qQ,hT⟩,⟨g',m',E,ba⟩⟩;obtain⟨k1,k2⟩:=E.fV;obtain⟨k3,U⟩:=E.pins 0 bo (by simp);obtain⟨k5,O⟩:=E.pins 1 b1 (by simp);have cn:=E.Bs (g1:=g0) (i0:=0) (i1:=1) (wd:=some wd) jy hl (by omega) (λc hc=>by simp_all) rfl rfl p.gi k1 (λid b e=>by
  obtain⟨q1,q2⟩:=p.pins id b e
  grind)
 have I:=E.tmps rt;rw[hT] at I;have gf:Rd g' w' z (a.tmps.getD rt undef):=I.rd (λid off e=>by rw[e] at H;cases H);have W:(results fn a.tmps).run P w'=.ok (a.tmps.getD rt undef) w':=by
  simp_all [cX,ey]
 have Y:Lw g g' w w':=⟨k2.1,k2.2,k2.3,k2.4,k2.5,k2.6,k2.7,k2.8⟩
 rcases hx with rfl|rfl
 ·cases e <;>simp only[c8,Option.some.injEq,reduceCtorEq] at he
  exact⟨ba,_,W,_,g',_,rfl,gf,cn,U,O,Y⟩
 ·cases e <;>simp only[c8,Option.some.injEq,reduceCtorEq] at he
  exact⟨ba,_,W,_,g',_,rfl,gf,cn,U,O,Y⟩
theorem D6{a:Act}{o:Oper}(h:SR P g0 w0 fr s g w m a.tmps)(I:a.defers= []){d:Nat}(hd:d<s.n)(J:o.dst=some d){t:TypeId}(ht:P.underlying t=some .string){x:Operand}(hop:o.op=.range t x){l:List UInt8}(hx:s.ev x=.s l){K:Act->World->Prop}{Q:Exit->Act->World->Prop}
  (H:∀a':Act,SR P g0 w0 fr { s with T:=Lo s.T d (.v (.pointer (some ⟨w.heap.size,0,none⟩))) } g (w.alloc (.stringIter ⟨l.toArray⟩ 0)) m a'.tmps->a'.defers= []->Lw g g w (w.alloc (.stringIter ⟨l.toArray⟩ 0))->K a' (w.alloc (.stringIter ⟨l.toArray⟩ 0))):o.wp P a w K Q:=by
 have E:=h.ev x;rw[hx] at E;have hrun:(execOp a.eval o).run P w=.ok (.value (.pointer (some ⟨w.heap.size,0,none⟩))) (w.alloc (.stringIter ⟨l.toArray⟩ 0)):=by
  simp only[execOp,hop,E.s,aaw,run_range_string w t _ ht,aas,aaS,World.iter]
 unfold Oper.wp;rw[hrun];have p:Lw g g w (w.alloc (.stringIter ⟨l.toArray⟩ 0)):=iU h.wi _ _ rfl rfl rfl rfl (λ_=>aax _) rfl;have hW:WI g (w.alloc (.stringIter ⟨l.toArray⟩ 0)):=ko h.wi _ _ rfl p (λb hb=>(h.wi.out b (by omega)).1) rfl;have h2:=h.alloc p hW (λb hb=>adx w _ hb) (λ_ _=>rfl) rfl;refine H _ ?_ (put_defers _ _ _ I) p;have:=h2.iR (dst:=o.dst) (λd' e=>by simp_all) (z:=.v (.pointer (some ⟨w.heap.size,0,none⟩))) (.cw (.v _) rfl) a rfl
 simp_all
theorem IY{a:Act}{o:Oper}(h:SR P g0 w0 fr s g w m a.tmps)(M:a.defers= []){d:Nat}(hd:d<s.n)(Z:o.dst=some d){x:Operand}(hop:o.op=.next x true){b:Nat}(hx:s.ev x=.v (.pointer (some ⟨b,0,none⟩))){l:List UInt8}{pos:Nat}(hb:w.heap[b]?=some (.stringIter ⟨l.toArray⟩ pos))
  (U:w0.heap.size<=b) {N:Nat} (W:Xr g0 N) (I:N<=b) {K:Act->World->Prop} {Q:Exit->Act->World->Prop}
  (h1:∀(H:pos<l.length) (a':Act) (r:Int) (wd:Nat),(l[pos].toNat<128->r=l[pos].toNat/\wd=1)->SR P g0 w0 fr { s with T:=Lo s.T d (.tu [.b true,.i .i64 pos,.i .i32 r]) } g (w.putObj b (.stringIter ⟨l.toArray⟩ (pos+wd))) m a'.tmps->a'.defers= []->K a' (w.putObj b (.stringIter ⟨l.toArray⟩ (pos+wd))))
  (h2:l.length<=pos->∀a':Act,SR P g0 w0 fr { s with T:=Lo s.T d (.tu [.b false]) } g w m a'.tmps->a'.defers= []->K a' w):o.wp P a w K Q:=by
 have J:=(h.ev x).rd (by simp_all);rw[hx] at J;have O:=s_ J;unfold Oper.wp;by_cases H:pos<l.length
 ·have L:pos<(⟨l.toArray⟩:ByteArray).size:=H;have Y:(⟨l.toArray⟩:ByteArray)[pos]'L=l[pos]:=by rfl
  have hrun:(execOp a.eval o).run P w=.ok (.value (.tuple #[.bool true,.int .i64 pos,.int .i32 (Utf8.decode ⟨l.toArray⟩ pos).1])) (w.putObj b (.stringIter ⟨l.toArray⟩ (pos+(Utf8.decode ⟨l.toArray⟩ pos).2))):=by
   simp only[execOp,hop,O,aaw,Lib.run_next_any_at w b _ pos _ hb L,aas,aaS];rfl
  rw[hrun];have ht:=h.Dq (o':=.stringIter ⟨l.toArray⟩ (pos+(Utf8.decode ⟨l.toArray⟩ pos).2)) U hb ⟨λ_ _ _ e=>(by cases e),λ_ _ e=>(by cases e)⟩ (W _ _ _ b _ _ I hb ⟨λ_ _ _ e=>(by cases e),λ_ _ e=>(by cases e)⟩ (λ_ _ _ e=>(by cases e)) h.fV) (λ_ _ _ e=>by cases e);have h4:=ht.iR (dst:=o.dst) (λd' e=>by simp_all) (z:=.tu [.b true,.i .i64 pos,.i .i32 ((Utf8.decode ⟨l.toArray⟩ pos).1:Int)]) (y:=.tuple #[.bool true,.int .i64 pos,.int .i32 (Utf8.decode ⟨l.toArray⟩ pos).1])
   (.cw (.tu _ [.bool true,.int .i64 pos,.int .i32 (Utf8.decode ⟨l.toArray⟩ pos).1] rfl (λj a2 y E p=>by
    match j with
    |0=>simp only[abe,Option.some.injEq] at E p;subst E p;exact .b _
    |1=>simp at E p;subst E p;exact .i _ _
    |2=>simp at E p;subst E p;exact .i _ _
    |j+3=>grind)) rfl) a rfl
  refine h1 H _ ((Utf8.decode ⟨l.toArray⟩ pos).1:Int) (Utf8.decode ⟨l.toArray⟩ pos).2 (λha=>?_) ?_ (put_defers _ _ _ M)
  ·grind [decode_ascii]
  simp_all
 ·have hrun:(execOp a.eval o).run P w=.ok (.value (.tuple #[.bool false])) w:=by
   simp only[execOp,hop,O,aaw,Lib.run_next_end_at w b _ pos _ hb H,aas,aaS]
  rw[hrun];refine h2 (by omega) _ ?_ (put_defers _ _ _ M);have:=h.iR (dst:=o.dst) (λd' e=>by simp_all) (z:=.tu [.b false]) (y:=.tuple #[.bool false]) (.cw (.tu _ [.bool false] rfl (λj a2 y E p=>by
    match j with
    |0=>simp only[abe,Option.some.injEq] at E p;subst E p;exact .b _
    |j+1=>grind)) rfl) a rfl
  simp_all
theorem BR{a:Act}{o:Oper}(h:SR P g0 w0 fr s g w m a.tmps)(E:a.defers= []){d:Nat}(hd:d<s.n)(H:o.dst=some d){x:Operand}{ix:Nat}(hop:o.op=.extract x ix){l:List AV}(hx:s.ev x=.tu l){t:Bool}(hl:l[ix]?=some (.b t)){K:Act->World->Prop}{Q:Exit->Act->World->Prop}
  (p:∀a':Act,SR P g0 w0 fr { s with T:=Lo s.T d (.b t) } g w m a'.tmps->a'.defers= []->K a' w):o.wp P a w K Q:=by
 have hc:=h.ev x;rw[hx] at hc;obtain⟨ys,hy,hr⟩:=hc.tu;obtain⟨y,k1,k2⟩:=hr.get hl;have hrun:(execOp a.eval o).run P w=.ok (.value y) w:=by
  simp_all [execOp,Instr.extract]
 unfold Oper.wp;rw[hrun];refine p _ ?_ (put_defers _ _ _ E);have:=h.iR (dst:=o.dst) (λd' e=>by simp_all) (z:=.b t) (y:=y) (.cw k2 rfl) a rfl
 simp_all
end
end Go.Proofs.YtjagmhagphbfcaaGreatDoor
