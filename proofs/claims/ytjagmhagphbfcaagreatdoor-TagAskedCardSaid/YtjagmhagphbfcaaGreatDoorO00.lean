/- Lemmas, part 0. -/
import Derived.Laws.Sem
import Derived.Conc.Events
set_option maxRecDepth 100000
set_option linter.all false
namespace Go.Proofs.YtjagmhagphbfcaaGreatDoor
def aah:=@Array.getElem?_eq_some_iff
def aa_:=@Array.getElem?_eq_getElem
def af_:=@Array.getElem?_eq_none_iff
def aba:=@Array.getD_eq_getD_getElem?
def abP:=@Array.getElem?_push
def aat:=@if_neg
def aev:=@Array.getElem?_append
def aay:=@if_pos
def ac3:=@Array.getElem?_setIfInBounds
open Go
abbrev Ren:=Nat->Option (Nat×Nat)
def Ren.le(ρ σ:Ren):Prop:=∀b c,ρ b=some c->σ b=some c
theorem Ren.le_refl(ρ:Ren):ρ.le ρ:=λ_ _ h=>h
theorem Ren.le_trans{ρ σ τ:Ren}(h:ρ.le σ)(k:σ.le τ):ρ.le τ:=λb c e=>k b c (h b c e)
inductive aI(S:FuncId->Prop)(ρ:Ren):Value->Value->Prop
 |bool (b:Bool):aI S ρ (.bool b) (.bool b)
 |int (k:IntKind) (n:Int):aI S ρ (.int k n) (.int k n)
 |string (s:ByteArray):aI S ρ (.string s) (.string s)
 |jD:aI S ρ (.pointer none) (.pointer none)
 |ptr (b c d off:Nat) (spot:Option Nat) (h:ρ b=some (c,d)):aI S ρ (.pointer (some ⟨b,off,spot⟩)) (.pointer (some ⟨c,off+d,spot⟩))
 |cE (n m:Nat):aI S ρ (.slice none n m) (.slice none n m)
 |slice (b c d off:Nat) (spot:Option Nat) (n m:Nat) (h:ρ b=some (c,d)):aI S ρ (.slice (some ⟨b,off,spot⟩) n m) (.slice (some ⟨c,off+d,spot⟩) n m)
 |ql:aI S ρ (.map none) (.map none)
 |map (b c:Nat) (h:ρ b=some (c,0)):aI S ρ (.map (some b)) (.map (some c))
 |CH:aI S ρ (.chan none) (.chan none)
 |chan (c:Nat):aI S ρ (.chan (some c)) (.chan (some c))
 |func (f:FuncId) (hf:S f) (xs ys us vs:Array Value) (hs:xs.size=ys.size) (h:∀(i:Nat) (x y:Value),xs[i]?=some x->ys[i]?=some y->aI S ρ x y)
   (hs':us.size=vs.size) (h':∀(i:Nat) (x y:Value),us[i]?=some x->vs[i]?=some y->aI S ρ x y):aI S ρ (.func (.func f) xs us) (.func (.func f) ys vs)
 |yield (l m:Nat) (h:ρ l=some (m,0)):aI S ρ (.func (.yield l) #[] #[]) (.func (.yield m) #[] #[])
 |nilFunc:aI S ρ .nilFunc .nilFunc
 |iface (t:TypeId) (x y:Value) (h:aI S ρ x y):aI S ρ (.iface t x) (.iface t y)
 |nilIface:aI S ρ .nilIface .nilIface
 |agg (xs ys:Array Value) (hs:xs.size=ys.size) (h:∀(i:Nat) (x y:Value),xs[i]?=some x->ys[i]?=some y->aI S ρ x y):aI S ρ (.agg xs) (.agg ys)
 |tuple (xs ys:Array Value) (hs:xs.size=ys.size) (h:∀(i:Nat) (x y:Value),xs[i]?=some x->ys[i]?=some y->aI S ρ x y):aI S ρ (.tuple xs) (.tuple ys)
section
variable{S:FuncId->Prop}{ρ σ:Ren}
theorem aI.mono(hle:ρ.le σ){x y:Value}(h:aI S ρ x y):aI S σ x y:=by
 induction h with
 |bool b=>exact .bool b
 |int k n=>exact .int k n
 |string s=>exact .string s
 |jD=>exact .jD
 |ptr b c d off spot h=>exact .ptr b c d off spot (hle _ _ h)
 |cE n m=>exact .cE n m
 |slice b c d off spot n m h=>exact .slice b c d off spot n m (hle _ _ h)
 |ql=>exact .ql
 |map b c h=>exact .map b c (hle _ _ h)
 |CH=>exact .CH
 |chan c=>exact .chan c
 |func f hf xs ys us vs hs _ hs' _ p E=>exact .func f hf xs ys us vs hs p hs' E
 |yield l m h=>exact .yield l m (hle _ _ h)
 |nilFunc=>exact .nilFunc
 |iface t x y _ p=>exact .iface t x y p
 |nilIface=>exact .nilIface
 |agg xs ys hs _ p=>exact .agg xs ys hs p
 |tuple xs ys hs _ p=>exact .tuple xs ys hs p
def AR(S:FuncId->Prop)(ρ:Ren)(xs ys:Array Value):Prop:=xs.size=ys.size/\∀(i:Nat) (x y:Value),xs[i]?=some x->ys[i]?=some y->aI S ρ x y
theorem AR.mono(hle:ρ.le σ){xs ys:Array Value}(h:AR S ρ xs ys):AR S σ xs ys:=⟨h.1,λi x y hx hy=>(h.2 i x y hx hy).mono hle⟩
theorem AR.empty:AR S ρ #[] #[]:=⟨rfl,λi x y h _=>by simp at h⟩
theorem AR.get{xs ys:Array Value}(h:AR S ρ xs ys){i:Nat}{x:Value}(hx:xs[i]?=some x):∃y,ys[i]?=some y/\aI S ρ x y:=by
 obtain⟨hi,_⟩:=aah.1 hx;have p:i<ys.size:=h.1▸hi;exact⟨ys[i],aa_ p,h.2 i x _ hx (aa_ p)⟩
theorem AR.Jj{xs ys:Array Value}(h:AR S ρ xs ys){i:Nat}(hx:xs[i]?=none):ys[i]?=none:=by
 rw[af_] at hx ⊢;rw[<-h.1];exact hx
theorem AR.getD{xs ys:Array Value}(h:AR S ρ xs ys)(i:Nat){x y:Value}(hd:aI S ρ x y):aI S ρ (xs.getD i x) (ys.getD i y):=by
 rw[aba,aba];cases hx:xs[i]? with
 |none=>rw[h.Jj hx];exact hd
 |some u=>obtain⟨v,hv,hr⟩:=h.get hx;simp_all
theorem AR.push{xs ys:Array Value}(h:AR S ρ xs ys){x y:Value}(p:aI S ρ x y):AR S ρ (xs.push x) (ys.push y):=by
 refine⟨by simp[h.1],λi u v hu hv=>?_⟩;rw[abP] at hu hv;rw[<-h.1] at hv;by_cases hi:i=xs.size
 ·simp_all
 ·rw[aat hi] at hu hv;exact h.2 i u v hu hv
theorem AR.append{xs ys us vs:Array Value}(h:AR S ρ xs ys)(k:AR S ρ us vs):AR S ρ (xs++us) (ys++vs):=by
 refine⟨by simp[h.1,k.1],λi u v hu hv=>?_⟩;rw[aev] at hu hv;rw[<-h.1] at hv;by_cases hi:i<xs.size
 ·rw[aay hi] at hu hv;exact h.2 i u v hu hv
 ·rw[aat hi] at hu hv;exact k.2 _ u v hu hv
theorem AR.extract{xs ys:Array Value}(h:AR S ρ xs ys)(a b:Nat):AR S ρ (xs.extract a b) (ys.extract a b):=by
 refine⟨by simp[h.1],λi u v hu hv=>?_⟩;rw[Array.getElem?_extract] at hu hv;rw[<-h.1] at hv;split at hu
 ·rename_i hc;rw[aay hc] at hv;exact h.2 _ u v hu hv
 ·cases hu
theorem AR.set{xs ys:Array Value}(h:AR S ρ xs ys)(i:Nat){x y:Value}(E:aI S ρ x y):AR S ρ (xs.setIfInBounds i x) (ys.setIfInBounds i y):=by
 refine⟨by simp[h.1],λj u v hu hv=>?_⟩;rw[ac3] at hu hv;rw[<-h.1] at hv;by_cases p:i=j
 ·simp_all
 ·rw[aat p] at hu hv;exact h.2 j u v hu hv
theorem AR.single{x y:Value}(h:aI S ρ x y):AR S ρ #[x] #[y]:=by
 have:=(AR.empty (S:=S) (ρ:=ρ)).push h
 grind
theorem AR.replicate(n:Nat){x y:Value}(h:aI S ρ x y):AR S ρ (Array.replicate n x) (Array.replicate n y):=by
 refine⟨by simp,λi u v hu hv=>?_⟩
 grind
theorem AR.mapRange(n:Nat)(f g:Nat->Value)(h:∀i,i<n->aI S ρ (f i) (g i)):AR S ρ ((Array.range n).map f) ((Array.range n).map g):=by
 refine⟨by simp,λi u v hu hv=>?_⟩
 grind
theorem aI.undef:aI S ρ undef undef:=.tuple #[] #[] rfl λi x y h _=>by simp at h
theorem aI.cells{x y:Value}(h:aI S ρ x y):AR S ρ x.cells y.cells:=by
 cases h
 case agg xs ys hs h=>exact⟨hs,h⟩
 all_goals (refine AR.single ?_;constructor <;>assumption)
end
def Closed(x:Value):Prop:=∀(S:FuncId->Prop) (ρ:Ren),aI S ρ x x
def aax:=@Nat.le_refl
def aaY:=@Nat.le_trans
def abD:=@Nat.lt_of_lt_of_le
def aaw:=@Go.Sem.run_bind
def aas:=@Go.Result.andThen_ok
def aej:=@Go.Sem.events_bind
def aeN:=@Go.Result.evThen_ok
def afh:=@Array.mem_append
def bR(ρ:Ren)(a a':Addr):Prop:=∃d,ρ a.block=some (a'.block,d)/\a'.off=a.off+d/\a'.spot=a.spot
theorem bR.mono{ρ σ:Ren}(hle:ρ.le σ){a a':Addr}(h:bR ρ a a'):bR σ a a':=let ⟨d,h1,h2⟩:=h;⟨d,hle _ _ h1,h2⟩
theorem bR.add{ρ:Ren}{a a':Addr}(h:bR ρ a a')(n:Nat):bR ρ (a.add n) (a'.add n):=by
 obtain⟨d,h1,h2,p⟩:=h;unfold Addr.add;by_cases hn:n=0
 ·rw[aay hn,aay hn];exact⟨d,h1,h2,p⟩
 ·rw[aat hn,aat hn];exact⟨d,h1,by grind,rfl⟩
theorem bR.ptr{S:FuncId->Prop}{ρ:Ren}{a a':Addr}(h:bR ρ a a'):aI S ρ (.pointer (some a)) (.pointer (some a')):=by
 obtain⟨b,off,spot⟩:=a;obtain⟨b',H,E⟩:=a';obtain⟨d,h1,h2,p⟩:=h;simp only at h1 h2 p;subst h2 p;exact .ptr b b' d off E h1
theorem bR.slice{S:FuncId->Prop}{ρ:Ren}{a a':Addr}(h:bR ρ a a')(n m:Nat):aI S ρ (.slice (some a) n m) (.slice (some a') n m):=by
 obtain⟨b,off,spot⟩:=a;obtain⟨b',H,E⟩:=a';obtain⟨d,h1,h2,p⟩:=h;simp only at h1 h2 p;subst h2 p;exact .slice b b' d off E n m h1
def ER(S:FuncId->Prop)(ρ:Ren)(es es':Array MapEntry):Prop:=
 es.size=es'.size/\∀(i:Nat) (x y:MapEntry),es[i]?=some x->es'[i]?=some y->aI S ρ x.key y.key/\aI S ρ x.val y.val/\x.born=y.born
inductive jI(S:FuncId->Prop)(CO:Code->Prop)(ρ:Ren):Obj->Obj->Prop
 |cells (xs ys:Array Value) (e:TypeId) (fr:Nat×Nat) (h:AR S ρ xs ys):jI S CO ρ (.cells xs e fr) (.cells ys e fr)
 |map (es es':Array MapEntry) (clock:Nat) (h:ER S ρ es es'):jI S CO ρ (.map es clock) (.map es' clock)
 |stringIter (s:ByteArray) (pos:Nat):jI S CO ρ (.stringIter s pos) (.stringIter s pos)
 |loop (l:Loop) (ts:Array Value) (d':Nat) (h:AR S ρ l.tmps ts) (hd:ρ l.defers=some (d',0)) (hf:CO (.goto l.fn)) (ha:CO l.assign) (hb:CO l.body)
   (hp:∀c,l.pending=some c->CO c):jI S CO ρ (.loop l) (.loop { l with tmps:=ts,defers:=d' })
 |deferred:jI S CO ρ (.deferred (some [])) (.deferred (some []))
 |mU:jI S CO ρ (.deferred none) (.deferred none)
 |number (a a':Addr) (lost:Bool) (h:bR ρ a a'):jI S CO ρ (.number a lost) (.number a' lost)
section
variable{S:FuncId->Prop}{CO:Code->Prop}{Sh:Nat->Prop}{ρ σ:Ren}
theorem ER.mono(hle:ρ.le σ){es es':Array MapEntry}(h:ER S ρ es es'):ER S σ es es':=
 ⟨h.1,λi x y hx hy=>let ⟨a,b,c⟩:=h.2 i x y hx hy;⟨a.mono hle,b.mono hle,c⟩⟩
theorem jI.mono(hle:ρ.le σ){o o':Obj}(h:jI S CO ρ o o'):jI S CO σ o o':=by
 cases h with
 |cells xs ys e fr h=>exact .cells xs ys e fr (h.mono hle)
 |map es es' clock h=>exact .map es es' clock (h.mono hle)
 |stringIter s pos=>exact .stringIter s pos
 |loop l ts d' h hd hf ha hb hp=>exact .loop l ts d' (h.mono hle) (hle _ _ hd) hf ha hb hp
 |deferred=>exact .deferred
 |mU=>exact .mU
 |number a a' lost h=>exact .number a a' lost (h.mono hle)
end
theorem jI.quiet{S:FuncId->Prop}{CO:Code->Prop}{ρ:Ren}{o o':Obj}(h:jI S CO ρ o o')(d:Deferred)(p:List Deferred):o≠.deferred (some (d::p)):=by
 cases h <;>intro e <;>cases e
structure cp(P:Program)(S:FuncId->Prop)(CO:Code->Prop)(Sh:Nat->Prop)(ρ:Ren)(v w:World):Prop where
 inj:∀b b' c d d',ρ b=some (c,d)->ρ b'=some (c,d')->b=b'\/(Sh b/\Sh b')
 own:∀b c d,ρ b=some (c,d)->¬Sh b->d=0/\∃o o',v.heap[b]?=some o/\w.heap[c]?=some o'/\jI S CO ρ o o'
 sh:∀b c d,ρ b=some (c,d)->Sh b->∃xs e hi ys e' fr,v.heap[b]?=some (.cells xs e (0,hi))/\xs.size<=hi/\w.heap[c]?=some (.cells ys e' fr)/\
  ∀(i:Nat) (x:Value),xs[i]?=some x->∃y,ys[i+d]?=some y/\aI S ρ x y
 Bv:∀b c d,ρ b=some (c,d)->Sh b->(d=0/\v.shape? b=w.shape? c)\/∃e n,v.shape? b=some (e,n)/\P.info? e=none
 mo:∀b,Sh b->b<v.heap.size
 cz:∀b c d,ρ b=some (c,d)->b<P.globals.size\/c<P.globals.size->b=c/\d=0/\(Sh b->v.shape? b=w.shape? c)
 C2:P.globals.size<=v.heap.size
 C1:P.globals.size<=w.heap.size
theorem eA{xs:Array Obj}{b:Nat}{o:Obj}(h:xs[b]?=some o):b<xs.size:=(aah.1 h).1
section
variable{P:Program}{S:FuncId->Prop}{CO:Code->Prop}{Sh:Nat->Prop}{ρ:Ren}{v w:World}
theorem cp.ltV(h:cp P S CO Sh ρ v w){b:Nat}{c:Nat×Nat}(e:ρ b=some c):b<v.heap.size:=by
 by_cases hs:Sh b
 ·exact h.mo b hs
 ·obtain⟨_,o,o',h1,_⟩:=h.own b c.1 c.2 e hs;grind
theorem cp.VD(h:cp P S CO Sh ρ v w){b c d:Nat}(e:ρ b=some (c,d)):c<w.heap.size:=by
 by_cases hs:Sh b
 ·obtain⟨_,_,_,_,_,_,_,_,h1,_⟩:=h.sh b c d e hs;grind
 ·obtain⟨_,o,o',_,h1,_⟩:=h.own b c d e hs;grind
end
def Al(v w:World)(n:Nat):Prop:=∀i,i<n->∀q,v.tape (v.drawn+i) q=w.tape (w.drawn+i) q
structure Ext(P:Program)(S:FuncId->Prop)(CO:Code->Prop)(Sh:Nat->Prop)(ρ:Ren)(v w:World)(ρ1:Ren)(v1 w1:World):Prop where
 le:ρ.le ρ1
 rel:cp P S CO Sh ρ1 v1 w1
 new:∀b c d,ρ1 b=some (c,d)->ρ b=some (c,d)\/(v.heap.size<=b/\w.heap.size<=c)
 frame:∀c,c<w.heap.size->(∀b d,ρ b=some (c,d)->Sh b)->w1.heap[c]?=w.heap[c]?
 Dj:v.heap.size<=v1.heap.size
 qS:w.heap.size<=w1.heap.size
 Y4:w1.os=w.os
 tT:w1.tape=w.tape
 LZ:w1.output=w.output
 drawn:w1.drawn=w.drawn+(v1.drawn-v.drawn)
def aqJ(Sh:Nat->Prop)(ρ:Ren)(e:Event):Prop:=
 match e.loc with
 | .cell a=>e.sync=false/\∃b d,ρ b=some (a.block,d)/\(e.write=true->¬Sh b)
 | .obj r=>e.sync=false/\∃b d,ρ b=some (r,d)/\(e.write=true->¬Sh b)
 | .mark .noRoom=>True
 | .mark (.extern _)=>True
 |_=>False
theorem aqJ.mono{Sh:Nat->Prop}{ρ σ:Ren}(hle:ρ.le σ){e:Event}(h:aqJ Sh ρ e):aqJ Sh σ e:=by
 unfold aqJ at h ⊢;split
 ·rename_i a hl;rw[hl] at h;obtain⟨h0,b,d,h1,h2⟩:=h;exact⟨h0,b,d,hle _ _ h1,h2⟩
 ·rename_i r hl;rw[hl] at h;obtain⟨h0,b,d,h1,h2⟩:=h;exact⟨h0,b,d,hle _ _ h1,h2⟩
 ·trivial
 ·trivial
 simp_all
def iy:Halt->Prop
 | .panic _=>True
 | .stuck _=>True
 | .unsupported (.initOrder _)=>False
 | .unsupported _=>True
 |_=>False
def J(v:World):Prop:=∀(b:Nat) (d:Deferred) (p:List Deferred),v.heap[b]?≠some (.deferred (some (d::p)))
structure gP(v v1:World):Prop where
 le:v.drawn<=v1.drawn
 j:J v->J v1
theorem J.push{v:World}{o:Obj}(ho:∀d p,o≠.deferred (some (d::p)))(h:J v):J { v with heap:=v.heap.push o } :=by
 intro b d p e;simp only[abP] at e;split at e
 ·simp_all
 ·exact h b d p e
theorem J.set{v:World}{o:Obj}(ho:∀d p,o≠.deferred (some (d::p)))(h:J v)(c:Nat):J { v with heap:=v.heap.setIfInBounds c o } :=by
 intro b d p e;simp only[ac3] at e;split at e
 ·simp_all
 ·exact h b d p e
theorem gP.refl(v:World):gP v v:=⟨aax _,id⟩
theorem gP.trans{u v w:World}(h:gP u v)(k:gP v w):gP u w:=⟨aaY h.le k.le,λx=>k.j (h.j x)⟩
def CX(v:World)(h:Halt)(u:World):Prop:=iy h/\(J v->J u)
def Local{α:Type}(P:Program)(s:Sem α)(v:World)(a:α)(v1:World):Prop:=
 ∀t:Nat->Question->Nat,(∀i,v.drawn<=i->i<v1.drawn->∀q,t i q=v.tape i q)->s.run P { v with tape:=t } =.ok a { v1 with tape:=t }
class Twin(P Q:Program) where
 B:FuncId->Prop
 eq:Q= { P with funcs:=Q.funcs }
 fn:∀f,¬B f->Q.funcs[f]?=P.funcs[f]?
 j4:∀f,B f->(∃fn c,P.funcs[f]?=some fn/\fn.body=some c/\fn.name≠ "runtime.NumGoroutine")/\∃fn c,Q.funcs[f]?=some fn/\fn.body=some c/\fn.name≠ "runtime.NumGoroutine"
@[reducible] def Twin.self (P:Program):Twin P P:=⟨λ_=>False,rfl,λ_ _=>rfl,λ_ h=>h.elim⟩
section
variable(P Q:Program)[T:Twin P Q]
theorem Twin.info(t:TypeId):Q.info? t=P.info? t:=by rw[T.eq]
theorem Twin.underlying(t:TypeId):Q.underlying t=P.underlying t:=by rw[T.eq];rfl
theorem Twin.globals:Q.globals=P.globals:=by rw[T.eq]
theorem Twin.follows(d:Departure):Q.follows d=P.follows d:=by rw[T.eq]
theorem Twin.depth:Q.depth=P.depth:=by rw[T.eq];rfl
theorem Twin.cellsOf(t:TypeId):Q.cellsOf t=P.cellsOf t:=by grind [Twin.info,Program.cellsOf]
theorem Twin.bytesOf(t:TypeId):Q.bytesOf t=P.bytesOf t:=by grind [Twin.info,Program.bytesOf]
theorem Twin.byteOfCell(d:Nat):byteOfCell Q d=byteOfCell P d:=by
 induction d with
 |zero=>rfl
 |succ d p=>
  funext t b
  unfold Go.byteOfCell;rw[p,T.eq];rfl
theorem Twin.cellOfByte(d:Nat):cellOfByte Q d=cellOfByte P d:=by
 induction d with
 |zero=>rfl
 |succ d p=>
  funext t b
  unfold Go.cellOfByte;rw[p,T.eq];rfl
theorem Twin.cellAtBytes(d:Nat):cellAtBytes Q d=cellAtBytes P d:=by
 funext e n o b
 unfold Go.cellAtBytes;rw[Twin.byteOfCell P Q,Twin.cellOfByte P Q,Twin.cellsOf P Q,Twin.bytesOf P Q]
theorem Twin.alikeButTags(d:Nat):Q.alikeButTags d=P.alikeButTags d:=by
 induction d with
 |zero=>rfl
 |succ d p=>
  funext t u
  unfold Program.alikeButTags;rw[p,T.eq]
theorem Twin.stoodInHeld(t:TypeId):Q.stoodInHeld t=P.stoodInHeld t:=by
 unfold Program.stoodInHeld Program.stoodInAs;rw[Twin.alikeButTags P Q,T.eq];rfl
theorem Twin.eqGuardType(d:Nat):Q.eqGuardType d=P.eqGuardType d:=by
 induction d with
 |zero=>rfl
 |succ d p=>
  funext t
  unfold Program.eqGuardType;rw[p,T.eq];rfl
end
def ai{α β:Type}(P Q:Program)(S:FuncId->Prop)(CO:Code->Prop)(Sh:Nat->Prop)(ρ:Ren)(A:Ren->α->β->Prop)(s:Sem α)(s':Sem β):Prop:=
 ∀v w,cp P S CO Sh ρ v w->match s.run P v with
  | .ok a v1=>gP v v1/\v1.tape=v.tape/\Local P s v a v1/\(Al v w (v1.drawn-v.drawn)->
    ∃ρ1 b w1,s'.run Q w=.ok b w1/\Ext P S CO Sh ρ v w ρ1 v1 w1/\A ρ1 a b/\∀e∈s'.events Q w #[],aqJ Sh ρ1 e)
  | .halt h u=>CX v h u
section
variable{P Q:Program}[Twin P Q]{S:FuncId->Prop}{CO:Code->Prop}{Sh:Nat->Prop}{ρ:Ren}
theorem Ext.refl{v w:World}(h:cp P S CO Sh ρ v w):Ext P S CO Sh ρ v w ρ v w:=
 ⟨ρ.le_refl,h,λ_ _ _ e=>.inl e,λ_ _ _=>rfl,aax _,aax _,rfl,rfl,rfl,by omega⟩
theorem Ext.trans{ρ1 ρ2:Ren}{v w v1 w1 v2 w2:World}(h:Ext P S CO Sh ρ v w ρ1 v1 w1)(k:Ext P S CO Sh ρ1 v1 w1 ρ2 v2 w2)(hd:v.drawn<=v1.drawn)(H:v1.drawn<=v2.drawn):
  Ext P S CO Sh ρ v w ρ2 v2 w2:=by
 refine⟨Ren.le_trans h.le k.le,k.rel,?_,?_,aaY h.Dj k.Dj,aaY h.qS k.qS,k.Y4.trans h.Y4,k.tT.trans h.tT,k.LZ.trans h.LZ,?_⟩
 ·intro b c d e;rcases k.new b c d e with p|⟨p,E⟩
  ·exact h.new b c d p
  ·exact .inr ⟨aaY h.Dj p,aaY h.qS E⟩
 ·intro c hc hs;rw[k.frame c (abD hc h.qS) ?_,h.frame c hc hs];intro b d e;rcases h.new b c d e with p|⟨_,E⟩
  ·grind
  ·omega
 ·rw[k.drawn,h.drawn];omega
theorem ai.pure{α β:Type}{A:Ren->α->β->Prop}{a:α}{b:β}(h:A ρ a b):ai P Q S CO Sh ρ A (Pure.pure a) (Pure.pure b):=by
 intro v w hw;show gP v v/\v.tape=v.tape/\_/\_;exact⟨gP.refl _,rfl,λ_ _=>rfl,λ_=>⟨ρ,b,w,rfl,Ext.refl hw,h,λe he=>by simp at he⟩⟩
theorem ai.halt{α β:Type}{A:Ren->α->β->Prop}{h:Halt}(hh:iy h)(s':Sem β):ai P Q S CO Sh ρ A (Sem.halt h:Sem α) s':=by
 intro v w _;simp only[Sem.run_halt];exact⟨hh,id⟩
theorem ai.mono{α β:Type}{A B:Ren->α->β->Prop}{s:Sem α}{s':Sem β}(h:ai P Q S CO Sh ρ A s s')(J:∀σ a b,ρ.le σ->A σ a b->B σ a b):ai P Q S CO Sh ρ B s s':=by
 intro v w hw;have:=h v w hw
 revert this
 cases s.run P v with
 |halt x v1=>exact id
 |ok a v1=>
  rintro⟨h1,h2,hl,I⟩;refine⟨h1,h2,hl,λp=>?_⟩;obtain⟨ρ1,b,w1,k1,k2,H,E⟩:=I p;exact⟨ρ1,b,w1,k1,k2,J _ _ _ k2.le H,E⟩
theorem ai.bind{α β J I:Type}{A:Ren->α->β->Prop}{B:Ren->J->I->Prop}{s:Sem α}{s':Sem β}{f:α->Sem J}{M:β->Sem I}
  (h:ai P Q S CO Sh ρ A s s') (k:∀σ a b,ρ.le σ->A σ a b->ai P Q S CO Sh σ B (f a) (M b)):ai P Q S CO Sh ρ B (s>>=f) (s'>>=M):=by
 intro v w hw;have hs:=h v w hw;rw[aaw];cases hr:s.run P v with
 |halt x v1=>simp_all
 |ok a v1=>
  rw[hr] at hs;obtain⟨h1,h2,hl,Z⟩:=hs;simp only[aas];cases E:(f a).run P v1 with
  |halt x v2=>
   have H:cp P S CO Sh ρ v { w with tape:=λj q=>v.tape (v.drawn+(j-w.drawn)) q } :=⟨hw.inj,hw.own,hw.sh,hw.Bv,hw.mo,hw.cz,hw.C2,hw.C1⟩
   have hs':=h v _ H;rw[hr] at hs';obtain⟨ρ1,b,w1,k1,k2,p,_⟩:=hs'.2.2.2 (λi _ q=>by simp);have:=k ρ1 a b k2.le p v1 w1 k2.rel;rw[E] at this;exact⟨this.1,λj=>this.2 (h1.j j)⟩
  |ok c v2=>
   have H:cp P S CO Sh ρ v { w with tape:=λj q=>v.tape (v.drawn+(j-w.drawn)) q } :=⟨hw.inj,hw.own,hw.sh,hw.Bv,hw.mo,hw.cz,hw.C2,hw.C1⟩
   have hs':=h v _ H;rw[hr] at hs';obtain⟨ρ1,b,w1,k1,k2,p,_⟩:=hs'.2.2.2 (λi _ q=>by simp);have hk:=k ρ1 a b k2.le p v1 w1 k2.rel;rw[E] at hk;have Wx:=hk.2.2.1;have Y:=hk.1.le;refine⟨h1.trans hk.1,hk.2.1.trans h2,λt ht=>?_,λL=>?_⟩
   ·rw[aaw,hl t λi hi O q=>ht i hi (by omega) q];exact Wx t λi hi O q=>by rw[h2];have:=h1.le;grind
   obtain⟨ρ1,b,w1,k1,k2,p,W⟩:=Z (λi hi q=>L i (by omega) q);have hk:=k ρ1 a b k2.le p v1 w1 k2.rel;rw[E] at hk;obtain⟨N,hk2,_,TX⟩:=hk;have HE:Al v1 w1 (v2.drawn-v1.drawn):=by
    intro i hi q;rw[h2,k2.tT,k2.drawn];have:=h1.le;have:=N.le;have:=L ((v1.drawn-v.drawn)+i) (by omega) q
    grind
   obtain⟨ρ2,d,w2,m1,m2,U,m4⟩:=TX HE;refine⟨ρ2,d,w2,?_,k2.trans m2 h1.le N.le,U,?_⟩
   ·simp_all
   ·intro e he;rw[aej,k1] at he;simp only[aeN] at he;rw[Sem.events_acc] at he;rcases afh.1 he with he|he
    ·exact(W e he).mono m2.le
    grind
def lF{α β:Type}(P Q:Program)(S:FuncId->Prop)(CO:Code->Prop)(Sh:Nat->Prop)(ρ:Ren)(A:Ren->α->β->Prop)(s:Sem α)(s':Sem β):Prop:=
 ∀v w,cp P S CO Sh ρ v w->match s.run P v with
  | .ok a v1=>gP v v1/\v1.tape=v.tape/\Local P s v a v1/\(Al v w (v1.drawn-v.drawn)->
    ∃n ρ1 b w1,v.drawn<=n/\n<=v1.drawn/\s'.run Q w=.ok b w1/\Ext P S CO Sh ρ v w ρ1 { v1 with drawn:=n } w1/\A ρ1 a b/\∀e∈s'.events Q w #[],aqJ Sh ρ1 e)
  | .halt h u=>CX v h u
omit [Twin P Q] in
theorem cp.MN{ρ:Ren}{v w:World}(h:cp P S CO Sh ρ v w)(n:Nat):cp P S CO Sh ρ { v with drawn:=n } w:=⟨h.inj,h.own,h.sh,h.Bv,h.mo,h.cz,h.C2,h.C1⟩
omit [Twin P Q] in
theorem cp.lI{ρ:Ren}{v w:World}{n:Nat}(h:cp P S CO Sh ρ { v with drawn:=n } w):cp P S CO Sh ρ v w:=⟨h.inj,h.own,h.sh,h.Bv,h.mo,h.cz,h.C2,h.C1⟩
theorem ai.P4{α β:Type}{A:Ren->α->β->Prop}{s:Sem α}{s':Sem β}(h:ai P Q S CO Sh ρ A s s'):lF P Q S CO Sh ρ A s s':=by
 intro v w hw;have:=h v w hw
 revert this
 cases s.run P v with
 |halt x v1=>exact id
 |ok a v1=>
  rintro⟨h1,h2,hl,I⟩;refine⟨h1,h2,hl,λp=>?_⟩;obtain⟨ρ1,b,w1,k1,k2,H,E⟩:=I p;exact⟨v1.drawn,ρ1,b,w1,h1.le,aax _,k1,k2,H,E⟩
theorem lF.mono{α β:Type}{A B:Ren->α->β->Prop}{s:Sem α}{s':Sem β}(h:lF P Q S CO Sh ρ A s s')(M:∀σ a b,ρ.le σ->A σ a b->B σ a b):lF P Q S CO Sh ρ B s s':=by
 intro v w hw;have:=h v w hw
 revert this
 cases s.run P v with
 |halt x v1=>exact id
 |ok a v1=>
  rintro⟨h1,h2,hl,L⟩;refine⟨h1,h2,hl,λp=>?_⟩;obtain⟨n,ρ1,b,w1,H,E,k1,k2,J,I⟩:=L p;exact⟨n,ρ1,b,w1,H,E,k1,k2,M _ _ _ k2.le J,I⟩
theorem ai.Jw{α β J I:Type}{A:Ren->α->β->Prop}{B:Ren->J->I->Prop}{s:Sem α}{s':Sem β}{f:α->Sem J}{N:β->Sem I}
  (h:ai P Q S CO Sh ρ A s s') (k:∀σ a b,ρ.le σ->A σ a b->lF P Q S CO Sh σ B (f a) (N b)):lF P Q S CO Sh ρ B (s>>=f) (s'>>=N):=by
 intro v w hw;have hs:=h v w hw;rw[aaw];cases hr:s.run P v with
 |halt x v1=>simp_all
 |ok a v1=>
  rw[hr] at hs;obtain⟨h1,h2,hl,h3⟩:=hs;simp only[aas];cases E:(f a).run P v1 with
  |halt x v2=>
   have H:cp P S CO Sh ρ v { w with tape:=λj q=>v.tape (v.drawn+(j-w.drawn)) q } :=⟨hw.inj,hw.own,hw.sh,hw.Bv,hw.mo,hw.cz,hw.C2,hw.C1⟩
   have hs':=h v _ H;rw[hr] at hs';obtain⟨ρ1,b,w1,k1,k2,p,_⟩:=hs'.2.2.2 (λi _ q=>by simp);have:=k ρ1 a b k2.le p v1 w1 k2.rel;rw[E] at this;exact⟨this.1,λj=>this.2 (h1.j j)⟩
  |ok c v2=>
   have H:cp P S CO Sh ρ v { w with tape:=λj q=>v.tape (v.drawn+(j-w.drawn)) q } :=⟨hw.inj,hw.own,hw.sh,hw.Bv,hw.mo,hw.cz,hw.C2,hw.C1⟩
   have hs':=h v _ H;rw[hr] at hs';obtain⟨ρ1,b,w1,k1,k2,p,_⟩:=hs'.2.2.2 (λi _ q=>by simp);have hk:=k ρ1 a b k2.le p v1 w1 k2.rel;rw[E] at hk;have Wx:=hk.2.2.1;have Z:=hk.1.le;refine⟨h1.trans hk.1,hk.2.1.trans h2,λt ht=>?_,λL=>?_⟩
   ·rw[aaw,hl t λi hi O q=>ht i hi (by omega) q];exact Wx t λi hi O q=>by rw[h2];have:=h1.le;grind
   obtain⟨ρ1,b,w1,k1,k2,p,Y⟩:=h3 (λi hi q=>L i (by omega) q);have hk:=k ρ1 a b k2.le p v1 w1 k2.rel;rw[E] at hk;obtain⟨I7,hk2,_,TX⟩:=hk;have HE:Al v1 w1 (v2.drawn-v1.drawn):=by
    intro i hi q;rw[h2,k2.tT,k2.drawn];have:=h1.le;have:=I7.le;have:=L ((v1.drawn-v.drawn)+i) (by omega) q
    grind
   obtain⟨n,ρ2,d,w2,M,U,m1,m2,W,m4⟩:=TX HE;refine⟨n,ρ2,d,w2,aaY h1.le M,U,?_,k2.trans m2 h1.le M,W,?_⟩
   ·simp_all
   ·intro e he;rw[aej,k1] at he;simp only[aeN] at he;rw[Sem.events_acc] at he;rcases afh.1 he with he|he
    ·exact(Y e he).mono m2.le
    grind
theorem lF.UB{α β J I:Type}{A:Ren->α->β->Prop}{B:Ren->J->I->Prop}{s:Sem α}{s':Sem β}{f:α->Sem J}{M:β->Sem I}
  (h:lF P Q S CO Sh ρ A s s') (k:∀σ a b,ρ.le σ->A σ a b->ai P Q S CO Sh σ B (f a) (M b)) (Y:∀a v1 c v2,(f a).run P v1=.ok c v2->v2.drawn=v1.drawn):lF P Q S CO Sh ρ B (s>>=f) (s'>>=M):=by
 intro v w hw;have hs:=h v w hw;rw[aaw];cases hr:s.run P v with
 |halt x v1=>simp_all
 |ok a v1=>
  rw[hr] at hs;obtain⟨h1,h2,hl,Z⟩:=hs;simp only[aas];have cO:cp P S CO Sh ρ v { w with tape:=λj q=>v.tape (v.drawn+(j-w.drawn)) q } :=⟨hw.inj,hw.own,hw.sh,hw.Bv,hw.mo,hw.cz,hw.C2,hw.C1⟩
  have hs':=h v _ cO;rw[hr] at hs';obtain⟨n0,ρ0,b0,w0,_,_,k1,k2,H,_⟩:=hs'.2.2.2 (λi _ q=>by simp);have hk:=k ρ0 a b0 k2.le H v1 w0 k2.rel.lI;cases p:(f a).run P v1 with
  |halt x v2=>
   rw[p] at hk;exact⟨hk.1,λj=>hk.2 (h1.j j)⟩
  |ok c v2=>
   rw[p] at hk;have vJ:v2.drawn=v1.drawn:=Y a v1 c v2 p;have Wx:=hk.2.2.1;refine⟨h1.trans hk.1,hk.2.1.trans h2,λt ht=>?_,λO=>?_⟩
   ·have l1:=hk.1.le;rw[aaw,hl t λi hi N q=>ht i hi (by omega) q];exact Wx t λi hi N q=>by omega
   obtain⟨n,ρ1,b,w1,L,q2,k1,k2,H,W⟩:=Z (λi hi q=>O i (by omega) q);have hk:=k ρ1 a b k2.le H v1 w1 k2.rel.lI;rw[p] at hk;obtain⟨I7,hk2,_,TX⟩:=hk;obtain⟨ρ2,d,w2,m1,m2,U,m4⟩:=TX (λi hi=>by omega);have E:Ext P S CO Sh ρ1 { v1 with drawn:=n } w1 ρ2 { v2 with drawn:=n } w2:=
    ⟨m2.le,m2.rel.MN n,m2.new,m2.frame,m2.Dj,m2.qS,m2.Y4,m2.tT,m2.LZ,by have:=m2.drawn;simp_all⟩
   refine⟨n,ρ2,d,w2,L,by omega,?_,k2.trans E L (aax _),U,?_⟩
   ·simp_all
   ·intro e he;rw[aej,k1] at he;simp only[aeN] at he;rw[Sem.events_acc] at he;rcases afh.1 he with he|he
    ·exact(W e he).mono m2.le
    grind
end
def acC:=@if_true
def abX:=@Bool.false_eq_true
def ab3:=@if_false
def bC{α:Type}(P:Program)(s:Sem α):Prop:=∀v,∃x v',s.run P v=.halt x v'/\CX v x v'
def gJ{α:Type}(P:Program)(s:Sem α):Prop:=∀v,match s.run P v with| .ok _ u=>J v->J u| .halt h u=>CX v h u
section
variable{P Q:Program}[Twin P Q]{S:FuncId->Prop}{CO:Code->Prop}{Sh:Nat->Prop}{ρ:Ren}
theorem ai.aw{α β:Type}{A:Ren->α->β->Prop}{s:Sem α}{s':Sem β}(h:bC P s):ai P Q S CO Sh ρ A s s':=by
 intro v w _;obtain⟨x,v',e,hx⟩:=h v
 grind
theorem bC.bind{α β:Type}{s:Sem α}{f:α->Sem β}(h:bC P s):bC P (s>>=f):=by
 intro v;obtain⟨x,v',e,hx⟩:=h v;exact⟨x,v',by simp_all,hx⟩
theorem bC.behind{α β:Type}{s:Sem α}{f:α->Sem β}(h:gJ P s)(k:∀a,bC P (f a)):bC P (s>>=f):=by
 intro v;have hv:=h v;cases hr:s.run P v with
 |halt x v'=>rw[hr] at hv;exact⟨x,v',by simp_all,hv⟩
 |ok a v1=>
  rw[hr] at hv;obtain⟨x,v',e,hx⟩:=k a v1;exact⟨x,v',by simp_all,hx.1,λj=>hx.2 (hv j)⟩
theorem gJ.pure{α:Type}(a:α):gJ P (Pure.pure a:Sem α):=λ_=>id
theorem gJ.bind{α β:Type}{s:Sem α}{f:α->Sem β}(h:gJ P s)(k:∀a,gJ P (f a)):gJ P (s>>=f):=by
 intro v;have hv:=h v;rw[aaw];cases hr:s.run P v with
 |halt x v'=>simp_all
 |ok a v1=>
  rw[hr] at hv;have:=k a v1;simp only[aas];cases p:(f a).run P v1 with
  |halt x v2=>rw[p] at this;exact⟨this.1,λj=>this.2 (hv j)⟩
  |ok b v2=>simp_all
theorem bC.acg{α:Type}{s:Sem α}(h:bC P s):gJ P s:=λv=>by
 obtain⟨x,v',e,hx⟩:=h v;grind
theorem qx{α:Type}{h:Halt}(hh:iy h):bC P (Sem.halt h:Sem α):=λv=>⟨h,v,rfl,hh,id⟩
theorem ah{α:Type}(s:String):bC P (stuck s:Sem α):=qx trivial
theorem ef{α:Type}(x:Value):bC P (goPanic x:Sem α):=qx trivial
theorem an{α:Type}{u:Unsupported}(h:∀g,u≠.initOrder g):bC P (unsupported u:Sem α):=qx (by
 cases u <;>first|trivial|simp_all)
theorem rV:gJ P program:=λ_=>id
theorem uN(q:Question):gJ P (choose q):=λv=>by
 unfold choose;simp only[Sem.run];by_cases h:q.forced=true
 ·simp_all
 ·rw[aat h];exact id
theorem OP(o:Obj)(ho:∀d p,o≠.deferred (some (d::p))):gJ P (newObj o):=λv=>J.push ho
theorem HM(r:Nat):gJ P (shape r):=λ_=>id
theorem Fp(a:Addr):gJ P (frozen a):=λ_=>id
theorem vo(t:TypeId):gJ P (underlying t):=by
 unfold underlying;refine rV.bind λp=>?_
 split
 ·exact gJ.pure _
 ·exact(ah _).acg
theorem aT{α:Type}(e:RuntimeError):bC P (runtimePanic e:Sem α):=by
 have H:∀t,gJ P (elemOf t):=λt=>by
  unfold elemOf;refine(vo t).bind λd=>?_
  split
  ·exact gJ.pure _
  ·exact(ah _).acg
 have E:∀t x,gJ P (newVar t x):=λt x=>by
  unfold newVar newRow;exact(OP _ (λ_ _ h=>by cases h)).bind λ_=>gJ.pure _
 unfold runtimePanic;refine bC.behind rV λp=>?_
 cases e with
 |bounds x y s c=>exact ef _
 |error m=>exact ef _
 |plain m=>exact ef _
 |nilDeref=>exact ef _
 |typeAssertion i c a m=>exact bC.behind (H _) λ_=>bC.behind (E _ _) λ_=>ef _
 |panicNil=>exact bC.behind (H _) λ_=>bC.behind (E _ _) λ_=>ef _
 |unhashable t=>exact ef _
theorem dT{α:Type}(k:IntKind)(x y:Int)(c:BoundsCode):bC P (boundsPanic k x y c:Sem α):=by
 unfold boundsPanic;split
 ·exact bC.behind ((uN _).bind λ_=>gJ.pure _) λ_=>aT _
 ·exact bC.behind (gJ.pure _) λ_=>aT _
theorem ai.free{α:Type}{A:Ren->α->α->Prop}{s:Sem α}(h:(∃a b,(∀w,s.run P w=.ok a w)/\(∀w,s.run Q w=.ok b w)/\(∀w,s.events Q w #[]= #[])/\A ρ a b)\/bC P s):ai P Q S CO Sh ρ A s s:=by
 rcases h with ⟨a,b,h1,E,h2,p⟩|h
 ·intro v w hw;rw[h1 v];exact⟨gP.refl _,rfl,λ_ _=>h1 _,λ_=>⟨ρ,b,w,E w,Ext.refl hw,p,λe he=>by simp_all⟩⟩
 ·exact ai.aw h
theorem dY(t:TypeId):ai P Q S CO Sh ρ (λ_ a b=>a=b/\P.info? t=some a) (typeInfo t) (typeInfo t):=by
 refine ai.free ?_;cases h:P.info? t with
 |none=>exact .inr λv=>⟨.stuck "no such type",v,by simp[typeInfo,h,program,Sem.run,stuck],trivial,id⟩
 |some i=>exact .inl ⟨i,i,λw=>by simp[typeInfo,h,program,Sem.run],λw=>by simp[typeInfo,Twin.info P Q,h,program,Sem.run],λw=>by simp,rfl,rfl⟩
theorem aA(t:TypeId):ai P Q S CO Sh ρ (λ_ a b=>a=b/\P.underlying t=some a) (underlying t) (underlying t):=by
 refine ai.free ?_;cases h:P.underlying t with
 |none=>exact .inr λv=>⟨.stuck "no such type",v,by simp[underlying,h,program,Sem.run,stuck],trivial,id⟩
 |some i=>exact .inl ⟨i,i,λw=>by simp[underlying,h,program,Sem.run],λw=>by simp[underlying,Twin.underlying P Q,h,program,Sem.run],λw=>by simp,rfl,rfl⟩
theorem cQ:ai P Q S CO Sh ρ (λ_ a b=>a=P/\b=Q) program program:=
 ai.free (.inl ⟨P,Q,λ_=>rfl,λ_=>rfl,λ_=>rfl,rfl,rfl⟩)
theorem bM(t:TypeId):ai P Q S CO Sh ρ (λ_ a b=>a=b/\∃i,P.info? t=some i/\a=i.size) (sizeOf t) (sizeOf t):=by
 unfold sizeOf;refine(dY t).bind λσ a b hle p=>?_
 obtain⟨rfl,h⟩:=p;exact ai.pure ⟨rfl,a,h,rfl⟩
theorem wB(t:TypeId):ai P Q S CO Sh ρ (λ_ a b=>a=b) (isAgg t) (isAgg t):=by
 unfold isAgg;refine(aA t).bind λσ a b hle p=>?_
 obtain⟨rfl,h⟩:=p;cases a <;>exact ai.pure rfl
def ZAt(P:Program)(t:TypeId):Prop:=∀i z,P.info? t=some i->i.zero=some z->Closed z
def yl(P:Program)(t:TypeId):Prop:=∀e,(P.underlying t=some (.slice e)\/∃k,P.underlying t=some (.map k e))->ZAt P e
theorem dz{t:TypeId}(hz:ZAt P t):ai P Q S CO Sh ρ (λσ a b=>aI S σ a b/\a=b) (zeroValue t) (zeroValue t):=by
 unfold zeroValue;refine(dY t).bind λσ a b hle E=>?_
 obtain⟨rfl,h⟩:=E;cases p:a.zero with
 |none=>exact ai.aw (an (by simp))
 |some z=>exact ai.pure ⟨hz a z h p S σ,rfl⟩
theorem nL(q:Question):ai P Q S CO Sh ρ (λ_ a b=>a=b) (choose q) (choose q):=by
 intro v w hw;unfold choose;simp only[Sem.run];by_cases hq:q.forced=true
 ·rw[aay hq,aay hq];exact⟨gP.refl _,rfl,λt _=>by simp only[Sem.run,aay hq],λ_=>⟨ρ,_,w,rfl,Ext.refl hw,rfl,λe he=>by
   simp only[Sem.events,Sem.runT,hq,acC] at he;simp at he⟩⟩
 ·rw[aat hq,aat hq];refine⟨⟨Nat.le_succ _,id⟩,rfl,λt ht=>by simp only[Sem.run,aat hq];simp_all,λp=>?_⟩;have h0:v.tape v.drawn q=w.tape w.drawn q:=p 0 (by simp_all) q;refine⟨ρ,_,{ w with drawn:=w.drawn+1 },rfl,?_,?_,?_⟩
  ·exact⟨ρ.le_refl,⟨hw.inj,hw.own,hw.sh,hw.Bv,hw.mo,hw.cz,hw.C2,hw.C1⟩,λ_ _ _ e=>.inl e,λ_ _ _=>rfl,aax _,aax _,rfl,rfl,rfl,by simp⟩
  ·rw[h0]
  ·intro e he;simp only[Sem.events,Sem.runT,hq,abX,ab3] at he;simp at he
theorem zC{m:Mark}(hm:aqJ Sh ρ ⟨.mark m,false,true⟩):ai P Q S CO Sh ρ (λ_ _ _=>True) (mark m) (mark m):=by
 intro v w hw;refine⟨gP.refl _,rfl,λ_ _=>rfl,λ_=>⟨ρ,(),w,rfl,Ext.refl hw,trivial,λe he=>?_⟩⟩
 simp_all
theorem rh(n:Nat):ai P Q S CO Sh ρ (λ_ _ _=>True) (askRoom n) (askRoom n):=by
 unfold askRoom;split
 ·exact zC trivial
 ·exact ai.pure trivial
theorem oU{a a':Addr}(ha:bR ρ a a'):ai P Q S CO Sh ρ (λσ x y=>aI S σ x y) (load a) (load a'):=by
 intro v w hw;unfold load;obtain⟨d,h1,h2,H⟩:=ha;have key:∀x,v.cell? a=some x->∃y,w.cell? a'=some y/\aI S ρ x y:=by
  intro x hx;unfold World.cell? at hx ⊢;by_cases hs:Sh a.block
  ·obtain⟨xs,e,hi,ys,e',fr,k1,_,k2,p⟩:=hw.sh _ _ _ h1 hs
   simp_all
  ·obtain⟨rfl,o,o',k1,k2,p⟩:=hw.own _ _ _ h1 hs;rw[k1] at hx;rw[k2];cases p with
   |cells xs ys e fr h=>
    simp only at hx ⊢;rw[H,h2];split at hx
    ·cases hx
    ·rename_i E;rw[aat E];exact h.get hx
   |_=>cases hx
 cases hc:v.cell? a with
 |some x=>
  obtain⟨y,hy,I⟩:=key x hc;simp only[Sem.run,hc];refine⟨gP.refl _,trivial,λt _=>by simp only[Sem.run];rw[show World.cell? { v with tape:=t } a=v.cell? a from rfl,hc],λ_=>⟨ρ,y,w,by simp_all,Ext.refl hw,I,λe he=>?_⟩⟩;simp only[Sem.events,Sem.runT,hy] at he;simp at he;subst he;exact⟨rfl,a.block,d,h1,λh=>by cases h⟩
 |none=>
  simp only[Sem.run,hc];have:∃h,v.farLoad P a false=.error h/\iy h:=by
   unfold World.farLoad World.noCell;by_cases hs:Sh a.block
   ·obtain⟨xs,e,hi,ys,e',fr,k1,_⟩:=hw.sh _ _ _ h1 hs;rw[k1];exact⟨_,rfl,trivial⟩
   ·obtain⟨rfl,o,o',k1,k2,p⟩:=hw.own _ _ _ h1 hs;rw[k1];cases p <;>exact⟨_,rfl,trivial⟩
  obtain⟨h,he,hf⟩:=this;rw[show(Mode.plain==Mode.atomic)=false from rfl,he];exact⟨hf,id⟩
end
def acD:=@Array.getElem?_modify
def acz:=@Option.map_some
section
variable{P Q:Program}[Twin P Q]{S:FuncId->Prop}{CO:Code->Prop}{Sh:Nat->Prop}{ρ:Ren}
theorem Jq{v w:World}(hw:cp P S CO Sh ρ v w){b c:Nat}(hb:ρ b=some (c,0))(hs:¬Sh b){o o':Obj}(ho:jI S CO ρ o o'):
  Ext P S CO Sh ρ v w ρ { v with heap:=v.heap.setIfInBounds b o } { w with heap:=w.heap.setIfInBounds c o' } :=by
 obtain⟨_,o1,I,h1,h2,_⟩:=hw.own _ _ _ hb hs;have O:=eA h1;have lc:=eA h2;refine⟨ρ.le_refl,⟨hw.inj,?_,?_,?_,?_,?_,by simpa using hw.C2,by simpa using hw.C1⟩,λ_ _ _ e=>.inl e,?_,by simp,by simp,rfl,rfl,rfl,by simp⟩
 ·intro b' c' d' e hs';obtain⟨rfl,p,N,k1,k2,L⟩:=hw.own _ _ _ e hs';refine⟨rfl,?_⟩;by_cases E:b'=b
  ·simp_all
  ·have H:c≠c':=λH=>E (by subst H;exact(hw.inj _ _ _ _ _ e hb).elim id λh=>absurd h.2 hs)
   grind
 ·intro b' c' d' e hs';obtain⟨xs,t,hi,ys,t',fr,k1,k2,L,J⟩:=hw.sh _ _ _ e hs';have E:b≠b':=λE=>hs (E▸hs')
  have H:c≠c':=λH=>E (by subst H;exact(hw.inj _ _ _ _ _ hb e).elim id λh=>absurd h.1 hs)
  exact⟨xs,t,hi,ys,t',fr,by simp_all,k2,by simp_all,J⟩
 ·intro b' c' d' e hs';have E:b≠b':=λE=>hs (E▸hs')
  have H:c≠c':=λH=>E (by subst H;exact(hw.inj _ _ _ _ _ hb e).elim id λh=>absurd h.1 hs)
  have:=hw.Bv b' c' d' e hs';simpa[World.shape?,ac3,E,H] using this
 ·intro b' hs';simpa using hw.mo b' hs'
 ·intro b' c' d' e hg;obtain⟨h1,h2,M⟩:=hw.cz b' c' d' e hg;refine⟨h1,h2,λhs'=>?_⟩;have E:b≠b':=λE=>hs (E▸hs')
  have H:c≠c':=λH=>E (by subst H;exact(hw.inj _ _ _ _ _ hb e).elim id λh=>absurd h.1 hs)
  have:=M hs';simpa[World.shape?,ac3,E,H] using this
 grind
theorem Sk{v w:World}(hw:cp P S CO Sh ρ v w){o o':Obj}(ho:jI S CO ρ o o'):
  ∃ρ1,Ext P S CO Sh ρ v w ρ1 { v with heap:=v.heap.push o } { w with heap:=w.heap.push o' } /\ρ1 v.heap.size=some (w.heap.size,0)/\¬Sh v.heap.size:=by
 have M:ρ v.heap.size=none:=by
  cases h:ρ v.heap.size with
  |none=>rfl
  |some c=>have:=hw.ltV h;omega
 have H:¬Sh v.heap.size:=λh=>by have:=hw.mo _ h;omega
 have hle:ρ.le (λb=>if b=v.heap.size then some (w.heap.size,0) else ρ b):=by
  intro b c e
  grind
 refine⟨λb=>if b=v.heap.size then some (w.heap.size,0) else ρ b,⟨hle,⟨?_,?_,?_,?_,?_,?_,by have:=hw.C2;simp;omega,by have:=hw.C1;simp;omega⟩,?_,?_,by simp,by simp,rfl,rfl,rfl,by simp⟩,by simp,H⟩
 ·intro b b' c d d' e e';by_cases h:b=v.heap.size
  ·by_cases h':b'=v.heap.size
   ·omega
   ·rw[aay h] at e;rw[aat h'] at e';cases e;have:=hw.VD e';omega
  ·rw[aat h] at e;by_cases h':b'=v.heap.size
   ·rw[aay h'] at e';cases e';have:=hw.VD e;omega
   ·rw[aat h'] at e';exact hw.inj _ _ _ _ _ e e'
 ·intro b c d e hs;by_cases h:b=v.heap.size
  ·rw[aay h] at e;cases e;subst h;exact⟨rfl,o,o',by simp,by simp,ho.mono hle⟩
  ·rw[aat h] at e;obtain⟨rfl,p,I,k1,k2,E⟩:=hw.own _ _ _ e hs;have l1:=eA k1;have l2:=eA k2;refine⟨rfl,p,I,?_,?_,E.mono hle⟩
   ·grind
   grind
 ·intro b c d e hs;have h:b≠v.heap.size:=λh=>H (h▸hs)
  rw[aat h] at e;obtain⟨xs,t,hi,ys,t',fr,k1,k2,E,J⟩:=hw.sh _ _ _ e hs;have l1:=eA k1;have l2:=eA E;refine⟨xs,t,hi,ys,t',fr,?_,k2,?_,λi x hx=>let ⟨y,hy,hr⟩:=J i x hx;⟨y,hy,hr.mono hle⟩⟩
  ·grind
  grind
 ·intro b c d e hs;have h:b≠v.heap.size:=λh=>H (h▸hs)
  rw[aat h] at e;have l1:=hw.ltV e;have l2:=hw.VD e;have:=hw.Bv b c d e hs;simp only[World.shape?,abP] at this ⊢
  grind
 ·intro b hs;have:=hw.mo b hs;simp;omega
 ·intro b c d e hg;by_cases h:b=v.heap.size
  ·rw[aay h] at e;cases e;have:=hw.C2;have:=hw.C1;omega
  ·rw[aat h] at e;obtain⟨h1,h2,L⟩:=hw.cz b c d e hg;refine⟨h1,h2,λhs=>?_⟩;have l1:=hw.ltV e;have l2:=hw.VD e;have:=L hs;simp only[World.shape?,abP] at this ⊢
   grind
 ·grind
 grind
theorem gL{o o':Obj}(ho:jI S CO ρ o o'):ai P Q S CO Sh ρ (λσ r p=>σ r=some (p,0)/\¬Sh r) (newObj o) (newObj o'):=by
 intro v w hw;unfold newObj;simp only[Sem.run];obtain⟨ρ1,h1,h2,E⟩:=Sk hw ho;refine⟨⟨aax _,J.push ho.quiet⟩,trivial,λ_ _=>rfl,λ_=>⟨ρ1,_,_,rfl,h1,⟨h2,E⟩,λe he=>?_⟩⟩;simp only[Sem.events,Sem.runT] at he;simp at he
theorem kY{xs ys:Array Value}(e:TypeId)(h:AR S ρ xs ys):ai P Q S CO Sh ρ (λσ a a'=>bR σ a a'/\¬Sh a.block/\a.off=0) (newRow e xs) (newRow e ys):=by
 unfold newRow;refine(gL (.cells xs ys e (0,0) h)).bind λσ r p hle hr=>ai.pure ⟨⟨0,hr.1,rfl,rfl⟩,hr.2,rfl⟩
theorem uf{x y:Value}(t:TypeId)(h:aI S ρ x y):ai P Q S CO Sh ρ (λσ a a'=>bR σ a a'/\¬Sh a.block) (newVar t x) (newVar t y):=by
 unfold newVar;exact(kY t h.cells).mono λ_ _ _ _ h=>⟨h.1,h.2.1⟩
theorem LI{v:World}(h:J v)(a:Addr)(x:Value):J (v.setCell a x):=by
 intro b d p e;simp only[World.setCell,acD] at e;split at e
 ·cases hb:v.heap[b]? with
  |none=>simp_all
  |some o=>
   rw[hb] at e;simp only[acz,Option.some.injEq] at e;cases o with
   |cells=>simp at e
   |_=>exact h b d p (by rw[hb,<-e])
 ·exact h b d p e
theorem Gt{a a':Addr}{x y:Value}(ha:bR ρ a a')(hx:aI S ρ x y):ai P Q S CO Sh ρ (λ_ _ _=>True) (store a x) (store a' y):=by
 intro v w hw;unfold store;obtain⟨d,h1,h2,L⟩:=ha;have E:(∃s,∀u,(Sem.store .plain a x (.pure ())).run P u=.halt (.stuck s) u)\/((∀u,(Sem.store .plain a x (.pure ())).run P u=match u.cell? a with
   |some _=>if u.frozen? a then .halt (.unsupported (.unsafePointer "a write to bytes that a string shares")) u else .ok () (u.setCell a x)
   |none=>match u.farStore P a x false with
    | .ok (w,_)=>.ok () w
    | .error h=>.halt h u)/\(∀u,(Sem.store .plain a' y (.pure ())).run Q u=match u.cell? a' with
   |some _=>if u.frozen? a' then .halt (.unsupported (.unsafePointer "a write to bytes that a string shares")) u else .ok () (u.setCell a' y)
   |none=>match u.farStore Q a' y false with
    | .ok (w,_)=>.ok () w
    | .error h=>.halt h u)/\(∀u c,u.cell? a'=some c->u.frozen? a'=false->(Sem.store .plain a' y (.pure ())).events Q u #[]= #[⟨.cell a',true,false⟩])):=by
  cases hx <;>first
   |exact .inl ⟨_,λu=>rfl⟩
   |exact .inr ⟨λu=>rfl,λu=>rfl,λu c hc hf=>by simp only[Sem.events,Sem.runT,hc,hf];rfl⟩
 rcases E with ⟨s,hs⟩|⟨hr,W,M⟩
 ·rw[hs];exact⟨trivial,id⟩
 rw[hr v];by_cases hs:Sh a.block
 ·
  obtain⟨xs,e,hi,ys,e',fr,k1,k2,I,Y⟩:=hw.sh _ _ _ h1 hs;cases hc:v.cell? a with
  |none=>
   simp only;have:∃h,v.farStore P a x false=.error h/\iy h:=by
    unfold World.farStore World.noCell;rw[k1];exact⟨_,rfl,trivial⟩
   obtain⟨h,he,hf⟩:=this;rw[he];exact⟨hf,id⟩
  |some c=>
   simp only;have Z:a.off<xs.size:=by
    unfold World.cell? at hc;rw[k1] at hc;simp only at hc;split at hc
    ·cases hc
    ·exact(aah.1 hc).1
   have p:v.frozen? a=true:=by
    unfold World.frozen?
    grind
   rw[aay p];exact⟨trivial,id⟩
 ·obtain⟨rfl,o,o',k1,k2,I⟩:=hw.own _ _ _ h1 hs;cases I with
  |cells xs ys e fr h=>
   cases hc:v.cell? a with
   |none=>
    simp only;have:∃h,v.farStore P a x false=.error h/\iy h:=by
     unfold World.farStore World.noCell;rw[k1];exact⟨_,rfl,trivial⟩
    obtain⟨h,he,hf⟩:=this;rw[he];exact⟨hf,id⟩
   |some c=>
    simp only;by_cases p:v.frozen? a=true
    ·rw[aay p];exact⟨trivial,id⟩
    ·rw[aat p];refine⟨⟨aax _,λj=>LI j a x⟩,rfl,λt _=>by rw[hr];rw[show World.cell? { v with tape:=t } a=v.cell? a from rfl,show World.frozen? { v with tape:=t } a=v.frozen? a from rfl,hc];simp only;rw[aat p];rfl,λ_=>?_⟩;have aa2:w.frozen? a'=false:=by
      have:v.frozen? a=false:=by grind
      unfold World.frozen? at this ⊢
      simp_all
     have J:a.spot.isSome=false:=by
      unfold World.cell? at hc
      simp_all
     obtain⟨u,O,_⟩:∃u,w.cell? a'=some u/\aI S ρ c u:=by
      unfold World.cell? at hc ⊢;rw[k1] at hc;rw[k2];simp only[L,J] at hc ⊢;rw[h2];exact h.get hc
     have N:v.setCell a x= { v with heap:=v.heap.setIfInBounds a.block (.cells (xs.setIfInBounds a.off x) e fr) } :=by
      unfold World.setCell;congr 1
      grind
     have U:w.setCell a' y= { w with heap:=w.heap.setIfInBounds a'.block (.cells (ys.setIfInBounds a.off y) e fr) } :=by
      unfold World.setCell;congr 1
      grind
     refine⟨ρ,(),w.setCell a' y,by simp_all,?_,trivial,?_⟩
     ·rw[N,U];exact Jq hw h1 hs (.cells _ _ e fr (h.set a.off hx))
     ·intro ev H;rw[M w u O aa2] at H;simp at H;subst H;exact⟨rfl,a.block,0,h1,λ_=>hs⟩
  |_=>
   have hc:v.cell? a=none:=by unfold World.cell?;rw[k1]
   rw[hc];simp only;have:∃h,v.farStore P a x false=.error h/\iy h:=by
    unfold World.farStore World.noCell;rw[k1];exact⟨_,rfl,trivial⟩
   obtain⟨h,he,hf⟩:=this;rw[he];exact⟨hf,id⟩
theorem dN{b c:Nat}(hb:ρ b=some (c,0)):ai P Q S CO Sh ρ (λσ o o'=>jI S CO σ o o'/\¬Sh b/\(∀xs e fr,o≠.cells xs e fr)) (getObj b) (getObj c):=by
 intro v w hw;unfold getObj;by_cases hs:Sh b
 ·obtain⟨xs,e,hi,ys,e',fr,k1,k2,p,E⟩:=hw.sh _ _ _ hb hs;simp only[Sem.run,k1];exact⟨trivial,id⟩
 ·obtain⟨_,o,o',k1,k2,p⟩:=hw.own _ _ _ hb hs;cases p with
  |cells xs ys e fr h=>simp only[Sem.run,k1];exact⟨trivial,id⟩
  |_=>
   simp only[Sem.run,k1];refine⟨gP.refl _,trivial,λt _=>by simp only[Sem.run,k1],λ_=>⟨ρ,_,w,by simp only[k2];rfl,Ext.refl hw,⟨by constructor <;>assumption,hs,λ_ _ _ h=>by cases h⟩,λe he=>?_⟩⟩;simp only[Sem.events,Sem.runT,k2] at he;simp at he;subst he;exact⟨rfl,b,0,hb,λh=>by cases h⟩
theorem eJ{b c:Nat}(hb:ρ b=some (c,0))(hs:¬Sh b){o o':Obj}(ho:jI S CO ρ o o')(E:o'.isChan=false):
  ai P Q S CO Sh ρ (λ_ _ _=>True) (setObj b o) (setObj c o'):=by
 intro v w hw;unfold setObj;obtain⟨_,p,I,k1,k2,H⟩:=hw.own _ _ _ hb hs;cases H with
 |cells xs ys e fr h=>simp only[Sem.run,k1];exact⟨trivial,id⟩
 |_=>
  simp only[Sem.run,k1];refine⟨⟨aax _,λj=>j.set ho.quiet b⟩,trivial,λt _=>by simp only[Sem.run,k1],λ_=>⟨ρ,(),_,by simp only[k2],Jq hw hb hs ho,trivial,λe he=>?_⟩⟩;simp only[Sem.events,Sem.runT,k2] at he;simp[E] at he;subst he;exact⟨rfl,b,0,hb,λ_=>hs⟩
end
def agK:=@Option.isSome_none
def aez:=@Option.map_none
section
variable{P Q:Program}[Twin P Q]{S:FuncId->Prop}{CO:Code->Prop}{Sh:Nat->Prop}{ρ:Ren}
abbrev VR(S:FuncId->Prop):Ren->Value->Value->Prop:=λσ x y=>aI S σ x y
abbrev ARR(S:FuncId->Prop):Ren->Array Value->Array Value->Prop:=λσ x y=>AR S σ x y
theorem pU(n:Nat):∀ {ρ:Ren} {a a':Addr} (_:bR ρ a a') (i:Nat) {xs ys:Array Value} (_:AR S ρ xs ys),
  ai P Q S CO Sh ρ (ARR S) (loadCellsFrom a i n xs) (loadCellsFrom a' i n ys):=by
 induction n with
 |zero=>intro ρ a a' _ i xs ys h;exact ai.pure h
 |succ n p=>
  intro ρ a a' ha i xs ys h;simp only[loadCellsFrom];exact(oU (ha.add i)).bind λσ x y hle E=>p (ha.mono hle) (i+1) ((h.mono hle).push E)
theorem ajt{a a':Addr}(ha:bR ρ a a')(n:Nat):ai P Q S CO Sh ρ (ARR S) (loadCells a n) (loadCells a' n):=by
 grind [pU,AR.empty,loadCells]
def LR(S:FuncId->Prop)(ρ:Ren)(xs ys:List Value):Prop:=AR S ρ xs.toArray ys.toArray
theorem LR.nil{ys:List Value}(h:LR S ρ [] ys):ys= []:=by
 have:=h.1;grind
theorem LR.cons{x:Value}{xs ys:List Value}(h:LR S ρ (x::xs) ys):∃y ys',ys=y::ys'/\aI S ρ x y/\LR S ρ xs ys':=by
 cases ys with
 |nil=>have:=h.1;grind
 |cons y ys'=>
  refine⟨y,ys',rfl,h.2 0 x y (by simp) (by simp),⟨by have:=h.1;grind,λi u v hu hv=>?_⟩⟩;exact h.2 (i+1) u v (by grind) (by grind)
theorem AR.toList{xs ys:Array Value}(h:AR S ρ xs ys):LR S ρ xs.toList ys.toList:=by
 simp_all [LR]
theorem LR.mono{σ:Ren}(hle:ρ.le σ){xs ys:List Value}(h:LR S ρ xs ys):LR S σ xs ys:=AR.mono hle h
theorem gv(xs:List Value):∀ {ρ:Ren} {a a':Addr} {ys:List Value} (_:bR ρ a a') (_:LR S ρ xs ys) (i:Nat),
  ai P Q S CO Sh ρ (λ_ _ _=>True) (storeCells a xs i) (storeCells a' ys i):=by
 induction xs with
 |nil=>intro ρ a a' ys _ h i;rw[h.nil];exact ai.pure trivial
 |cons x xs p=>
  intro ρ a a' ys ha h i;obtain⟨y,ys',rfl,E,h'⟩:=h.cons;simp only[storeCells];exact(Gt (ha.add i) E).bind λσ _ _ hle _=>p (ha.mono hle) (h'.mono hle) (i+1)
theorem q_(t:TypeId){a a':Addr}(ha:bR ρ a a'):ai P Q S CO Sh ρ (VR S) (loadVar t a) (loadVar t a'):=by
 unfold loadVar;refine(wB t).bind λσ x y hle p=>?_
 subst p;cases x with
 |true=>
  refine(bM t).bind λτ x y E p=>?_
  obtain⟨rfl,_⟩:=p;refine(ajt (ha.mono (Ren.le_trans hle E)) x).bind λH xs ys _ h=>ai.pure (.agg _ _ h.1 h.2)
 |false=>exact oU (ha.mono hle)
theorem yB(t:TypeId){a a':Addr}(ha:bR ρ a a'){x y:Value}(hx:aI S ρ x y):ai P Q S CO Sh ρ (λ_ _ _=>True) (storeVar t a x) (storeVar t a' y):=by
 unfold storeVar;refine(bM t).bind λσ n m hle p=>?_
 obtain⟨rfl,_⟩:=p;rw[<-hx.cells.1];by_cases hn:x.cells.size≠n
 ·simp_all [ai.aw,bC.bind,ah]
 ·rw[aat hn,aat hn];exact gv _ (ha.mono hle) (hx.cells.toList.mono hle) 0
theorem gK(t:TypeId){xs ys:Array Value}(h:AR S ρ xs ys)(off:Nat):ai P Q S CO Sh ρ (VR S) (part t xs off) (part t ys off):=by
 unfold part;refine(wB t).bind λσ x y hle p=>?_
 subst p;cases x with
 |true=>
  refine(bM t).bind λτ x y E p=>?_
  obtain⟨rfl,_⟩:=p;have:=((h.mono hle).mono E).extract off (off+x);exact ai.pure (.agg _ _ this.1 this.2)
 |false=>
  simp only[abX,ab3];cases hx:xs[off]? with
  |none=>exact ai.aw (ah _)
  |some x=>
   obtain⟨y,hy,p⟩:=h.get hx;rw[hy];exact ai.pure (p.mono hle)
theorem jT{x y:Value}(h:aI S ρ x y):ai P Q S CO Sh ρ (λ_ a b=>a=b/\x=.int a.1 a.2/\y=.int a.1 a.2) (asIntOf x) (asIntOf y):=by
 cases h with
 |int k n=>exact ai.pure ⟨rfl,rfl,rfl⟩
 |ptr=>exact ai.aw (an (by simp))
 |_=>exact ai.aw (ah _)
theorem iO{x y:Value}(h:aI S ρ x y):ai P Q S CO Sh ρ (λ_ a b=>a=b) (asInt x) (asInt y):=by
 unfold asInt;exact(jT h).bind λσ a b _ p=>ai.pure (by rw[p.1])
theorem nN{x y:Value}(h:aI S ρ x y):ai P Q S CO Sh ρ (λ_ a b=>a=b) (asBool x) (asBool y):=by
 cases h with
 |bool b=>exact ai.pure rfl
 |_=>exact ai.aw (ah _)
theorem GC{x y:Value}(h:aI S ρ x y):ai P Q S CO Sh ρ (ARR S) (asAgg x) (asAgg y):=by
 cases h with
 |agg xs ys hs h=>exact ai.pure ⟨hs,h⟩
 |_=>exact ai.aw (ah _)
theorem gm{x y:Value}(h:aI S ρ x y):ai P Q S CO Sh ρ (λσ a a'=>bR σ a a') (Instr.sureAddr x) (Instr.sureAddr y):=by
 cases h with
 |ptr b c d off spot h=>exact ai.pure ⟨d,h,rfl,rfl⟩
 |_=>exact ai.aw (ah _)
theorem uj{x y:Value}(h:aI S ρ x y):ai P Q S CO Sh ρ (λσ a a'=>bR σ a a') (asAddr x) (asAddr y):=by
 cases h with
 |ptr b c d off spot h=>exact ai.pure ⟨d,h,rfl,rfl⟩
 |jD=>exact ai.aw (aT (P:=P) (α:=Addr) .nilDeref)
 |_=>exact ai.aw (ah _)
theorem GD(t:TypeId)(hz:ZAt P t):ai P Q S CO Sh ρ (VR S) (Instr.alloc t true (.tuple #[])) (Instr.alloc t true (.tuple #[])):=by
 unfold Instr.alloc;refine(dz hz).bind λσ z E hle p=>?_
 obtain⟨p,rfl⟩:=p;exact(uf t p).bind λτ a a' _ h=>ai.pure h.1.ptr
theorem MA(t:TypeId){x y:Value}(h:aI S ρ x y):ai P Q S CO Sh ρ (VR S) (Instr.box t x) (Instr.box t y):=by
 unfold Instr.box;exact(uf t h).bind λτ a a' _ h=>ai.pure h.1.ptr
theorem DF(t:TypeId){x y:Value}(h:aI S ρ x y):ai P Q S CO Sh ρ (VR S) (Instr.loadAt t x) (Instr.loadAt t y):=by
 unfold Instr.loadAt;exact(gm h).bind λτ a a' _ h=>q_ t h
theorem Bb(t:TypeId){x y u p:Value}(h:aI S ρ x y)(hu:aI S ρ u p):ai P Q S CO Sh ρ (λ_ _ _=>True) (Instr.storeAt t x u) (Instr.storeAt t y p):=by
 unfold Instr.storeAt;exact(gm h).bind λτ a a' hle h=>yB t h (hu.mono hle)
def JJ(P:Program)(t:TypeId)(f:Nat):Prop:=∀fs p i,P.underlying t=some (.struct fs)->fs[f]?=some p->P.info? p.type=some i->i.size≠0
theorem Bf(t:TypeId)(f:Nat)(hf:JJ P t f){x y:Value}(h:aI S ρ x y):ai P Q S CO Sh ρ (VR S) (Instr.fieldAt t x f) (Instr.fieldAt t y f):=by
 unfold Instr.fieldAt;refine(aA t).bind λσ d d' hle hd=>?_
 obtain⟨rfl,hd⟩:=hd;cases d with
 |struct fs=>
  simp only;cases I:fs[f]? with
  |none=>exact ai.aw (ah _)
  |some E=>
   refine(gm (h.mono hle)).bind λτ a a' L ha=>?_
   have H:=hf fs E;unfold fieldPlace;refine ai.bind (A:=λσ a a'=>bR σ a a') ?_ λJ a a' _ h=>ai.pure h.ptr
   refine(bM E.type).bind λJ n m p hn=>?_
   obtain⟨rfl,i,hi,rfl⟩:=hn;rw[aat (H i hd I hi),aat (H i hd I hi)];exact ai.pure ((ha.mono p).add _)
 |_=>exact ai.aw (ah _)
theorem Gx(t:TypeId)(f:Nat){x y:Value}(h:aI S ρ x y):ai P Q S CO Sh ρ (VR S) (Instr.field t x f) (Instr.field t y f):=by
 unfold Instr.field;refine(aA t).bind λσ d d' hle hd=>?_
 obtain⟨rfl,hd⟩:=hd;cases d with
 |struct fs=>
  simp only;cases E:fs[f]? with
  |none=>exact ai.aw (ah _)
  |some p=>exact(GC (h.mono hle)).bind λτ a a' _ ha=>gK _ ha _
 |_=>exact ai.aw (ah _)
theorem Be(t:TypeId){x y i j:Value}(h:aI S ρ x y)(J:aI S ρ i j):ai P Q S CO Sh ρ (VR S) (Instr.indexAt t x i) (Instr.indexAt t y j):=by
 unfold Instr.indexAt;refine(jT J).bind λσ k k' hle hk=>?_
 obtain⟨rfl,_,_⟩:=hk;obtain⟨k,n⟩:=k;simp only;refine(aA t).bind λτ d d' I hd=>?_
 obtain⟨rfl,hd⟩:=hd;have tail:∀ {σ:Ren} (p q:Option Addr) (len:Nat) (e:TypeId),((p=none/\q=none)\/∃a a',p=some a/\q=some a'/\bR σ a a')->ai P Q S CO Sh σ (VR S)
   (underlying t>>=λu=>match p with
    |some a=>if 0<=n/\n<(len:Int) then sizeOf e>>=λs=>Pure.pure (.pointer (some (a.add (n.toNat*s))))
     else if(decide (len<=1)&&(match u with| .array .. =>true|_=>false))=true then unsupported (.noEntry "op/indexAddr.an index out of range at an array of length 0 or 1 (ledger 616)")
     else boundsPanic k n len .index
    |none=>boundsPanic k n 0 .index)
   (underlying t>>=λu=>match q with
    |some a=>if 0<=n/\n<(len:Int) then sizeOf e>>=λs=>Pure.pure (.pointer (some (a.add (n.toNat*s))))
     else if(decide (len<=1)&&(match u with| .array .. =>true|_=>false))=true then unsupported (.noEntry "op/indexAddr.an index out of range at an array of length 0 or 1 (ledger 616)")
     else boundsPanic k n len .index
    |none=>boundsPanic k n 0 .index):=by
  intro σ p q len e h2;refine(aA t).bind λM d d' H hd=>?_
  obtain⟨rfl,hd⟩:=hd;rcases h2 with ⟨rfl,rfl⟩|⟨a,a',rfl,rfl,ha⟩
  ·grind [ai.aw,dT]
  ·simp only;by_cases hb:0<=n/\n<(len:Int)
   ·rw[aay hb,aay hb];refine(bM e).bind λL s s' E hs=>?_
    obtain⟨rfl,_⟩:=hs;exact ai.pure (((ha.mono H).mono E).add _).ptr
   ·rw[aat hb,aat hb]
    grind [ai.aw,dT,an]
 have h':=h.mono (Ren.le_trans hle I);cases d with
 |array len e=>exact(gm h').bind λτ a a' _ ha=>tail (some a) (some a') len e (.inr ⟨a,a',rfl,rfl,ha⟩)
 |slice e=>
  cases h' with
  |slice b c d off spot n m hb=>exact tail _ _ n e (.inr ⟨⟨b,off,spot⟩,⟨c,off+d,spot⟩,rfl,rfl,d,hb,rfl,rfl⟩)
  |cE n m=>exact tail none none n e (.inl ⟨rfl,rfl⟩)
  |_=>exact ai.aw (bC.bind (ah _))
 |_=>exact ai.aw (bC.bind (ah _))
theorem Gw(t:TypeId){x y i j:Value}(h:aI S ρ x y)(H:aI S ρ i j):ai P Q S CO Sh ρ (VR S) (Instr.index t x i) (Instr.index t y j):=by
 unfold Instr.index;refine(jT H).bind λσ k k' hle hk=>?_
 obtain⟨rfl,_,_⟩:=hk;obtain⟨k,n⟩:=k;simp only;refine(aA t).bind λτ d d' E hd=>?_
 obtain⟨rfl,hd⟩:=hd;have h':=h.mono (Ren.le_trans hle E);cases d with
 |array len e=>
  cases h' with
  |agg xs ys hs ha=>
   simp only;by_cases hb:0<=n/\n<(len:Int)
   ·rw[aay hb,aay hb];refine(bM e).bind λI s s' p hs'=>?_
    obtain⟨rfl,_⟩:=hs';exact gK e (AR.mono p ⟨hs,ha⟩) _
   simp_all [aat,ai.aw,dT]
  |_=>exact ai.aw (ah _)
 |string=>
  cases h' with
  |string s=>
   simp only;cases hb:(if 0<=n then s[n.toNat]? else none) with
   |none=>grind [ai.aw,dT]
   |some b=>exact ai.pure (.int _ _)
  |_=>exact ai.aw (ah _)
 |_=>exact ai.aw (ah _)
theorem gw{x y:Value}(h:aI S ρ x y)(m:Nat)(c:BoundsCode):ai P Q S CO Sh ρ (λ_ a b=>a=b) (Instr.sliceBound x m c) (Instr.sliceBound y m c):=by
 unfold Instr.sliceBound;refine(jT h).bind λσ k k' hle hk=>?_
 obtain⟨rfl,_,_⟩:=hk;obtain⟨k,n⟩:=k;simp only;by_cases hb:0<=n/\n<=(m:Int)
 ·simp_all [ai.pure]
 simp_all [aat,ai.aw,dT]
def OV(S:FuncId->Prop)(ρ:Ren)(x y:Option Value):Prop:=(x=none/\y=none)\/∃u p,x=some u/\y=some p/\aI S ρ u p
theorem OV.mono{σ:Ren}(hle:ρ.le σ){x y:Option Value}(h:OV S ρ x y):OV S σ x y:=h.imp id λ⟨u,p,a,b,c⟩=>⟨u,p,a,b,c.mono hle⟩
theorem fQ(is:Bool)(len cap:Nat){I J hi M L N:Option Value}(h1:OV S ρ I J)(h2:OV S ρ hi M)(W:OV S ρ L N):
  ai P Q S CO Sh ρ (λ_ a b=>a=b) (Instr.sliceBounds is len cap I hi L) (Instr.sliceBounds is len cap J M N):=by
 unfold Instr.sliceBounds;have low:∀ {σ:Ren},ρ.le σ->∀(h m:Nat) (c:BoundsCode),ai P Q S CO Sh σ (λ_ (a b:Nat×Nat×Nat)=>a=b)
   (match(generalizing:=false) I with|some v=>Instr.sliceBound v h c>>=λl=>Pure.pure (l,h,m)|none=>(Pure.pure 0:Sem Nat)>>=λl=>Pure.pure (l,h,m))
   (match(generalizing:=false) J with|some v=>Instr.sliceBound v h c>>=λl=>Pure.pure (l,h,m)|none=>(Pure.pure 0:Sem Nat)>>=λl=>Pure.pure (l,h,m)):=by
  intro σ hle h m c;rcases h1 with ⟨rfl,rfl⟩|⟨u,Z,rfl,rfl,hu⟩
  ·grind [ai.pure]
  ·exact(gw (hu.mono hle) _ _).bind λ_ _ _ _ hk=>ai.pure (by rw[hk])
 rcases W with ⟨rfl,rfl⟩|⟨Y,O,rfl,rfl,hu3⟩
 ·refine(ai.pure (A:=λ_ a b=>a=b) rfl).bind λσ m m' hle hm=>?_
  subst hm;rcases h2 with ⟨rfl,rfl⟩|⟨U,H,rfl,rfl,hu2⟩
  ·refine(ai.pure (A:=λ_ a b=>a=b) rfl).bind λτ m' p E hm=>?_
   subst hm;exact low (Ren.le_trans hle E) _ _ _
  ·refine(gw (hu2.mono hle) _ _).bind λτ m' p E hm=>?_
   subst hm;exact low (Ren.le_trans hle E) _ _ _
 ·refine(gw hu3 _ _).bind λσ m m' hle hm=>?_
  subst hm;rcases h2 with ⟨rfl,rfl⟩|⟨U,H,rfl,rfl,hu2⟩
  ·exact ai.aw (bC.bind (ah _))
  ·refine(gw (hu2.mono hle) _ _).bind λτ m' p E hm=>?_
   subst hm;exact low (Ren.le_trans hle E) _ _ _
theorem Gu (t : TypeId) {x y : Value} (h : aI S ρ x y) {L N hi M J O : Option Value} (h1 : OV S ρ L N) (h2 : OV S ρ hi M) (Y : OV S ρ J O) :
    ai P Q S CO Sh ρ (VR S) (Instr.slice t x L hi J) (Instr.slice t y N M O) := by
  unfold Instr.slice
  refine (aA t).bind fun σ d d' hle hd => ?_
  obtain ⟨rfl, hd⟩ := hd
  have h' := h.mono hle
  have k1 := h1.mono hle
  have k2 := h2.mono hle
  have U := Y.mono hle
  cases d with
  | string =>
    cases h' with
    | string s =>
      simp only
      rcases U with ⟨rfl, rfl⟩ | ⟨_, _, rfl, rfl, _⟩
      · simp only [agK, abX, ab3]
        refine (fQ _ _ _ k1 k2 (.inl ⟨rfl, rfl⟩)).bind fun τ p q _ H => ?_
        subst H
        exact ai.pure (aI.string _)
      · exact ai.aw (bC.bind (ah _))
    | _ => exact ai.aw (ah _)
  | slice e =>
    have key : ∀ (o o' : Option Addr) (n m : Nat), ((o = none /\ o' = none) \/ ∃ a a', o = some a /\ o' = some a' /\ bR σ a a') -> ai P Q S CO Sh σ (VR S)
        (do let (l, h, m) <- Instr.sliceBounds true n m L hi J
            let size <- sizeOf e
            Pure.pure (.slice (if m = l then o else o.map (·.add (l * size))) (h - l) (m - l)))
        (do let (l, h, m) <- Instr.sliceBounds true n m N M O
            let size <- sizeOf e
            Pure.pure (.slice (if m = l then o' else o'.map (·.add (l * size))) (h - l) (m - l))) := by
      intro o o' n m ho
      refine (fQ _ _ _ k1 k2 U).bind fun τ p q I H => ?_
      subst H
      obtain ⟨l, hh, mm⟩ := p
      simp only
      refine (bM e).bind fun W s s' E hs => ?_
      obtain ⟨rfl, _⟩ := hs
      refine ai.pure ?_
      rcases ho with ⟨rfl, rfl⟩ | ⟨a, a', rfl, rfl, ha⟩
      · simp only [aez, ite_self]; exact .cE _ _
      · have ha := ha.mono (Ren.le_trans I E)
        by_cases hm : mm = l
        · simp only [aay hm]; exact ha.slice _ _
        · simp only [aat hm, acz]; exact (ha.add _).slice _ _
    cases h' with
    | cE n m => exact key none none n m (.inl ⟨rfl, rfl⟩)
    | slice b c d off spot n m hb => exact key _ _ n m (.inr ⟨⟨b, off, spot⟩, ⟨c, off + d, spot⟩, rfl, rfl, d, hb, rfl, rfl⟩)
    | _ => exact ai.aw (ah _)
  | pointer arr =>
    have key : ai P Q S CO Sh σ (VR S)
        (do let a <- asAddr x
            let .array n elem <- underlying arr | stuck "Slice: array type expected"
            let (l, h, m) <- Instr.sliceBounds false n n L hi J
            let size <- sizeOf elem
            Pure.pure (.slice (some (if m = l then a else a.add (l * size))) (h - l) (m - l)))
        (do let a <- asAddr y
            let .array n elem <- underlying arr | stuck "Slice: array type expected"
            let (l, h, m) <- Instr.sliceBounds false n n N M O
            let size <- sizeOf elem
            Pure.pure (.slice (some (if m = l then a else a.add (l * size))) (h - l) (m - l))) := by
      refine (uj h').bind fun τ a a' I ha => ?_
      refine (aA arr).bind fun W d d' E hd => ?_
      obtain ⟨rfl, _⟩ := hd
      cases d with
      | array n e =>
        simp only
        refine (fQ _ _ _ (k1.mono (Ren.le_trans I E)) (k2.mono (Ren.le_trans I E)) (U.mono (Ren.le_trans I E))).bind fun φ p q eu H => ?_
        subst H
        obtain ⟨l, hh, mm⟩ := p
        simp only
        refine (bM e).bind fun χ s s' Z hs => ?_
        obtain ⟨rfl, _⟩ := hs
        refine ai.pure ?_
        have ha := ha.mono (Ren.le_trans E (Ren.le_trans eu Z))
        by_cases hm : mm = l
        · simp only [aay hm]; exact ha.slice _ _
        · simp only [aat hm]; exact (ha.add _).slice _ _
      | _ => exact ai.aw (ah _)
    omega
  | _ => exact ai.aw (ah _)
theorem Bc(t:TypeId){x y:Value}(h:aI S ρ x y){I M hi L H N:Option Value}(h1:OV S ρ I M)(h2:OV S ρ hi L)(U:OV S ρ H N):
  ai P Q S CO Sh ρ (VR S) (Instr.sliceAt t x I hi H) (Instr.sliceAt t y M L N):=by
 unfold Instr.sliceAt;refine(aA t).bind λσ d d' hle hd=>?_
 obtain⟨rfl,hd⟩:=hd;have h':=h.mono hle;have k1:=h1.mono hle;have k2:=h2.mono hle;have J:=U.mono hle;cases d with
 |array n e=>
  simp only;refine(gm h').bind λτ a a' E ha=>?_
  refine(fQ _ _ _ (k1.mono E) (k2.mono E) (J.mono E)).bind λφ p q Y O=>?_
  subst O;obtain⟨l,hh,mm⟩:=p;simp only;refine(bM e).bind λZ s s' W hs=>?_
  obtain⟨rfl,_⟩:=hs;refine ai.pure ?_;have ha:=ha.mono (Ren.le_trans Y W);by_cases hm:mm=l
  ·simp only[aay hm];exact ha.slice _ _
  ·simp only[aat hm];exact(ha.add _).slice _ _
 |_=>exact Gu t h' k1 k2 J
end
end Go.Proofs.YtjagmhagphbfcaaGreatDoor
