/- Lemmas, part 15. -/
import Derived.Laws.BitsLemmas
import Derived.Test.YtjagmhagphbfcaaGreatDoorO14
set_option maxRecDepth 100000
set_option linter.all false
namespace Go.Proofs.YtjagmhagphbfcaaGreatDoor
def ae2:=@Array.getElem?_toList
def aes:=@List.map_congr_left
def abz:=@List.length_map
open Go Go.Proofs
section
variable{P:Program}{tb:qd}{mt:Nat->Bool}{Q:Ex->AS->Prop}{s:AS}
def Tp(P:Program)(tb:qd)(mt:Nat->Bool)(y:Code)(Q:Ex->AS->Prop):Ex->AS->Prop
 | .normal,s=>awp P tb mt y Q s
 |e,s=>Q e s
def blk(id:Nat)(Q:Ex->AS->Prop):Ex->AS->Prop
 | .exit j,s=>if j=id then Q .normal s else Q (.exit j) s
 |e,s=>Q e s
theorem dW:∀ {c:Code} {Q Q':Ex->AS->Prop} {s:AS},(∀e s,Q e s->Q' e s)->awp P tb mt c Q s->awp P tb mt c Q' s
 | .skip,Q,Q',s,hq,h=>hq _ _ h
 | .region id ops draw,Q,Q',s,hq,h=>by obtain⟨h1,s',s2,h2,hw,p⟩:=h;exact⟨h1,s',s2,h2,hw,hq _ _ p⟩
 | .seq x y,Q,Q',s,hq,h=>by
  refine dW (c:=x) ?_ h;intro e s h;cases e with
  |normal=>exact dW (c:=y) hq h
  |exit id=>grind
  |ret=>grind
 | .cond c x y,Q,Q',s,hq,h=>by
  unfold awp at h ⊢;split at h
  ·exact dW hq h
  ·exact dW hq h
  ·exact h.elim
 | .block id c,Q,Q',s,hq,h=>by
  refine dW (c:=c) ?_ h
  grind
 | .loop c,Q,Q',s,hq,h=>by
  obtain⟨n,hn⟩:=h;refine⟨n,?_⟩;have key:∀(n:Nat) (s:AS),rv (awp P tb mt c) Q n s->rv (awp P tb mt c) Q' n s:=by
   intro n
   induction n with
   |zero=>intro s h;exact h.elim
   |succ n E=>
    intro s h;refine dW (c:=c) ?_ h
    grind
  grind
 | .exit id,Q,Q',s,hq,h=>hq _ _ h
 | .ret,Q,Q',s,hq,h=>hq _ _ h
 | .label l,Q,Q',s,hq,h=>hq _ _ h
 | .rangeFunc ..,_,_,_,_,h=>h.elim
 | .scope ..,_,_,_,_,h=>h.elim
 | .goto ..,_,_,_,_,h=>h.elim
 | .refuse ..,_,_,_,_,h=>h.elim
theorem t_{x y:Code}(h:awp P tb mt x (Tp P tb mt y Q) s):awp P tb mt (.seq x y) Q s:=by
 refine dW (c:=x) ?_ h;intro e s h;cases e <;>exact h
theorem Gj(h:Q .normal s):awp P tb mt .skip Q s:=h
theorem L0(h:Q .ret s):awp P tb mt .ret Q s:=h
theorem US{id:Nat}(h:Q (.exit id) s):awp P tb mt (.exit id) Q s:=h
theorem II{l:Nat}(h:Q .normal s):awp P tb mt (.label l) Q s:=h
theorem kW{id:Nat}{c:Code}(h:awp P tb mt c (blk id Q) s):awp P tb mt (.block id c) Q s:=by
 refine dW (c:=c) ?_ h;intro e s h;cases e <;>exact h
def VF(J:Nat->AS->Prop)(n:Nat)(Q:Ex->AS->Prop):Ex->AS->Prop
 | .normal,s=>∃m,m<n/\J m s
 |e,s=>Q e s
theorem Qm{c:Code}(J:Nat->AS->Prop)(n:Nat)(h0:J n s)(step:∀n s,J n s->awp P tb mt c (VF J n Q) s):awp P tb mt (.loop c) Q s:=by
 have key:∀(k n:Nat) (s:AS),n<k->J n s->rv (awp P tb mt c) Q k s:=by
  intro k
  induction k with
  |zero=>omega
  |succ k H=>
   intro n s I E;refine dW (c:=c) ?_ (step n s E);intro e s' h;cases e with
   |normal=>obtain⟨m,hm,p⟩:=h;grind
   |exit id=>exact h
   |ret=>exact h
 exact⟨n+1,key (n+1) n s (by omega) h0⟩
theorem XL{ops:Array Oper}{s s':AS}(h:FL P tb mt ops s=some s'):s'.n=s.n:=by
 unfold FL at h;have key:∀(dsts:Nat->Option Nat) (l:List Oper) (k:Nat) (s s':AS),fJ P tb mt dsts k l s=some s'->s'.n=s.n:=by
  intro dsts l
  induction l with
  |nil=>intro k s s' h;cases h;rfl
  |cons o l p=>
   intro k s s' h;obtain⟨s1,H,E⟩:=ax (show(b_ P tb mt dsts k o s).bind (fJ P tb mt dsts (k+1) l)=some s' from h);rw[p (k+1) s1 s' E];obtain⟨_,z,u,_,rfl⟩:=bw.1 H;rfl
 cases hr:fJ P tb mt (λj=>(ops[j]?).bind (·.dst)) 0 ops.toList s with
 |none=>simp_all
 |some s1=>grind
theorem xX:∀ {c:Code} {Q:Ex->AS->Prop} {s:AS},awp P tb mt c Q s->awp P tb mt c (λe s'=>Q e s'/\s'.n=s.n) s
 | .skip,Q,s,h=>⟨h,rfl⟩
 | .region id ops draw,Q,s,h=>by obtain⟨h1,s',s2,h2,hw,E⟩:=h;exact⟨h1,s',s2,h2,hw,E,hw.n.trans (XL h2)⟩
 | .seq x y,Q,s,h=>by
  have h1:=xX (c:=x) h;refine dW (c:=x) ?_ h1;rintro e s' ⟨h,hn⟩;cases e with
  |normal=>exact dW (c:=y) (λe p ⟨h,H⟩=>⟨h,H.trans hn⟩) (xX (c:=y) h)
  |exit id=>grind
  |ret=>grind
 | .cond c x y,Q,s,h=>by
  unfold awp at h ⊢;split at h
  ·exact xX h
  ·exact xX h
  ·exact h.elim
 | .block id c,Q,s,h=>by
  have h1:=xX (c:=c) h;refine dW (c:=c) ?_ h1
  simp_all
 | .loop c,Q,s,h=>by
  obtain⟨n,hn⟩:=h;refine⟨n,?_⟩;have key:∀(n:Nat) (s0:AS),s0.n=s.n->rv (awp P tb mt c) Q n s0->rv (awp P tb mt c) (λe s'=>Q e s'/\s'.n=s.n) n s0:=by
   intro n
   induction n with
   |zero=>intro s0 _ h;exact h.elim
   |succ n I=>
    intro s0 hs0 h;refine dW (c:=c) ?_ (xX (c:=c) h)
    grind
  simp_all
 | .exit id,Q,s,h=>⟨h,rfl⟩
 | .ret,Q,s,h=>⟨h,rfl⟩
 | .label l,Q,s,h=>⟨h,rfl⟩
 | .rangeFunc ..,_,_,h=>h.elim
 | .scope ..,_,_,h=>h.elim
 | .goto ..,_,_,h=>h.elim
 | .refuse ..,_,_,h=>h.elim
theorem amF{c:Code}{n:Nat}{T:Nat->AV}{B:Nat->Option (Bool×List AV)}{lv:Nat->Option TypeId}{nx:Nat}(J:Nat->(Nat->AV)->(Nat->Option (Bool×List AV))->(Nat->Option TypeId)->Nat->Prop)(k:Nat)(h0:J k T B lv nx)
  (step:∀k T B lv nx,J k T B lv nx->awp P tb mt c (VF (λk s=>J k s.T s.B s.lv s.nx) k Q) ⟨T,B,lv,nx,n⟩):awp P tb mt (.loop c) Q ⟨T,B,lv,nx,n⟩:=by
 refine Qm (λk s=>J k s.T s.B s.lv s.nx/\s.n=n) k ⟨h0,rfl⟩ (λk s p=>?_);obtain⟨T,B,lv,nx,E⟩:=s;obtain⟨p,rfl⟩:=p;refine dW ?_ (xX (step k T B lv nx p));rintro e s' ⟨h,hn⟩;cases e with
 |normal=>obtain⟨m,h1,h2⟩:=h;exact⟨m,h1,h2,hn⟩
 |exit id=>exact h
 |ret=>exact h
theorem aN{J:Nat->AS->Prop}{n:Nat}(m:Nat)(h:J m s)(hm:m<n:=by omega):VF J n Q .normal s:=⟨m,hm,h⟩
theorem NB{J:Nat->AS->Prop}{n id:Nat}(h:Q (.exit id) s):VF J n Q (.exit id) s:=h
theorem ZL{J:Nat->AS->Prop}{n:Nat}(h:Q .ret s):VF J n Q .ret s:=h
theorem Ml{y:Code}(h:awp P tb mt y Q s):Tp P tb mt y Q .normal s:=h
theorem Y7{y:Code}(h:Q .ret s):Tp P tb mt y Q .ret s:=h
theorem Mm{y:Code}{id:Nat}(h:Q (.exit id) s):Tp P tb mt y Q (.exit id) s:=h
theorem Pn{id:Nat}(h:Q .normal s):blk id Q .normal s:=h
theorem acB{id:Nat}(h:Q .ret s):blk id Q .ret s:=h
theorem Po{id:Nat}(h:Q .normal s):blk id Q (.exit id) s:=by
 show(if id=id then Q .normal s else Q (.exit id) s)
 simp_all
theorem Jy{id j:Nat}(p:j≠id)(h:Q (.exit j) s):blk id Q (.exit j) s:=by
 show(if j=id then Q .normal s else Q (.exit j) s)
 simp_all
def JI(n:Nat)(x:Option AS)(K:AS->Prop):Prop:=match x with
 |some s=>K { s with nx:=n }
 |none=>False
@[simp] theorem OF (n:Nat) (s:AS) (K:AS->Prop):JI n (some s) K=K { s with nx:=n } :=rfl
@[simp] theorem ab4 (n:Nat) (K:AS->Prop):JI n none K=False:=rfl
def dl:List (Option Nat)->Nat->Option Nat
 | [],_=>none
 |x::_,0=>x
 |_::l,j+1=>dl l j
theorem Sy(x:Option Nat)(l:List (Option Nat)):dl (x::l) 0=x:=(rfl)
theorem Sz(x:Option Nat)(l:List (Option Nat))(j:Nat):dl (x::l) (j+1)=dl l j:=(rfl)
theorem O9:∀(l:List Oper) (j:Nat),(l[j]?).bind (·.dst)=dl (l.map (·.dst)) j
 | [],j=>by rfl
 |o::l,0=>by rfl
 |o::l,j+1=>by simpa[dl] using O9 l j
def kI:List Oper->List Oper
 | []=> []
 |⟨d,op,t,_,_,g⟩::r=>⟨d,op,t, "",#[],g⟩::kI r
def Jx(ops:Array Oper):List Oper:=kI ops.toList
def Xz:List Oper->List (Option Nat)
 | []=> []
 |⟨d,_,_,_,_,_⟩::r=>d::Xz r
def zf(ops:Array Oper):List (Option Nat):=Xz ops.toList
def U0:List Oper->Nat
 | []=>0
 |_::r=>U0 r+1
def Gl(ops:Array Oper):Nat:=U0 ops.toList
theorem HV:∀l,Xz l=l.map (·.dst)
 | []=>rfl
 |o::l=>congrArg (o.dst:: ·) (HV l)
theorem wm:∀l,U0 l=l.length
 | []=>rfl
 |_::l=>congrArg (· +1) (wm l)
theorem Pm(l:List Oper):Jx (List.toArray l)=kI l:=(rfl)
theorem XA(l:List Oper):zf (List.toArray l)=Xz l:=(rfl)
theorem U1(l:List Oper):Gl (List.toArray l)=U0 l:=(rfl)
theorem Lh:kI []= []:=(rfl)
theorem H8(d op t p af g)(r:List Oper):kI (⟨d,op,t,p,af,g⟩::r)=⟨d,op,t, "",#[],g⟩::kI r:=(rfl)
theorem Sx:Xz []= []:=(rfl)
theorem O6(d op t p af g)(r:List Oper):Xz (⟨d,op,t,p,af,g⟩::r)=d::Xz r:=(rfl)
theorem Qy:U0 []=0:=(rfl)
theorem Mn(o:Oper)(r:List Oper):U0 (o::r)=U0 r+1:=(rfl)
theorem ju:∀(l:List Oper) (dsts:Nat->Option Nat) (i:Nat) (s:AS),fJ P tb mt dsts i (kI l) s=fJ P tb mt dsts i l s
 | [],_,_,_=>rfl
 |⟨d,op,t,p,af,g⟩::l,dsts,i,s=>by
  show(b_ P tb mt dsts i ⟨d,op,t, "",#[],g⟩ s).bind (fJ P tb mt dsts (i+1) (kI l))=(b_ P tb mt dsts i ⟨d,op,t,p,af,g⟩ s).bind (fJ P tb mt dsts (i+1) l);rw[show b_ P tb mt dsts i ⟨d,op,t, "",#[],g⟩ s=b_ P tb mt dsts i ⟨d,op,t,p,af,g⟩ s from rfl];cases b_ P tb mt dsts i ⟨d,op,t,p,af,g⟩ s with
  |none=>rfl
  |some s1=>exact ju l dsts (i+1) s1
noncomputable def eM(P:Program)(tb:qd)(mt:Nat->Bool)(l:List (Option Nat)):Nat->List Oper->AS->Option AS:=fJ P tb mt (dl l)
theorem s8(l i o r):eM P tb mt l i (o::r) s=(b_ P tb mt (dl l) i o s).bind (eM P tb mt l (i+1) r):=rfl
def pH(T:Nat->AV):List Nat->Nat->AV
 | []=>λ_=>.any
 |d::l=>Lo (pH T l) d (T d)
theorem Kw(T:Nat->AV):pH T []=λ_=>.any:=rfl
theorem Hc(T:Nat->AV)(d:Nat)(l:List Nat):pH T (d::l)=Lo (pH T l) d (T d):=rfl
theorem Er(T:Nat->AV):∀(l:List Nat) (j:Nat),pH T l j=T j\/pH T l j=.any
 | [],j=>.inr rfl
 |d::l,j=>by
  unfold pH;by_cases h:j=d
  ·subst h;simp
  ·rw[aL _ _ _ _ h];exact Er T l j
theorem oR(kp:List Nat){id:Nat}{ops:Array Oper}{draw:Bool}(p:draw=true->Region.lexB .any ops=true/\oz mt ops=true)
  (h:∀K:AS->Prop,(∀s1:AS,Q .normal s1->K s1)->JI (s.nx+Gl ops) (eM P tb mt (zf ops) 0 (Jx ops) s) (λs=>K { s with T:=pH s.T kp })):awp P tb mt (.region id ops draw) Q s:=by
 have h1:=h (λs1=>Q .normal s1) (λ_ h=>h);refine⟨p,?_⟩;have e:(λj=>(ops[j]?).bind (·.dst))=dl (zf ops):=by
  funext j
  unfold zf;rw[HV,<-O9,ae2]
 have E:Gl ops=ops.size:=by unfold Gl;rw[wm,ac5]
 rw[E] at h1;unfold FL;rw[e];unfold eM Jx at h1;rw[ju] at h1;cases hr:fJ P tb mt (dl (zf ops)) 0 ops.toList s with
 |none=>simp_all
 |some s1=>rw[hr] at h1;exact⟨_,{ s1 with nx:=s.nx+ops.size,T:=pH s1.T kp },rfl,⟨λj=>Er _ kp j,rfl,rfl,rfl,rfl⟩,h1⟩
theorem aqj{c:Operand}{x y:Code}(hc:s.ev c=.b true)(h:awp P tb mt x Q s):awp P tb mt (.cond c x y) Q s:=by unfold awp;simp_all
theorem xd{c:Operand}{x y:Code}(hc:s.ev c=.b false)(h:awp P tb mt y Q s):awp P tb mt (.cond c x y) Q s:=by unfold awp;simp_all
end
def a_:qd:= { fn:=λ_ _=>none }
theorem au(P:Program):jw P a_:=⟨λ_ _ _ h=>(by cases h),λ_ _ _ h=>(by cases h),λ_ _ _ _ h=>(by cases h)⟩
def bW(f:FuncId)(F:List AV->Option AV)(tb:qd):qd:= { tb with fn:=λg args=>if g=f then F args else tb g args }
theorem ab(f:FuncId)(F:List AV->Option AV)(tb:qd)(args:List AV):(bW f F tb).fn f args=F args:=by simp[bW]
theorem az(f g:FuncId)(F:List AV->Option AV)(tb:qd)(args:List AV)(h:g≠f):(bW f F tb).fn g args=tb.fn g args:=by grind [bW]
def Den(P:Program)(f:FuncId)(F:List AV->Option AV):Prop:=∀args res,F args=some res->aq P f args res
theorem ak{P:Program}{f:FuncId}{F:List AV->Option AV}{tb:qd}(he:Enters P f)(hd:Den P f F)(ht:jw P tb):jw P (bW f F tb):=⟨λg args res h=>by
 unfold bW at h;dsimp only at h;split at h
 ·rename_i e;subst e;exact⟨he,hd args res h⟩
 ·exact ht.1 g args res h,ht.2⟩
instance:pN a_:=⟨λ_ _=>rfl,λ_ _ _=>rfl⟩
instance{f:FuncId}{F:List AV->Option AV}{tb:qd}[h:pN tb]:pN (bW f F tb):=⟨h.1,h.2⟩
theorem fi{P:Program}[l:cL P]{tb:qd}[pN tb](p:jw P tb){f:FuncId}{fn:Func}{c:Code}(hf:P.funcs[f]?=some fn){args:List AV}{res:AV}
  (h:awp P tb (λ_=>false) c (λe s=>(e=.normal\/e=.ret)/\Dn P fn.results.toList s res) (a0 args fn.ntmps)) (hb:fn.body=some c:=by exact rfl) (hn:Nat.ble args.length fn.ntmps=true:=by exact rfl):aq P f args res:=
 o7 p mixed hf hb (Nat.le_of_ble_eq_true hn) h
theorem aS(n:Int)(h1: -9223372036854775808<=n:=by omega)(h2:n<=9223372036854775807:=by omega):IntKind.i64.wrap n=n:=by grind [IntKind.wrap_i64]
section
variable{P:Program}{tb:qd}{mt:Nat->Bool}{l:List (Option Nat)}{i d:Nat}{r:List Oper}{s:AS}{t ty yt:TypeId}{p:String}{af:Array Edge}
def jz(T:Nat->AV):Operand->AV
 | .tmp t=>T t
 | .const v=>vV v
 | .global g=>.v (.pointer (some ⟨g,0,none⟩))
 | .func f=>.fn f [] []
theorem Su(T:Nat->AV)(x:Nat):jz T (.tmp x)=T x:=(rfl)
theorem K9(T:Nat->AV)(x:Value):jz T (.const x)=vV x:=(rfl)
theorem OY(T:Nat->AV)(x:Nat):jz T (.func x)=.fn x [] []:=(rfl)
theorem bg(s:AS)(x:Operand):s.ev x=jz s.T x:=by rfl
noncomputable def oD(P:Program)(tb:qd)(mt:Nat->Bool)(l:List (Option Nat))(i:Nat)(r:List Oper)(d:Option Nat)(s:AS):Option (AV×jA)->Option AS
 |some x=>eM P tb mt l (i+1) r (upd s i d x.1 x.2)
 |none=>none
def pv(x:Option AV):Option (AV×jA):=x.map λz=>(z,{})
theorem MG{op:Op}(hd:d<s.n):eM P tb mt l i (⟨some d,op,t,p,af,none⟩::r) s=oD P tb mt l i r (some d) s (gX P tb mt (dl l) i ⟨some d,op,t,p,af,none⟩ s):=by
 rw[s8];have E:sf ⟨some d,op,t,p,af,none⟩ s=true:=by unfold sf;grind
 unfold b_;rw[E,cond_true];simp only[iM];rw[cond_true];cases gX P tb mt (dl l) i ⟨some d,op,t,p,af,none⟩ s <;>rfl
theorem QI{op:Op} :eM P tb mt l i (⟨none,op,t,p,af,none⟩::r) s=oD P tb mt l i r none s (gX P tb mt (dl l) i ⟨none,op,t,p,af,none⟩ s):=by
 rw[s8];have E:sf ⟨none,op,t,p,af,none⟩ s=true:=rfl;unfold b_;rw[E,cond_true];simp only[iM];rw[cond_true];cases gX P tb mt (dl l) i ⟨none,op,t,p,af,none⟩ s <;>rfl
noncomputable def gd(P:Program)(tb:qd)(mt:Nat->Bool)(l:List (Option Nat))(i:Nat)(o:Oper)(r:List Oper)(s:AS)(want:Bool):AV->Option AS
 | .b x=>bif (bif want then x else !x) then eM P tb mt l i ({ o with guard:=none } ::r) s else eM P tb mt l (i+1) r { s with T:=sI s.T o.dst (.tu []) }
 | .tu _=>eM P tb mt l (i+1) r { s with T:=sI s.T o.dst (.tu []) }
 |_=>none
theorem J3{op:Op}{j q:Nat}{w:Bool}(E:dl l j=some q)(hd:d<s.n):eM P tb mt l i (⟨some d,op,t,p,af,some (j,w)⟩::r) s=gd P tb mt l i ⟨some d,op,t,p,af,some (j,w)⟩ r s w (s.T q):=by
 rw[s8];have H:sf ⟨some d,op,t,p,af,some (j,w)⟩ s=true:=by unfold sf;grind
 unfold b_;rw[H,cond_true];simp only[iM,E];cases I:s.T q with
 |b x=>
  simp only[gd];rw[MG hd];cases(bif w then x else !x) with
  |true=>
   simp only[cond_true];rw[show gX P tb mt (dl l) i ⟨some d,op,t,p,af,some (j,w)⟩ s=gX P tb mt (dl l) i ⟨some d,op,t,p,af,none⟩ s from rfl];cases gX P tb mt (dl l) i ⟨some d,op,t,p,af,none⟩ s <;>rfl
  |false=>rfl
 |tu x=>rfl
 |_=>rfl
theorem aca{o:Oper} :gd P tb mt l i o r s true (.b true)=eM P tb mt l i ({ o with guard:=none } ::r) s:=(rfl)
theorem acb{o:Oper} :gd P tb mt l i o r s true (.b false)=eM P tb mt l (i+1) r { s with T:=sI s.T o.dst (.tu []) } :=(rfl)
theorem acd{o:Oper} :gd P tb mt l i o r s false (.b true)=eM P tb mt l (i+1) r { s with T:=sI s.T o.dst (.tu []) } :=(rfl)
theorem ace{o:Oper} :gd P tb mt l i o r s false (.b false)=eM P tb mt l i ({ o with guard:=none } ::r) s:=(rfl)
theorem aE{n:Nat}{o:Oper}{w x:Bool}{K:AS->Prop}(h1:x=true->JI n (gd P tb mt l i o r s w (.b true)) K)(h2:x=false->JI n (gd P tb mt l i o r s w (.b false)) K):JI n (gd P tb mt l i o r s w (.b x)) K:=by
 cases x
 ·grind
 grind
theorem ab_{o:Oper}(w:Bool)(x:List AV):gd P tb mt l i o r s w (.tu x)=eM P tb mt l (i+1) r { s with T:=sI s.T o.dst (.tu []) } :=(rfl)
theorem ai2(z:AV):oD P tb mt l i r (some d) s (pv (some z))=eM P tb mt l (i+1) r { s with T:=Lo s.T d z } :=(rfl)
theorem acr(z:AV):oD P tb mt l i r none s (pv (some z))=eM P tb mt l (i+1) r s:=(rfl)
theorem XD(z:AV)(e:TypeId):oD P tb mt l i r (some d) s (some (z,{ made:=some e }))=eM P tb mt l (i+1) r { s with T:=Lo s.T d z,lv:=Lo s.lv (s.nx+i) (some e) } :=(rfl)
theorem acv(z:AV)(e:TypeId)(τ:Nat):oD P tb mt l i r (some d) s (some (z,{ kill:=some τ,made:=some e }))=eM P tb mt l (i+1) r { s with T:=Lo s.T d z,lv:=Lo (Lo s.lv τ none) (s.nx+i) (some e) } :=(rfl)
theorem ai3(z:AV)(id:Nat)(x:Bool×List AV):oD P tb mt l i r (some d) s (some (z,{ bx:=some (id,x) }))=eM P tb mt l (i+1) r { s with T:=Lo s.T d z,B:=Lo s.B id (some x) } :=(rfl)
theorem acu(z:AV)(id:Nat)(x:Bool×List AV):oD P tb mt l i r none s (some (z,{ bx:=some (id,x) }))=eM P tb mt l (i+1) r { s with B:=Lo s.B id (some x) } :=(rfl)
theorem acs(z:AV)(f:List Nat):oD P tb mt l i r (some d) s (some (z,{ pL:=f }))=eM P tb mt l (i+1) r { s with T:=Lo s.T d z,B:=mR s.B f } :=(rfl)
theorem Ph(x:Option AV):x.bind (λa=>some (a,({} :jA)))=pv x:=by cases x <;>rfl
theorem OL(B:Nat->Option (Bool×List AV)):mR B []=B:=(rfl)
theorem K1(B:Nat->Option (Bool×List AV))(id:Nat)(l:List Nat):mR B (id::l)=mR (Lo B id ((B id).map λx=>(true,x.2))) l:=(rfl)
variable{dsts:Nat->Option Nat}{o:Option Nat}
theorem XW(x:Operand):gX P tb mt dsts i ⟨o,.move x,t,p,af,none⟩ s=pv (some (jz s.T x)):=by rfl
theorem PS(x:Nat):gX P tb mt dsts i ⟨o,.assign (.tmp x),t,p,af,none⟩ s=pv (some (s.T x)):=(rfl)
theorem LD(k:IntKind)(x:Int):gX P tb mt dsts i ⟨o,.assign (.const (.int k x)),t,p,af,none⟩ s=pv (some (.i k x)):=(rfl)
theorem LF(x:Bool):gX P tb mt dsts i ⟨o,.assign (.const (.bool x)),t,p,af,none⟩ s=pv (some (.b x)):=(rfl)
theorem LB(x:ByteArray):gX P tb mt dsts i ⟨o,.assign (.const (.string x)),t,p,af,none⟩ s=pv (some (.s x.data.toList)):=(rfl)
theorem LC:gX P tb mt dsts i ⟨o,.assign (.const (.slice none 0 0)),t,p,af,none⟩ s=(gY P t).bind λe=>some (.sq (some (s.nx+i)) (aQ P e) [],{ made:=some e }):=(rfl)
def H_(c a b:AV):Option AV:=match c with
 | .b t=>some (if t=true then a else b)
 |_=>none
theorem Pp(t:Bool)(a b:AV):H_ (.b t) a b=some (if t=true then a else b):=(rfl)
theorem XV(c a b:Operand):gX P tb mt dsts i ⟨o,.pick c a b,t,p,af,none⟩ s=pv (H_ (jz s.T c) (jz s.T a) (jz s.T b)):=by
 rw[<-bg,<-bg,<-bg];unfold H_;show(match s.ev c with| .b t=>some ((if t then s.ev a else s.ev b),({} :jA))|_=>none)=_;cases s.ev c <;>rfl
theorem ac0(op:BinOp)(x y:Operand):gX P tb mt dsts i ⟨o,.binOp op ty x y yt,t,p,af,none⟩ s=pv (PQ (ub P ty) (akC P ty) (aq8 P ty) op (jz s.T x) (jz s.T y)):=by
 rw[<-bg,<-bg,<-Ph];rfl
def UE:AV->Option AV
 | .b t=>some (.b (!t))
 |_=>none
theorem SO(t:Bool):UE (.b t)=some (.b (!t)):=(rfl)
theorem acU(x:Operand):gX P tb mt dsts i ⟨o,.unOp .not ty x,t,p,af,none⟩ s=pv (UE (jz s.T x)):=by
 rw[<-bg];show(match s.ev x with| .b t=>some (AV.b (!t),({} :jA))|_=>none)=_;cases s.ev x <;>rfl
def CN(P:Program)(src dst:TypeId):AV->Option AV
 | .i _ n=>if(P.underlying src).isSome then(match nG P dst with
  |some k=>some (.i k (k.wrap n))
  |none=>if jd P dst=true/\0<=n/\n<128 then some (.s [UInt8.ofNat n.toNat]) else none) else none
 | .sq _ k l=>if jd P dst=true/\(gY P src).bind (nG P)=some .u8/\k=1 then(iY l).map .s else none
 |_=>none
theorem X0(src dst:TypeId)(x:Operand):gX P tb mt dsts i ⟨o,.convert src dst x,t,p,af,none⟩ s=pv (CN P src dst (jz s.T x)):=by
 rw[<-bg];show(match s.ev x with
  | .i _ n=>if(P.underlying src).isSome then(match nG P dst with
   |some k=>some (AV.i k (k.wrap n),({} :jA))
   |none=>if jd P dst=true/\0<=n/\n<128 then some (AV.s [UInt8.ofNat n.toNat],({} :jA)) else none) else none
  | .sq _ k l=>if jd P dst=true/\(gY P src).bind (nG P)=some IntKind.u8/\k=1 then(iY l).bind λc=>some (AV.s c,{}) else none
  |_=>none)=_
 cases s.ev x with
 |i k n=>
  simp only[CN];split
  ·cases nG P dst with
   |none=>dsimp only;split <;>rfl
   |some q=>rfl
  ·rfl
 |sq c k m=>
  simp only[CN];split
  ·cases iY m <;>rfl
  ·rfl
 |_=>rfl
def Ps(ix:Nat):AV->Option AV
 | .tu l=>(l[ix]?).map AV.strip
 |_=>none
theorem Pr(ix:Nat)(m:List AV):Ps ix (.tu m)=(m[ix]?).map AV.strip:=(rfl)
theorem acY(x:Operand)(ix:Nat):gX P tb mt dsts i ⟨o,.extract x ix,t,p,af,none⟩ s=pv (Ps ix (jz s.T x)):=by
 rw[<-bg];show(match s.ev x with| .tu l=>(l[ix]?).bind λa=>some (a.strip,({} :jA))|_=>none)=_;cases s.ev x with
 |tu m=>simp only[Ps];cases m[ix]? <;>rfl
 |_=>rfl
def CM(P:Program)(ty:TypeId)(f:Nat):AV->Option AV
 | .ag l=>(eW P ty f).bind λq=>if q.1+aQ P q.2<=l.length then(cW P q.2 (l.drop q.1)).map AV.strip else none
 |_=>none
theorem Ih(f:Nat)(m:List AV):CM P ty f (.ag m)=(eW P ty f).bind λq=>if q.1+aQ P q.2<=m.length then(cW P q.2 (m.drop q.1)).map AV.strip else none:=(rfl)
theorem S5(x:Operand)(f:Nat):gX P tb mt dsts i ⟨o,.field ty x f,t,p,af,none⟩ s=pv (CM P ty f (jz s.T x)):=by
 rw[<-bg];show(match s.ev x with| .ag l=>(eW P ty f).bind λ(off,ft)=>if off+aQ P ft<=l.length then(cW P ft (l.drop off)).bind λa=>some (a.strip,({} :jA)) else none|_=>none)=_;cases s.ev x with
 |ag m=>
  simp only[CM];cases eW P ty f with
  |none=>rfl
  |some q=>
   simp only[abN];split
   ·cases cW P q.2 (m.drop q.1) <;>rfl
   ·rfl
 |_=>rfl
def sk(P:Program)(ty:TypeId):AV->AV->Option AV
 | .s l,.i _ n=>if 0<=n/\jd P ty=true then(l[n.toNat]?).map λc=>.i .u8 c.toNat else none
 | .ag l,.i _ n=>(jP P ty).bind λq=>if 0<=n/\n<q.1/\(n.toNat+1)*aQ P q.2<=l.length/\(P.info? q.2).isSome=true then(cW P q.2 (l.drop (n.toNat*aQ P q.2))).map AV.strip else none
 |_,_=>none
theorem Lk(m:List UInt8)(k:IntKind)(n:Int):sk P ty (.s m) (.i k n)=if 0<=n/\jd P ty=true then(m[n.toNat]?).map λc=>.i .u8 c.toNat else none:=(rfl)
theorem Ib(m:List AV)(k:IntKind)(n:Int):sk P ty (.ag m) (.i k n)=(jP P ty).bind λq=>if 0<=n/\n<q.1/\(n.toNat+1)*aQ P q.2<=m.length/\(P.info? q.2).isSome=true then(cW P q.2 (m.drop (n.toNat*aQ P q.2))).map AV.strip else none:=(rfl)
theorem S3 (x ix : Operand) : gX P tb mt dsts i ⟨o, .index ty x ix, t, p, af, none⟩ s = pv (sk P ty (jz s.T x) (jz s.T ix)) := by
  rw [<- bg, <- bg]
  show (match s.ev x, gV (s.ev ix) with
    | .s l, some n => if 0 <= n /\ jd P ty = true then (l[n.toNat]?).bind fun c => some (AV.i .u8 c.toNat, ({} : jA)) else none
    | .ag l, some n => (jP P ty).bind fun (m, e) => if 0 <= n /\ n < m /\ (n.toNat + 1) * aQ P e <= l.length /\ (P.info? e).isSome = true then (cW P e (l.drop (n.toNat * aQ P e))).bind fun a => some (a.strip, {}) else none
    | _, _ => none) = _
  cases s.ev x with
  | s m => cases s.ev ix with
    | i k n => simp only [gV, sk]; split
               · cases m[n.toNat]? <;> rfl
               · rfl
    | _ => rfl
  | ag m => cases s.ev ix with
    | i k n =>
      simp only [gV, sk]
      cases jP P ty with
      | none => rfl
      | some q =>
        simp only [abN]
        split
        · cases cW P q.2 (m.drop (n.toNat * aQ P q.2)) <;> rfl
        · rfl
    | _ => rfl
  | _ => cases s.ev ix <;> rfl
def CP(P:Program)(ty:TypeId)(ps:List (Nat×AV)):Option AV:=if ku P ty=false then none else(anE P ty).bind λz=>(sC P ty z ps).map .ag
theorem S7(parts:Array (Nat×Operand)):gX P tb mt dsts i ⟨o,.build ty parts,t,p,af,none⟩ s=pv (CP P ty (parts.toList.map λx=>(x.1,jz s.T x.2))):=by
 have e:(parts.toList.map λx=>(x.1,jz s.T x.2))=parts.toList.map λx=>(x.1,s.ev x.2):=aes λx _=>by rw[bg]
 rw[e];show(if ku P ty=false then none else(anE P ty).bind λz=>(sC P ty z (parts.toList.map λx=>(x.1,s.ev x.2))).bind λl=>some (AV.ag l,({} :jA)))=_;unfold CP;split
 ·rfl
 ·cases anE P ty with
  |none=>rfl
  |some z=>simp only[abN];cases sC P ty z (parts.toList.map λx=>(x.1,s.ev x.2)) <;>rfl
def Ia(P:Program)(ty:TypeId)(len nx:Nat)(ps:List (Nat×AV)):Option (AV×jA):=(gY P ty).bind λe=>(sx (aQ P e) 0 ps).bind λl=>if ps.length=len/\len*aQ P e<=2^24/\bL P e=true then some (.sq (some nx) (aQ P e) l,{ made:=some e }) else none
theorem XY(len:Nat)(parts:Array (Nat×Operand)):gX P tb mt dsts i ⟨o,.buildSlice ty len parts,t,p,af,none⟩ s=Ia P ty len (s.nx+i) (parts.toList.map λx=>(x.1,jz s.T x.2)):=by
 have e:(parts.toList.map λx=>(x.1,jz s.T x.2))=parts.toList.map λx=>(x.1,s.ev x.2):=aes λx _=>by rw[bg]
 unfold Ia;rw[e,abz,ac5];rfl
def j5(P:Program)(ty:TypeId)(p hi:Option AV):AV->Option AV
  | .s l=>(H7 l.length p hi).bind λq=>if jd P ty=true then some (.s ((l.take q.2).drop q.1)) else none
  | .sq _ k l=>(gY P ty).bind λe=>if bL P e=true/\(k=aQ P e\/l= []) then(H7 (l.length/aQ P e) p hi).map λq=>.sq none (aQ P e) ((l.take (q.2*aQ P e)).drop (q.1*aQ P e)) else none
  |_=>none
where H7 (len:Nat) (p hi:Option AV):Option (Nat×Nat):=
  match hi with
  |none=>match p with
    |none=>some (0,len)
    |some l=>(gV l).bind λa=>if 0<=a/\a<=len then some (a.toNat,len) else none
  |some h=>(gV h).bind λb=>if 0<=b/\b<=len then
      (match p with
       |none=>some (0,b.toNat)
       |some l=>(gV l).bind λa=>if 0<=a/\a<=b then some (a.toNat,b.toNat) else none) else none
theorem Jv(s:AS)(len:Nat)(p hi:Option Operand):fu s len p hi=j5.H7 len (p.map (jz s.T)) (hi.map (jz s.T)):=by
 unfold fu j5.H7
 grind [bg]
theorem S2(x:Operand)(E hi:Option Operand):gX P tb mt dsts i ⟨o,.slice ty x E hi none,t,p,af,none⟩ s=pv (j5 P ty (E.map (jz s.T)) (hi.map (jz s.T)) (jz s.T x)):=by
 rw[<-bg];show(match s.ev x with
  | .s l=>(fu s l.length E hi).bind λ(a,b)=>if jd P ty=true then some (AV.s ((l.take b).drop a),({} :jA)) else none
  | .sq _ k l=>(gY P ty).bind λe=>if bL P e=true/\(k=aQ P e\/l= []) then(fu s (l.length/aQ P e) E hi).bind λ(a,b)=>some (AV.sq none (aQ P e) ((l.take (b*aQ P e)).drop (a*aQ P e)),{}) else none
  |_=>none)=_
 cases s.ev x with
 |s m=>
  simp only[j5,Jv];cases j5.H7 m.length (E.map (jz s.T)) (hi.map (jz s.T)) with
  |none=>rfl
  |some q=>simp only[abN];split <;>rfl
 |sq c k m=>
  simp only[j5,Jv];cases gY P ty with
  |none=>rfl
  |some e=>
   simp only[abN];split
   ·cases j5.H7 (m.length/aQ P e) (E.map (jz s.T)) (hi.map (jz s.T)) <;>rfl
   ·rfl
 |_=>rfl
def sn(P:Program)(ty:TypeId)(f:Nat):AV->Option AV
 | .sp l=>(eW P ty f).map λq=>.sp (l.drop q.1)
 | .bx id o=>(eW P ty f).map λq=>.bx id (o+q.1)
 |_=>none
theorem Ii(f:Nat)(m:List AV):sn P ty f (.sp m)=(eW P ty f).map λq=>.sp (m.drop q.1):=(rfl)
theorem Ij(f id q:Nat):sn P ty f (.bx id q)=(eW P ty f).map λx=>.bx id (q+x.1):=(rfl)
theorem S6(x:Operand)(f:Nat):gX P tb mt dsts i ⟨o,.fieldAddr ty x f,t,p,af,none⟩ s=pv (sn P ty f (jz s.T x)):=by
 rw[<-bg];show(match s.ev x with
  | .sp l=>(eW P ty f).bind λ(off,_)=>some (AV.sp (l.drop off),({} :jA))
  | .bx id o=>(eW P ty f).bind λ(off,_)=>some (AV.bx id (o+off),{})
  |_=>none)=_
 cases s.ev x with
 |sp m=>simp only[sn];cases eW P ty f <;>rfl
 |bx id q=>simp only[sn];cases eW P ty f <;>rfl
 |_=>rfl
def mW(P:Program)(ty:TypeId):AV->AV->Option AV
 | .sq _ k l,.i _ n=>(gY P ty).bind λe=>if k=aQ P e/\0<=n/\(n.toNat+1)*aQ P e<=l.length/\bL P e=true then some (.sp (l.drop (n.toNat*aQ P e))) else none
 | .sp l,.i _ n=>(jP P ty).bind λq=>if 0<=n/\n<q.1/\bL P q.2=true then some (.sp (l.drop (n.toNat*aQ P q.2))) else none
 | .bx id o,.i _ n=>(jP P ty).bind λq=>if 0<=n/\n<q.1/\bL P q.2=true then some (.bx id (o+n.toNat*aQ P q.2)) else none
 |_,_=>none
theorem Ic(c:Option Nat)(k:Nat)(m:List AV)(q:IntKind)(n:Int):mW P ty (.sq c k m) (.i q n)=(gY P ty).bind λe=>if k=aQ P e/\0<=n/\(n.toNat+1)*aQ P e<=m.length/\bL P e=true then some (.sp (m.drop (n.toNat*aQ P e))) else none:=(rfl)
theorem Ie(m:List AV)(k:IntKind)(n:Int):mW P ty (.sp m) (.i k n)=(jP P ty).bind λq=>if 0<=n/\n<q.1/\bL P q.2=true then some (.sp (m.drop (n.toNat*aQ P q.2))) else none:=(rfl)
theorem Ig(id x:Nat)(k:IntKind)(n:Int):mW P ty (.bx id x) (.i k n)=(jP P ty).bind λq=>if 0<=n/\n<q.1/\bL P q.2=true then some (.bx id (x+n.toNat*aQ P q.2)) else none:=(rfl)
theorem S4(x ix:Operand):gX P tb mt dsts i ⟨o,.indexAddr ty x ix,t,p,af,none⟩ s=pv (mW P ty (jz s.T x) (jz s.T ix)):=by
 rw[<-bg,<-bg];show(match s.ev x,gV (s.ev ix) with
  | .sq _ k l,some n=>(gY P ty).bind λe=>if k=aQ P e/\0<=n/\(n.toNat+1)*aQ P e<=l.length/\bL P e=true then some (AV.sp (l.drop (n.toNat*aQ P e)),({} :jA)) else none
  | .sp l,some n=>(jP P ty).bind λ(m,e)=>if 0<=n/\n<m/\bL P e=true then some (AV.sp (l.drop (n.toNat*aQ P e)),{}) else none
  | .bx id o,some n=>(jP P ty).bind λ(m,e)=>if 0<=n/\n<m/\bL P e=true then some (AV.bx id (o+n.toNat*aQ P e),{}) else none
  |_,_=>none)=_
 cases s.ev x with
 |sq c k m=>cases s.ev ix with
  |i q n=>simp only[gV,mW];cases gY P ty with
   |none=>rfl
   |some e=>simp only[abN];split <;>rfl
  |_=>rfl
 |sp m=>cases s.ev ix with
  |i q n=>simp only[gV,mW];cases jP P ty with
   |none=>rfl
   |some e=>simp only[abN];split <;>rfl
  |_=>rfl
 |bx id x=>cases s.ev ix with
  |i q n=>simp only[gV,mW];cases jP P ty with
   |none=>rfl
   |some e=>simp only[abN];split <;>rfl
  |_=>rfl
 |_=>cases s.ev ix <;>rfl
def xY(P:Program)(ty:TypeId)(B:Nat->Option (Bool×List AV)):AV->Option AV
 | .sp l=>(cW P ty l).map AV.strip
 | .bx id o=>(B id).bind λx=>cW P ty (x.2.drop o)
 |_=>none
theorem Li(B:Nat->Option (Bool×List AV))(m:List AV):xY P ty B (.sp m)=(cW P ty m).map AV.strip:=(rfl)
theorem Lj(B:Nat->Option (Bool×List AV))(id q:Nat):xY P ty B (.bx id q)=(B id).bind λx=>cW P ty (x.2.drop q):=(rfl)
theorem XX(x:Operand):gX P tb mt dsts i ⟨o,.load ty x,t,p,af,none⟩ s=pv (xY P ty s.B (jz s.T x)):=by
 rw[<-bg];show(match s.ev x with
  | .sp l=>(cW P ty l).bind λa=>some (a.strip,({} :jA))
  | .bx id o=>match s.B id with
   |some (_,l)=>(cW P ty (l.drop o)).bind λa=>some (a,({} :jA))
   |none=>none
  |_=>none)=_
 cases s.ev x with
 |sp m=>simp only[xY];cases cW P ty m <;>rfl
 |bx id q=>
  simp only[xY];cases s.B id with
  |none=>rfl
  |some y=>simp only[abN];cases cW P ty (y.2.drop q) <;>rfl
 |_=>rfl
def CL(P:Program)(ty:TypeId)(B:Nat->Option (Bool×List AV)):AV->Option (List AV)->Option (AV×jA)
 | .bx id o,some l=>match B id with
  |some (false,cells)=>if l.length=aQ P ty/\0<l.length/\o+l.length<=cells.length then some (.tu [],{ bx:=some (id,(false,lay cells o l)) }) else none
  |_=>none
 |_,_=>none
theorem S1(x y:Operand):gX P tb mt dsts i ⟨o,.store ty x y,t,p,af,none⟩ s=CL P ty s.B (jz s.T x) (eU (jz s.T y)):=by
 rfl
theorem acZ(x:Operand):gX P tb mt dsts i ⟨o,.box ty x,t,p,af,none⟩ s=(eU (jz s.T x)).bind λl=>if mt (o.getD 0) then some (.bx (s.nx+i) 0,{ bx:=some (s.nx+i,(false,l)) }) else pv (some (.sp l)):=by
 rfl
theorem S8:gX P tb mt dsts i ⟨o,.alloc ty,t,p,af,none⟩ s=(anE P ty).bind λl=>some (.bx (s.nx+i) 0,{ bx:=some (s.nx+i,(false,l)) }):=(rfl)
theorem XZ(f:FuncId)(first cap:Array Operand):gX P tb mt dsts i ⟨o,.makeFunc (.func f) first cap,t,p,af,none⟩ s=(jv s first.toList).bind λx=>(jv s cap.toList).bind λy=>some (.fn f x.1 y.1,{ pL:=x.2++y.2 }):=(rfl)
def FJ(P:Program)(ty:TypeId):AV->Option AV
 | .s l=>if jd P ty=true then some (.i .i64 l.length) else none
 | .sq _ k l=>(gY P ty).bind λe=>if bL P e=true/\(k=aQ P e\/l= []) then some (.i .i64 (l.length/aQ P e:Nat)) else none
 |_=>none
theorem SP(m:List UInt8):FJ P ty (.s m)=if jd P ty=true then some (.i .i64 m.length) else none:=(rfl)
theorem Pq(c:Option Nat)(k:Nat)(m:List AV):FJ P ty (.sq c k m)=(gY P ty).bind λe=>if bL P e=true/\(k=aQ P e\/m= []) then some (.i .i64 (m.length/aQ P e:Nat)) else none:=(rfl)
theorem acX(x:Operand):gX P tb mt dsts i ⟨o,.call ⟨.builtin .len,#[x],#[ty]⟩,t,p,af,none⟩ s=pv (FJ P ty (jz s.T x)):=by
 rw[<-bg];show(match s.ev x with
  | .s l=>if jd P ty=true then some (AV.i .i64 l.length,({} :jA)) else none
  | .sq _ k l=>(gY P ty).bind λe=>if bL P e=true/\(k=aQ P e\/l= []) then some (AV.i .i64 (l.length/aQ P e:Nat),{}) else none
  |_=>none)=_
 cases s.ev x with
 |s m=>simp only[FJ];split <;>rfl
 |sq c k m=>
  simp only[FJ];cases gY P ty with
  |none=>rfl
  |some e=>simp only[abN];split <;>rfl
 |_=>rfl
def Jz(P:Program)(ty:TypeId)(lv:Nat->Option TypeId)(nx p:Nat)(dsts:Nat->Option Nat)(x:Nat):AV->AV->Option (AV×jA)
 | .sq (some τ) k l,.sq _ k' m=>(gY P ty).bind λe=>
   if lv τ=some e/\k=aQ P e/\(k'=k\/m= [])/\bL P e=true/\(τ<nx\/dsts (τ-nx)=some x)/\(l.length+m.length)*(qM P e+1)<=2^46 then
    some (.sq (some p) k (l++m),{ kill:=some τ,made:=some e }) else none
 | .sq none 0 [],.sq _ k' m=>(gY P ty).bind λe=>
   if(k'=aQ P e\/m= [])/\bL P e=true/\m.length*(qM P e+1)<=2^46 then
    some (.sq (some p) (aQ P e) m,{ made:=some e }) else none
 |_,_=>none
theorem Lm(lv:Nat->Option TypeId)(nx p:Nat)(x k':Nat)(m:List AV)(c':Option Nat):Jz P ty lv nx p dsts x (.sq none 0 []) (.sq c' k' m)=(gY P ty).bind λe=>
   if(k'=aQ P e\/m= [])/\bL P e=true/\m.length*(qM P e+1)<=2^46 then
    some (.sq (some p) (aQ P e) m,{ made:=some e }) else none:=(rfl)
theorem Pt(lv:Nat->Option TypeId)(nx p:Nat)(x τ k k':Nat)(a m:List AV)(c':Option Nat):Jz P ty lv nx p dsts x (.sq (some τ) k a) (.sq c' k' m)=(gY P ty).bind λe=>
   if lv τ=some e/\k=aQ P e/\(k'=k\/m= [])/\bL P e=true/\(τ<nx\/dsts (τ-nx)=some x)/\(a.length+m.length)*(qM P e+1)<=2^46 then
    some (.sq (some p) k (a++m),{ kill:=some τ,made:=some e }) else none:=(rfl)
theorem ac1(x:Nat)(y:Operand):gX P tb mt dsts i ⟨o,.call ⟨.builtin .append,#[.tmp x,y],#[ty,ty]⟩,t,p,af,none⟩ s=Jz P ty s.lv s.nx (s.nx+i) dsts x (s.T x) (jz s.T y):=by
 rw[<-bg];unfold Jz;show(match s.T x,s.ev y with
    | .sq (some τ) k l,.sq _ k' m=>(gY P ty).bind λe=>
     if ty=ty/\s.lv τ=some e/\k=aQ P e/\(k'=k\/m= [])/\bL P e=true/\(τ<s.nx\/dsts (τ-s.nx)=some x)/\(l.length+m.length)*(qM P e+1)<=2^46 then
      some (AV.sq (some (s.nx+i)) k (l++m),({ kill:=some τ,made:=some e } :jA)) else none
    | .sq none 0 [],.sq _ k' m=>(gY P ty).bind λe=>
     if ty=ty/\(k'=aQ P e\/m= [])/\bL P e=true/\m.length*(qM P e+1)<=2^46 then
      some (AV.sq (some (s.nx+i)) (aQ P e) m,({ made:=some e } :jA)) else none
    |_,_=>none)=_
 simp_all
theorem acW(x y:Operand)(E:Array TypeId):gX P tb mt dsts i ⟨o,.call ⟨.builtin .max,#[x,y],E⟩,t,p,af,none⟩ s=pv (It max (jz s.T x) (jz s.T y)):=by
 rw[<-bg,<-bg,<-Ph];rfl
theorem acV(x y:Operand)(E:Array TypeId):gX P tb mt dsts i ⟨o,.call ⟨.builtin .min,#[x,y],E⟩,t,p,af,none⟩ s=pv (It min (jz s.T x) (jz s.T y)):=by
 rw[<-bg,<-bg,<-Ph];rfl
noncomputable def Ik(P:Program)(tb:qd)(nx i:Nat)(args:List AV):AV->Option (AV×jA)
 | .fn f l1 l2=>if args.all AV.jh=true then(tb f (l1++args.map AV.strip++l2)).bind (jH P nx i) else none
 |_=>none
theorem Ll(nx:Nat)(args:List AV)(f:FuncId)(l1 l2:List AV):Ik P tb nx i args (.fn f l1 l2)=if args.all AV.jh=true then(tb f (l1++args.map AV.strip++l2)).bind (jH P nx i) else none:=(rfl)
theorem X2(f:Operand)(args:Array Operand)(E:Array TypeId)(hm:mt (o.getD 0)=false):gX P tb mt dsts i ⟨o,.call ⟨.value f,args,E⟩,t,p,af,none⟩ s=Ik P tb s.nx i (args.toList.map (jz s.T)) (jz s.T f):=by
 rw[<-bg];have I:(args.toList.map (jz s.T)).map AV.strip=args.toList.map λx=>(s.ev x).strip:=by
  rw[List.map_map];rfl
 have H:(args.toList.map (jz s.T)).all AV.jh=args.toList.all λx=>(s.ev x).jh:=by
  rw[List.all_map];rfl
 show(match s.ev f with
   | .fn f l1 l2=>if(args.toList.all λx=>(s.ev x).jh)=true then
     (bif mt (o.getD 0) then mY P tb s i f (l1++(args.toList.map λx=>(s.ev x).strip)++l2) (s.B 1)
      else(tb f (l1++(args.toList.map λx=>(s.ev x).strip)++l2)).bind (jH P s.nx i)) else none
   |_=>none)=_
 unfold Ik
 grind
noncomputable def Pv(P:Program)(tb:qd)(s:AS)(i:Nat)(args:List AV):AV->Option (AV×jA)
 | .fn f l1 l2=>if args.all AV.jh=true then mY P tb s i f (l1++args.map AV.strip++l2) (s.B 1) else none
 |_=>none
theorem Pu(s:AS)(args:List AV)(f:FuncId)(l1 l2:List AV):Pv P tb s i args (.fn f l1 l2)=if args.all AV.jh=true then mY P tb s i f (l1++args.map AV.strip++l2) (s.B 1) else none:=(rfl)
theorem FU(s:AS)(f:FuncId)(args:List AV):mY P tb s i f args none=(tb.ac f args).bind (CV P tb.ty s i):=(rfl)
theorem FT(s:AS)(f:FuncId)(args wd:List AV):mY P tb s i f args (some (false,wd))=(tb.a2 f args wd).bind (sE P tb.ty s i):=(rfl)
theorem ac2(f:Operand)(args:Array Operand)(E:Array TypeId)(hm:mt (o.getD 0)=true):gX P tb mt dsts i ⟨o,.call ⟨.value f,args,E⟩,t,p,af,none⟩ s=Pv P tb s i (args.toList.map (jz s.T)) (jz s.T f):=by
 rw[<-bg];have I:(args.toList.map (jz s.T)).map AV.strip=args.toList.map λx=>(s.ev x).strip:=by
  rw[List.map_map];rfl
 have H:(args.toList.map (jz s.T)).all AV.jh=args.toList.all λx=>(s.ev x).jh:=by
  rw[List.all_map];rfl
 show(match s.ev f with
   | .fn f l1 l2=>if(args.toList.all λx=>(s.ev x).jh)=true then
     (bif mt (o.getD 0) then mY P tb s i f (l1++(args.toList.map λx=>(s.ev x).strip)++l2) (s.B 1)
      else(tb f (l1++(args.toList.map λx=>(s.ev x).strip)++l2)).bind (jH P s.nx i)) else none
   |_=>none)=_
 unfold Pv
 grind
def eh(x:Bool×List AV):Nat->Option (Bool×List AV):=Lo (λ_=>none) 0 (some x)
def bG(τ:Nat)(e:TypeId):Nat->Option TypeId:=Lo (λ_=>none) τ (some e)
theorem SJ(x:Bool×List AV):eh x 1=none:=(rfl)
def bQ(x y:Bool×List AV):Nat->Option (Bool×List AV):=Lo (eh x) 1 (some y)
theorem sj(x y:Bool×List AV):bQ x y 0=some x:=(rfl)
theorem CI(x y:Bool×List AV):bQ x y 1=some y:=(rfl)
theorem zv(x y z:Bool×List AV):Lo (bQ x y) 0 (some z)=bQ z y:=by
 funext j
 by_cases h:j=0
 ·subst h;rfl
 ·by_cases h1:j=1
  ·subst h1;rfl
  simp_all [bQ,eh]
theorem zu(x y z:Bool×List AV):Lo (bQ x y) 1 (some z)=bQ x z:=by
 funext j
 by_cases h1:j=1
 ·subst h1;rfl
 simp_all [bQ]
theorem xW(x y:Bool×List AV)(j:Nat)(h0:j≠0)(h1:j≠1):bQ x y j=none:=by simp_all [bQ,eh]
theorem o8(x:Bool×List AV):eh x 0=some x:=(rfl)
theorem Dl(x y:Bool×List AV):Lo (eh x) 0 (some y)=eh y:=by
 funext j
 by_cases h:j=0
 ·subst h;rfl
 simp_all [eh]
theorem dA(τ:Nat)(e:TypeId):bG τ e τ=some e:=by simp[bG]
theorem we(τ σ:Nat)(e e':TypeId):Lo (Lo (bG τ e) τ none) σ (some e')=bG σ e':=by
 funext j
 by_cases h:j=σ
 ·simp_all [bG]
 ·by_cases h2:j=τ
  ·simp_all [bG]
  simp_all [bG]
theorem acw(T:Nat->AV)(τ k:Nat)(e:TypeId)(m p:List AV)(nx n:Nat)(hk:k=aQ P e)(hle:m.length+p.length<=1099511627776):
  oD P tb mt l i r (some d) ⟨T,eh (false,[.sq (some τ) k m]),bG τ e,nx,n⟩ (CV P e ⟨T,eh (false,[.sq (some τ) k m]),bG τ e,nx,n⟩ i p)=
   eM P tb mt l (i+1) r ⟨Lo T d (.tu []),eh (false,[.sq (some (nx+i)) k (m++p)]),bG (nx+i) e,nx,n⟩:=by
 have E:CV P e ⟨T,eh (false,[.sq (some τ) k m]),bG τ e,nx,n⟩ i p=some (.tu [],{ bx:=some (0,(false,[.sq (some (nx+i)) k (m++p)])),kill:=some τ,made:=some e }):=by
  simp_all [CV,eh,bG]
 rw[E];show eM P tb mt l (i+1) r ⟨Lo T d (.tu []),Lo (eh _) 0 (some _),Lo (Lo (bG τ e) τ none) (nx+i) (some e),nx,n⟩=_;rw[Dl,we]
theorem XE(T:Nat->AV)(τ k:Nat)(e:TypeId)(m wd:List AV)(r1:List AV)(z:AV)(nx n:Nat)(hk:k=aQ P e)(hle:m.length+r1.length<=1099511627776):
  oD P tb mt l i r (some d) ⟨T,bQ (false,[.sq (some τ) k m]) (false,wd),bG τ e,nx,n⟩ (sE P e ⟨T,bQ (false,[.sq (some τ) k m]) (false,wd),bG τ e,nx,n⟩ i (r1,z))=
   eM P tb mt l (i+1) r ⟨Lo T d z.strip,bQ (false,[.sq (some (nx+i)) k (m++r1)]) (false,wd),bG (nx+i) e,nx,n⟩:=by
 have p:sE P e ⟨T,bQ (false,[.sq (some τ) k m]) (false,wd),bG τ e,nx,n⟩ i (r1,z)=some (z.strip,{ bx:=some (0,(false,[.sq (some (nx+i)) k (m++r1)])),kill:=some τ,made:=some e }):=by
  simp_all [sj,xW,sE,bG]
 rw[p];show eM P tb mt l (i+1) r ⟨Lo T d z.strip,Lo (bQ _ _) 0 (some _),Lo (Lo (bG τ e) τ none) (nx+i) (some e),nx,n⟩=_;rw[zv,we]
theorem ajb(nx:Nat)(k n):jH P nx i (.i k n)=pv (some (.i k n)):=(rfl)
theorem ajc(nx:Nat)(x):jH P nx i (.b x)=pv (some (.b x)):=(rfl)
theorem aja(nx:Nat)(x):jH P nx i (.s x)=pv (some (.s x)):=(rfl)
theorem acJ(nx:Nat)(k x):jH P nx i (.sq none k x)=pv (some (.sq none k x)):=(rfl)
theorem acI(nx:Nat)(x):jH P nx i (.tu x)=pv (some (.tu x)):=(rfl)
theorem acK(nx:Nat)(x):jH P nx i (.ag x)=pv (some (.ag x)):=(rfl)
theorem XM(nx:Nat)(e k:Nat)(x)(h:k=aQ P e):jH P nx i (.sq (some e) k x)=some (.sq (some (nx+i)) k x,{ made:=some e }):=by
 show(if k=aQ P e then some (AV.sq (some (nx+i)) k x,({ made:=some e } :jA)) else none)=_
 grind
end
theorem QJ(P:Program)(tb:qd)(mt:Nat->Bool)(l:List (Option Nat))(i:Nat)(s:AS):eM P tb mt l i [] s=some s:=(rfl)
theorem ab5(n:Nat)(s:AS)(K:AS->Prop):JI n (some s) K=K { s with nx:=n } :=(rfl)
theorem AO(P:Program)(t:TypeId)(cells:List AV):cW P t cells=match fv P t with
 |some true=>if aQ P t<=cells.length then some (.ag (cells.take (aQ P t))) else none
 |some false=>cells[0]?
 |none=>none:=(rfl)
attribute [simp ↓] Pm XA U1 Lh H8 Sx O6 Qy Mn
attribute [-simp] XJ XK XI SV SU SW OF
attribute [simp] Kw Hc Su K9 OY MG QI J3 aca acb acd ace ab_ ai2 acr XD acv ai3 acu acs OL K1 XW PS LD LF LB LC Pp XV ac0 SO acU CN X0 Pr acY Ih S5 Lk Ib S3
 CP S7 Ia XY j5 j5.H7 S2 Ii Ij S6 Ic Ie Ig S4 Li Lj XX CL S1 acZ S8 XZ SP Pq acX Pt Lm ac1 acW acV Ll X2 Pu ac2 o8 SJ sj CI zv zu FU FT Dl dA we acw XE ajb ajc aja acJ acI acK XM QJ ab5
 Nat.add_one_le_iff Sy Sz PQ JC alD JB PO akQ asF AO fu sx sC lay CU jv It iY
class C_(G:Prop)(H:outParam Prop):Prop where
 im:H->G
class NeN(a b:Nat):Prop where
 ne:a≠b
instance{n:Nat} :NeN 0 (n+1):=⟨by omega⟩
instance{n:Nat} :NeN (n+1) 0:=⟨by omega⟩
instance{m n:Nat}[h:NeN m n]:NeN (m+1) (n+1):=⟨λe=>h.ne (by omega)⟩
class Ev(G:Prop)(B:outParam Bool)(H:outParam (List Nat->Prop)):Prop where
 im:∀kp,H kp->B=true->G
theorem eI{G:Prop}{B:Bool}{H:List Nat->Prop}[e:Ev G B H](kp:List Nat)(k:H kp)(h:B=true:=by kernel_rfl):G:=e.im kp k h
theorem nI{G H:Prop}[e:C_ G H](k:H):G:=e.im k
section
variable{P:Program}{tb:qd}{mt:Nat->Bool}{Q:Ex->AS->Prop}{s:AS}{x y c:Code}{i j n:Nat}{J:Nat->AS->Prop}{A B:Prop}
instance:C_ (awp P tb mt (.seq x y) Q s) (awp P tb mt x (Tp P tb mt y Q) s):=⟨t_⟩
instance:C_ (awp P tb mt .skip Q s) (Q .normal s):=⟨Gj⟩
instance:C_ (awp P tb mt .ret Q s) (Q .ret s):=⟨L0⟩
instance:C_ (awp P tb mt (.exit i) Q s) (Q (.exit i) s):=⟨US⟩
instance:C_ (awp P tb mt (.label i) Q s) (Q .normal s):=⟨II⟩
instance:C_ (awp P tb mt (.block i c) Q s) (awp P tb mt c (blk i Q) s):=⟨kW⟩
instance:C_ (Tp P tb mt y Q .normal s) (awp P tb mt y Q s):=⟨Ml⟩
instance:C_ (Tp P tb mt y Q .ret s) (Q .ret s):=⟨Y7⟩
instance:C_ (Tp P tb mt y Q (.exit i) s) (Q (.exit i) s):=⟨Mm⟩
instance:C_ (blk i Q .normal s) (Q .normal s):=⟨Pn⟩
instance:C_ (blk i Q .ret s) (Q .ret s):=⟨acB⟩
instance:C_ (blk i Q (.exit i) s) (Q .normal s):=⟨Po⟩
instance[h:NeN j i]:C_ (blk i Q (.exit j) s) (Q (.exit j) s):=⟨Jy h.ne⟩
instance:C_ (VF J n Q (.exit i) s) (Q (.exit i) s):=⟨NB⟩
instance:C_ (VF J n Q .ret s) (Q .ret s):=⟨ZL⟩
instance:C_ (if true=true then A else B) A:=⟨λh=>h⟩
instance:C_ (if false=true then A else B) B:=⟨λh=>h⟩
instance{id:Nat}{ops:Array Oper}{draw:Bool} :Ev (awp P tb mt (.region id ops draw) Q s) (!draw||(Region.lexB .any ops&&oz mt ops)) (λkp=>∀K:AS->Prop,(∀s1:AS,Q .normal s1->K s1)->JI (s.nx+Gl ops) (eM P tb mt (zf ops) 0 (Jx ops) s) (λs=>K { s with T:=pH s.T kp })):=
 ⟨λkp h hb=>oR kp (λhd=>by simp_all) h⟩
instance{c:Operand} :Ev (awp P tb mt (.cond c x y) Q s) true (λ_=>∀K:Bool->Prop,(∀b:Bool,(if b=true then awp P tb mt x Q s else awp P tb mt y Q s)->K b)->(match s.ev c with| .b t=>(if t=true then K true else K false)|_=>False)):=
 ⟨λ_ h _=>by
  have h1:=h _ (λ_=>id);unfold awp
  grind⟩
end
section
variable{P:Program}{tb:qd}{mt:Nat->Bool}
theorem SR.small{g0 g1:Gh}{w0:World}{fr:Nat->Prop}{s:AS}{g:Gh}{w:World}{m:Mem}{tmps:Array Value}(h:SR P g0 w0 fr s g w m tmps){τ:Nat}{e:TypeId}{l:List AV}
  (I:s.B 0=some (false,[.sq (some τ) (aQ P e) l])) (M:s.lv τ=some e) (h1:g1.hw=g0.hw) (h2:g1.aD=g0.aD)
  (hm:∀g g' w w',Lw g g' w w'->g1.ex g.hw g.aD w->g1.ex g'.hw g'.aD w') (hs:g1.ex g.hw g.aD w) (hp:∀id b,g1.iF id=some b->id=0/\m.bm 0=b):
  SR P g1 w0 (λj=>1<=j) (zE P e l) g w { bm:=λ_=>m.bm 0,tm:=λ_=>m.tm τ } #[]:=by
 obtain⟨H,Y,b1,b2,b3,O,N,b6⟩:=h.boxes 0 false _ I;obtain⟨n0,UN,t1,t2⟩:=h.cB τ _ M;exact {
  size:=rfl
  tmps:=λt=>.cw (.any _) rfl
  free:=λid Z=>⟨wH (by omega),qb (by omega)⟩
  boxes:=λid ro cells e'=>by
   by_cases L:id=0
   ·subst L;rw[wG] at e';simp only[Option.some.injEq,Prod.mk.injEq] at e';obtain⟨rfl,rfl⟩:=e';refine⟨H,Y,b1,b2,by omega,O,λj a' y E J=>?_,by omega⟩;cases j with
    |zero=>
     simp only[abe,Option.some.injEq] at E;subst E;have hq:=N 0 _ y rfl J;refine⟨hq.1,λτ' k' l' e'=>?_⟩;cases e';exact⟨by omega,λ_=>(hq.2 τ _ _ rfl).2 (by simp_all)⟩
    |succ j=>grind
   grind [wH]
  cD:=λi j hi p _=>by
   have U:i=0:=aaO λe=>hi (wH e)
   have W:j=0:=aaO λe=>p (wH e)
   omega
  cB:=λσ e' he=>by
   grind [IN,qb]
  c_:=λi j c hi p _ _=>by
   have U:i=0:=aaO λe=>hi (qb e)
   have W:j=0:=aaO λe=>p (qb e)
   omega
  vd:=λσ id _ _=>h.vd τ 0 (by simp_all) (by simp_all)
  wi:=h.wi
  ext:=⟨h.ext.1,λb=>by rw[h1];exact h.ext.2 b,λb o ho=>h.ext.3 b o (by simp_all),λb d hd=>h.ext.4 b d (by simp_all),h.ext.5,h.ext.6,h.ext.7,h.ext.8⟩
  keeps:=⟨λb hb hd=>h.keeps.1 b hb (by simp_all),λb hb=>by rw[h1];exact h.keeps.2 b hb,λb hb=>by rw[h2];exact h.keeps.3 b hb⟩
  gi:=hm
  fV:=hs
  pins:=λid b e'=>by
   grind }
theorem s_{g:Gh}{w:World}{x y:Value}(h:Rd g w (.v x) y):y=x:=by cases h;rfl
def a1(P:Program)(ty:TypeId)(args:List AV)(l:List AV)(n:Nat):AS:=⟨λt=>(args.getD t (.tu [])).strip,eh (false,[.sq (some 0) (aQ P ty) l]),bG 0 ty,1,n⟩
@[simp] theorem ap2 (P:Program) (ty:TypeId) (args l:List AV) (n j:Nat):(a1 P ty args l n).T j=(args.getD j (.tu [])).strip:=(rfl)
@[simp] theorem ap3 (P:Program) (ty:TypeId) (args l:List AV) (n:Nat):(a1 P ty args l n).B=eh (false,[.sq (some 0) (aQ P ty) l]):=(rfl)
@[simp] theorem al4 (P:Program) (ty:TypeId) (args l:List AV) (n:Nat):(a1 P ty args l n).lv=bG 0 ty:=(rfl)
@[simp] theorem al2 (P:Program) (ty:TypeId) (args l:List AV) (n:Nat):(a1 P ty args l n).nx=1:=(rfl)
@[simp] theorem ap1 (P:Program) (ty:TypeId) (args l:List AV) (n:Nat):(a1 P ty args l n).n=n:=(rfl)
def Yd(P:Program)(ty:TypeId)(l:List AV)(s:AS):Prop:=∃τ,s.B 0=some (false,[.sq (some τ) (aQ P ty) l])/\s.lv τ=some ty
theorem FV(U:jw P tb)(hm:P.follows .mixedOrders=true){f:FuncId}{fn:Func}{c:Code}(hf:P.funcs[f]?=some fn)(hb:fn.body=some c){args args' r:List AV}(hn:args.length<=fn.ntmps)(Hq:fn.results= #[])
  (hlen:args'.length=args.length) (ho:∀t:Nat,args'[t]?=args[t]?\/(args[t]?=some (AV.v (.pointer (some ⟨tb.bo,0,none⟩)))/\args'[t]?=some (AV.bx 0 0)))
  (h:∀l:List AV,l.length+r.length<=1099511627776->awp P tb mt c (λe s=>(e=.normal\/e=.ret)/\Yd P tb.ty (l++r) s) (a1 P tb.ty args' l fn.ntmps)) (LV:∀f args wd,tb.a2 f args wd=none:=by intros;rfl):oN P tb.ty tb.bo f args r:=by
 intro g0 w0 g w m l ys p YI hle hr;refine aey hf hb ?_;have cq:ys.toArray.size=ys.length:=by simp
 rw[cq];have bH:ST P { g0 with ex:=λhw aD w'=>g0.ex hw aD w'/\Ss g w hw aD w',iF:=λid=>if id=0 then some tb.bo else none } w0 (a1 P tb.ty args' l fn.ntmps) { tmps:=ys.toArray++Array.replicate (fn.ntmps-ys.length) undef,defers:= [] } w:=by
  refine⟨g,m,?_,rfl⟩;have h0:=p.boxes 0 false _ wG;exact {
   size:=by simp[a1,hr.1];omega
   tmps:=λt=>by
    rw[aba,aev];simp only[afb];split
    ·rename_i ht;have J:t<args.length:=by rw[<-hr.1];exact ht
     have hy:(ys.toArray[t]?).getD undef=ys[t]:=by grind
     rw[hy];show RV _ _ _ _ _ (args'.getD t (.tu [])).strip _;rw[abM];rcases ho t with e|⟨Z,Y⟩
     ·rw[e,aaf J,aem];exact RC.zS (hr.2 t _ _ (aaf J) (aaf ht))
     ·rw[Y,aem];have gf:=hr.2 t _ _ Z (aaf ht);have:ys[t]=.pointer (some ⟨tb.bo,0,none⟩):=s_ gf;refine .inr ⟨0,0,rfl,by simp_all,?_⟩
      simp_all
    ·rename_i ht;have J:args'.length<=t:=by rw[hlen,<-hr.1];omega
     have hy:((Array.replicate (fn.ntmps-ys.length) undef)[t-ys.length]?).getD undef=undef:=by
      grind
     rw[hy];show RV _ _ _ _ _ (args'.getD t (.tu [])).strip _;rw[abM,aby J,ahj];exact .cw (.tu [] [] rfl (λ_ _ _ e=>by simp at e)) rfl
   free:=p.free
   boxes:=p.boxes
   cD:=p.cD
   cB:=p.cB
   c_:=p.c_
   vd:=p.vd
   wi:=p.wi
   ext:=⟨p.ext.1,p.ext.2,p.ext.3,p.ext.4,p.ext.5,p.ext.6,p.ext.7,p.ext.8⟩
   keeps:=⟨p.keeps.1,p.keeps.2,p.keeps.3⟩
   gi:=λg1 g2 w1 w2 I E=>⟨p.gi _ _ _ _ I E.1,(Lw.trans (g2:=g1) ⟨E.2.1,E.2.2,E.2.3,E.2.4,E.2.5,E.2.6,E.2.7,E.2.8⟩ I:Lw g g2 w w2)|>λq=>⟨q.1,q.2,q.3,q.4,q.5,q.6,q.7,q.8⟩⟩
   fV:=⟨p.fV,⟨aax _,λ_=>aax _,λ_ _ _=>rfl,λ_ _ e=>e,rfl,rfl,rfl,λ_ _ e _=>e⟩⟩
   pins:=λid b e=>by
    simp_all }
 refine wp_mono (fj (w0:=w0) ⟨U,λf args r h=>(by simp),λf args wd r h=>(by simp_all)⟩ hm c _ _ _ _ (h l hle) bH) ?_;rintro e a w' ⟨x,s,he,⟨hx,τ,W,hl⟩,⟨g',m',H,O⟩⟩;obtain⟨k1,k2⟩:=H.fV;obtain⟨k3,L⟩:=H.pins 0 tb.bo (by simp);have N:=H.small (g1:=g0) W hl rfl rfl p.gi k1 (λid b e=>by
  obtain⟨q1,q2⟩:=p.pins id b e
  simp_all)
 have M:(results fn a.tmps).run P w'=.ok (.tuple #[]) w':=by
  simp_all [cX]
 have I:Lw g g' w w':=⟨k2.1,k2.2,k2.3,k2.4,k2.5,k2.6,k2.7,k2.8⟩
 rcases hx with rfl|rfl
 ·cases e <;>simp only[c8,Option.some.injEq,reduceCtorEq] at he
  exact⟨O,_,M,.tuple #[],g',_,rfl,.tu [] [] rfl (λ_ _ _ e=>by simp at e),N,L,I⟩
 ·cases e <;>simp only[c8,Option.some.injEq,reduceCtorEq] at he
  exact⟨O,_,M,.tuple #[],g',_,rfl,.tu [] [] rfl (λ_ _ _ e=>by simp at e),N,L,I⟩
end
def acO:=@List.append_nil
section
variable{P:Program}{g0:Gh}{w0:World}{tb:qd}{mt:Nat->Bool}{ops:Array Oper}
theorem jk(L:jb P tb g0){Q:Exit->Act->World->Prop}(rest:List Nat):∀(l:List Oper) (k:Nat) (s s':AS) (g:Gh) (w:World) (m:Mem) (a:Act),(∀j,j<l.length->l[j]?=ops[k+j]?)->fJ P tb mt (λj=>(ops[j]?).bind (·.dst)) k l s=some s'->
  SR P g0 w0 (λj=>s.nx+k<=j) s g w m a.tmps->a.defers= []->(∀g' w' m' (a':Act),SR P g0 w0 (λj=>s.nx+(k+l.length)<=j) s' g' w' m' a'.tmps->a'.defers= []->wpOps P ops Q rest a' w')->
  wpOps P ops Q (List.range' k l.length++rest) a w
 | [],k,s,s',g,w,m,a,_,h,I,E,p=>by cases h;exact p g w m a I E
 |o::l,k,s,s',g,w,m,a,hl,h,I,E,p=>by
  obtain⟨s1,M,O⟩:=ax (show(b_ P tb mt (λj=>(ops[j]?).bind (·.dst)) k o s).bind (fJ P tb mt (λj=>(ops[j]?).bind (·.dst)) (k+1) l)=some s' from h);have h0:ops[k]?=some o:=by simpa using(hl 0 (by simp)).symm
  have hnx:s1.nx=s.nx:=by obtain⟨_,z,u,_,rfl⟩:=bw.1 M;rfl
  rw[ab0,List.range'_succ,aaT,wpOps_cons];refine vx L I E (by simp) h0 M (λa' w' g' m' H N=>?_);refine jk L rest l (k+1) s1 s' g' w' m' a' (λj J=>by have:=hl (j+1) (by grind);grind) O (H.sub λj J=>⟨by omega,by omega⟩) N (λg' w' m' a' k1 k2=>p g' w' m' a' ?_ k2);rw[hnx] at k1;exact k1.sub λj J=>by grind
def Hand(P:Program)(g0:Gh)(w0:World)(nx k:Nat)(o:Oper)(s1:AS)(p:AS->Prop):Prop:=
 ∀g w m a (K:Act->World->Prop) (Q:Exit->Act->World->Prop),SR P g0 w0 (λj=>nx+k<=j) s1 g w m a.tmps->a.defers= []->
  (∀s2 g' w' m' (a':Act),p s2->SR P g0 w0 (λj=>nx+(k+1)<=j) s2 g' w' m' a'.tmps->a'.defers= []->K a' w')->o.wp P a w K Q
theorem DZ(H:jb P tb g0){id k:Nat}{o:Oper}{s s1:AS}{a:Act}{w:World}{E R:AS->Prop}{Q:Exit->Act->World->Prop}(hk:ops[k]?=some o)(hg:o.guard=none)
  (Z:fJ P tb mt (λj=>(ops[j]?).bind (·.dst)) 0 (ops.toList.take k) s=some s1) (hand:Hand P g0 w0 s.nx k o s1 E)
  (Y:∀s2,E s2->s2.nx=s.nx/\∃s3,fJ P tb mt (λj=>(ops[j]?).bind (·.dst)) (k+1) (ops.toList.drop (k+1)) s2=some s3/\R { s3 with nx:=s.nx+ops.size })
  (h:ST P g0 w0 s a w) (N:∀s3 a' w',R s3->ST P g0 w0 s3 a' w'->Q .normal a' w'):(Code.region id ops false).wp P Q a w:=by
 obtain⟨g,m,aJ,W⟩:=h;have M:k<ops.size:=(aah.1 hk).1;refine wp_region ?_;have hl1:(ops.toList.take k).length=k:=by grind
 have hl2:(ops.toList.drop (k+1)).length=ops.size-(k+1):=by simp
 have hr:List.range ops.size=List.range' 0 (ops.toList.take k).length++(k::(List.range' (k+1) (ops.toList.drop (k+1)).length++ [])):=by
  rw[hl1,hl2,acO,afd];have e:ops.size=k+(1+(ops.size-(k+1))):=by omega
  conv=>lhs;rw[e,<-List.range'_append_1,<-List.range'_append_1]
  simp
 rw[hr];refine jk (g0:=g0) (w0:=w0) H _ (ops.toList.take k) 0 s s1 g w m a (λj hj=>by
  simp_all) Z (by omega) W (λg' w' m' a' k1 k2=>?_)
 rw[wpOps_cons];unfold wpOp;rw[hk];have hw:Region.wanted o (yielded ops a'.tmps)=true:=by grind [Region.wanted]
 simp only[hw,acC];refine .inl ?_;rw[abY,hl1] at k1;refine hand g' w' m' a' _ _ k1 k2 (λs2 g2 w2 m2 a2 hp k3 L=>?_);obtain⟨hnx,s3,U,O⟩:=Y s2 hp;refine jk (g0:=g0) (w0:=w0) H [] (ops.toList.drop (k+1)) (k+1) s2 s3 g2 w2 m2 a2 (λj _=>by simp_all) U (by simp_all) L (λg5 I m5 a5 p J=>?_);refine N _ a5 I O ⟨g5,m5,?_,J⟩;rw[hnx,hl2,show k+1+(ops.size-(k+1))=ops.size from by omega] at p;exact⟨p.size,p.tmps,p.free,p.boxes,p.cD,p.cB,p.c_,p.vd,p.wi,p.ext,p.keeps,p.gi,p.fV,p.pins⟩
def swp(P:Program)(g0:Gh)(w0:World)(c:Code)(Q:Ex->AS->Prop)(s:AS):Prop:=∀a w,ST P g0 w0 s a w->c.wp P (QS P g0 w0 Q) a w
theorem aY(p:jb P tb g0)(hm:P.follows .mixedOrders=true){c:Code}{Q:Ex->AS->Prop}{s:AS}(h:awp P tb mt c Q s):swp P g0 w0 c Q s:=λa w E=>fj p hm c Q s a w h E
theorem bD{c:Code}{Q Q':Ex->AS->Prop}{s:AS}(hq:∀e s,Q e s->Q' e s)(h:swp P g0 w0 c Q s):swp P g0 w0 c Q' s:=λa w E=>wp_mono (h a w E) (λ_ _ _ ⟨x,s,h1,h2,p⟩=>⟨x,s,h1,hq _ _ h2,p⟩)
theorem bO{x y:Code}{Q:Ex->AS->Prop}{s:AS}(h:swp P g0 w0 x (λe s'=>match e with| .normal=>swp P g0 w0 y Q s'|e=>Q e s') s):swp P g0 w0 (.seq x y) Q s:=by
 intro a w p;refine wp_seq (wp_mono (h a w p) ?_);rintro e a' w' ⟨x',s',he,hq,hs'⟩;cases e <;>simp only[c8,Option.some.injEq,reduceCtorEq] at he <;>subst he
 ·exact hq a' w' hs'
 ·exact⟨_,s',rfl,hq,hs'⟩
 ·exact⟨_,s',rfl,hq,hs'⟩
theorem wo{c:Operand}{x y:Code}{Q:Ex->AS->Prop}{s:AS}(hc:s.ev c=.b true)(h:swp P g0 w0 x Q s):swp P g0 w0 (.cond c x y) Q s:=by
 intro a w H;obtain⟨g,m,p,E⟩:=H;have h1:=p.ev c;rw[hc] at h1;exact ag1 h1.b (h a w ⟨g,m,p,E⟩)
theorem zB{c:Operand}{x y:Code}{Q:Ex->AS->Prop}{s:AS}(hc:s.ev c=.b false)(h:swp P g0 w0 y Q s):swp P g0 w0 (.cond c x y) Q s:=by
 intro a w H;obtain⟨g,m,p,E⟩:=H;have h1:=p.ev c;rw[hc] at h1;exact agh h1.b (h a w ⟨g,m,p,E⟩)
theorem uY(E:jb P tb g0){id k:Nat}{o:Oper}{s s1:AS}{p:AS->Prop}{Q:Ex->AS->Prop}(hk:ops[k]?=some o)(hg:o.guard=none)
  (J:fJ P tb mt (λj=>(ops[j]?).bind (·.dst)) 0 (ops.toList.take k) s=some s1) (hand:Hand P g0 w0 s.nx k o s1 p)
  (I:∀s2,p s2->s2.nx=s.nx/\∃s3,fJ P tb mt (λj=>(ops[j]?).bind (·.dst)) (k+1) (ops.toList.drop (k+1)) s2=some s3/\Q .normal { s3 with nx:=s.nx+ops.size }):swp P g0 w0 (.region id ops false) Q s:=
 λa w H=>DZ (g0:=g0) (w0:=w0) (R:=Q .normal) E hk hg J hand I H (λs3 a' w' h1 h2=>⟨_,s3,rfl,h1,h2⟩)
theorem gG{f:FuncId}{fn:Func}{c:Code}(hf:P.funcs[f]?=some fn)(hb:fn.body=some c){args:List AV}(hn:args.length<=fn.ntmps){res:AV}
  (h:∀g0 w0,swp P g0 w0 c (λe s=>(e=.normal\/e=.ret)/\Dn P fn.results.toList s res) (a0 args fn.ntmps)):aq P f args res:=by
 intro g w ys hW hr;refine aey hf hb ?_;have J:=uV (P:=P) hW hr hn;have N:ys.toArray.size=ys.length:=by simp
 rw[N];refine wp_mono (h _ _ _ _ J) ?_;rintro e a w' ⟨x,s,he,⟨hx,E⟩,⟨g',m,p,L⟩⟩;have M:∃v,(results fn a.tmps).run P w'=.ok v w'/\Rd g' w' res v/\anC g' w' w.heap.size res v:=by
  rw[cX];rcases E with E|⟨t,τ,e',k,l,O,I,hl,hk,rfl⟩
  ·split at E
   ·rename_i r O;obtain⟨y,y1,y2⟩:=vz p E;refine⟨y,?_,y2,?_⟩
    ·have:fn.results= #[r]:=by grind
     simp_all
    ·have J:res.strip=res:=by
      cases r with
      |tmp t=>
       grind [eH,aH]
      |cell x t=>
       simp only[aH] at E;split at E
       ·obtain⟨_,_,h2⟩:=ax E
        grind [Option.map_eq_some_iff,eH]
       grind
     unfold anC;split
     ·cases J
     ·trivial
   ·rename_i l cr;obtain⟨xs,h1,rfl⟩:=E;obtain⟨ys',k1,k2⟩:=vA p h1;refine⟨.tuple ys'.toArray,?_,.tu xs ys' k2.1 k2.2,trivial⟩;have hlen:ys'.length≠1:=λe=>by
     have Y:fn.results.toList.length=1:=by
      have:∀ {l:List ResultVar} {xs:List AV},dc P s l=some xs->xs.length=l.length:=by
       intro l
       induction l with
       |nil=>intro xs h;cases h;rfl
       |cons r l W=>
        intro xs h;obtain⟨x,_,h2⟩:=ax (show(aH P s r).bind (λx=>(dc P s l).map (x:: ·))=some xs from h)
        grind [Option.map_eq_some_iff]
      rw[<-this h1,<-k2.1];exact e
     grind [List.length_eq_one_iff]
    simp_all [abC]
  ·have:fn.results= #[.tmp t]:=by grind
   rw[this];have H:=p.tmps t;rw[I] at H;obtain⟨r1,U⟩:Rd g' w' (.sq none k l) (a.tmps.getD t undef)/\a.tmps.getD t undef=m.tm τ:=by
    rcases H with H|⟨_,_,e',_⟩
    ·exact⟨H.1,(H.2 τ _ _ rfl).2 (by grind)⟩
    ·cases e'
   refine⟨a.tmps.getD t undef,?_,r1.tok,?_⟩
   ·simp[abC,ey]
   ·obtain⟨n,ys',o1,o2⟩:=p.cB τ e' hl;unfold anC
    grind
 obtain⟨v,v1,v2,v3⟩:=M;rcases hx with rfl|rfl
 ·cases e <;>simp only[c8,Option.some.injEq,reduceCtorEq] at he
  exact⟨L,v,v1,v,g',rfl,⟨p.ext.1,p.ext.2,p.ext.3,p.ext.4,p.ext.5,p.ext.6,p.ext.7,p.ext.8⟩,p.wi,⟨p.keeps.1,p.keeps.2,p.keeps.3⟩,v2,v3⟩
 ·cases e <;>simp only[c8,Option.some.injEq,reduceCtorEq] at he
  exact⟨L,v,v1,v,g',rfl,⟨p.ext.1,p.ext.2,p.ext.3,p.ext.4,p.ext.5,p.ext.6,p.ext.7,p.ext.8⟩,p.wi,⟨p.keeps.1,p.keeps.2,p.keeps.3⟩,v2,v3⟩
theorem tE(ops:Array Oper):(λj=>(ops[j]?).bind (·.dst))=dl (zf ops):=by
 funext j
 unfold zf;rw[HV,<-O9,ae2]
theorem je(k:Nat)(E:jb P tb g0){id:Nat}{o:Oper}{s:AS}{Q:Ex->AS->Prop}(hk:ops[k]?=some o)(hg:o.guard=none)
  (h:∀K:AS->Prop,(∀s1,(∃p,Hand P g0 w0 s.nx k o s1 p/\∀s2,p s2->s2.nx=s.nx/\JI (s.nx+Gl ops) (eM P tb mt (zf ops) (k+1) (kI (ops.toList.drop (k+1))) s2) (Q .normal))->K s1)->
   JI s.nx (eM P tb mt (zf ops) 0 (kI (ops.toList.take k)) s) K):swp P g0 w0 (.region id ops false) Q s:=by
 have h1:=h _ (λ_ h=>h);unfold eM at h1;rw[ju] at h1;cases hr:fJ P tb mt (dl (zf ops)) 0 (ops.toList.take k) s with
 |none=>simp_all
 |some s1=>
  rw[hr] at h1;have hn:=sr _ _ _ _ hr;obtain⟨p,h2,J⟩:=h1;have L:({ s1 with nx:=s.nx } :AS)=s1:=by rw[<-hn]
  rw[L] at h2;refine uY (tb:=tb) (mt:=mt) E hk hg (by grind [tE]) h2 (λs2 hp=>?_);obtain⟨I,H⟩:=J s2 hp;refine⟨I,?_⟩;rw[ju] at H;rw[tE];cases M:fJ P tb mt (dl (zf ops)) (k+1) (ops.toList.drop (k+1)) s2 with
  |none=>simp_all
  |some s3=>
   simp_all [wm,Gl]
end
end Go.Proofs.YtjagmhagphbfcaaGreatDoor
