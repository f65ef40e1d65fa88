/- Lemmas, part 14. -/
import Derived.LoopN
import Derived.Test.YtjagmhagphbfcaaGreatDoorO13
set_option maxRecDepth 100000
set_option linter.all false
namespace Go.Proofs.YtjagmhagphbfcaaGreatDoor
def afd:=@List.range_eq_range'
def adY:=@Array.getElem?_replicate
def aet:=@Nat.zero_le
def ac5:=@Array.length_toList
def ag1:=@Go.wp_cond_true
def agh:=@Go.wp_cond_false
def af6:=@Go.wp_block
def afX:=@Go.wp_loop_rounds
def afe:=@Go.rounds_succ
open Go Go.Proofs
section
variable{P:Program}{g0:Gh}{w0:World}{fr fr':Nat->Prop}{s s':AS}{g:Gh}{w:World}{m:Mem}{a:Act}{o:Oper}{i:Nat}{tb:qd}{mt:Nat->Bool}{ops:Array Oper}{tmps:Array Value}
theorem SR.sub(h:SR P g0 w0 fr s g w m tmps)(hf:∀j,fr' j->fr j):SR P g0 w0 fr' s g w m tmps:=by
 have p:Mv fr fr' s.lv s.lv g g w w m m:=⟨.refl _ _,λ_ h k=>h (hf _ k),λσ _ h=>⟨h,rfl⟩,λ_ _=>rfl⟩
 refine { h with tmps:=λt=>(h.tmps t).mv p,free:=λj E=>h.free j (hf j E),boxes:=?_,pins:=λid b e=>p.pins (h.pins id b e) };intro j ro cells M;obtain⟨ys,ty,h1,h2,L,J,I,H⟩:=h.boxes j ro cells M;exact⟨ys,ty,h1,h2,L,J,λj a y O N=>(I j a y O N).mv p,H⟩
theorem Ge(j:Nat):yielded ops a.tmps j=match(ops[j]?).bind (·.dst) with
  |some d=>(match a.tmps.getD d undef with| .bool b=>some b|_=>none)
  |none=>none:=by
 unfold yielded;cases hd:(ops[j]?).bind (·.dst) with
 |none=>rfl
 |some d=>
  simp only[abN];rw[aba];cases hv:a.tmps[d]? with
  |none=>rfl
  |some v=>grind
theorem IH(h:SR P g0 w0 fr s g w m a.tmps){b:Bool}(hw:iM (λj=>(ops[j]?).bind (·.dst)) o s=some b):Region.wanted o (yielded ops a.tmps)=b:=by
 unfold iM at hw;unfold Region.wanted;cases hg:o.guard with
 |none=>simp_all
 |some q=>
  obtain⟨j,want⟩:=q;rw[hg] at hw;simp only at hw ⊢;rw[Ge j];cases hd:(ops[j]?).bind (·.dst) with
  |none=>simp_all
  |some d=>
   rw[hd] at hw;simp only at hw ⊢;have p:=h.tmps d;split at hw
   ·rename_i t heq;cases hw;rw[heq] at p;rw[p.b]
    grind
   ·rename_i vs heq;cases hw;rw[heq] at p;obtain⟨ys,hy,_⟩:=p.tu
    grind
   ·cases hw
theorem L4(h:SR P g0 w0 fr s g w m a.tmps)(hd:∀d,o.dst=some d->d<s.n):SR P g0 w0 (λj=>fr j/\j≠s.nx+i) (upd s i o.dst (.tu []) {}) g w m (a.put o.dst undef).tmps:=by
 rw[Dk];exact(h.less _).iR (dst:=o.dst) hd (.cw (.tu [] [] rfl (λ_ _ _ e=>by simp at e)) rfl) a rfl
theorem vx(J:jb P tb g0)(h:SR P g0 w0 fr s g w m a.tmps)(H:a.defers= [])(I:fr (s.nx+i))(ho:ops[i]?=some o)(hs:b_ P tb mt (λj=>(ops[j]?).bind (·.dst)) i o s=some s'){K:Act->World->Prop}{Q:Exit->Act->World->Prop}
  (E:∀a' w' g' m',SR P g0 w0 (λj=>fr j/\j≠s.nx+i) s' g' w' m' a'.tmps->a'.defers= []->K a' w'):wpOp P ops Q i K a w:=by
 obtain⟨hd,z,u,p,rfl⟩:=bw.1 hs;unfold wpOp;rw[ho];simp only;rcases p with ⟨h1,h2⟩|⟨h1,rfl,rfl⟩
 ·rw[aay (IH h h1)];exact .inl (Ir J h H hd I h2 K Q E)
 ·rw[aat (by grind [IH])];exact E _ _ g m (L4 h hd) (put_defers _ _ _ H)
def frL(nx:Nat)(listed:Array Bool)(j:Nat):Prop:=nx<=j/\∀i,j=nx+i->listed.getD i false=false
theorem PD(Z:jb P tb g0){N:AS->Prop}{Q:Exit->Act->World->Prop} :∀(fuel:Nat) (listed:Array Bool) (s:AS) (g:Gh) (w:World) (m:Mem) (a:Act),
  PE P tb mt ops N fuel listed s->listed.size=ops.size->SR P g0 w0 (frL s.nx listed) s g w m a.tmps->a.defers= []->
  (∀s' g' w' m' (a':Act),N s'->s'.nx=s.nx->SR P g0 w0 (λj=>s.nx+ops.size<=j) s' g' w' m' a'.tmps->a'.defers= []->Q .normal a' w')->wpAny P .any ops Q fuel listed a w:=by
 have M:∀(listed:Array Bool) (nx:Nat),listed.size=ops.size->∀j,nx+ops.size<=j->frL nx listed j:=λlisted nx hl j p=>⟨by omega,λi hi=>by
  simp_all⟩
 intro fuel
 induction fuel with
 |zero=>
  intro listed s g w m a h hl I H E;exact⟨h.1,E s g w m a h.2 rfl (I.sub (M listed s.nx hl)) H⟩
 |succ fuel W=>
  intro listed s g w m a h hl I H E;refine⟨λh0=>E s g w m a (h.1 h0) rfl (I.sub (M listed s.nx hl)) H,λi hi=>?_⟩;obtain⟨VY,o,ho,_⟩:=agW.1 hi;have WC:i<ops.size:=(aah.1 ho).1;obtain⟨s1,h1,h2⟩:=h.2 i hi o ho;have hnx:s1.nx=s.nx:=by obtain⟨_,z,u,_,rfl⟩:=bw.1 h1;rfl
  have J:frL s.nx listed (s.nx+i):=⟨by omega,λj p=>by
   simp_all⟩
  refine vx Z I H J ho h1 (λa' w' g' m' L O=>?_);refine W (listed.setIfInBounds i true) s1 g' w' m' a' h2 (by grind) (L.sub λj p=>?_) O (λs' g' w' m' a' k1 k2 k3 U=>E s' g' w' m' a' k1 (k2.trans hnx) (by simp_all) U);rw[hnx] at p;refine⟨⟨p.1,λq hq=>?_⟩,λe=>?_⟩
  ·have:=p.2 q hq;by_cases Y:i=q
   ·simp_all
   simp_all
  ·have:=p.2 i e
   simp_all
theorem SR.drawn(h:SR P g0 w0 fr s g w m tmps):SR P g0 w0 fr s g { w with drawn:=w.drawn+1 } m tmps:=by
 have p:Lw g g w { w with drawn:=w.drawn+1 } :=⟨aax _,λ_=>aax _,λ_ _ _=>rfl,λ_ _ h=>h,rfl,rfl,rfl,λ_ _ e _=>e⟩
 exact h.keep p ⟨h.wi.out,λb d hd=>by obtain⟨es,ck,H,E⟩:=h.wi.aD b d hd;exact⟨es,ck,H,λe he=>by obtain⟨a,ha,I⟩:=E e he;exact⟨a,ha,I.mono p⟩⟩,h.wi.cz.mono p⟩ ⟨λ_ _ _=>rfl,λ_ _=>rfl,λ_ _=>rfl⟩
def ST(P:Program)(g0:Gh)(w0:World)(s:AS)(a:Act)(w:World):Prop:=∃g m,SR P g0 w0 (λj=>s.nx<=j) s g w m a.tmps/\a.defers= []
theorem sr{dsts:Nat->Option Nat} :∀(l:List Oper) (k:Nat) (s s':AS),fJ P tb mt dsts k l s=some s'->s'.nx=s.nx
 | [],_,s,s',h=>by cases h;rfl
 |o::l,k,s,s',h=>by
  obtain⟨s1,E,p⟩:=ax (show(b_ P tb mt dsts k o s).bind (fJ P tb mt dsts (k+1) l)=some s' from h);rw[sr l (k+1) s1 s' p];obtain⟨_,z,u,_,rfl⟩:=bw.1 E;rfl
theorem qm(J:jb P tb g0){Q:Exit->Act->World->Prop} :∀(l:List Oper) (k:Nat) (s s':AS) (g:Gh) (w:World) (m:Mem) (a:Act),(∀j,l[j]?=ops[k+j]?)->fJ P tb mt (λj=>(ops[j]?).bind (·.dst)) k l s=some s'->
  SR P g0 w0 (λj=>s.nx+k<=j) s g w m a.tmps->a.defers= []->(∀g' w' m' (a':Act),SR P g0 w0 (λj=>s.nx+(k+l.length)<=j) s' g' w' m' a'.tmps->a'.defers= []->Q .normal a' w')->
  wpOps P ops Q (List.range' k l.length) a w
 | [],k,s,s',g,w,m,a,_,h,I,E,p=>by cases h;exact p g w m a I E
 |o::l,k,s,s',g,w,m,a,hl,h,I,E,p=>by
  obtain⟨s1,L,O⟩:=ax (show(b_ P tb mt (λj=>(ops[j]?).bind (·.dst)) k o s).bind (fJ P tb mt (λj=>(ops[j]?).bind (·.dst)) (k+1) l)=some s' from h);have h0:ops[k]?=some o:=by simpa using(hl 0).symm
  have hnx:s1.nx=s.nx:=by obtain⟨_,z,u,_,rfl⟩:=bw.1 L;rfl
  rw[ab0,List.range'_succ,wpOps_cons];refine vx J I E (by simp) h0 L (λa' w' g' m' H M=>?_);refine qm J l (k+1) s1 s' g' w' m' a' (λj=>by have:=hl (j+1);grind) O (H.sub λj N=>⟨by omega,by omega⟩) M (λg' w' m' a' k1 k2=>p g' w' m' a' ?_ k2);rw[hnx] at k1;exact k1.sub λj N=>by grind
theorem J9(E:jb P tb g0)(hm:P.follows .mixedOrders=true){id:Nat}{draw:Bool}(U:draw=true->Region.lexB .any ops=true/\oz mt ops=true)(hs:FL P tb mt ops s=some s')(h:ST P g0 w0 s a w){Q:Exit->Act->World->Prop}(N:∀a' w',ST P g0 w0 s' a' w'->Q .normal a' w'):
  (Code.region id ops draw).wp P Q a w:=by
 obtain⟨g,m,I,H⟩:=h;unfold FL at hs;cases ha:fJ P tb mt (λj=>(ops[j]?).bind (·.dst)) 0 ops.toList s with
 |none=>simp_all
 |some s1=>
  rw[ha] at hs;simp only[acz,Option.some.injEq] at hs;have fin:∀(s2:AS) g' w' m' (a':Act),s2=s1->SR P g0 w0 (λj=>s.nx+ops.size<=j) s2 g' w' m' a'.tmps->a'.defers= []->Q .normal a' w':=λs2 g' w' m' a' e k1 k2=>by
   subst e;refine N a' w' ⟨g',m',?_,k2⟩;rw[<-hs];exact⟨k1.size,k1.tmps,k1.free,k1.boxes,k1.cD,k1.cB,k1.c_,k1.vd,k1.wi,k1.ext,k1.keeps,k1.gi,k1.fV,k1.pins⟩
  cases draw with
  |false=>
   refine wp_region ?_;have:=qm (g0:=g0) (w0:=w0) E ops.toList 0 s s1 g w m a (Q:=Q) (λj=>by simp) ha (by omega) H (λg' w' m' a' k1 k2=>fin s1 g' w' m' a' rfl (by grind) k2);rw[afd];omega
  |true=>
   obtain⟨W,O⟩:=U rfl;refine wp_region_any hm ?_;simp only[Region.lexB,aaZ] at W;have p:=yh O (K:=λs2=>s2=s1) ops.toList 0 (Array.replicate ops.size false) s s1 (λj Y _ h=>by
    rw[aba,adY] at h
    grind) (λj _=>(I.free _ (Nat.le_add_right _ _)).1) (λj _=>aet _) (λj=>by simp) (by grind) ha rfl
   rw[ac5] at p;refine PD E ops.size _ s g _ m a p (by simp) (I.drawn.sub λj M=>M.1) H (λs' g' w' m' a' k1 k2 L J=>fin s' g' w' m' a' k1 L J)
inductive Ex|normal|exit(id:Nat)|ret
def rv(f:(Ex->AS->Prop)->AS->Prop)(Q:Ex->AS->Prop):Nat->AS->Prop
 |0,_=>False
 |n+1,s=>f (λe s'=>match e with| .normal=>rv f Q n s'|e=>Q e s') s
structure Wk(s s':AS):Prop where
 T:∀j,s'.T j=s.T j\/s'.T j=.any
 B:s'.B=s.B
 lv:s'.lv=s.lv
 nx:s'.nx=s.nx
 n:s'.n=s.n
theorem Wk.refl(s:AS):Wk s s:=⟨λ_=>.inl rfl,rfl,rfl,rfl,rfl⟩
theorem ST.wk{s s':AS}(h:ST P g0 w0 s a w)(k:Wk s s'):ST P g0 w0 s' a w:=by
 obtain⟨g,m,I,J⟩:=h;refine⟨g,m,?_,J⟩;obtain⟨T,B,lv,nx,n⟩:=s;obtain⟨M,O,LM,L,N⟩:=s';obtain⟨k1,k2,H,E,p⟩:=k;simp only at k1 k2 H E p;subst k2 H E p;have ht:∀t,RV (λj=>L<=j) LM g w m (M t) (a.tmps.getD t undef):=λt=>by
  rcases k1 t with e|e
  ·rw[e];exact I.tmps t
  ·rw[e];exact .cw (.any _) rfl
 exact { I with tmps:=ht }
def awp(P:Program)(tb:qd)(mt:Nat->Bool):Code->(Ex->AS->Prop)->AS->Prop
 | .skip,Q,s=>Q .normal s
 | .region _ ops draw,Q,s=>(draw=true->Region.lexB .any ops=true/\oz mt ops=true)/\∃s' s2,FL P tb mt ops s=some s'/\Wk s' s2/\Q .normal s2
 | .seq x y,Q,s=>awp P tb mt x (λe s'=>match e with| .normal=>awp P tb mt y Q s'|e=>Q e s') s
 | .cond c x y,Q,s=>match s.ev c with
  | .b true=>awp P tb mt x Q s
  | .b false=>awp P tb mt y Q s
  |_=>False
 | .block id c,Q,s=>awp P tb mt c (λe s'=>match e with| .exit j=>if j=id then Q .normal s' else Q (.exit j) s'|e=>Q e s') s
 | .loop c,Q,s=>∃n,rv (awp P tb mt c) Q n s
 | .exit id,Q,s=>Q (.exit id) s
 | .ret,Q,s=>Q .ret s
 | .label _,Q,s=>Q .normal s
 |_,_,_=>False
def c8:Exit->Option Ex
 | .normal=>some .normal
 | .exit id=>some (.exit id)
 | .ret=>some .ret
 |_=>none
def QS(P:Program)(g0:Gh)(w0:World)(Q:Ex->AS->Prop)(e:Exit)(a:Act)(w:World):Prop:=∃x s,c8 e=some x/\Q x s/\ST P g0 w0 s a w
theorem fj(p:jb P tb g0)(hm:P.follows .mixedOrders=true):∀(c:Code) (Q:Ex->AS->Prop) (s:AS) (a:Act) (w:World),awp P tb mt c Q s->ST P g0 w0 s a w->c.wp P (QS P g0 w0 Q) a w
 | .skip,Q,s,a,w,h,hs=>wp_skip ⟨_,s,rfl,h,hs⟩
 | .region id ops draw,Q,s,a,w,h,hs=>by
  obtain⟨L,s',s2,h1,M,h2⟩:=h;exact J9 p hm L h1 hs (λa' w' hs'=>⟨_,s2,rfl,h2,hs'.wk M⟩)
 | .seq x y,Q,s,a,w,h,hs=>by
  refine wp_seq (wp_mono (fj p hm x _ s a w h hs) ?_);rintro e a' w' ⟨x',s',he,hq,hs'⟩;cases e <;>simp only[c8,Option.some.injEq,reduceCtorEq] at he <;>subst he
  ·exact fj p hm y Q s' a' w' hq hs'
  ·exact⟨_,s',rfl,hq,hs'⟩
  ·exact⟨_,s',rfl,hq,hs'⟩
 | .cond c x y,Q,s,a,w,h,hs=>by
  obtain⟨g,m,H,I⟩:=hs;unfold awp at h;have hc:=H.ev c;split at h
  ·rename_i heq;rw[heq] at hc;exact ag1 hc.b (fj p hm x Q s a w h ⟨g,m,H,I⟩)
  ·rename_i heq;rw[heq] at hc;exact agh hc.b (fj p hm y Q s a w h ⟨g,m,H,I⟩)
  ·exact h.elim
 | .block id c,Q,s,a,w,h,hs=>by
  refine af6 (wp_mono (fj p hm c _ s a w h hs) ?_);rintro e a' w' ⟨x',s',he,hq,hs'⟩;cases e <;>simp only[c8,Option.some.injEq,reduceCtorEq] at he <;>subst he
  ·exact⟨_,s',rfl,hq,hs'⟩
  ·rename_i j;simp only at hq;simp only[Exit.inBlock];split at hq
   ·rename_i E;rw[aay E];exact⟨_,s',rfl,hq,hs'⟩
   ·rename_i E;rw[aat E];exact⟨_,s',rfl,hq,hs'⟩
  ·exact⟨_,s',rfl,hq,hs'⟩
 | .loop c,Q,s,a,w,h,hs=>by
  obtain⟨n,hn⟩:=h;refine afX n ?_;have key:∀(n:Nat) (s:AS) (a:Act) (w:World),rv (awp P tb mt c) Q n s->ST P g0 w0 s a w->Code.rounds P c (QS P g0 w0 Q) n a w:=by
   intro n
   induction n with
   |zero=>intro s a w h _;exact h.elim
   |succ n J=>
    intro s a w h N;rw[afe];refine wp_mono (fj p hm c _ s a w h N) ?_;rintro e a' w' ⟨x',s',he,hq,hs'⟩;cases e <;>simp only[c8,Option.some.injEq,reduceCtorEq] at he <;>subst he
    ·exact J s' a' w' hq hs'
    ·exact⟨_,s',rfl,hq,hs'⟩
    ·exact⟨_,s',rfl,hq,hs'⟩
  grind
 | .exit id,Q,s,a,w,h,hs=>wp_exit ⟨_,s,rfl,h,hs⟩
 | .ret,Q,s,a,w,h,hs=>wp_ret ⟨_,s,rfl,h,hs⟩
 | .label l,Q,s,a,w,h,hs=>wp_label ⟨_,s,rfl,h,hs⟩
 | .rangeFunc ..,_,_,_,_,h,_=>h.elim
 | .scope ..,_,_,_,_,h,_=>h.elim
 | .goto ..,_,_,_,_,h,_=>h.elim
 | .refuse ..,_,_,_,_,h,_=>h.elim
end
def ahj:=@Option.getD_none
def aey:=@Go.calls_of_wp
def aeb:=@Option.map_eq_some_iff
def aeR:=@List.length_eq_one_iff
section
variable{P:Program}{tb:qd}{mt:Nat->Bool}
def a0(args:List AV)(n:Nat):AS:= { T:=λt=>(args.getD t (.tu [])).strip,B:=λ_=>none,lv:=λ_=>none,nx:=0,n:=n }
@[simp] theorem ap8 (args n id):(a0 args n).B id=none:=(rfl)
@[simp] theorem al7 (args n id):(a0 args n).lv id=none:=(rfl)
@[simp] theorem al6 (args n):(a0 args n).nx=0:=(rfl)
@[simp] theorem ap6 (args n):(a0 args n).n=n:=(rfl)
@[simp] theorem ap7 (args n j):(a0 args n).T j=(args.getD j (.tu [])).strip:=(rfl)
theorem uV{g:Gh}{w:World}(hW:WI g w){args:List AV}{ys:List Value}(hr:cS g w args ys){n:Nat}(hn:args.length<=n):
  ST P { g with ex:=λ_ _ _=>True,iF:=λ_=>none } w (a0 args n) { tmps:=ys.toArray++Array.replicate (n-ys.length) undef,defers:= [] } w:=by
 refine⟨g,⟨λ_=>0,λ_=>undef⟩,?_,rfl⟩;exact {
  size:=by simp[a0,hr.1];omega
  tmps:=λt=>by
   rw[aba,aev];simp only[afb];split
   ·rename_i ht;have p:t<args.length:=by rw[<-hr.1];exact ht
    have hy:(ys.toArray[t]?).getD undef=ys[t]:=by simp[ht]
    rw[hy];show RV _ _ _ _ _ (args.getD t (.tu [])).strip _;rw[abM,aaf p,aem];exact RC.zS (hr.2 t _ _ (aaf p) (aaf ht))
   ·rename_i ht;have p:args.length<=t:=by rw[<-hr.1];omega
    have hy:((Array.replicate (n-ys.length) undef)[t-ys.length]?).getD undef=undef:=by
     rw[adY];split <;>rfl
    rw[hy];show RV _ _ _ _ _ (args.getD t (.tu [])).strip _;rw[abM,aby p,ahj];exact .cw (.tu [] [] rfl (λ_ _ _ e=>by simp at e)) rfl
  free:=λ_ _=>⟨rfl,rfl⟩
  boxes:=λid ro cells e=>by cases e
  cD:=λi j h=>absurd rfl h
  cB:=λτ e h=>by cases h
  c_:=λσ τ c h=>absurd rfl h
  vd:=λτ id h=>absurd rfl h
  wi:=hW
  ext:=⟨aax _,λ_=>aax _,λ_ _ _=>rfl,λ_ _ h=>h,rfl,rfl,rfl,λ_ _ e _=>e⟩
  keeps:=⟨λ_ _ _=>rfl,λ_ _=>rfl,λ_ _=>rfl⟩
  gi:=λ_ _ _ _ _ _=>trivial
  fV:=trivial
  pins:=λ_ _ h=>by cases h }
def aH(P:Program)(s:AS):ResultVar->Option AV
 | .tmp t=>if(s.T t).jh=true then some (s.T t).strip else none
 | .cell x t=>match s.T x with
  | .bx id o=>(s.B id).bind λy=>(cW P t (y.2.drop o)).map AV.strip
  |_=>none
def dc(P:Program)(s:AS):List ResultVar->Option (List AV)
 | []=>some []
 |r::l=>(aH P s r).bind λx=>(dc P s l).map (x:: ·)
def Dn(P:Program)(rs:List ResultVar)(s:AS)(res:AV):Prop:=
  (match rs with
   | [r]=>aH P s r=some res
   |l=>∃xs,dc P s l=some xs/\res=.tu xs)\/
  (∃t τ e k l,rs= [.tmp t]/\s.T t=.sq (some τ) k l/\s.lv τ=some e/\k=aQ P e/\res=.sq (some e) k l)
def ey(tmps:Array Value):ResultVar->Sem Value
 | .tmp t=>pure (tmps.getD t undef)
 | .cell a t=>do loadVar t (<-asAddr (tmps.getD a undef))
theorem vz{g0:Gh}{w0:World}{fr:Nat->Prop}{s:AS}{g:Gh}{w:World}{m:Mem}{tmps:Array Value}(h:SR P g0 w0 fr s g w m tmps){r:ResultVar}{x:AV}(hr:aH P s r=some x):
  ∃y,(ey tmps r).run P w=.ok y w/\Rd g w x y:=by
 cases r with
 |tmp t=>
  simp only[aH] at hr;split at hr
  ·rename_i hn;cases hr;exact⟨_,rfl,((h.tmps t).rd λid off e=>by rw[e] at hn;cases hn).strip⟩
  ·cases hr
 |cell x t=>
  simp only[aH] at hr;split at hr
  ·rename_i id off heq;obtain⟨⟨ro,l⟩,h1,h2⟩:=ax hr;cases p:cW P t (l.drop off) with
   |none=>rw[p] at h2;cases h2
   |some q=>
    rw[p] at h2;cases h2;have E:=h.tmps x;rw[heq] at E;obtain⟨ys,ty,k1,k2,J,I,H,U⟩:=h.boxes id ro l h1;have L:cS g w l ys:=⟨J,λj a y O N=>(H j a y O N).rd⟩
    obtain⟨Z,z1,z2⟩:=run_load (P:=P) (b:=m.bm id) (o:=off) (L.drop off) (λy hy=>I y (ac8 hy)) (λj y M=>by rw[aeg w _ _ _ ty _ k2];simpa using M) p;refine⟨Z,?_,z2.strip⟩;simp only[ey];rw[E.bx.2];simp only[asAddr,aaw,aaS,aas,z1]
  ·cases hr
theorem vA{g0:Gh}{w0:World}{fr:Nat->Prop}{s:AS}{g:Gh}{w:World}{m:Mem}{tmps:Array Value}(h:SR P g0 w0 fr s g w m tmps):∀ {l:List ResultVar} {xs:List AV},dc P s l=some xs->
  ∃ys,(l.mapM (ey tmps)).run P w=.ok ys w/\cS g w xs ys
 | [],xs,hr=>by cases hr;exact⟨[],by simp,.nil _ _⟩
 |r::l,xs,hr=>by
  obtain⟨x,h1,h2⟩:=ax (show(aH P s r).bind (λx=>(dc P s l).map (x:: ·))=some xs from hr);cases p:dc P s l with
  |none=>rw[p] at h2;cases h2
  |some E=>
   rw[p] at h2;cases h2;obtain⟨y,y1,y2⟩:=vz h h1;obtain⟨ys,k1,k2⟩:=vA h p;refine⟨y::ys,?_,.cons y2 k2⟩;simp only[ag3,aaw,y1,aas,k1,aaS]
theorem cX(fn:Func)(tmps:Array Value):results fn tmps=(do let vs<-fn.results.mapM (ey tmps);pure (if h:vs.size=1 then vs[0] else .tuple vs)):=by
 rfl
theorem o7(Z:jw P tb)(hm:P.follows .mixedOrders=true){f:FuncId}{fn:Func}{c:Code}(hf:P.funcs[f]?=some fn)(hb:fn.body=some c){args:List AV}(hn:args.length<=fn.ntmps){res:AV}
  (h:awp P tb mt c (λe s=>(e=.normal\/e=.ret)/\Dn P fn.results.toList s res) (a0 args fn.ntmps)) [I:pN tb]:aq P f args res:=by
 intro g w ys hW hr;refine aey hf hb ?_;have L:=uV (P:=P) hW hr hn;have cq:ys.toArray.size=ys.length:=by simp
 rw[cq];refine wp_mono (fj (g0:= { g with ex:=λ_ _ _=>True,iF:=λ_=>none }) (w0:=w) (.of Z I) hm c _ _ _ _ h L) ?_;rintro e a w' ⟨x,s,he,⟨hx,E⟩,⟨g',m,p,N⟩⟩;have W:∃v,(results fn a.tmps).run P w'=.ok v w'/\Rd g' w' res v/\anC g' w' w.heap.size res v:=by
  rw[cX];rcases E with E|⟨t,τ,e',k,l,M,J,hl,hk,rfl⟩
  ·split at E
   ·rename_i r M;obtain⟨y,y1,y2⟩:=vz p E;refine⟨y,?_,y2,?_⟩
    ·have:fn.results= #[r]:=by rw[<-M]
     rw[this];simp[abC,y1]
    ·have L:res.strip=res:=by
      cases r with
      |tmp t=>
       simp only[aH] at E;split at E
       ·cases E;exact eH _
       ·cases E
      |cell x t=>
       simp only[aH] at E;split at E
       ·obtain⟨_,_,h2⟩:=ax E;simp only[aeb] at h2;obtain⟨_,_,rfl⟩:=h2;exact eH _
       ·cases E
     unfold anC;split
     ·cases L
     ·trivial
   ·rename_i l cr;obtain⟨xs,h1,rfl⟩:=E;obtain⟨ys',k1,k2⟩:=vA p h1;refine⟨.tuple ys'.toArray,?_,.tu xs ys' k2.1 k2.2,trivial⟩;have hlen:ys'.length≠1:=λe=>by
     have h9:fn.results.toList.length=1:=by
      have:∀ {l:List ResultVar} {xs:List AV},dc P s l=some xs->xs.length=l.length:=by
       intro l
       induction l with
       |nil=>intro xs h;cases h;rfl
       |cons r l Y=>
        intro xs h;obtain⟨x,_,h2⟩:=ax (show(aH P s r).bind (λx=>(dc P s l).map (x:: ·))=some xs from h);simp only[aeb] at h2;obtain⟨C0,h3,rfl⟩:=h2;simp[Y h3]
      rw[<-this h1,<-k2.1];exact e
     obtain⟨r,O⟩:=aeR.1 h9;exact cr r O
    simp[abC,k1,hlen]
  ·have:fn.results= #[.tmp t]:=by rw[<-M]
   rw[this];have H:=p.tmps t;rw[J] at H;obtain⟨r1,U⟩:Rd g' w' (.sq none k l) (a.tmps.getD t undef)/\a.tmps.getD t undef=m.tm τ:=by
    rcases H with H|⟨_,_,e',_⟩
    ·exact⟨H.1,(H.2 τ _ _ rfl).2 (by rw[hl];rfl)⟩
    ·cases e'
   refine⟨a.tmps.getD t undef,?_,r1.tok,?_⟩
   ·simp[abC,ey]
   ·obtain⟨n,ys',o1,o2⟩:=p.cB τ e' hl;unfold anC;rw[U,hk];exact⟨n,ys',o1,o2⟩
 obtain⟨v,v1,v2,v3⟩:=W;rcases hx with rfl|rfl
 ·cases e <;>simp only[c8,Option.some.injEq,reduceCtorEq] at he
  exact⟨N,v,v1,v,g',rfl,⟨p.ext.1,p.ext.2,p.ext.3,p.ext.4,p.ext.5,p.ext.6,p.ext.7,p.ext.8⟩,p.wi,⟨p.keeps.1,p.keeps.2,p.keeps.3⟩,v2,v3⟩
 ·cases e <;>simp only[c8,Option.some.injEq,reduceCtorEq] at he
  exact⟨N,v,v1,v,g',rfl,⟨p.ext.1,p.ext.2,p.ext.3,p.ext.4,p.ext.5,p.ext.6,p.ext.7,p.ext.8⟩,p.wi,⟨p.keeps.1,p.keeps.2,p.keeps.3⟩,v2,v3⟩
end
class cL(P:Program):Prop where
 amN:∃fs,P= { Tryz.prog with funcs:=fs } /\∀f,f≠17->f≠41->fs[f]?=Tryz.prog.funcs[f]?
section
variable{P Q:Program}{t:TypeId}
theorem Uz(h:P.info? t=Q.info? t)(w:World):Sem.run P (typeInfo t) w=Sem.run Q (typeInfo t) w:=by
 have hq:∀Q:Program,program.run Q w=.ok Q w:=λ_=>rfl
 unfold typeInfo;simp only[aaw,hq,aas,h];cases Q.info? t with
 |none=>rfl
 |some i=>rfl
theorem Pj(h:P.underlying t=Q.underlying t)(w:World):Sem.run P (underlying t) w=Sem.run Q (underlying t) w:=by
 have hq:∀Q:Program,program.run Q w=.ok Q w:=λ_=>rfl
 unfold underlying;simp only[aaw,hq,aas,h];cases Q.underlying t with
 |none=>rfl
 |some i=>rfl
theorem acx(h:P.info? t=Q.info? t)(w:World):Sem.run P (zeroValue t) w=Sem.run Q (zeroValue t) w:=by
 unfold zeroValue;simp only[aaw,Uz h]
 grind [Sem.run_pure,Sem.run,unsupported]
theorem acy(h:P.info? t=Q.info? t)(w:World):Sem.run P (Go.sizeOf t) w=Sem.run Q (Go.sizeOf t) w:=by
 unfold Go.sizeOf;simp only[aaw,Uz h];rfl
theorem ai5(h:P.underlying t=Q.underlying t)(w:World):Sem.run P (isAgg t) w=Sem.run Q (isAgg t) w:=by
 grind [Sem.run_bind,Pj,Sem.run_pure,isAgg]
end
section
variable{P:Program}[l:cL P]
theorem lf{f:Nat}{fn:Func}(hf:Tryz.prog.funcs[f]?=some fn)(h1:f≠17:=by decide)(h2:f≠41:=by decide):P.funcs[f]?=some fn:=by
 obtain⟨fs,rfl,h⟩:=l.amN
 simp_all
@[go_sem] theorem pG (t:TypeId):P.info? t=Tryz.prog.info? t:=by obtain⟨fs,rfl,_⟩:=l.amN;rfl
@[go_sem] theorem aX (t:TypeId):P.underlying t=Tryz.prog.underlying t:=by obtain⟨fs,rfl,_⟩:=l.amN;rfl
@[go_sem] theorem Ek (d:Departure):P.follows d=Tryz.prog.follows d:=by obtain⟨fs,rfl,_⟩:=l.amN;rfl
@[go_sem] theorem cx (t:TypeId) (w:World):Sem.run P (zeroValue t) w=Sem.run Tryz.prog (zeroValue t) w:=acx (pG t) w
@[go_sem] theorem cy (t:TypeId) (w:World):Sem.run P (Go.sizeOf t) w=Sem.run Tryz.prog (Go.sizeOf t) w:=acy (pG t) w
@[go_sem] theorem adU (t:TypeId) (w:World):Sem.run P (underlying t) w=Sem.run Tryz.prog (underlying t) w:=Pj (aX t) w
@[go_sem] theorem eD (t:TypeId) (w:World):Sem.run P (isAgg t) w=Sem.run Tryz.prog (isAgg t) w:=ai5 (aX t) w
abbrev aqQ(P:Program)(f:Nat):Prop:=∀(xs:Array Value) (w:World),Sem.run P (callFunc f xs) w=.ok (.enter f xs) w
theorem aR{f:Nat}{fn:Func}(hf:Tryz.prog.funcs[f]?=some fn)(h1:f≠17:=by decide)(h2:f≠41:=by decide)(hb:fn.body.isNone=false:=by rfl)(hn:fn.name≠ "runtime.NumGoroutine" :=by decide):aqQ P f:=λxs w=>by
 have hp:P.funcs[f]?=some fn:=lf hf h1 h2;unfold callFunc;have hq:program.run P w=.ok P w:=rfl;simp only[aaw,hq,aas,hp];rw[aat (c:=(fn.name== "runtime.NumGoroutine")=true) (by grind)];rw[aat (c:=fn.body.isNone=true) (by grind)];rfl
end
section
variable{P:Program}[l:cL P]
theorem lR(t:TypeId):aQ P t=aQ Tryz.prog t:=by unfold aQ;rw[pG]
theorem K_(t:TypeId):qM P t=qM Tryz.prog t:=by unfold qM;rw[pG]
theorem fZ(t:TypeId):fv P t=fv Tryz.prog t:=by unfold fv;rw[aX]
theorem HU(t:TypeId):gY P t=gY Tryz.prog t:=by unfold gY;rw[aX]
theorem Uw(t:TypeId):jP P t=jP Tryz.prog t:=by unfold jP;rw[aX]
theorem acn(t:TypeId):jd P t=jd Tryz.prog t:=by unfold jd;rw[aX]
theorem Js(t:TypeId):nG P t=nG Tryz.prog t:=by unfold nG;rw[aX]
theorem qA(t:TypeId):bL P t=bL Tryz.prog t:=by unfold bL;rw[pG]
theorem jK(t:TypeId)(f:Nat):eW P t f=eW Tryz.prog t f:=by unfold eW;rw[aX];simp only[lR]
theorem fW(t:TypeId)(f:Nat):dH P t f=dH Tryz.prog t f:=by unfold dH;rw[aX];simp only[lR]
theorem qB(t:TypeId):ku P t=ku Tryz.prog t:=by unfold ku;rw[aX];simp only[pG]
theorem iu(t:TypeId):anE P t=anE Tryz.prog t:=by unfold anE;rw[pG]
@[simp] theorem sz3:aQ P 3=1/\aQ P 5=1/\aQ P 9=1/\aQ P 22=1/\aQ P 23=1/\aQ P 25=5/\aQ P 29=1/\aQ P 49=2/\aQ P 51=3/\aQ P 99=6/\aQ P 100=1/\aQ P 116=10/\aQ P 117=1/\aQ P 120=2/\aQ P 139=1/\aQ P 140=3/\aQ P 192=11/\aQ P 194=1/\aQ P 199=1:=by and_intros <;>rw[lR] <;>kernel_rfl
@[simp] theorem apQ:fv P 3=some false/\fv P 4=some false/\fv P 5=some false/\fv P 9=some false/\fv P 22=some false/\fv P 23=some false/\fv P 25=some true/\fv P 29=some false/\fv P 49=some true/\fv P 51=some true/\fv P 97=some false/\fv P 99=some true/\fv P 100=some false/\fv P 116=some true/\fv P 117=some false/\fv P 120=some true/\fv P 139=some false/\fv P 140=some true/\fv P 146=some false/\fv P 192=some true/\fv P 194=some false/\fv P 199=some false:=by and_intros <;>rw[fZ] <;>kernel_rfl
@[simp] theorem am8:nG P 3=some .i64/\nG P 5=some .u8/\nG P 9=none/\nG P 189=some .u64:=by and_intros <;>rw[Js] <;>kernel_rfl
@[simp] theorem amq:(P.underlying 3).isSome=true/\(P.underlying 5).isSome=true/\(P.underlying 21).isSome=true:=by and_intros <;>rw[aX] <;>kernel_rfl
@[simp] theorem alp:bL P 3=true/\bL P 5=true/\bL P 9=true/\bL P 29=true/\bL P 51=true/\bL P 116=true/\bL P 120=true:=by and_intros <;>rw[qA] <;>kernel_rfl
@[simp] theorem by3:qM P 3=8/\qM P 5=1/\qM P 9=16/\qM P 51=32/\qM P 116=10/\qM P 120=16:=by and_intros <;>rw[K_] <;>kernel_rfl
@[simp] theorem Y0:anE P 3=some [.i .i64 0]:=by rw[iu];kernel_rfl
@[simp] theorem am9:(P.info? 5).isSome=true/\(P.info? 139).isSome=true:=by and_intros <;>rw[pG] <;>kernel_rfl
@[simp] theorem ajy:anE P 5=some [.i .u8 0]/\anE P 25=some [.s [],.s [],.s [],.sq none 0 [],.sq none 0 []]/\anE P 49=some [.i .i64 0,.i .i64 0]/\anE P 51=some [.s [],.i .i64 0,.i .i64 0]/\anE P 99=some [.s [],.s [],.s [],.sq none 0 [],.sq none 0 [],.v (.map none)]/\anE P 100=some [.sq none 0 []]/\anE P 107=some [.s [],.s [],.s [],.sq none 0 [],.sq none 0 [],.v (.map none),.s [],.i .i64 0]/\anE P 116=some [.i .u8 0,.i .u8 0,.i .u8 0,.i .u8 0,.i .u8 0,.i .u8 0,.i .u8 0,.i .u8 0,.i .u8 0,.i .u8 0]/\anE P 117=some [.sq none 0 []]/\anE P 120=some [.i .i64 0,.b false]/\anE P 192=some [.i .u8 0,.i .u8 0,.i .u8 0,.i .u8 0,.i .u8 0,.i .u8 0,.i .u8 0,.i .u8 0,.i .u8 0,.i .u8 0,.s []]/\anE P 194=some [.v .nilFunc]/\anE P 199=some [.v .nilFunc]:=by and_intros <;>rw[iu] <;>kernel_rfl
@[simp] theorem amB:jd P 9=true:=by rw[acn];kernel_rfl
@[simp] theorem apk:gY P 22=some 9/\gY P 23=some 51/\gY P 28=some 3/\gY P 91=some 5/\gY P 100=some 116/\gY P 117=some 120/\gY P 155=some 29:=by and_intros <;>rw[HU] <;>kernel_rfl
@[simp] theorem adL:eW P 25 0=some (0,9)/\eW P 25 1=some (1,9)/\eW P 25 2=some (2,9)/\eW P 25 3=some (3,22)/\eW P 25 4=some (4,23)/\eW P 49 0=some (0,3)/\eW P 49 1=some (1,3)/\eW P 51 0=some (0,9)/\eW P 51 1=some (1,49)/\eW P 99 0=some (0,25)/\eW P 99 1=some (5,97)/\eW P 107 0=some (0,99)/\eW P 107 1=some (6,9)/\eW P 107 2=some (7,3)/\eW P 120 0=some (0,3)/\eW P 120 1=some (1,4):=by and_intros <;>rw[jK] <;>kernel_rfl
@[simp] theorem aiS:ku P 25=true/\ku P 49=true/\ku P 51=true/\ku P 99=true/\ku P 107=true/\ku P 120=true/\ku P 192=true:=by and_intros <;>rw[qB] <;>kernel_rfl
@[simp] theorem Yo:dH P 49 0=some (0,1)/\dH P 49 1=some (1,1)/\dH P 51 0=some (0,1)/\dH P 51 1=some (1,2)/\dH P 99 0=some (0,5)/\dH P 99 1=some (5,1)/\dH P 107 0=some (0,6)/\dH P 107 1=some (6,1)/\dH P 107 2=some (7,1)/\dH P 120 0=some (0,1)/\dH P 120 1=some (1,1)/\dH P 192 0=some (0,10)/\dH P 192 1=some (10,1):=by and_intros <;>rw[fW] <;>kernel_rfl
@[simp] theorem ai_:jP P 116=some (10,5)/\jP P 140=some (3,139):=by and_intros <;>rw[Uw] <;>kernel_rfl
theorem mixed:P.follows .mixedOrders=true:=by rw[Ek];kernel_rfl
end
end Go.Proofs.YtjagmhagphbfcaaGreatDoor
