/- Lemmas, part 2. -/
import Derived.Calls
import Derived.Test.YtjagmhagphbfcaaGreatDoorO01
set_option maxRecDepth 100000
set_option linter.all false
namespace Go.Proofs.YtjagmhagphbfcaaGreatDoor
def adW:=@Go.Stepped.next.injEq
def aaV:=@List.nil_append
open Go
def bz(P:Program):Frame:= { fn:=P.funcs.size,tmps:= #[],todo:= [.code (.refuse "")],defers:= [{ target:=.nil,args:= #[] }],mode:=.run,kind:=.normal }
def uW(fr:Frame)(fs:List Frame):Prop:=fs= []/\fr.mode=.returning/\fr.defers= []
def UK(St:Frame->List Frame->World->Prop)(fr:Frame)(fs:List Frame)(v:World):Prop:=∀t:Nat->Question->Nat,St fr fs { v with tape:=t }
inductive gu(P:Program)(St:Frame->List Frame->World->Prop)(R:Value->World->Prop):Frame->List Frame->World->Prop
 |stop {fr:Frame} {fs:List Frame} {v:World} (h:∀t:Nat->Question->Nat,St fr fs { v with tape:=t }):gu P St R fr fs v
 |leave {fr:Frame} {v:World} {f:Func} (hm:fr.mode=.returning) (hd:fr.defers= []) (hk:fr.kind=.normal) (hf:P.funcs[fr.fn]?=some f)
   (h:∀t:Nat->Question->Nat,∃x v1,(results f fr.tmps).run P { v with tape:=t } =.ok x v1/\R x v1):gu P St R fr [] v
 |step {fr:Frame} {fs:List Frame} {v:World} (hn:¬uW fr fs) (F:(Nat->Question->Nat)->Frame) (G:(Nat->Question->Nat)->List Frame) (V:(Nat->Question->Nat)->World)
   (h:∀t:Nat->Question->Nat,(∃es,stepG P true (LG fr (fs++ [bz P])) { v with tape:=t } =.go (LG (F t) (G t++ [bz P])) (V t) es)/\((F t).mode=.run\/(F t).mode=.returning))
   (k:∀t:Nat->Question->Nat,gu P St R (F t) (G t) (V t)):gu P St R fr fs v
section
variable{P:Program}{K:fO}{Sh:Nat->Prop}{ρ σ:Ren}{R:Value->World->Prop}{St:Frame->List Frame->World->Prop}
theorem gu.dI{fr:Frame}{fs:List Frame}{v:World}(h:gu P St R fr fs v)(t:Nat->Question->Nat):gu P St R fr fs { v with tape:=t } :=by
 cases h with
 |stop h=>exact .stop h
 |leave hm hd hk hf h=>exact .leave hm hd hk hf h
 |step hn F G V h k=>exact .step hn F G V h k
theorem gn{fr fr':Frame}{cs p:List Frame}{w w':World}(h:lone fr cs w=lone fr' p w'):fr=fr'/\cs=p/\w=w':=by
 simp only[lone,Machine.mk.injEq,abQ] at h
 simp_all
theorem jQ{fr dL:Frame}{cs cs1:List Frame}{v v1:World}{es:Array Event}(h:stepG P true (LG fr cs) v=.go (LG dL cs1) v1 es):step P (lone fr cs v)=.next (lone dL cs1 v1):=
 step_lone_go (by unfold LG at h;rw[h];rfl)
theorem step_end{fr:Frame}{cs:List Frame}{v v1:World}{o:Outcome}{es:Array Event}(h:stepG P true (LG fr cs) v=.ended o v1 es):step P (lone fr cs v)=.ended o v1:=
 step_lone_ended (by unfold LG at h;rw[h];rfl)
theorem ff{n:Nat}{m m1:Machine}(h:step P m=.next m1):runN P (n+1) m=runN P n m1:=by simp[runN,h]
theorem ky{n:Nat}{m:Machine}{o:Outcome}{w:World}(h:step P m=.ended o w):runN P (n+1) m=.ended o w:=by simp[runN,h]
theorem runN_add(a b:Nat):∀ {m m1:Machine},runN P a m=.next m1->runN P (a+b) m=runN P b m1:=by
 induction a with
 |zero=>intro m m1 h;simp only[runN,adW] at h;grind
 |succ a p=>
  intro m m1 h;rw[show a+1+b=(a+b)+1 from by omega];simp only[runN] at h ⊢
  grind
theorem Gm(ch:List PanicEntry)(v:World)(n:Nat)(g:Frame)(gs:List Frame)(u:World):runN P n (lone ((bz P).raise ch) [] v)≠.next (lone g (gs++ [bz P]) u):=by
 cases n with
 |zero=>intro h;simp only[runN,adW] at h;have:=(gn h).2.1;simp at this
 |succ n=>
  intro h;have:∃o,step P (lone ((bz P).raise ch) [] v)=.ended o v:=⟨_,step_lone_ended (by
   simp[stepG,unwind,callDeferred,Frame.raise,bz];constructor <;>rfl)⟩
  obtain⟨o,ho⟩:=this;rw[ky ho] at h;cases h
theorem ud(v:World)(x:Value)(n:Nat)(g:Frame)(gs:List Frame)(u:World):runN P n (lone ((bz P).finish x) [] v)≠.next (lone g (gs++ [bz P]) u):=by
 cases n with
 |zero=>intro h;simp only[runN,adW] at h;have:=(gn h).2.1;simp at this
 |succ n=>
  intro h;have:∃o,step P (lone ((bz P).finish x) [] v)=.ended o v:=⟨_,step_lone_ended (by
   simp[stepG,stepG.exec,Frame.finish,bz];constructor <;>rfl)⟩
  obtain⟨o,ho⟩:=this;rw[ky ho] at h;cases h
theorem IW:∀(n:Nat) (fr:Frame) (fs:List Frame) (ch:List PanicEntry) (v:World),fr.mode=.panicking ch->(∀f∈fr::fs,ym P f)->J v->
  ∀(g:Frame) (gs:List Frame) (u:World),(g.mode=.run\/g.mode=.returning)->runN P n (lone fr (fs++ [bz P]) v)≠.next (lone g (gs++ [bz P]) u):=by
 intro n
 induction n with
 |zero=>
  intro fr fs ch v hm _ _ g gs u hg h;simp only[runN,adW] at h;rw[(gn h).1] at hm
  simp_all
 |succ n U=>
  intro fr fs ch v hm hp M g gs u hg h;obtain⟨H,fn,O⟩:=hp fr (by simp);have I:∀cs,stepG P true (LG fr cs) v=unwind P true fr cs none v:=by
   intro cs;obtain⟨fn,tmps,todo,defers,mode,kind,ro⟩:=fr;simp only at hm;subst hm;rfl
  cases hd:fr.defers with
  |cons d L=>
   obtain⟨r,rfl⟩:=H d (by grind);cases hr:(Instr.takeDeferred r).run P v with
   |halt x E=>
    have p:∃o es,stepG P true (LG fr (fs++ [bz P])) v=.ended o E es:=by
     rw[I];simp only[unwind,hd,ada,hr];exact⟨_,_,rfl⟩
    obtain⟨o,es,p⟩:=p;rw[ky (step_end p)] at h;cases h
   |ok calls E=>
    have Y:calls= []/\J E:=by
     unfold Instr.takeDeferred getObj at hr;simp only[aaw,Sem.run] at hr;cases hb:v.heap[r]? with
     |none=>simp_all
     |some o=>
      rw[hb] at hr;cases o with
      |deferred x=>
       cases x with
       |none=>cases hr
       |some l=>
        cases l with
        |cons d L=>exact absurd hb (M r d L)
        |nil=>
         simp only[aas,aaw,setObj,Sem.run,hb] at hr;cases hr;exact⟨rfl,M.set (λ_ _ h=>by cases h) r⟩
      |_=>cases hr
    obtain⟨rfl,W⟩:=Y;have p:∃es,stepG P true (LG fr (fs++ [bz P])) v=.go (LG { fr with defers:=L } (fs++ [bz P])) E es:=by
     rw[I];simp only[unwind,hd,ada,hr];exact⟨_,rfl⟩
    obtain⟨es,p⟩:=p;rw[ff (jQ p)] at h;refine U { fr with defers:=L } fs ch E hm (λf hf=>?_) W g gs u hg h;cases hf with
    |head=>exact⟨λd Z=>H d (by simp_all),fn,O⟩
    |tail _ hf=>exact hp f (aed _ hf)
  |nil=>
   have hc:fr.catches P=false:=by unfold Frame.catches;rw[O]
   cases fs with
   |nil=>
    have p:stepG P true (LG fr ([]++ [bz P])) v=.go (LG ((bz P).raise ch) []) v #[]:=by
     rw[I];simp only[unwind,hd,hm,hc,aaV];rfl
    rw[ff (jQ p)] at h;exact Gm ch v n g gs u h
   |cons f1 fs=>
    have p:stepG P true (LG fr (f1::fs++ [bz P])) v=.go (LG (f1.raise ch) (fs++ [bz P])) v #[]:=by
     rw[I];simp only[unwind,hd,hm,hc,aaT];rfl
    rw[ff (jQ p)] at h;have N:∃c,(f1.raise ch).mode=.panicking c:=by unfold Frame.raise;split <;>exact⟨_,rfl⟩
    obtain⟨c,N⟩:=N;refine U _ fs c v N (λf hf=>?_) M g gs u hg h;cases hf with
    |head=>
     have:=hp f1 (by simp);have e:(f1.raise ch).defers=f1.defers/\(f1.raise ch).fn=f1.fn:=by unfold Frame.raise;split <;>exact⟨rfl,rfl⟩
     exact⟨by rw[e.1];exact this.1,by rw[e.2];exact this.2⟩
    |tail _ hf=>exact hp f (aed _ (aed _ hf))
def Inv(P:Program)(K:fO)(Sh:Nat->Prop)(fr:Frame)(fs:List Frame)(v:World):Prop:=
 J v/\∃ρ fr' eP w0,zo K.g ρ/\cp P K.S (K.CO P) Sh ρ v w0/\ @CW P P (Twin.self P) K ρ fr fr' fs eP
theorem cp.dI{S:FuncId->Prop}{CO:Code->Prop}{v w:World}(h:cp P S CO Sh ρ v w)(t:Nat->Question->Nat):cp P S CO Sh ρ { v with tape:=t } w:=
 ⟨h.inj,h.own,h.sh,h.Bv,h.mo,h.cz,h.C2,h.C1⟩
theorem cp.IP{S:FuncId->Prop}{CO:Code->Prop}{v w:World}(h:cp P S CO Sh ρ v w)(t:Nat->Question->Nat):cp P S CO Sh ρ v { w with tape:=t } :=
 ⟨h.inj,h.own,h.sh,h.Bv,h.mo,h.cz,h.C2,h.C1⟩
theorem Inv.dI{fr:Frame}{fs:List Frame}{v:World}(h:Inv P K Sh fr fs v)(t:Nat->Question->Nat):Inv P K Sh fr fs { v with tape:=t } :=
 let ⟨j,ρ,fr',eP,w0,p,hw,hs⟩:=h;⟨j,ρ,fr',eP,w0,p,hw.dI t,hs⟩
def AQ(P:Program)(fr:Frame)(fs:List Frame)(v:World)(dL:Frame)(dG:List Frame)(v1:World):Prop:=
 v.drawn<=v1.drawn/\v1.tape=v.tape/\(dL.mode=.run\/dL.mode=.returning)/\
 ∀t:Nat->Question->Nat,(∀i,v.drawn<=i->i<v1.drawn->∀q,t i q=v.tape i q)->∃es,stepG P true (LG fr (fs++ [bz P])) { v with tape:=t } =.go (LG dL (dG++ [bz P])) { v1 with tape:=t } es
theorem NC(O: @Env P P (Twin.self P) K.S (K.CO P) K.g K.H)(Z:∀f,K.j4 f=false){fr:Frame}{fs:List Frame}{v:World}(h:Inv P K Sh fr fs v):
  uW fr fs\/(∃u,m_ P [bz P] (stepG P true (LG fr (fs++ [bz P])) v) u/\J u)\/∃dL dG v1,AQ P fr fs v dL dG v1/\Inv P K Sh dL dG v1:=by
 obtain⟨N,ρ,fr',eP,w0,I,hw,hs⟩:=h;rcases @sS P P (Twin.self P) _ _ _ O (λf hf=>by simp_all) I (bz P) [] [bz P] _ _ hw _ _ _ _ hs true true with h|⟨u,hu,M⟩|⟨dL,dG,v1,es,e,ht,hm,hb,hg,L,hgo⟩
 ·exact .inl h
 ·grind
 ·refine .inr (.inr ⟨dL,dG,v1,⟨hg.le,L,hm,ht⟩,hg.j N,?_⟩);have Y:=hw.IP (λj q=>v.tape (v.drawn+(j-w0.drawn)) q);obtain⟨_,ρ1,p,W,w1,es',_,_,_,m2,E,m4,_⟩:=hgo _ Y (λi _ q=>by simp);rcases(show @fL P P (Twin.self P) K ρ1 dL p\/∃f xs ys,dG≠ []/\K.Bg f xs.size/\dL=Frame.enter P f xs .normal/\p=Frame.enter P f ys .normal/\AR K.S ρ1 xs ys from E) with E|⟨_,_,_,_,U,_⟩
  ·exact⟨ρ1,p,W,w1,I.mono m2.le,m2.rel.lI,@CW.mk P P (Twin.self P) _ _ _ _ _ _ E m4 hb⟩
  ·exact absurd (show K.j4 _=true from U.1) (by simp_all)
end
def ahw:=@List.append_cancel_right
def af2:=@Nat.le_of_not_lt
def aaO:=@Classical.byContradiction
def afu:=@Nat.exists_eq_add_of_le
section
variable{P:Program}{K:fO}{Sh:Nat->Prop}{R:Value->World->Prop}{St:Frame->List Frame->World->Prop}
def Fin(St:Frame->List Frame->World->Prop)(fr:Frame)(fs:List Frame)(v:World):Prop:=uW fr fs\/UK St fr fs v
inductive Path(P:Program)(St:Frame->List Frame->World->Prop)(kG:Frame)(v0:World)(t:Nat->Question->Nat):Nat->Frame->List Frame->World->Prop
 |zero:Path P St kG v0 t 0 kG [] { v0 with tape:=t }
 |succ {n:Nat} {fr dL:Frame} {fs dG:List Frame} {v v1:World} (h:Path P St kG v0 t n fr fs v) (hn:¬Fin St fr fs v) (s:AQ P fr fs v dL dG v1):Path P St kG v0 t (n+1) dL dG v1
variable{kG:Frame}{v0:World}{t t':Nat->Question->Nat}
theorem Path.tape{n:Nat}{fr:Frame}{fs:List Frame}{v:World}(h:Path P St kG v0 t n fr fs v):v.tape=t:=by
 induction h with
 |zero=>rfl
 |succ _ _ s p=>exact s.2.1.trans p
theorem AQ.dI{fr dL:Frame}{fs dG:List Frame}{v v1:World}(s:AQ P fr fs v dL dG v1)(ht:∀i,v.drawn<=i->i<v1.drawn->∀q,t' i q=v.tape i q):
  AQ P fr fs { v with tape:=t' } dL dG { v1 with tape:=t' } :=
 ⟨s.1,rfl,s.2.2.1,λu hu=>s.2.2.2 u λi hi p q=>(hu i hi p q).trans (ht i hi p q)⟩
theorem Path.dI{n:Nat}{fr:Frame}{fs:List Frame}{v:World}(h:Path P St kG v0 t n fr fs v)(ht:∀i,i<v.drawn->∀q,t' i q=t i q):Path P St kG v0 t' n fr fs { v with tape:=t' } :=by
 induction h with
 |zero=>exact .zero
 |succ h hn s p=>
  refine .succ (p λi hi q=>ht i (by have:=s.1;omega) q) hn (s.dI λi _ E q=>?_);rw[h.tape];grind
theorem Path.run{n:Nat}{fr:Frame}{fs:List Frame}{v:World}(h:Path P St kG v0 t n fr fs v):runN P n (lone kG [bz P] { v0 with tape:=t })=.next (lone fr (fs++ [bz P]) v):=by
 induction h with
 |zero=>rfl
 | @succ n fr dL fs dG v v1 h hn s p=>
  obtain⟨es,e⟩:=s.2.2.2 v.tape (λ_ _ _ _=>rfl);have e':stepG P true (LG fr (fs++ [bz P])) v=.go (LG dL (dG++ [bz P])) v1 es:=by
   have h2:=s.2.1;obtain⟨hp,E,H,os,out⟩:=v1
   simp_all
  rw[runN_add n 1 p,ff (jQ e')];rfl
theorem Path.before{n:Nat}{fr:Frame}{fs:List Frame}{v:World}(h:Path P St kG v0 t n fr fs v):∀k,k<n->∃g gs u,runN P k (lone kG [bz P] { v0 with tape:=t })=.next (lone g (gs++ [bz P]) u)/\¬Fin St g gs u:=by
 induction h with
 |zero=>omega
 | @succ n fr dL fs dG v v1 h hn s p=>
  intro k hk;by_cases e:k=n
  ·subst e;exact⟨fr,fs,v,h.run,hn⟩
  ·exact p k (by omega)
def eV(P:Program)(St:Frame->List Frame->World->Prop)(kG:Frame)(v0:World)(R:Value->World->Prop):Prop:=
 ∀t:Nat->Question->Nat,∃m g gs u,runN P m (lone kG [bz P] { v0 with tape:=t })=.next (lone g (gs++ [bz P]) u)/\(UK St g gs u\/(gs= []/\g.mode=.returning/\g.defers= []/\g.kind=.normal/\
  ∃x f,P.funcs[g.fn]?=some f/\(results f g.tmps).run P u=.ok x u/\R x u))
theorem eV.fin{St:Frame->List Frame->World->Prop}{g:Frame}{gs:List Frame}{u:World}{A:Prop}(h:UK St g gs u\/(gs= []/\g.mode=.returning/\g.defers= []/\A)):Fin St g gs u:=
 h.elim .inr λh=>.inl ⟨h.1,h.2.1,h.2.2.1⟩
theorem gI{gs hs:List Frame}{c:Frame}(h:hs++ [c]=gs++ [c]):hs=gs:=ahw h
theorem Path.iV{n:Nat}{fr:Frame}{fs:List Frame}{v:World}(h:Path P St kG v0 t n fr fs v){m:Nat}{g:Frame}{gs:List Frame}{u:World}(hr:runN P m (lone kG [bz P] { v0 with tape:=t })=.next (lone g (gs++ [bz P]) u))
  (hg:Fin St g gs u):n<=m:=by
 refine af2 λp=>?_
 obtain⟨g',gs',E,e,hn⟩:=h.before m p;rw[hr] at e;simp only[adW] at e;obtain⟨rfl,H,rfl⟩:=gn e
 simp_all
theorem Fv{fr:Frame}{v:World}{n:Nat}{g:Frame}{gs:List Frame}{u:World}(hend:uW fr [])(hk:fr.kind=.normal)(hf:∃f,P.funcs[fr.fn]?=some f):runN P (n+1) (lone fr [bz P] v)≠.next (lone g (gs++ [bz P]) u):=by
 intro h;obtain⟨f,hf⟩:=hf;obtain⟨_,hm,hd⟩:=hend;have p:stepG P true (LG fr [bz P]) v=unwind P true fr [bz P] none v:=by
  obtain⟨fn,tmps,todo,defers,mode,kind,ro⟩:=fr;simp only at hm;subst hm;rfl
 cases hr:(results f fr.tmps).run P v with
 |ok x v1=>
  rw[ff (jQ (my hm hd hk hf hr))] at h;exact ud v1 x n g gs u h
 |halt x v1=>
  have:∃o es,stepG P true (LG fr [bz P]) v=.ended o v1 es:=by
   rw[p];simp only[unwind,hd,hm,hf,ada,hr];cases x <;>exact⟨_,_,rfl⟩
  obtain⟨o,es,e⟩:=this;rw[ky (step_end e)] at h;cases h
theorem DU(U: @Env P P (Twin.self P) K.S (K.CO P) K.g K.H)(hC:eV P St kG v0 R)(N:∀x v t,R x v->R x { v with tape:=t }){n:Nat}{fr:Frame}{fs:List Frame}{v:World}(h:Path P St kG v0 t n fr fs v)(O:Inv P K Sh fr fs v)(hend:Fin St fr fs v):
  gu P St R fr fs v:=by
 letI:Twin P P:=Twin.self P
 rcases hend with hend|hend
 case inr=>exact .stop hend
 obtain⟨m,g,gs,u,hr,hg⟩:=hC t;have hle:=h.iV hr (eV.fin hg);obtain⟨Y,hm,hd⟩:=hend;subst Y;obtain⟨hj,ρ,fr',eP,w0,hG,hw,hs⟩:=O;have I:∃f,P.funcs[fr.fn]?=some f:=let ⟨f,_,e,_⟩:=Env.res U hs.top.ok;⟨f,e⟩
 have Z:m=n:=by
  refine Nat.le_antisymm (af2 λaK=>?_) hle;obtain⟨d,rfl⟩:∃d,m=n+(d+1):=⟨m-n-1,by omega⟩
  rw[runN_add n (d+1) h.run] at hr;exact Fv (fr:=fr) ⟨rfl,hm,hd⟩ hs.top.kind.1 I hr
 subst Z;rw[h.run] at hr;simp only[adW] at hr;obtain⟨rfl,E,rfl⟩:=gn hr;have E:=gI E;subst E;rcases hg with hg|⟨_,L,M,p,x,f,W,J,hx⟩
 ·exact .stop hg
 refine .leave hm hd p W λt2=>?_
 have:=jR (P:=P) (Q:=P) (Sh:=Sh) f hs.top.tmps v w0 hw;rw[J] at this;exact⟨x,_,this.2.2.1 t2 (λi hi yu=>by omega),N _ _ _ hx⟩
structure LH(P:Program)(K:fO)(Sh:Nat->Prop)(St:Frame->List Frame->World->Prop)(R:Value->World->Prop)(kG:Frame)(v0:World) where
 t:Nat->Question->Nat
 n:Nat
 fr:Frame
 fs:List Frame
 v:World
 path:Path P St kG v0 t n fr fs v
 bad:¬gu P St R fr fs v
 inv:Inv P K Sh fr fs v
theorem LH.next(M: @Env P P (Twin.self P) K.S (K.CO P) K.g K.H)(U:∀f,K.j4 f=false)(hC:eV P St kG v0 R)(Jf:∀fr fs v,St fr fs v->fr.mode=.run)(O:∀x v t,R x v->R x { v with tape:=t })(s:LH P K Sh St R kG v0):
  ∃s':LH P K Sh St R kG v0,s'.n=s.n+1/\(∀i,i<s.v.drawn->∀q,s'.t i q=s.t i q)/\s.v.drawn<=s'.v.drawn:=by
 obtain⟨t,n,fr,fs,v,path,bad,inv⟩:=s;have cr:¬Fin St fr fs v:=λh=>bad (DU M hC O path inv h)
 have J:∃t1:Nat->Question->Nat,¬ ∃dL dG v1,(∃es,stepG P true (LG fr (fs++ [bz P])) { v with tape:=t1 } =.go (LG dL (dG++ [bz P])) v1 es)/\(dL.mode=.run\/dL.mode=.returning)/\gu P St R dL dG v1:=by
  refine aaO λC4=>bad ?_
  have p:∀t1:Nat->Question->Nat,∃dL dG v1,(∃es,stepG P true (LG fr (fs++ [bz P])) { v with tape:=t1 } =.go (LG dL (dG++ [bz P])) v1 es)/\(dL.mode=.run\/dL.mode=.returning)/\gu P St R dL dG v1:=
   λt1=>aaO λh=>C4 ⟨t1,h⟩
  exact .step (λh=>cr (.inl h)) (λt=>(p t).choose) (λt=>(p t).choose_spec.choose) (λt=>(p t).choose_spec.choose_spec.choose)
   (λt=>⟨(p t).choose_spec.choose_spec.choose_spec.1,(p t).choose_spec.choose_spec.choose_spec.2.1⟩) (λt=>(p t).choose_spec.choose_spec.choose_spec.2.2)
 obtain⟨t1,J⟩:=J
 let t2:Nat->Question->Nat:=λi q=>if i<v.drawn then t i q else t1 i q
 have h2:∀i,i<v.drawn->∀q,t2 i q=t i q:=λi hi q=>aay hi
 have Y:∀i,v.drawn<=i->∀q,t1 i q=t2 i q:=λi hi q=>by grind
 have E:=path.dI h2;have inv2:=inv.dI t2;rcases NC M U inv2 with h|⟨u,hu,N⟩|⟨dL,dG,v1,hs,hi⟩
 ·exact absurd (.inl h) cr
 ·exfalso;obtain⟨m,g,gs,w,hr,hg⟩:=hC t2;have hle:=E.iV hr (eV.fin hg);have I:g.mode=.run\/g.mode=.returning:=hg.elim (λh=>.inl (Jf _ _ _ (h w.tape))) (λh=>.inr h.2.1);by_cases Z:m=n
  ·subst Z;rw[E.run] at hr;simp only[adW] at hr;obtain⟨rfl,L,W⟩:=gn hr;have L:=gI L;subst L;refine cr ?_;have:=eV.fin hg;rw[<-W] at this;exact this
  ·obtain⟨d,rfl⟩:∃d,m=n+(d+1):=⟨m-n-1,by omega⟩
   rw[runN_add n (d+1) E.run] at hr;rcases hu with ⟨o,u',es,e⟩|⟨dL,dG,ch,es,e,hm,hp⟩
   ·rw[ky (step_end e)] at hr;cases hr
   ·rw[ff (jQ e)] at hr;exact IW d dL dG ch u hm hp N g gs w I hr
 ·refine⟨⟨t2,n+1,dL,dG,v1,.succ E cr hs,λhrun=>J ?_,hi⟩,rfl,h2,hs.1⟩;obtain⟨es,e⟩:=hs.2.2.2 t1 (λi hi _ q=>Y i hi q);exact⟨dL,dG,_,⟨es,e⟩,hs.2.2.1,hrun.dI t1⟩
theorem QG(L: @Env P P (Twin.self P) K.S (K.CO P) K.g K.H)(M:∀f,K.j4 f=false)(hC:eV P St kG v0 R)(O:∀fr fs v,St fr fs v->fr.mode=.run)(I:∀x v t,R x v->R x { v with tape:=t })(J:Inv P K Sh kG [] v0):gu P St R kG [] v0:=by
 classical
 refine aaO λU=>?_
 let s0:LH P K Sh St R kG v0:=⟨v0.tape,0,kG,[],v0,.zero,U,J⟩
 have hnx:=λs:LH P K Sh St R kG v0=>s.next L M hC O I
 let seq:Nat->LH P K Sh St R kG v0:=λn=>Nat.rec s0 (λ_ s=>(hnx s).choose) n
 have W:∀n,(seq (n+1)).n=(seq n).n+1/\(∀i,i<(seq n).v.drawn->∀q,(seq (n+1)).t i q=(seq n).t i q)/\(seq n).v.drawn<=(seq (n+1)).v.drawn:=λn=>(hnx (seq n)).choose_spec
 have hn:∀n,(seq n).n=n:=by
  intro n
  induction n with
  |zero=>rfl
  |succ n p=>simp_all
 have Z:∀n d,(seq n).v.drawn<=(seq (n+d)).v.drawn/\∀i,i<(seq n).v.drawn->∀q,(seq (n+d)).t i q=(seq n).t i q:=by
  intro n d
  induction d with
  |zero=>simp_all
  |succ d p=>
   grind
 have Y:∀n m i q,i<(seq n).v.drawn->i<(seq m).v.drawn->(seq n).t i q=(seq m).t i q:=by
  intro n m i q h1 h2;rcases Nat.le_total n m with h|h
  ·obtain⟨d,rfl⟩:=afu h
   simp_all
  ·obtain⟨d,rfl⟩:=afu h
   simp_all
 let T:Nat->Question->Nat:=λi q=>if h:∃n,i<(seq n).v.drawn then(seq h.choose).t i q else 0
 have E:∀n i,i<(seq n).v.drawn->∀q,T i q=(seq n).t i q:=by
  intro n i hi q;have h:∃n,i<(seq n).v.drawn:=⟨n,hi⟩
  grind
 obtain⟨m,g,gs,u,hr,hg⟩:=hC T;have hp:=(seq (m+1)).path;have N:=hp.dI (t':=T) (E (m+1));have h1:=N.iV hr (eV.fin hg)
 grind
theorem vu{f:FuncId}{args:Array Value}{v:World}(h:∀t:Nat->Question->Nat,Calls P f args { v with tape:=t } fun
  | .returned x,w=>R x w
  |_,_=>False):eV P St (Frame.enter P f args .normal) v R:=by
 intro t;obtain⟨e,w',fr,p,hc,_,hl⟩:=h t [bz P];cases e with
 |returned x=>
  obtain⟨n,hn⟩:=hc;obtain⟨hm,hd,hk,fn,hf,hr⟩:=hl
  grind
 |panicked ch=>exact p.elim
 |outgrown=>exact p.elim
theorem pC(p: @Env P P (Twin.self P) K.S (K.CO P) K.g K.H)(M:∀f,K.j4 f=false){f:FuncId}{args args':Array Value}{v w0:World}{ρ:Ren}(h:∀t:Nat->Question->Nat,Calls P f args { v with tape:=t } fun
  | .returned x,w=>R x w
  |_,_=>False) (I:∀x v t,R x v->R x { v with tape:=t }) (hf:K.S f) (hb:∃fn c,P.funcs[f]?=some fn/\fn.body=some c) (N:∀fr fs v,St fr fs v->fr.mode=.run)
  (L:zo K.g ρ) (hw:cp P K.S (K.CO P) Sh ρ v w0) (ha:AR K.S ρ args args') (E:J v):gu P St R (Frame.enter P f args .normal) [] v:=
 have hs: @CW P P (Twin.self P) K ρ (Frame.enter P f args .normal) (Frame.enter P f args' .normal) [] []:= @CW.mk P P (Twin.self P) _ _ _ _ _ _ (@fL.enter P P (Twin.self P) _ _ p _ hf _ _ ha hb) .nil rfl
 QG p M (vu h) N I ⟨E,ρ,_,_,w0,L,hw,hs⟩
end
section
variable{P Q:Program}[Twin P Q]{K:fO}{Sh:Nat->Prop}{ρ:Ren}{R:Value->World->Prop}{St:Frame->List Frame->World->Prop}
structure gy(P Q:Program)[Twin P Q](K:fO)(Sh:Nat->Prop)(St:Frame->List Frame->World->Prop)(R:Value->World->Prop)(ρ:Ren)(fr:Frame)(fs:List Frame)(v:World)(fr':Frame)(eP:List Frame)(w:World):Prop where
 runs:gu P St R fr fs v
 cz:zo K.g ρ
 rel:cp P K.S (K.CO P) Sh ρ v w
 Yi:CW P Q K ρ fr fr' fs eP
 j:J v
structure CZ(P Q:Program)[Twin P Q](K:fO)(Sh:Nat->Prop)(St:Frame->List Frame->World->Prop)(R:Value->World->Prop)(ρ:Ren)(f:FuncId)(xs:Array Value)(fs:List Frame)(v:World)(ys:Array Value)(eP:List Frame)(w:World):Prop where
 runs:gu P St R (Frame.enter P f xs .normal) fs v
 cz:zo K.g ρ
 rel:cp P K.S (K.CO P) Sh ρ v w
 args:AR K.S ρ xs ys
 rest:gQ P Q K ρ fs eP
 bot:jL (Frame.enter P f xs .normal) fs
 j4:K.Bg f xs.size
 ne:fs≠ []
 j:J v
def oM(P:Program)(St:Frame->List Frame->World->Prop)(x y:Frame×List Frame×World):Prop:=
 ¬UK St y.1 y.2.1 y.2.2/\∃t es,stepG P true (LG y.1 (y.2.1++ [bz P])) { y.2.2 with tape:=t } =.go (LG x.1 (x.2.1++ [bz P])) x.2.2 es
theorem gy.step(hE:Env P Q K.S (K.CO P) K.g K.H)(gp:∀f,K.j4 f=true->Twin.B P Q f)(Jf:∀fr fs v,St fr fs v->¬(K.S fr.fn\/K.H fr.fn)){fr fr':Frame}{fs eP:List Frame}{v w:World}(h:gy P Q K Sh St R ρ fr fs v fr' eP w)(bs:List Frame)(m:Bool):
  (uW fr fs/\eP= []/\∃ρ1 x x' v1 w1 es,(∀c0 cs,bs=c0::cs->stepG Q m (LG fr' bs) w=.go (LG (c0.finish x') cs) w1 es)/\(bs= []->m=true->Q.inits.idxOf? fr'.fn=none->stepG Q m (LG fr' bs) w=.ended (.done x') w1 es)/\Ext P K.S (K.CO P) Sh ρ { v with tape:=λj q=>w.tape (w.drawn+(j-v.drawn)) q } w ρ1 v1 w1/\
   aI K.S ρ1 x x'/\R x v1/\J v1/\∀e∈es,aqJ Sh ρ1 e)\/
  (¬uW fr fs/\∃ρ1 dL dG v1 E I w1 es,stepG Q m (LG fr' (eP++bs)) w=.go (LG E (I++bs)) w1 es/\
   (∃n,Ext P K.S (K.CO P) Sh ρ { v with tape:=λj q=>w.tape (w.drawn+(j-v.drawn)) q } w ρ1 { v1 with drawn:=n } w1)/\(gy P Q K Sh St R ρ1 dL dG v1 E I w1\/∃f xs ys,dL=Frame.enter P f xs .normal/\E=Frame.enter Q f ys .normal/\CZ P Q K Sh St R ρ1 f xs dG v1 ys I w1)/\
   oM P St (dL,dG,v1) (fr,fs,v)/\∀e∈es,aqJ Sh ρ1 e):=by
 obtain⟨uG,O,hw,hs,Y⟩:=h;have M:=hw.dI (λj q=>w.tape (w.drawn+(j-v.drawn)) q);have Wi:¬UK St fr fs v:=λW=>Jf _ _ _ (W v.tape) hs.top.ok
 cases uG with
 |stop h=>exact absurd h Wi
 | @leave _ _ f hm hd hk hf h=>
  refine .inl ⟨⟨rfl,hm,hd⟩,?_,?_⟩
  ·have:=hs.rest;cases this;rfl
  ·obtain⟨x,v1,hr,hx⟩:=h (λj q=>w.tape (w.drawn+(j-v.drawn)) q);have:=jR (P:=P) (Q:=Q) (Sh:=Sh) f hs.top.tmps _ w M;rw[hr] at this;obtain⟨ρ1,x',w1,k1,k2,k3,k4⟩:=this.2.2.2 (λi _ q=>by simp);have Cj:fr'.defers= []:=by
    have:=hs.top.defers;rw[hd] at this;cases h2:fr'.defers with
    |nil=>rfl
    |cons a l=>rw[h2] at this;cases this
   obtain⟨fn1,f',RK,Z,jW⟩:=hE.res hs.top.ok;rw[hf] at RK;cases RK;rw[<-hs.top.fn] at Z;rw[<-pD jW] at k1 k4;refine⟨ρ1,x,x',v1,w1,_,λc0 cs e=>by subst e;exact my (hs.top.mode.trans hm) Cj hs.top.kind.2 Z k1,λe p U=>by subst e p;exact step_done (hs.top.mode.trans hm) Cj hs.top.kind.2 Z U k1,k2,k3,hx,this.1.j Y,λe he=>k4 e (h_ he)⟩
 |step hn F Gs V h k=>
  refine .inr ⟨hn,?_⟩;obtain⟨⟨es,e⟩,np⟩:=h (λj q=>w.tape (w.drawn+(j-v.drawn)) q);rcases sS hE gp O (c0:=bz P) (cs:= []) (bs':=bs) M hs true m with h|⟨u,hu,_⟩|⟨dL,dG,v1,es1,L,_,Yz,hb,hg,rD,hgo⟩
  ·exact absurd h hn
  ·exfalso;rcases hu with ⟨_,_,_,p⟩|⟨Uu,Se,ch,Sv,p,hm2,_⟩
   ·simp_all
   ·have p:=e.symm.trans p;simp only[aex,LG,adV,abQ] at p
    simp_all
  ·have L:=e.symm.trans L;simp only[aex,LG,adV,abQ,aeY] at L;obtain⟨⟨p,U⟩,e4,e5⟩:=L;obtain⟨nd,ρ1,E,I,w1,es',_,_,m1,m2,N,m4,m5⟩:=hgo w M (λi _ q=>by simp);have hk:=k (λj q=>w.tape (w.drawn+(j-v.drawn)) q);rw[p,U,e4] at hk;refine⟨ρ1,dL,dG,v1,E,I,w1,es',m1,⟨nd,m2⟩,?_,⟨Wi,λj q=>w.tape (w.drawn+(j-v.drawn)) q,es,?_⟩,m5⟩
   ·rcases N with N|⟨f,xs,ys,cr,hB,rfl,rfl,cZ⟩
    ·exact .inl ⟨hk,O.mono m2.le,m2.rel.lI,⟨N,m4,hb⟩,hg.j Y⟩
    ·exact .inr ⟨f,xs,ys,rfl,rfl,hk,O.mono m2.le,m2.rel.lI,cZ,m4,hb,hB,cr,hg.j Y⟩
   simp_all
theorem gu.acc{fr:Frame}{fs:List Frame}{v:World}(h:gu P St R fr fs v):Acc (oM P St) (fr,fs,v):=by
 induction h with
 |stop h=>exact⟨_,λx hx=>absurd h hx.1⟩
 | @leave fr v f hm hd hk hf h=>
  refine⟨_,λx hx=>?_⟩;obtain⟨_,t,es,e⟩:=hx;obtain⟨y,v1,hr,_⟩:=h t;have E:=my (m:=true) (c0:=bz P) (cs:= []) hm hd hk hf hr;have p:=e.symm.trans E;simp only[aex,LG,adV,abQ] at p
  simp_all
 | @step fr fs v hn F J V h k H=>
  refine⟨_,λx hx=>?_⟩;obtain⟨_,t,es,e⟩:=hx;obtain⟨⟨I,E⟩,_⟩:=h t;have p:=e.symm.trans E;simp only[aex,LG,adV,abQ,aeY] at p
  grind
end
end Go.Proofs.YtjagmhagphbfcaaGreatDoor
