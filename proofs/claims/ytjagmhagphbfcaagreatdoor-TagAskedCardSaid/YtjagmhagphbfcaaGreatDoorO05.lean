/- Lemmas, part 5. -/
import Derived.Conc.CrowdComm
import Derived.Conc.Quits
import Derived.Test.YtjagmhagphbfcaaGreatDoorO04
set_option maxRecDepth 100000
set_option linter.all false
namespace Go.Proofs.YtjagmhagphbfcaaGreatDoor
def abe:=@List.getElem?_cons_zero
open Go Go.Conc
inductive Own where
 |of (g:Nat)
 |shared
 |kept
abbrev aG:=Nat->Prop
structure aU(Ow Sd:aG)(w w':World):Prop where
 size:w.heap.size<=w'.heap.size
 own:∀b,Ow b->w'.heap[b]?=w.heap[b]?
 oV:∀b,Sd b->w'.heap[b]?=w.heap[b]?
 os:w'.os=w.os
 out:w'.output=w.output
 tape:w'.tape=w.tape
theorem aU.refl(Ow Sd:aG)(w:World):aU Ow Sd w w:=⟨aax _,λ_ _=>rfl,λ_ _=>rfl,rfl,rfl,rfl⟩
theorem aU.trans{Ow Sd:aG}{u v w:World}(h:aU Ow Sd u v)(k:aU Ow Sd v w):aU Ow Sd u w:=
 ⟨aaY h.size k.size,λb hb=>(k.own b hb).trans (h.own b hb),λb hb=>(k.oV b hb).trans (h.oV b hb),k.os.trans h.os,k.out.trans h.out,k.tape.trans h.tape⟩
theorem aU.sub{Ow p Sd E:aG}{u v:World}(h:aU Ow Sd u v)(ho:∀b,p b->Ow b)(hs:∀b,E b->Sd b):aU p E u v:=
 ⟨h.size,λb hb=>h.own b (ho b hb),λb hb=>h.oV b (hs b hb),h.os,h.out,h.tape⟩
theorem aU.at(Ow Sd:aG)(w:World)(d:Nat):aU Ow Sd w (w.at d):=⟨aax _,λ_ _=>rfl,λ_ _=>rfl,rfl,rfl,rfl⟩
structure jM(Ow:aG)(w w1:World):Prop where
 size:w.heap.size<=w1.heap.size
 frame:∀b,b<w.heap.size->¬Ow b->w1.heap[b]?=w.heap[b]?
 os:w1.os=w.os
 out:w1.output=w.output
 tape:w1.tape=w.tape
theorem jM.refl(Ow:aG)(w:World):jM Ow w w:=⟨aax _,λ_ _ _=>rfl,rfl,rfl,rfl⟩
def bU(Ow:aG)(w w1:World):aG:=λb=>Ow b\/(w.heap.size<=b/\b<w1.heap.size)
def EvW(Ow Sd:aG)(e:Event):Prop:=
 match e.loc with
 | .cell a=>e.sync=false/\(Ow a.block\/(Sd a.block/\e.write=false))
 | .obj r=>e.sync=false/\(Ow r\/(Sd r/\e.write=false))
 | .mark .noRoom=>True
 | .mark (.extern _)=>True
 |_=>False
theorem EvW.mono{Ow p Sd:aG}(hle:∀b,Ow b->p b){e:Event}(h:EvW Ow Sd e):EvW p Sd e:=by
 unfold EvW at h ⊢;split
 ·rename_i a hl;rw[hl] at h;exact⟨h.1,h.2.imp (hle _) id⟩
 ·rename_i r hl;rw[hl] at h;exact⟨h.1,h.2.imp (hle _) id⟩
 ·trivial
 ·trivial
 ·rename_i h1 h2 H E;split at h
  ·rename_i a hl;exact absurd hl (h1 a)
  ·rename_i a hl;exact absurd hl (h2 a)
  ·rename_i hl;exact absurd hl H
  ·rename_i a hl;exact absurd hl (E a)
  ·exact h
structure GS where
 g:Goroutine
 w:World
 ow:aG
inductive WT(Q:Program)(m:Bool)(Sd:aG)(Stop:GS->Prop):GS->Prop
 |stop {s:GS} (hr:s.g.status=.running) (h:∀w',aU s.ow Sd s.w w'->Stop ⟨s.g,w',s.ow⟩):WT Q m Sd Stop s
 |go {s:GS} (hr:s.g.status=.running) (G:World->Goroutine) (V:World->World) (E:World->Array Event)
   (h:∀w',aU s.ow Sd s.w w'->stepG Q m s.g w'=.go (G w') (V w') (E w')/\jM s.ow w' (V w')/\∀e∈E w',EvW (bU s.ow w' (V w')) Sd e)
   (k:∀w',aU s.ow Sd s.w w'->WT Q m Sd Stop ⟨G w',V w',bU s.ow w' (V w')⟩):WT Q m Sd Stop s
section
variable{Q:Program}{m:Bool}{Sd:aG}{Stop JE:GS->Prop}
theorem WT.running{s:GS}(h:WT Q m Sd Stop s):s.g.status=.running:=by cases h <;>assumption
theorem WT.agree{s:GS}(h:WT Q m Sd Stop s){w':World}(ha:aU s.ow Sd s.w w'):WT Q m Sd Stop ⟨s.g,w',s.ow⟩:=by
 cases h with
 |stop hr h=>exact .stop hr λp h'=>h p (ha.trans h')
 |go hr G V E h k=>exact .go hr G V E (λp h'=>h p (ha.trans h')) (λp h'=>k p (ha.trans h'))
theorem WT.bind{s:GS}(h:WT Q m Sd Stop s)(hb:∀s',Stop s'->WT Q m Sd JE s'):WT Q m Sd JE s:=by
 induction h with
 | @stop s hr h=>exact hb _ (h _ (aU.refl _ _ _))
 |go hr G V E h _ p=>exact .go hr G V E h p
theorem WT.mono{s:GS}(h:WT Q m Sd Stop s)(hm:∀s',Stop s'->JE s'):WT Q m Sd JE s:=by
 induction h with
 |stop hr h=>exact .stop hr λw' h'=>hm _ (h w' h')
 |go hr G V E h _ p=>exact .go hr G V E h p
def vU(Sd:aG)(Stop:GS->Prop)(s:GS):Prop:=∀w',aU s.ow Sd s.w w'->Stop ⟨s.g,w',s.ow⟩
def R1(Q:Program)(m:Bool)(Sd:aG)(Stop:GS->Prop)(x y:GS):Prop:=
 ¬vU Sd Stop y/\∃w',aU y.ow Sd y.w w'/\(∃es,stepG Q m y.g w'=.go x.g x.w es)/\x.ow=bU y.ow w' x.w
theorem WT.acc{s:GS}(h:WT Q m Sd Stop s):Acc (R1 Q m Sd Stop) s:=by
 induction h with
 |stop hr h=>exact⟨_,λx hx=>absurd h hx.1⟩
 |go hr G V E h _ p=>
  refine⟨_,λx hx=>?_⟩;obtain⟨_,w',ha,⟨es,he⟩,ho⟩:=hx;have:=(h w' ha).1.symm.trans he;simp only[aex] at this;obtain⟨I,H,_⟩:=this;have:=p w' ha;rw[I,H,<-ho] at this;exact this
theorem WT.step{s:GS}(h:WT Q m Sd Stop s)(hn:¬vU Sd Stop s){w':World}(ha:aU s.ow Sd s.w w'):
  ∃g1 w1 es,stepG Q m s.g w'=.go g1 w1 es/\jM s.ow w' w1/\(∀e∈es,EvW (bU s.ow w' w1) Sd e)/\WT Q m Sd Stop ⟨g1,w1,bU s.ow w' w1⟩/\R1 Q m Sd Stop ⟨g1,w1,bU s.ow w' w1⟩ s:=by
 cases h with
 |stop hr h=>exact absurd h hn
 |go hr G V E h k=>
  obtain⟨h1,h2,p⟩:=h w' ha;exact⟨G w',V w',E w',h1,h2,p,k w' ha,hn,w',ha,⟨_,h1⟩,rfl⟩
end
def Dec{α:Type}(R:α->α->Prop)(l' l:List α):Prop:=∃i x x',l[i]?=some x/\R x' x/\l'=l.set i x'
theorem PM{α:Type}{R:α->α->Prop} :∀(l:List α),(∀x∈l,Acc R x)->Acc (Dec R) l:=by
 intro l
 induction l with
 |nil=>intro _;exact⟨_,λl' ⟨i,x,x',h,_⟩=>by simp at h⟩
 |cons a l J=>
  intro h;have ha:=h a (by simp);have hl:=J λx hx=>h x (by simp[hx])
  clear h J
  induction ha generalizing l with
  |intro a M H=>
   induction hl with
   |intro l I E=>
    refine⟨_,λl' L=>?_⟩;obtain⟨i,x,x',h1,h2,p⟩:=L;cases i with
    |zero=>
     simp only[abe,Option.some.injEq] at h1;subst h1;simp only[List.set_cons_zero] at p;subst p;exact H x' h2 l ⟨l,I⟩
    |succ i=>
     simp only[List.getElem?_cons_succ] at h1;simp only[List.set_cons_succ] at p;subst p;exact E _ ⟨i,x,x',h1,h2,rfl⟩
structure WP where
 sd:aG
 c:Nat
 y:Value
def AtSend(Q:Program)(p:WP)(s:GS):Prop:=
 ∃g' z n,stepG Q false s.g s.w=.comm g' #[scase p.c p.y z] true .send s.w #[]/\QuitsIn Q n (Conc.served g' undef)
inductive Rk where
 |tree (p:WP) (s:GS)
 |left (n:Nat)
inductive tP(Q:Program):Rk->Rk->Prop
 |tree {p:WP} {x y:GS} (h:R1 Q false p.sd (AtSend Q p) x y):tP Q (.tree p x) (.tree p y)
 |left (n:Nat) (p:WP) (y:GS):tP Q (.left n) (.tree p y)
 |less {n k:Nat} (h:n<k):tP Q (.left n) (.left k)
theorem tP.CS{Q:Program}(n:Nat):Acc (tP Q) (.left n):=by
 induction n using Nat.strongRecOn with
 |_ n p=>
  refine⟨_,λx hx=>?_⟩;cases hx with
  |less h=>exact p _ h
theorem tP.S0{Q:Program}{p:WP}{s:GS}(h:Acc (R1 Q false p.sd (AtSend Q p)) s):Acc (tP Q) (.tree p s):=by
 induction h with
 |intro s _ E=>
  refine⟨_,λx hx=>?_⟩;cases hx with
  |tree h=>exact E _ h
  |left n _ _=>exact tP.CS n
def Wl(t:Trace):Prop:=∀op∈t,op.act≠.mark .disable/\op.act≠.mark .enable
theorem Wl.append{t u:Trace}(ht:Wl t)(hu:Wl u):Wl (t++u):=by
 intro op hop;rcases afh.1 hop with h|h
 ·exact ht op h
 ·exact hu op h
theorem Wl.deaf{t:Trace}(h:Wl t)(g:Nat):∀i,t.deaf g i=0:=by
 intro i
 induction i with
 |zero=>rfl
 |succ i p=>
  unfold Trace.deaf;split
  ·rename_i heq;exact absurd rfl (h _ (mem_of_getElem? heq)).1
  ·simp_all
  ·exact p
theorem Wl.heard{t:Trace}(h:Wl t){i:Nat}{op:MemOp}(hi:t[i]?=some op):t.heard i:=⟨op.g,by simp[Trace.g?,hi],h.deaf _ _⟩
def Live(pend:Nat->Prop)(g:Nat):Prop:=g=0\/pend g
structure kJ(O:Nat->Own)(Rd:Nat->aG)(pend:Nat->Prop)(hs:Nat)(t:Trace):Prop where
 wordless:Wl t
 race:∀said,¬Race said t
 lt:∀i a b,touchAt t i=some a->ji a.loc=some b->b<hs
 own:∀i a b g,touchAt t i=some a->ji a.loc=some b->O b=.of g->Knows t g i
 kept:∀i a b,touchAt t i=some a->ji a.loc=some b->O b=.kept->Knows t 0 i
 shared:∀i a b,touchAt t i=some a->ji a.loc=some b->O b=.shared->a.write=true->∀g,Live pend g->Rd g b->Knows t g i
 main:∀b,Rd 0 b
 handed:∀i z,t[i]?=some z->z.act.touch?≠none->¬pend z.g->Knows t 0 i
theorem AI{Ow Sd:aG}{e:Event}(h:EvW Ow Sd e){x:Touch}(hx:(MemAct.ofEvent e).touch?=some x):
  ∃b,ji x.loc=some b/\(Ow b\/(Sd b/\x.write=false)):=by
 obtain⟨loc,wr,p⟩:=e;unfold EvW at h;cases loc with
 |cell a=>
  obtain⟨hs,h1⟩:=h;simp only at hs h1;subst hs;simp only[MemAct.ofEvent,MemAct.touch?] at hx;cases hx;exact⟨a.block,rfl,h1⟩
 |obj r=>
  obtain⟨hs,h1⟩:=h;simp only at hs h1;subst hs;have e:(MemAct.ofEvent ⟨.obj r,wr,false⟩)=.access ⟨.obj r,wr,false⟩:=by cases wr <;>rfl
  rw[e] at hx;simp only[MemAct.touch?] at hx;cases hx;exact⟨r,rfl,h1⟩
 |mark m=>
  cases m <;>first|(exact h.elim)|(simp only[MemAct.ofEvent,MemAct.touch?] at hx;cases hx)
 |_=>exact h.elim
theorem uO{Ow Sd:aG}{e:Event}(h:EvW Ow Sd e){m:Mark}(hm:MemAct.ofEvent e=.mark m):m≠.disable/\m≠.enable:=by
 obtain⟨loc,wr,p⟩:=e;unfold EvW at h;cases loc with
 |cell a=>cases hm
 |obj r=>
  obtain⟨hs,h1⟩:=h;simp only at hs;subst hs;cases wr <;>cases hm
 |mark k=>
  have e:k=m:=by cases hm;rfl
  grind
 |_=>exact h.elim
theorem AY{Ow Sd:aG}{g:Nat}{fn:FuncId}{pos:String}{es:Array Event}(h:∀e∈es,EvW Ow Sd e):Wl (MemOp.ofEvents g fn pos es):=by
 intro op hop;obtain⟨e,he,rfl⟩:=ez hop;exact⟨λhm=>(uO (h e he) hm).1 rfl,λhm=>(uO (h e he) hm).2 rfl⟩
section
variable{O O':Nat->Own}{Rd:Nat->aG}{pend:Nat->Prop}{hs hs':Nat}{t:Trace}
theorem kJ.step(h:kJ O Rd pend hs t){g:Nat}{Ow Sd:aG}{fn:FuncId}{pos:String}{es:Array Event}(M:∀b,b<hs->O' b=O b)(hle:hs<=hs')(hg:Live pend g)
  (I:∀b,Ow b->O' b=.of g/\b<hs') (iC:∀b,Sd b->O' b=.shared/\b<hs'/\Rd g b) (he:∀e∈es,EvW Ow Sd e):kJ O' Rd pend hs' (t++MemOp.ofEvents g fn pos es):=by
 have cases:∀i a b,touchAt (t++MemOp.ofEvents g fn pos es) i=some a->ji a.loc=some b->
   (touchAt t i=some a/\b<hs/\O' b=O b)\/(Knows (t++MemOp.ofEvents g fn pos es) g i/\b<hs'/\(O' b=.of g\/(O' b=.shared/\a.write=false))):=by
  intro i a b ha hb;obtain⟨x,hx,N⟩:=touch_of ha;rcases getElem?_append_cases hx with ⟨hi,Z⟩|⟨hi,VV⟩
  ·have W:touchAt t i=some a:=by rw[touchAt_of Z];exact N
   have L:=h.lt i a b W hb
   simp_all
  ·obtain⟨e,E,rfl⟩:=ez VV;obtain⟨b',k2,p⟩:=AI (he e E) N;rw[hb] at k2;cases k2;refine .inr ⟨knows_own hx,?_⟩
   grind
 refine⟨h.wordless.append (AY he),λsaid=>?_,λi a b ha hb=>?_,λi a b g' ha hb ho=>?_,λi a b ha hb ho=>?_,λi a b ha hb ho hw g' F5 gf=>?_,h.main,λi z hz LO U=>?_⟩
 ·refine noRace_append (g:=g) (h.race said) (λop hop=>?_) (λi a ha op hop x hx J=>?_)
  ·obtain⟨e,_,rfl⟩:=ez hop;rfl
  ·obtain⟨e,E,rfl⟩:=ez hop;obtain⟨b,k2,p⟩:=AI (he e E) hx;obtain⟨Y,_,hw,_⟩:=J;have hb:ji a.loc=some b:=by simp_all
   have L:=h.lt i a b ha hb;rcases p with p|⟨p,k4⟩
   ·have:=(I b p).1;rw[M b L] at this;exact h.own i a b g ha hb this
   ·have:=(iC b p).1;rw[M b L] at this;rcases hw with hw|hw
    ·exact h.shared i a b ha hb this hw g hg (iC b p).2.2
    simp_all
 ·grind
 ·rcases cases i a b ha hb with ⟨h1,_,H⟩|⟨h1,_,H⟩
  ·exact(h.own i a b g' h1 hb (by simp_all)).app _
  simp_all
 ·rcases cases i a b ha hb with ⟨h1,_,H⟩|⟨_,_,H⟩
  ·exact(h.kept i a b h1 hb (by simp_all)).app _
  simp_all
 ·rcases cases i a b ha hb with ⟨h1,_,H⟩|⟨_,_,H⟩
  ·exact(h.shared i a b h1 hb (by simp_all) hw g' F5 gf).app _
  simp_all
 ·rcases getElem?_append_cases hz with ⟨hi,TE⟩|⟨hi,VN⟩
  ·exact(h.handed i z TE LO U).app _
  ·obtain⟨e,_,rfl⟩:=ez VN;rcases hg with rfl|hg
   ·exact knows_own hz
   simp_all
theorem kJ.mute(h:kJ O Rd pend hs t)(u:Trace)(hw:Wl u)(hu:∀op∈u,op.act.touch?=none):kJ O Rd pend hs (t++u):=by
 have mo:∀i a,touchAt (t++u) i=some a->touchAt t i=some a:=by
  intro i a ha;obtain⟨x,hx,L⟩:=touch_of ha;rcases getElem?_append_cases hx with ⟨hi,H⟩|⟨hi,N⟩
  ·rw[touchAt_of H];exact L
  simp_all
 refine⟨h.wordless.append hw,λsaid=>?_,λi a b ha hb=>h.lt i a b (mo i a ha) hb,λi a b g ha hb ho=>(h.own i a b g (mo i a ha) hb ho).app _,
  λi a b ha hb ho=>(h.kept i a b (mo i a ha) hb ho).app _,λi a b ha hb ho hw g hg gf=>(h.shared i a b (mo i a ha) hb ho hw g hg gf).app _,h.main,λi z hz J p=>?_⟩
 ·rintro⟨i,j,M,⟨a,b,ha,hb,hc⟩,n1,E⟩;exact h.race said ⟨i,j,M,⟨a,b,mo i a ha,mo j b hb,hc⟩,λe=>n1 (hb_app u e),λe=>E (hb_app u e)⟩
 ·rcases getElem?_append_cases hz with ⟨hi,I⟩|⟨hi,U⟩
  ·exact(h.handed i z I J p).app _
  simp_all
theorem kJ.Oy(h:kJ O Rd pend hs t)(p:∀b,b<hs->O' b=O b\/((O b=.of 0\/O b=.kept)/\(O' b=.of 0\/O' b=.kept))\/(O b=.of 0/\O' b=.shared/\∀g,Live pend g->Rd g b->g=0)):
  kJ O' Rd pend hs t:=by
 have mine:∀i a b,touchAt t i=some a->ji a.loc=some b->(O b=.of 0\/O b=.kept)->Knows t 0 i:=by
  rintro i a b ha hb (ho|ho)
  ·exact h.own i a b 0 ha hb ho
  ·exact h.kept i a b ha hb ho
 refine⟨h.wordless,h.race,h.lt,λi a b g ha hb ho=>?_,λi a b ha hb ho=>?_,λi a b ha hb ho hw g hg gf=>?_,h.main,h.handed⟩
 ·rcases p b (h.lt i a b ha hb) with e|⟨e,e'|e'⟩|⟨e,e',_⟩
  ·exact h.own i a b g ha hb (e▸ho)
  ·simp_all
  ·simp_all
  simp_all
 ·rcases p b (h.lt i a b ha hb) with e|⟨e,e'|e'⟩|⟨e,e',_⟩
  ·simp_all
  ·simp_all
  ·simp_all
  simp_all
 ·rcases p b (h.lt i a b ha hb) with e|⟨e,e'|e'⟩|⟨e,e',E⟩
  ·exact h.shared i a b ha hb (e▸ho) hw g hg gf
  ·simp_all
  ·simp_all
  grind
end
theorem kJ.spawn{O:Nat->Own}{Rd:Nat->aG}{pend:Nat->Prop}{hs:Nat}{t:Trace}(h:kJ O Rd pend hs t){n:Nat}{fn fh:FuncId}{pos pos':String}(hn:n≠0)(sd:aG):
  kJ O (λg=>if g=n then sd else Rd g) (λg=>pend g\/g=n) hs (t++ #[{ g:=0,fn:=fn,pos:=pos,act:=.go n },{ g:=n,fn:=fh,pos:=pos',act:=.start }]):=by
 have hm:=h.mute #[{ g:=0,fn:=fn,pos:=pos,act:=.go n },{ g:=n,fn:=fh,pos:=pos',act:=.start }] (λop hop=>by
  grind) (λop hop=>by simp at hop;rcases hop with rfl|rfl <;>rfl)
 generalize hu:(#[{ g:=0,fn:=fn,pos:=pos,act:=.go n },{ g:=n,fn:=fh,pos:=pos',act:=.start }]:Trace)=u at hm;have g1:(t++u)[t.size]?=some { g:=0,fn:=fn,pos:=pos,act:=.go n } :=by grind
 have g2:(t++u)[t.size+1]?=some { g:=n,fn:=fh,pos:=pos',act:=.start } :=by grind
 have M:HappensBefore (t++u) t.size (t.size+1):=.single (.inr ⟨.spawn (child:=n) (by simp[Trace.act?,g1]) (by simp[Trace.act?,g2]) (by simp[Trace.g?,g2]),hm.wordless.heard g1,hm.wordless.heard g2⟩);have E:∀i,i<t.size->Knows t 0 i->Knows (t++u) n i:=λi _ hk=>⟨t.size+1,_,g2,rfl,.inr ((hk.hb_new (aax _) g1 rfl).trans M)⟩
 refine⟨hm.wordless,hm.race,hm.lt,hm.own,hm.kept,λi a b ha hb ho hw g hg gf=>?_,λb=>by rw[aat (λe=>hn e.symm)];exact hm.main b,λi z hz U J=>?_⟩
 ·by_cases p:g=n
  case neg=>
   rw[aat p] at gf;rcases hg with hg|hg|hg
   ·exact hm.shared i a b ha hb ho hw g (.inl hg) gf
   ·exact hm.shared i a b ha hb ho hw g (.inr hg) gf
   omega
  ·subst p;obtain⟨x,hx,I⟩:=touch_of ha;rcases getElem?_append_cases hx with ⟨hi,N⟩|⟨hi,H⟩
   ·have L:touchAt t i=some a:=by rw[touchAt_of N];exact I
    exact E i hi (h.shared i a b L hb ho hw 0 (.inl rfl) (h.main b))
   ·rw[<-hu] at H;simp at H;rcases H with rfl|rfl <;>cases I
 ·exact hm.handed i z hz U (λe=>J (.inl e))
theorem kJ.recv{O:Nat->Own}{Rd:Nat->aG}{pend:Nat->Prop}{hs:Nat}{t:Trace}(h:kJ O Rd pend hs t){j c s cap:Nat}{f1 f2 f3 f4:FuncId}{p p2 p3 p4:String} :
  kJ O Rd (λg=>pend g/\g≠j) hs (t++ #[{ g:=j,fn:=f1,pos:=p,act:=.send c s },{ g:=0,fn:=f2,pos:=p2,act:=.recv c s cap },{ g:=j,fn:=f3,pos:=p3,act:=.sendDone c s },{ g:=0,fn:=f4,pos:=p4,act:=.recvDone c s }]):=by
 have hm:=h.mute #[{ g:=j,fn:=f1,pos:=p,act:=.send c s },{ g:=0,fn:=f2,pos:=p2,act:=.recv c s cap },{ g:=j,fn:=f3,pos:=p3,act:=.sendDone c s },{ g:=0,fn:=f4,pos:=p4,act:=.recvDone c s }] (λop hop=>by
  grind) (λop hop=>by simp at hop;rcases hop with rfl|rfl|rfl|rfl <;>rfl)
 generalize hu:(#[{ g:=j,fn:=f1,pos:=p,act:=.send c s },{ g:=0,fn:=f2,pos:=p2,act:=.recv c s cap },{ g:=j,fn:=f3,pos:=p3,act:=.sendDone c s },{ g:=0,fn:=f4,pos:=p4,act:=.recvDone c s }]:Trace)=u at hm;have g1:(t++u)[t.size]?=some { g:=j,fn:=f1,pos:=p,act:=.send c s } :=by grind
 have g2:(t++u)[t.size+3]?=some { g:=0,fn:=f4,pos:=p4,act:=.recvDone c s } :=by grind
 have L:HappensBefore (t++u) t.size (t.size+3):=.single (.inr ⟨.handOver (c:=c) (k:=s) (by simp[Trace.act?,g1]) (by simp[Trace.act?,g2]),hm.wordless.heard g1,hm.wordless.heard g2⟩);refine⟨hm.wordless,hm.race,hm.lt,hm.own,hm.kept,λi a b ha hb ho hw g hg gf=>hm.shared i a b ha hb ho hw g (hg.imp id (·.1)) gf,hm.main,λi z hz H I=>?_⟩;by_cases hp:pend z.g
 ·have J:z.g=j:=aaO λe=>I ⟨hp,e⟩
  rcases getElem?_append_cases hz with ⟨hi,M⟩|⟨hi,E⟩
  ·exact⟨t.size+3,_,g2,rfl,.inr (((knows_own M).hb_new (aax _) g1 J.symm).trans L)⟩
  ·exfalso;rw[<-hu] at E;simp at E;rcases E with rfl|rfl|rfl|rfl <;>exact H rfl
 ·exact hm.handed i z hz H hp
theorem kJ.handedOver{O:Nat->Own}{Rd:Nat->aG}{hs:Nat}{t:Trace}(h:kJ O Rd (λ_=>False) hs t):t.HandedOver:=by
 intro i g hg cr hc;obtain⟨x,hx,_⟩:=hc;obtain⟨z,hz,E⟩:=touch_of hx;have H:z.g=g:=by simpa[Trace.g?,hz] using hg
 obtain⟨q,y,h1,h2,p⟩:=h.handed i z hz (by simp_all) id;refine⟨q,by simp[Trace.g?,h1,h2],?_⟩;rcases p with rfl|p
 ·simp_all
 ·exact p
def aaf:=@List.getElem?_eq_getElem
def adT:=@Array.ext_getElem?
def abi:=@List.getElem?_eq_some_iff
def aaL:=@Array.getElem?_setIfInBounds_ne
def afL:=@List.getElem?_set_self
def aaz:=@Array.getElem?_setIfInBounds_self_of_lt
def agN:=@Array.empty_append
inductive tS(Q:Program)(ch:Option (Nat×Nat))(pr:Nat->Value)(O:Nat->Own)(Rd:Nat->aG)(pend:Nat->Prop)(w:World)(i:Nat):Rk->Goroutine->Prop
 |anT (p:WP) (s:GS) (hp:pend i) (hy:p.y=pr i) (hc:∃k,ch=some (p.c,k)) (ht:WT Q false p.sd (AtSend Q p) s) (ha:aU s.ow p.sd s.w w)
   (ho:∀b,s.ow b->O b=.of i) (iC:∀b,p.sd b->O b=.shared) (gf:∀b,p.sd b->Rd i b):tS Q ch pr O Rd pend w i (.tree p s) s.g
 |sends (g:Goroutine) (z:Value) (c k n:Nat) (hp:pend i) (hc:ch=some (c,k)) (hq:QuitsIn Q n (Conc.served g undef)):tS Q ch pr O Rd pend w i (.left 0) (parked g #[scase c (pr i) z] .send)
 |leaves (n:Nat) (g:Goroutine) (hp:¬pend i) (hq:QuitsIn Q n g):tS Q ch pr O Rd pend w i (.left n) g
structure Co(Q:Program)(ch:Option (Nat×Nat))(pr:Nat->Value)(O:Nat->Own)(Rd:Nat->aG)(pend:Nat->Prop)(w:World)(gs:Array Goroutine)(t:Trace)(rs:List Rk):Prop where
 size:rs.length+1=gs.size
 tr:kJ O Rd pend w.heap.size t
 iH:∀i r g,rs[i]?=some r->gs[i+1]?=some g->tS Q ch pr O Rd pend w (i+1) r g
 lt:∀b,O b≠.kept->b<w.heap.size
 chan:∀c k,ch=some (c,k)->w.heap[c]?=some (.chan 0 #[] false k k false)/\O c=.kept
 mH:∀p,pend p->p≠0/\p<gs.size
structure Aside(O O':Nat->Own)(w w':World):Prop where
 own:∀b,b<w.heap.size->O' b=O b
 heap:∀b,(O b=.of 0\/O b=.kept\/O b=.shared)->b<w.heap.size->w'.heap[b]?=w.heap[b]?
 size:w.heap.size<=w'.heap.size
 os:w'.os=w.os
 out:w'.output=w.output
 tape:w'.tape=w.tape
theorem Aside.refl(O:Nat->Own)(w:World):Aside O O w w:=⟨λ_ _=>rfl,λ_ _ _=>rfl,aax _,rfl,rfl,rfl⟩
theorem Aside.at(O:Nat->Own)(w:World)(d:Nat):Aside O O w (w.at d):=⟨λ_ _=>rfl,λ_ _ _=>rfl,aax _,rfl,rfl,rfl⟩
theorem Aside.trans{O O1 p:Nat->Own}{w w1 w2:World}(h:Aside O O1 w w1)(k:Aside O1 p w1 w2):Aside O p w w2:=by
 have hs:=h.size;refine⟨λb hb=>(k.own b (by omega)).trans (h.own b hb),λb hb hl=>?_,aaY h.size k.size,k.os.trans h.os,k.out.trans h.out,k.tape.trans h.tape⟩;rw[k.heap b (by rw[h.own b hl];exact hb) (by omega),h.heap b hb hl]
def lP(O:Nat->Own)(i n n1:Nat):Nat->Own:=λb=>if n<=b/\b<n1 then .of i else O b
theorem oC{O:Nat->Own}{i n n1 b:Nat}(h:b<n):lP O i n n1 b=O b:=by unfold lP;grind
theorem tZ{P:Program}{g g' b:Goroutine}{w':World}(h:b.status=.running):Conc.woken P g g' w' b=b:=by
 unfold Conc.woken Goroutine.again
 simp_all
section
variable{Q:Program}{ch:Option (Nat×Nat)}{pr:Nat->Value}{O O':Nat->Own}{Rd:Nat->aG}{pend:Nat->Prop}{w w':World}{gs:Array Goroutine}{t:Trace}{rs:List Rk}{sl:Option (Nat×Nat)}
theorem tS.mono{i:Nat}{r:Rk}{g:Goroutine}(h:tS Q ch pr O Rd pend w i r g)(J:∀b,b<w.heap.size->O' b=O b)(L:∀b,O b≠.kept->b<w.heap.size)(hs:w.heap.size<=w'.heap.size)
  (hh:∀b,(O b=.of i\/O b=.shared)->w'.heap[b]?=w.heap[b]?) (I:w'.os=w.os) (H:w'.output=w.output) (E:w'.tape=w.tape):tS Q ch pr O' Rd pend w' i r g:=by
 cases h with
 |anT p s hp hy hc ht ha ho iC gf=>
  refine .anT p s hp hy hc ht (ha.trans ⟨hs,λb hb=>hh b (.inl (ho b hb)),λb hb=>hh b (.inr (iC b hb)),I,H,E⟩) (λb hb=>?_) (λb hb=>?_) gf
  ·grind
  grind
 |sends g z c k n hp hc hq=>exact .sends g z c k n hp hc hq
 |leaves n g hp hq=>exact .leaves n g hp hq
theorem tS.awake{i:Nat}{r:Rk}{g:Goroutine}(h:tS Q ch pr O Rd pend w i r g):awake g:=by
 cases h with
 |anT p s hp hy hc ht ha ho iC gf=>exact awake_of (.inl ht.running)
 |sends g z c k n hp hc hq=>exact awake_of (.inr (.inl rfl))
 |leaves n g hp hq=>
  cases n with
  |zero=>exact awake_of (.inr (.inr hq))
  |succ n=>
   rcases hq with hq|hq
   ·grind [awake_of]
   grind [awake_of]
theorem tS.woken{i:Nat}{r:Rk}{g:Goroutine}(h:tS Q ch pr O Rd pend w i r g)(E:∀c k,ch=some (c,k)->w'.heap[c]?=some (.chan 0 #[] false k k false))(x x':Goroutine):woken Q x x' w' g=g:=by
 cases h with
 |anT p s hp hy hc ht ha ho iC gf=>exact tZ ht.running
 |sends g z c k n hp hc hq=>grind [woken_send_open]
 |leaves n g hp hq=>exact woken_quits hq
def Calm(ch:Option (Nat×Nat))(a:Goroutine):Prop:=a.status=.running\/∃g z sh c k,a=parked g #[rcase c z] sh/\ch=some (c,k)
theorem Calm.awake{a:Goroutine}(h:Calm ch a):awake a:=by
 rcases h with h|⟨g,z,sh,c,k,rfl,_⟩
 ·grind [awake_of]
 ·exact awake_of (.inr (.inl rfl))
theorem Calm.woken{a:Goroutine}(h:Calm ch a)(p:∀c k,ch=some (c,k)->w'.heap[c]?=some (.chan 0 #[] false k k false))(x x':Goroutine):Conc.woken Q x x' w' a=a:=by
 rcases h with h|⟨g,z,sh,c,k,rfl,hc⟩
 ·exact tZ h
 grind [woken_recv_open]
theorem Co.awake(h:Co Q ch pr O Rd pend w gs t rs){a:Goroutine}(h0:gs[0]?=some a)(ha:Calm ch a):∀g∈gs,Conc.awake g:=by
 intro g hg;obtain⟨i,hi⟩:=Array.getElem?_of_mem hg;cases i with
 |zero=>rw[h0] at hi;cases hi;exact ha.awake
 |succ i=>
  have p:i<rs.length:=by have:=(aah.1 hi).1;have:=h.size;omega
  exact(h.iH i rs[i] g (aaf p) hi).awake
theorem Co.v_(h:Co Q ch pr O Rd pend w gs t rs){a:Goroutine}(h0:gs[0]?=some a)(ha:Calm ch a)(p:∀c k,ch=some (c,k)->w'.heap[c]?=some (.chan 0 #[] false k k false))(x x':Goroutine):
  gs.map (woken Q x x' w')=gs:=by
 apply adT;intro i;rw[ad_];cases hi:gs[i]? with
 |none=>rfl
 |some g=>
  simp only[acz,Option.some.injEq];cases i with
  |zero=>rw[h0] at hi;cases hi;exact ha.woken p x x'
  |succ i=>
   have E:i<rs.length:=by have:=(aah.1 hi).1;have:=h.size;omega
   exact(h.iH i rs[i] g (aaf E) hi).woken p x x'
theorem Co.at(h:Co Q ch pr O Rd pend w gs t rs)(d:Nat):Co Q ch pr O Rd pend (w.at d) gs t rs:=
 ⟨h.size,h.tr,λi r g hr hg=>(h.iH i r g hr hg).mono (λ_ _=>rfl) h.lt (aax _) (λ_ _=>rfl) rfl rfl rfl,h.lt,h.chan,h.mH⟩
theorem Co.Nd(h:Co Q ch pr O Rd pend w gs t rs){j:Nat}{g g1:Goroutine}{r r1:Rk}{w1:World}{u:Trace}(hr:rs[j]?=some r)(hg:gs[j+1]?=some g)
  (J:∀b,b<w.heap.size->O' b=O b) (Y:∀b,w.heap.size<=b->O' b≠.kept->b<w1.heap.size) (hs:w.heap.size<=w1.heap.size) (hh:∀b,b<w.heap.size->O b≠.of (j+1)->w1.heap[b]?=w.heap[b]?)
  (M:w1.os=w.os) (L:w1.output=w.output) (I:w1.tape=w.tape) (E:kJ O' Rd pend w1.heap.size (t++u)) (hm:tS Q ch pr O' Rd pend w1 (j+1) r1 g1):
  Co Q ch pr O' Rd pend w1 (gs.setIfInBounds (j+1) g1) (t++u) (rs.set j r1)/\Aside O O' w w1:=by
 have W:j<rs.length:=(abi.1 hr).1;refine⟨⟨by simp[h.size],E,λi U g' H N=>?_,λb hb=>?_,λc k hc=>?_,λp hp=>by simpa using h.mH p hp⟩,J,λb hb hl=>hh b hl ?_,hs,M,L,I⟩
 ·by_cases Z:i=j
  ·grind
  ·rw[List.getElem?_set_ne (λe=>Z e.symm)] at H;rw[aaL (by omega)] at N;refine(h.iH i U g' H N).mono J h.lt hs (λb hb=>?_) M L I;refine hh b (h.lt b (by grind)) ?_
   grind
 ·grind
 ·obtain⟨h1,h2⟩:=h.chan c k hc
  grind
 grind
def tR(pend:Nat->Prop)(rs:List Rk):Prop:=∀j r,rs[j]?=some r->pend (j+1)->∃p s,r=.tree p s
theorem tR.set{pend:Nat->Prop}{rs:List Rk}(h:tR pend rs)(j:Nat)(r:Rk)(hr:pend (j+1)->∃p s,r=.tree p s):tR pend (rs.set j r):=by
 intro i E hi hp;by_cases e:i=j
 ·grind
 ·rw[List.getElem?_set_ne (λx=>e x.symm)] at hi;exact h i E hi hp
def ac9(Q:Program)(ch:Option (Nat×Nat))(pr:Nat->Value)(Rd:Nat->aG)(pend:Nat->Prop)(O:Nat->Own)(w:World)(gs:Array Goroutine)(t:Trace)(rs:List Rk)(a:Goroutine)(i:Nat)(sl:Option (Nat×Nat)):Prop:=
 ∃O' w' gs' u p,runT Q (crowd gs w sl) i=(.next (crowd gs' w' sl),u)/\Co Q ch pr O' Rd pend w' gs' (t++u) p/\gs'[0]?=gs[0]?/\Aside O O' w w'/\Dec (tP Q) p rs/\(a.status≠.running->tR pend rs->tR pend p)/\gs'.size=gs.size
def Tg(Q:Program)(ch:Option (Nat×Nat))(pr:Nat->Value)(Rd:Nat->aG)(pend:Nat->Prop)(O:Nat->Own)(w:World)(gs:Array Goroutine)(t:Trace)(a:Goroutine)(i:Nat)(sl:Option (Nat×Nat)):Prop:=
 ∃g z sh c k gs' u E d,a=parked g #[rcase c z] sh/\ch=some (c,k)/\pend i/\
  runT Q (crowd gs w sl) i=(.next (crowd gs' ((w.at d).setChan c 0 #[] false (k+1) (k+1) false) sl),u)/\gs'[0]?=some (g.finishComm Q #[rcase c z] sh 0 (pr i) true)/\
  Co Q (some (c,k+1)) pr O Rd (λp=>pend p/\p≠i) ((w.at d).setChan c 0 #[] false (k+1) (k+1) false) gs' (t++u) E
theorem aoG{i:Nat}{r:Rk}{g:Goroutine}(h:tS Q ch pr O Rd pend w i r g)(c:Nat):offersAt g c false= []:=by
 cases h with
 |anT p s hp hy hc ht ha ho iC gf=>exact offersAt_of_not_blocked (by rw[ht.running];simp) _ _
 |sends g z c k n hp hc hq=>rfl
 |leaves n g hp hq=>
  refine offersAt_of_not_blocked ?_ _ _;cases n with
  |zero=>rw[show g.status=.finished from hq];simp
  |succ n=>
   rcases hq with hq|hq
   ·grind
   simp_all
theorem jV(g:Nat)(fn:FuncId)(pos:String):MemOp.ofEvents g fn pos #[]= #[]:=rfl
theorem Co.served(h:Co Q ch pr O Rd pend w gs t rs){c k j d n:Nat}{g1 a1:Goroutine}{gs':Array Goroutine}(E:ch=some (c,k))(M:j<rs.length)(N:gs'=(gs.setIfInBounds (j+1) g1).setIfInBounds 0 a1)(hq:QuitsIn Q n g1)
  (f1 f2 f3 f4:FuncId) (L p2 p3 p4:String):
  Co Q (some (c,k+1)) pr O Rd (λp=>pend p/\p≠j+1) ((w.at d).setChan c 0 #[] false (k+1) (k+1) false) gs'
   (t++ #[{ g:=j+1,fn:=f1,pos:=L,act:=.send c k },{ g:=0,fn:=f2,pos:=p2,act:=.recv c k 0 },{ g:=j+1,fn:=f3,pos:=p3,act:=.sendDone c k },{ g:=0,fn:=f4,pos:=p4,act:=.recvDone c k }]) (rs.set j (.left n)):=by
 obtain⟨h1,h2⟩:=h.chan c k E;have hl:=(aah.1 h1).1;have I:((w.at d).setChan c 0 #[] false (k+1) (k+1) false).heap.size=w.heap.size:=by simp[World.setChan,World.at]
 have cr:∀b,b≠c->((w.at d).setChan c 0 #[] false (k+1) (k+1) false).heap[b]?=w.heap[b]?:=λb hb=>by
  grind [World.setChan,World.at]
 subst N;refine⟨by simp[h.size],by rw[I];exact h.tr.recv,λi r g hr hg=>?_,λb hb=>by rw[I];exact h.lt b hb,λc' k' U=>?_,λp hp=>by simpa using h.mH p hp.1⟩
 ·rw[aaL (by omega)] at hg;by_cases J:i=j
  ·subst J;rw[afL M] at hr;rw[aaz (by grind)] at hg;cases hr;cases hg;exact .leaves n g1 (λe=>e.2 rfl) hq
  ·rw[List.getElem?_set_ne (λe=>J e.symm)] at hr;rw[aaL (by omega)] at hg;have hm:=(h.iH i r g hr hg).mono (O':=O) (w':=(w.at d).setChan c 0 #[] false (k+1) (k+1) false) (λ_ _=>rfl) h.lt (by omega) (λb hb=>cr b (λe=>by simp_all)) rfl rfl rfl;cases hm with
   |anT p s hp hy hc ht ha ho iC gf=>
    obtain⟨k',H⟩:=hc;rw[E] at H;simp only[Option.some.injEq,Prod.mk.injEq] at H;exact .anT p s ⟨hp,by omega⟩ hy ⟨k+1,by rw[H.1]⟩ ht ha ho iC gf
   |sends g z c' k' n hp hc hq=>
    rw[E] at hc;simp only[Option.some.injEq,Prod.mk.injEq] at hc;obtain⟨rfl,rfl⟩:=hc;exact .sends g z c (k+1) n ⟨hp,by omega⟩ rfl hq
   |leaves n g hp hq=>exact .leaves n g (λe=>hp e.1) hq
 simp_all [World.setChan]
theorem Co.ZF(h:Co Q ch pr O Rd pend w gs t rs){a:Goroutine}(h0:gs[0]?=some a)(ha:Calm ch a){j:Nat}{g:Goroutine}(hg:gs[j+1]?=some g)(hrun:g.status=.running)(sl:Option (Nat×Nat)):
  ac9 Q ch pr Rd pend O w gs t rs a (j+1) sl\/Tg Q ch pr Rd pend O w gs t a (j+1) sl:=by
 have hj:j<rs.length:=by have:=(aah.1 hg).1;have:=h.size;omega
 have hr:rs[j]?=some rs[j]:=aaf hj;generalize hrr:rs[j]=r at hr;have hm:=h.iH j r g hr hg;have hb:(j+1==0)=false:=by simp
 cases hm with
 |sends g z c k n hp hc hq=>cases hrun
 |leaves n g hp hq=>
  cases n with
  |zero=>rw[show g.status=.finished from hq] at hrun;cases hrun
  |succ n=>
   rcases hq with hq|⟨_,g',W,hq⟩
   ·simp_all
   ·have J:stepG Q (j+1==0) g w=.go g' w #[]:=by simp_all
    have E:=runT_crowd_go (sl:=sl) hg J;rw[h.v_ h0 ha (λc k hc=>(h.chan c k hc).1)] at E;obtain⟨H,has⟩:=h.Nd (O':=O) (w1:=w) (u:= #[]) (g1:=g') (r1:=.left n) hr hg (λ_ _=>rfl) (λb hb cr=>absurd (h.lt b cr) (by omega)) (aax _) (λ_ _ _=>rfl) rfl rfl rfl
     (by rw[aeZ];exact h.tr) (.leaves n g' hp hq)
    exact .inl ⟨O,w,_,_,_,E,H,aaL (by omega),has,⟨j,_,_,hr,.less (Nat.lt_succ_self n),rfl⟩,λ_ hn=>hn.set j _ λe=>absurd e hp,by simp⟩
 |anT p s hp hy hc ht F8 ho iC gf=>
  by_cases W:vU p.sd (AtSend Q p) s
  ·
   obtain⟨g',z,n,J,hq⟩:=W w F8;obtain⟨k,hk⟩:=hc;obtain⟨pg,hck⟩:=h.chan p.c k hk;have NL:stepG Q (j+1==0) s.g w=.comm g' #[scase p.c p.y z] true .send w #[]:=by simp_all
   have I4:∀(m:Nat) (x:Goroutine),m≠0->(gs.setIfInBounds (j+1) ph)[m]?=some x->offersAt x p.c false= []:=by
    intro m x Rv hx;rcases getElem?_stand gs (j+1) m x hx with ⟨_,rfl⟩|⟨_,hx⟩
    ·rfl
    ·obtain⟨m,rfl⟩:∃m',m=m'+1:=⟨m-1,by omega⟩
     have Y:m<rs.length:=by have:=(aah.1 hx).1;have:=h.size;omega
     exact aoG (h.iH m rs[m] x (aaf Y) hx) _
   have E9:(gs.setIfInBounds (j+1) ph)[0]?=some a:=by simp_all
   rcases ha with ha|⟨N,L,sh,c,k',rfl,U⟩
   ·
    refine .inl ?_;have Wc:partners (gs.setIfInBounds (j+1) ph) p.c false= []:=partners_nil λm x hx=>by
     grind [offersAt_of_not_blocked]
    have E:=crowd_waits (sl:=sl) hg NL (λcc nv=>by
     grind [ways_send_none])
    rw[hy] at E;obtain⟨H,has⟩:=h.Nd (O':=O) (w1:=w) (u:= #[]) (g1:=parked g' #[scase p.c (pr (j+1)) z] .send) (r1:=.left 0) hr hg (λ_ _=>rfl) (λb hb cr=>absurd (h.lt b cr) (by omega)) (aax _) (λ_ _ _=>rfl) rfl rfl rfl
     (by rw[aeZ];exact h.tr) (.sends g' z p.c k n hp hk hq)
    exact⟨O,w,_,_,_,E,H,aaL (by omega),has,⟨j,_,_,hr,.left 0 _ _,rfl⟩,λcr=>absurd ha cr,by simp⟩
   ·refine .inr ?_;rw[hk] at U;simp only[Option.some.injEq,Prod.mk.injEq] at U;obtain⟨rfl,rfl⟩:=U;have M:partners (gs.setIfInBounds (j+1) ph) p.c false= [(0,0)]:=by
     rw[partners_one E9 I4,offersAt_parked_recv];simp
    have E:=crowd_send_meets (sl:=sl) (j:=0) hg NL pg (by omega) h0 M;rw[hy,jV,agN,finishComm_send] at E;have H:=λf1 f2 f3 f4 p1 p2 p3 p4=>h.served (d:=w.drawn) (g1:=Conc.served g' undef) (a1:=N.finishComm Q #[rcase p.c L] sh 0 (pr (j+1)) true) hk hj (gs':=(gs.setIfInBounds 0 (N.finishComm Q #[rcase p.c L] sh 0 (pr (j+1)) true)).setIfInBounds (j+1) (Conc.served g' undef)) (by
     grind) hq f1 f2 f3 f4 p1 p2 p3 p4
    refine⟨N,L,sh,p.c,k,_,_,_,w.drawn,rfl,hk,hp,E,?_,H _ _ _ _ _ _ _ _⟩
    grind
  ·
   obtain⟨g1,w1,es,e1,I,cu,ht1,Y⟩:=ht.step W F8;have J:stepG Q (j+1==0) s.g w=.go g1 w1 es:=by simp_all
   have kD:∀b,b<w.heap.size->O b≠.of (j+1)->w1.heap[b]?=w.heap[b]?:=λb fM cr=>I.frame b fM λhs=>cr (ho b hs)
   have RN:∀c k,ch=some (c,k)->w1.heap[c]?=some (.chan 0 #[] false k k false):=λc k hc=>by
    obtain⟨k1,k2⟩:=h.chan c k hc
    grind
   have E:=runT_crowd_go (sl:=sl) hg J;rw[h.v_ h0 ha RN] at E;have OB:∀b,b<w.heap.size->lP O (j+1) w.heap.size w1.heap.size b=O b:=λb hb=>oC hb
   have fF:∀b,bU s.ow w w1 b->lP O (j+1) w.heap.size w1.heap.size b=.of (j+1)/\b<w1.heap.size:=by
    rintro b (hb|hb)
    ·have:=ho b hb;have fM:=h.lt b (by simp_all);exact⟨by simp_all,by have:=I.size;omega⟩
    grind [lP]
   have Z:∀b,p.sd b->lP O (j+1) w.heap.size w1.heap.size b=.shared/\b<w1.heap.size/\Rd (j+1) b:=λb hb=>by
    have:=iC b hb;have fM:=h.lt b (by simp_all)
    grind
   obtain⟨H,has⟩:=h.Nd (O':=lP O (j+1) w.heap.size w1.heap.size) (w1:=w1) (u:=MemOp.ofEvents (j+1) s.g.frame.fn s.g.frame.place es) (g1:=g1) (r1:=.tree p ⟨g1,w1,bU s.ow w w1⟩) hr hg OB
    (λb hb cr=>by
     unfold lP at cr;split at cr
     ·omega
     ·exact absurd (h.lt b cr) (by omega)) I.size kD I.os I.out I.tape
    (h.tr.step OB I.size (.inr hp) fF Z cu)
    (.anT p ⟨g1,w1,bU s.ow w w1⟩ hp hy hc ht1 (aU.refl _ _ _) (λb hb=>(fF b hb).1) (λb hb=>(Z b hb).1) gf)
   exact .inl ⟨_,w1,_,_,_,E,H,aaL (by omega),has,⟨j,_,_,hr,.tree Y,rfl⟩,λ_ hn=>hn.set j _ λ_=>⟨_,_,rfl⟩,by simp⟩
end
def ahf:=@List.mem_toArray
def acE:=@List.mem_singleton
inductive AE(Q:Program)(Qp:Machine->Outcome->World->Trace->Prop):Machine->Trace->Prop
 |ends {m:Machine} {t:Trace} {o:Outcome} {w:World} {u:Trace} (h:stepT Q m=(.ended o w,u)) (q:Qp m o w (t++u)):AE Q Qp m t
 |next {m m':Machine} {t u:Trace} (h:stepT Q m=(.next m',u)) (k:AE Q Qp m' (t++u)):AE Q Qp m t
theorem AE.run{Q:Program}{Qp:Machine->Outcome->World->Trace->Prop}{m:Machine}{t:Trace}(h:AE Q Qp m t):
  ∃N last o w t',runNT Q (N+1) m t=(.ended o w,t')/\runN Q N m=.next last/\step Q last=.ended o w/\Qp last o w t':=by
 induction h with
 | @ends m t o w u h q=>exact⟨0,m,o,w,t++u,by simp[runNT,h],rfl,by unfold step;rw[h],q⟩
 | @next m m' t u h k p=>
  obtain⟨N,last,o,w,t',h1,h2,H,E⟩:=p;refine⟨N+1,last,o,w,t',?_,?_,H,E⟩
  ·rw[runNT,h];exact h1
  ·have:step Q m=.next m':=by unfold step;rw[h]
   rw[runN,this];exact h2
inductive Dz(Q:Program)(Qp:Machine->Outcome->World->Trace->Prop)(m:Machine)(t:Trace)(x:Stepped×Array MemOp):Prop
 |ends (o:Outcome) (w:World) (u:Trace) (h:x=(.ended o w,u)) (q:Qp m o w (t++u))
 |goes (m':Machine) (u:Trace) (h:x=(.next m',u)) (k:AE Q Qp m' (t++u))
section
variable{Q:Program}{Qp:Machine->Outcome->World->Trace->Prop}{ch:Option (Nat×Nat)}{pr:Nat->Value}{O:Nat->Own}{Rd:Nat->aG}{pend:Nat->Prop}{w:World}{gs:Array Goroutine}{t:Trace}{rs:List Rk}{sl:Option (Nat×Nat)}
theorem sw(ha:∀g∈gs,awake g)(h1:∃(i:Nat) (g:Goroutine),gs[i]?=some g/\g.status=.running)
  (h:∀(i:Nat) (g:Goroutine),gs[i]?=some g->g.status=.running->∀d p,Dz Q Qp (crowd gs w sl) t (runT Q (crowd gs (w.at d) p) i)):AE Q Qp (crowd gs w sl) t:=by
 obtain⟨i,g,d,p,hi,hg,hs⟩:=crowd_pick (P:=Q) (w:=w) (sl:=sl) ha h1;cases h i g hi hg d p with
 |ends o w u e q=>exact .ends (hs.trans e) q
 |goes m' u e k=>exact .next (hs.trans e) k
theorem Co.acT(h:Co Q ch pr O Rd pend w gs t rs):Acc (Dec (tP Q)) rs:=by
 refine PM rs λr hr=>?_
 obtain⟨i,hi⟩:=List.getElem?_of_mem hr;have E:i+1<gs.size:=by have:=(abi.1 hi).1;have:=h.size;omega
 have hm:=h.iH i r _ hi (aa_ E);generalize gs[i+1]=g at hm;cases hm with
 |anT p s hp hy hc ht ha ho iC gf=>exact tP.S0 ht.acc
 |sends=>exact tP.CS _
 |leaves=>exact tP.CS _
theorem Co.Dq(h:Co Q ch pr O Rd pend w gs t rs){a:Goroutine}(h0:gs[0]?=some a)(hrun:a.status=.running)
  (H:∀O' w' gs' t' p E d Z,Co Q ch pr O' Rd pend w' gs' t' p->gs'[0]?=some a->Aside O O' w w'->gs'.size=gs.size->Dz Q Qp (crowd gs' w' Z) t' (runT Q (crowd gs' (w'.at d) E) 0)) (sl:Option (Nat×Nat)):AE Q Qp (crowd gs w sl) t:=by
 have N:=h.acT
 induction N generalizing O w gs t sl with
 |intro rs _ W=>
  refine sw (h.awake h0 (.inl hrun)) ⟨0,a,h0,hrun⟩ λi g hi hg d E=>?_
  have hd:=h.at d;cases i with
  |zero=>exact H _ _ _ _ _ _ _ _ h h0 (Aside.refl _ _) rfl
  |succ j=>
   rcases hd.ZF h0 (.inl hrun) hi hg E with ⟨O',w',gs',u,p,M,U,E9,has,WU,_,Y⟩|⟨g',z,sh,c,k,gs',u,p,d',e,_⟩
   ·exact .goes _ _ M (W p WU U (E9.trans h0) (λO2 w2 Cr t2 BB I d2 QD L Cq LV J=>H O2 w2 Cr t2 BB I d2 QD L Cq ((Aside.at O w d).trans (has.trans LV)) (J.trans Y)) _)
   ·rw[e] at hrun;cases hrun
theorem Co.wait(h:Co Q ch pr O Rd pend w gs t rs){g:Goroutine}{z:Value}{c k:Nat}{sh:CommShape}(Z:ch=some (c,k))(h0:gs[0]?=some (parked g #[rcase c z] sh))(hp:∃p,pend p)(hn:tR pend rs)
  (H:∀i O' w1 d gs' t' I M,pend i->Aside O O' w w1->Co Q (some (c,k+1)) pr O' Rd (λp=>pend p/\p≠i) ((w1.at d).setChan c 0 #[] false (k+1) (k+1) false) gs' t' I->
   gs'[0]?=some (g.finishComm Q #[rcase c z] sh 0 (pr i) true)->AE Q Qp (crowd gs' ((w1.at d).setChan c 0 #[] false (k+1) (k+1) false) M) t') (sl:Option (Nat×Nat)):AE Q Qp (crowd gs w sl) t:=by
 have oB:=h.acT
 induction oB generalizing O w gs t sl with
 |intro rs _ ih=>
  have Ui:Calm ch (parked g #[rcase c z] sh):=.inr ⟨g,z,sh,c,k,rfl,Z⟩;refine sw (h.awake h0 Ui) ?_ λi g1 hi hg d M=>?_
  ·obtain⟨p,hp⟩:=hp;obtain⟨EG,J⟩:=h.mH p hp;obtain⟨j,rfl⟩:∃j,p=j+1:=⟨p-1,by omega⟩
   have hj:j<rs.length:=by have:=h.size;omega
   have hm:=h.iH j rs[j] gs[j+1] (aaf hj) (aa_ J);obtain⟨q,s,e⟩:=hn j rs[j] (aaf hj) hp;refine⟨j+1,gs[j+1],aa_ J,?_⟩;rw[e] at hm;generalize gs[j+1]=g2 at hm;cases hm with
   |anT p s hp hy hc ht ha ho iC gf=>exact ht.running
  ·have hd:=h.at d;cases i with
   |zero=>rw[h0] at hi;cases hi;cases hg
   |succ j=>
    rcases hd.ZF h0 Ui hi hg M with ⟨O',w',gs',u,I,N,U,L,has,WU,Wi,_⟩|⟨g',Y,Zj,c',k',gs',u,I,d',e,W,E,N,L,U⟩
    ·exact .goes _ _ N (ih I WU U (L.trans h0) (Wi (by simp[parked]) hn) (λi O2 w1 d2 Cr t2 BB zF E LV uJ Cq=>H i O2 w1 d2 Cr t2 BB zF E ((Aside.at O w d).trans (has.trans LV)) uJ Cq) _)
    ·rw[Z] at W;simp only[Option.some.injEq,Prod.mk.injEq] at W;obtain⟨rfl,rfl⟩:=W;have e2:Y=z/\Zj=sh/\g'.frame=g.frame/\g'.callers=g.callers/\g'.dying=g.dying:=by
      simp only[parked,adV,Option.some.injEq,Prod.mk.injEq,rcase] at e
      simp_all
     have e3:g'.finishComm Q #[rcase c Y] Zj 0 (pr (j+1)) true=g.finishComm Q #[rcase c z] sh 0 (pr (j+1)) true:=by
      obtain⟨rfl,rfl,e4,e5,e6⟩:=e2;unfold Goroutine.finishComm
      simp_all
     rw[e3] at L;refine .goes _ _ N (H (j+1) O (w.at d) d' gs' _ I _ E (Aside.at O w d) U L)
theorem G4{g g':Goroutine}{c:Nat}{v v' z p:Value}{sh L:CommShape}(e:parked g #[scase c v z] sh=parked g' #[scase c v' p] L):v=v'/\sh=L/\∀x,Conc.served g x=Conc.served g' x:=by
 simp only[parked,adV,Option.some.injEq,Prod.mk.injEq,scase] at e;obtain⟨J,I,_,H,E⟩:=e;have:(#[({ chan:=.chan (some c),send:=some v,zero:=z } :CommCase)]:Array CommCase)[0]?=(#[({ chan:=.chan (some c),send:=some v',zero:=p } :CommCase)]:Array CommCase)[0]?:=by rw[E.1]
 simp at this;refine⟨this.1,E.2,λx=>?_⟩;obtain⟨f1,c1,s1,d1,o1⟩:=g;obtain⟨f2,c2,s2,d2,o2⟩:=g';simp only at J I H;subst J I H;rfl
theorem Co.recv(h:Co Q ch pr O Rd pend w gs t rs){a g:Goroutine}{z:Value}{c k:Nat}{sh:CommShape}(N:ch=some (c,k))(h0:gs[0]?=some a)(hrun:a.status=.running)(hp:∃p,pend p)
  (hs:∀w',stepG Q true a w'=.comm g #[rcase c z] true sh w' #[])
  (H:∀i O' w1 d gs' t' E Z,pend i->Aside O O' w w1->Co Q (some (c,k+1)) pr O' Rd (λp=>pend p/\p≠i) ((w1.at d).setChan c 0 #[] false (k+1) (k+1) false) gs' t' E->
   gs'[0]?=some (g.finishComm Q #[rcase c z] sh 0 (pr i) true)->AE Q Qp (crowd gs' ((w1.at d).setChan c 0 #[] false (k+1) (k+1) false) Z) t') (sl:Option (Nat×Nat)):AE Q Qp (crowd gs w sl) t:=by
 refine h.Dq h0 hrun (λO' w' gs' t' E Z d0 Yh hc E9 has _=>?_) sl
 replace hc:=hc.at d0
 replace has:=has.trans (Aside.at O' w' d0)
 generalize w'.at d0=w2 at hc has;have bH:stepG Q ((0:Nat)==0) a w2=.comm g #[rcase c z] true sh w2 #[]:=hs w2;obtain⟨W,hcO⟩:=hc.chan c k N;have off:∀(m:Nat) (x:Goroutine),(gs'.setIfInBounds 0 ph)[m]?=some x->∀kk,kk∈offersAt x c true->kk=0/\∃j r g1 z1 n1,m=j+1/\E[j]?=some r/\gs'[m]?=some x/\pend m/\x=parked g1 #[scase c (pr m) z1] .send/\QuitsIn Q n1 (Conc.served g1 undef):=by
  intro m x hx kk J;rcases getElem?_stand gs' 0 m x hx with ⟨_,rfl⟩|⟨Rv,hx⟩
  ·rw[offersAt_ph] at J;cases J
  ·obtain⟨j,rfl⟩:∃j,m=j+1:=⟨m-1,by omega⟩
   have M:j<E.length:=by have:=(aah.1 hx).1;have:=hc.size;omega
   have hm:=hc.iH j E[j] x (aaf M) hx;have hrj:E[j]?=some E[j]:=aaf M;generalize E[j]=r at hm hrj;cases hm with
   |anT p s hp hy hc ht ha ho iC gf=>rw[offersAt_of_not_blocked (by rw[ht.running];simp)] at J;cases J
   |sends g1 z1 c' k' n hp L hq=>
    rw[N] at L;simp only[Option.some.injEq,Prod.mk.injEq] at L;obtain⟨rfl,rfl⟩:=L;rw[offersAt_parked_send] at J
    grind
   |leaves n g1 hp hq=>
    rw[offersAt_of_not_blocked] at J
    ·cases J
    ·cases n with
     |zero=>rw[show x.status=.finished from hq];simp
     |succ n=>
      rcases hq with hq|hq
      ·grind
      simp_all
 by_cases Wc:partners (gs'.setIfInBounds 0 ph) c true= []
 ·have pf:=crowd_waits (sl:=Z) E9 bH (λcc nv=>by
   simp only[ahf,acE] at nv;subst nv;exact ways_recv_none W Wc)
  have mq:Co Q ch pr O' Rd pend w2 (gs'.setIfInBounds 0 (parked g #[rcase c z] sh)) (t'++MemOp.ofEvents 0 a.frame.fn a.frame.place #[]) E:=
   ⟨by simp[hc.size],by rw[jV,aeZ];exact hc.tr,λi r g1 hr hg=>hc.iH i r g1 hr (by grind),hc.lt,hc.chan,λp hp=>by simpa using hc.mH p hp⟩
  have h00:(gs'.setIfInBounds 0 (parked g #[rcase c z] sh))[0]?=some (parked g #[rcase c z] sh):=aaz (by grind);refine .goes _ _ pf (mq.wait N h00 hp (λj r hr U=>?_) (λi O2 w1 d2 Cr t2 BB zF hpi LV uJ Cq=>H i O2 w1 d2 Cr t2 BB zF hpi (has.trans LV) uJ Cq) _);have M:j+1<gs'.size:=by have:=(abi.1 hr).1;have:=hc.size;omega
  have Y:gs'[j+1]?=some gs'[j+1]:=aa_ M;have hm:=hc.iH j r _ hr Y;generalize gs'[j+1]=g2 at hm Y;cases hm with
  |anT p s hp hy hc ht ha ho iC gf=>grind
  |leaves n g1 hp hq=>grind
  |sends g1 z1 c' k' n hp L hq=>
   exfalso;rw[N] at L;simp only[Option.some.injEq,Prod.mk.injEq] at L;obtain⟨rfl,rfl⟩:=L;have:(j+1,0)∈partners (gs'.setIfInBounds 0 ph) c true:=mem_partners.2 ⟨_,by rw[aaL (by omega)];exact Y,by rw[offersAt_parked_send];simp⟩
   grind
 ·obtain⟨j,gj,vj,zj,shj,d,Ua,Y,pf⟩:=crowd_recv_meets_some (sl:=Z) E9 bH W Wc (λj kk Hx=>by
   obtain⟨x,hx,hk⟩:=mem_partners.1 Hx
   grind)
  obtain⟨I,rfl⟩:∃I,j=I+1:=⟨j-1,by omega⟩
  have M:I<E.length:=by have:=(aah.1 Y).1;have:=hc.size;omega
  obtain⟨_,j2,r,g1,z1,n1,e2,hr,_,U,e,hq⟩:=off (I+1) (parked gj #[scase c vj zj] shj) (by grind) 0 (by rw[offersAt_parked_send];simp);obtain⟨rfl,rfl,es⟩:=G4 e;have cn:gj.finishComm Q #[scase c (pr (I+1)) zj] .send 0 undef false=Conc.served g1 undef:=by rw[finishComm_send,es]
  rw[jV,agN,cn] at pf;have mq:=λf1 f2 f3 f4 p1 p2 p3 p4=>hc.served (d:=d) (g1:=Conc.served g1 undef) (a1:=g.finishComm Q #[rcase c z] sh 0 (pr (I+1)) true) N M (gs':=(gs'.setIfInBounds (I+1) (Conc.served g1 undef)).setIfInBounds 0 (g.finishComm Q #[rcase c z] sh 0 (pr (I+1)) true)) rfl hq f1 f2 f3 f4 p1 p2 p3 p4
  exact .goes _ _ pf (H (I+1) O' w2 d _ _ _ _ U has (mq _ _ _ _ _ _ _ _) (aaz (by grind)))
end
structure mn(Sh:Nat->Prop)(ρ:Ren)(Ow Sd:aG)(n:Nat):Prop where
 lt:∀b c d,ρ b=some (c,d)->c<n
 own:∀b c d,ρ b=some (c,d)->¬Sh b->Ow c
 oV:∀b c d,ρ b=some (c,d)->Sh b->Sd c
 vc:∀c,Ow c->c<n
 yz:∀c,Ow c->¬Sd c
 GG:∀c,Sd c->c<n
section
variable{P Q:Program}[Twin P Q]{K:fO}{Sh:Nat->Prop}{ρ:Ren}{R:Value->World->Prop}{St:Frame->List Frame->World->Prop}{Ow Sd:aG}
theorem cp.agree{S:FuncId->Prop}{CO:Code->Prop}{v w w':World}(h:cp P S CO Sh ρ v w)(hl:mn Sh ρ Ow Sd w.heap.size)(ha:aU Ow Sd w w'):cp P S CO Sh ρ v w':=by
 have same:∀b c d,ρ b=some (c,d)->w'.heap[c]?=w.heap[c]?:=λb c d e=>by
  by_cases hs:Sh b
  ·exact ha.oV c (hl.oV b c d e hs)
  ·exact ha.own c (hl.own b c d e hs)
 have shape:∀b c d,ρ b=some (c,d)->w'.shape? c=w.shape? c:=λb c d e=>by
  unfold World.shape?
  grind
 refine⟨h.inj,λb c d e hs=>?_,λb c d e hs=>?_,λb c d e hs=>?_,h.mo,λb c d e hg=>?_,h.C2,aaY h.C1 ha.size⟩
 ·rw[same b c d e];exact h.own b c d e hs
 ·rw[same b c d e];exact h.sh b c d e hs
 ·rw[shape b c d e];exact h.Bv b c d e hs
 ·rw[shape b c d e];exact h.cz b c d e hg
theorem mn.agree{n m:Nat}(h:mn Sh ρ Ow Sd n)(p:n<=m):mn Sh ρ Ow Sd m:=
 ⟨λb c d e=>abD (h.lt b c d e) p,h.own,h.oV,λc hc=>abD (h.vc c hc) p,h.yz,λc hc=>abD (h.GG c hc) p⟩
theorem Ext.Nc{S:FuncId->Prop}{CO:Code->Prop}{v w v1 w1:World}{ρ1:Ren}(h:Ext P S CO Sh ρ v w ρ1 v1 w1)(hold:∀b,Sh b->b<v.heap.size)(hl:mn Sh ρ Ow Sd w.heap.size):
  jM Ow w w1/\mn Sh ρ1 (bU Ow w w1) Sd w1.heap.size:=by
 refine⟨⟨h.qS,λb hb hn=>h.frame b hb λb' d e=>aaO λhs=>hn (hl.own b' b d e hs),h.Y4,h.LZ,h.tT⟩,λb c d e=>h.rel.VD e,λb c d e hs=>?_,λb c d e hs=>?_,λc hc=>?_,λc hc hs=>?_,λc hc=>abD (hl.GG c hc) h.qS⟩
 ·rcases h.new b c d e with p|⟨_,E⟩
  ·exact .inl (hl.own b c d p hs)
  ·exact .inr ⟨E,h.rel.VD e⟩
 ·rcases h.new b c d e with p|⟨p,_⟩
  ·exact hl.oV b c d p hs
  grind
 ·rcases hc with hc|hc
  ·exact abD (hl.vc c hc) h.qS
  ·exact hc.2
 ·rcases hc with hc|hc
  ·exact hl.yz c hc hs
  ·have:=hl.GG c hs;omega
theorem xL{ρ1:Ren}{n:Nat}(hl:mn Sh ρ1 Ow Sd n){e:Event}(h:aqJ Sh ρ1 e):EvW Ow Sd e:=by
 unfold aqJ at h;unfold EvW;split
 ·rename_i a p;rw[p] at h;obtain⟨h0,b,d,h1,h2⟩:=h;refine⟨h0,?_⟩;by_cases hs:Sh b
  ·exact .inr ⟨hl.oV b _ d h1 hs,by simp_all⟩
  ·exact .inl (hl.own b _ d h1 hs)
 ·rename_i r E;rw[E] at h;obtain⟨h0,b,d,h1,h2⟩:=h;refine⟨h0,?_⟩;by_cases hs:Sh b
  ·exact .inr ⟨hl.oV b _ d h1 hs,by simp_all⟩
  ·exact .inl (hl.own b _ d h1 hs)
 ·trivial
 ·trivial
 simp_all
theorem gy.tree(hE:Env P Q K.S (K.CO P) K.g K.H)(gp:∀f,K.j4 f=true->Twin.B P Q f)(Jf:∀fr fs v,St fr fs v->¬(K.S fr.fn\/K.H fr.fn)){Stop:GS->Prop}{m:Bool}{bs:List Frame}{fr fr':Frame}{fs eP:List Frame}{v w:World}
  (hf:gy P Q K Sh St R ρ fr fs v fr' eP w) (hl:mn Sh ρ Ow Sd w.heap.size) {Kp:aG} (M:∀c,Kp c->Ow c/\∀b d,ρ b≠some (c,d))
  (OC:∀c0 cs,bs=c0::cs->∀ρ1 x x' v1 w1 I,ρ.le ρ1->(∀b,Ow b->I b)->mn Sh ρ1 I Sd w1.heap.size->cp P K.S (K.CO P) Sh ρ1 v1 w1->(∀b,b<w.heap.size->I b->Ow b)->w.heap.size<=w1.heap.size->
   aI K.S ρ1 x x'->R x v1->J v1->aU Kp Sd w w1->(∀c,Kp c->∀b d,ρ1 b≠some (c,d))->WT Q m Sd Stop ⟨LG (c0.finish x') cs,w1,I⟩)
  (O:bs= []->m=true/\(∀f,K.S f\/K.H f->Q.inits.idxOf? f=none)/\∀ON ρ1 x x' v1 w' w1 es I,ρ.le ρ1->(∀b,Ow b->I b)->(∀b,b<w.heap.size->I b->Ow b)->w.heap.size<=w'.heap.size->
   ON.mode=.returning->stepG Q true (LG ON []) w'=.ended (.done x') w1 es->jM I w' w1->(∀e∈es,EvW (bU I w' w1) Sd e)->cp P K.S (K.CO P) Sh ρ1 v1 w1->aI K.S ρ1 x x'->R x v1->Stop ⟨LG ON [],w',I⟩)
  (Up:∀f ρ1 xs dG v1 ys fH w1 I,ρ.le ρ1->(∀b,Ow b->I b)->mn Sh ρ1 I Sd w1.heap.size->(∀b,b<w.heap.size->I b->Ow b)->w.heap.size<=w1.heap.size->aU Kp Sd w w1->CZ P Q K Sh St R ρ1 f xs dG v1 ys fH w1->
   Relation.TransGen (oM P St) (Frame.enter P f xs .normal,dG,v1) (fr,fs,v)->
   WT Q m Sd Stop ⟨LG (Frame.enter Q f ys .normal) (fH++bs),w1,I⟩):
  WT Q m Sd Stop ⟨LG fr' (eP++bs),w,Ow⟩:=by
 classical
 have oB:=hf.runs.acc;generalize hx:(fr,fs,v)=x at oB
 induction oB generalizing fr fs v ρ fr' eP w Ow with
 |intro x _ ih=>
  subst hx;by_cases hend:uW fr fs/\bs= []
  ·
   obtain⟨hend,rfl⟩:=hend;obtain⟨hm,N8,O⟩:=O rfl;have Uc:eP= []:=by
    have:=hf.Yi.rest;rw[hend.1] at this;cases this;rfl
   subst Uc;refine .stop rfl λw' ha=>?_
   have L:=hl.agree ha.size;have ES:gy P Q K Sh St R ρ fr fs v fr' [] w':=⟨hf.runs,hf.cz,hf.rel.agree hl ha,hf.Yi,hf.j⟩
   rcases ES.step hE gp Jf [] m with ⟨_,Uc,ρ1,y,y',v1,w1,es,_,e,p,hy,hR,YE,cu⟩|⟨hn,_⟩
   ·obtain⟨E,hl1⟩:=p.Nc (λb hb=>hf.rel.mo b hb) L;have e:=e rfl hm (N8 _ (by rw[hf.Yi.top.fn];exact hf.Yi.top.ok));rw[hm] at e;exact O fr' ρ1 y y' v1 w' w1 es Ow p.le (λ_ h=>h) (λ_ _ h=>h) ha.size (hf.Yi.top.mode.trans hend.2.1) e E (λev Cg=>xL hl1 (cu ev Cg)) p.rel hy hR
   simp_all
  have st:∀w',aU Ow Sd w w'->∃g1 w1 es,stepG Q m (LG fr' (eP++bs)) w'=.go g1 w1 es/\jM Ow w' w1/\(∀e∈es,EvW (bU Ow w' w1) Sd e)/\WT Q m Sd Stop ⟨g1,w1,bU Ow w' w1⟩:=by
   intro w' ha;have L:=hl.agree ha.size;have ES:gy P Q K Sh St R ρ fr fs v fr' eP w':=⟨hf.runs,hf.cz,hf.rel.agree hl ha,hf.Yi,hf.j⟩
   have qp:∀w1,jM Ow w' w1->(∀c,Kp c->w1.heap[c]?=w'.heap[c]?)->aU Kp Sd w w1:=λw1 E N=>⟨aaY ha.size E.size,λc hc=>(N c hc).trans (ha.own c (M c hc).1),λb hb=>(E.frame b (L.GG b hb) (λh=>L.yz b h hb)).trans (ha.oV b hb),E.os.trans ha.os,E.out.trans ha.out,E.tape.trans ha.tape⟩
   rcases ES.step hE gp Jf bs m with ⟨hae,Uc,ρ1,y,y',v1,w1,es,e,_,p,hy,hR,YE,cu⟩|⟨_,ρ1,dL,dG,v1,mS,fH,w1,es,e,⟨nd,p⟩,Aj,E1,cu⟩
   ·subst Uc;obtain⟨E,hl1⟩:=p.Nc (λb hb=>hf.rel.mo b hb) L;have N:∀c,Kp c->w1.heap[c]?=w'.heap[c]?:=λc hc=>p.frame c (L.vc c (M c hc).1) λb d e=>absurd e ((M c hc).2 b d)
    have Xd:∀c,Kp c->∀b d,ρ1 b≠some (c,d):=λc hc b d e=>by
     rcases p.new b c d e with e1|⟨_,e2⟩
     ·grind
     ·have:=L.vc c (M c hc).1;omega
    cases bs with
    |nil=>grind
    |cons c0 cs=>
     refine⟨_,w1,es,e c0 cs rfl,E,λev Cg=>xL hl1 (cu ev Cg),OC c0 cs rfl ρ1 y y' v1 w1 _ p.le (λb hb=>.inl hb) hl1 p.rel (λb hb ho=>?_) (aaY ha.size E.size) hy hR YE (qp w1 E N) Xd⟩;rcases ho with ho|ho
     ·exact ho
     ·have:=ha.size;omega
   ·obtain⟨E,hl1⟩:=p.Nc (λb hb=>hf.rel.mo b hb) L;have N:∀c,Kp c->w1.heap[c]?=w'.heap[c]?:=λc hc=>p.frame c (L.vc c (M c hc).1) λb d e=>absurd e ((M c hc).2 b d)
    have Xd:∀c,Kp c->bU Ow w' w1 c/\∀b d,ρ1 b≠some (c,d):=λc hc=>⟨.inl (M c hc).1,λb d e=>by
     rcases p.new b c d e with e1|⟨_,e2⟩
     ·grind
     ·have:=L.vc c (M c hc).1;omega⟩
    have ov:∀b,b<w.heap.size->bU Ow w' w1 b->Ow b:=λb hb ho=>by
     rcases ho with ho|ho
     ·exact ho
     ·have:=ha.size;omega
    refine⟨_,w1,es,e,E,λev Cg=>xL hl1 (cu ev Cg),?_⟩;have cq:=aaY ha.size E.size;rcases Aj with Aj|⟨f,xs,ys,rfl,rfl,aZ⟩
    ·refine ih _ E1 Aj hl1 Xd (λc0 cs hb ρ2 x x' v2 w2 PW h1 h2 h3 h4 Z h6 Y W h85 U Ji=>OC c0 cs hb ρ2 x x' v2 w2 PW (Ren.le_trans p.le h1) (λb hb=>h2 b (.inl hb)) h3 h4 (λb hb ho=>ov b hb (Z b (by omega) ho)) (by omega) Y W h85
      ((qp w1 E N).trans U) Ji)
      (λhb=>⟨(O hb).1,(O hb).2.1,λON ρ2 x x' v2 w2' w2 Sv PW h1 h2 h3 h4 Qe Z h6 Y W U Ji=>(O hb).2.2 ON ρ2 x x' v2 w2' w2 Sv PW (Ren.le_trans p.le h1) (λb hb=>h2 b (.inl hb)) (λb hb ho=>ov b hb (h3 b (by omega) ho)) (by omega) Qe Z h6 Y W U Ji⟩)
      (λf ρ2 xs Se v2 ys HL w2 PW h1 h2 h3 Z h6 Y W U=>Up f ρ2 xs Se v2 ys HL w2 PW (Ren.le_trans p.le h1) (λb hb=>h2 b (.inl hb)) h3 (λb hb ho=>ov b hb (Z b (by omega) ho)) (by omega)
       ((qp w1 E N).trans Y) W (.tail U E1)) rfl
    ·exact Up f ρ1 xs dG v1 ys fH w1 _ p.le (λb hb=>.inl hb) hl1 ov cq (qp w1 E N) aZ (.single E1)
  refine .go rfl (λw'=>if h:aU Ow Sd w w' then(st w' h).choose else default) (λw'=>if h:aU Ow Sd w w' then(st w' h).choose_spec.choose else w') (λw'=>if h:aU Ow Sd w w' then(st w' h).choose_spec.choose_spec.choose else #[]) (λw' ha=>?_) (λw' ha=>?_)
  ·grind
  grind
end
def abJ:=@List.getElem?_append_left
def abK:=@List.getElem?_append_right
structure AW(O O':Nat->Own)(w w':World):Prop where
 own:∀b,b<w.heap.size->O' b=O b
 heap:∀b,(O b=.kept\/O b=.shared)->b<w.heap.size->w'.heap[b]?=w.heap[b]?
 size:w.heap.size<=w'.heap.size
 os:w'.os=w.os
 out:w'.output=w.output
 tape:w'.tape=w.tape
theorem AW.refl(O:Nat->Own)(w:World):AW O O w w:=⟨λ_ _=>rfl,λ_ _ _=>rfl,aax _,rfl,rfl,rfl⟩
theorem AW.trans{O O1 p:Nat->Own}{w w1 w2:World}(h:AW O O1 w w1)(k:AW O1 p w1 w2):AW O p w w2:=by
 have hs:=h.size;refine⟨λb hb=>(k.own b (by omega)).trans (h.own b hb),λb hb hl=>?_,aaY h.size k.size,k.os.trans h.os,k.out.trans h.out,k.tape.trans h.tape⟩;rw[k.heap b (by rw[h.own b hl];exact hb) (by omega),h.heap b hb hl]
theorem Aside.fwd{O O':Nat->Own}{w w':World}(h:Aside O O' w w'):AW O O' w w':=
 ⟨h.own,λb hb hl=>h.heap b (by simp_all) hl,h.size,h.os,h.out,h.tape⟩
section
variable{Q:Program}{Qp:Machine->Outcome->World->Trace->Prop}{ch:Option (Nat×Nat)}{pr:Nat->Value}{O:Nat->Own}{Rd:Nat->aG}{pend:Nat->Prop}{w:World}{gs:Array Goroutine}{t:Trace}{rs:List Rk}{sl:Option (Nat×Nat)}
theorem Co.own(h:Co Q ch pr O Rd pend w gs t rs){a a1:Goroutine}{w1:World}{es:Array Event}{Ow Sd:aG}(h0:gs[0]?=some a)(hrun:a.status=.running)(W:stepG Q true a w=.go a1 w1 es)(E:jM Ow w w1)
  (U:∀e∈es,EvW (bU Ow w w1) Sd e) (ho:∀b,Ow b->O b=.of 0) (iC:∀b,Sd b->O b=.shared) (sl:Option (Nat×Nat)):
  runT Q (crowd gs w sl) 0=(.next (crowd (gs.setIfInBounds 0 a1) w1 sl),MemOp.ofEvents 0 a.frame.fn a.frame.place es)/\
  Co Q ch pr (lP O 0 w.heap.size w1.heap.size) Rd pend w1 (gs.setIfInBounds 0 a1) (t++MemOp.ofEvents 0 a.frame.fn a.frame.place es) rs/\AW O (lP O 0 w.heap.size w1.heap.size) w w1/\
  (∀b,bU Ow w w1 b->lP O 0 w.heap.size w1.heap.size b=.of 0)/\(∀b,Sd b->lP O 0 w.heap.size w1.heap.size b=.shared):=by
 have H:=E.size;have M:∀b,b<w.heap.size->O b≠.of 0->w1.heap[b]?=w.heap[b]?:=λb fM cr=>E.frame b fM λhs=>cr (ho b hs)
 have Y:∀c k,ch=some (c,k)->w1.heap[c]?=some (.chan 0 #[] false k k false):=λc k hc=>by
  obtain⟨k1,k2⟩:=h.chan c k hc
  grind
 have J:=runT_crowd_go (sl:=sl) h0 (show stepG Q ((0:Nat)==0) a w=.go a1 w1 es from W);rw[h.v_ h0 (.inl hrun) Y] at J;have I:∀b,b<w.heap.size->lP O 0 w.heap.size w1.heap.size b=O b:=λb hb=>oC hb
 have N:∀b,bU Ow w w1 b->lP O 0 w.heap.size w1.heap.size b=.of 0/\b<w1.heap.size:=by
  rintro b (hb|hb)
  ·have:=ho b hb;have fM:=h.lt b (by simp_all)
   grind
  ·exact⟨by unfold lP;grind,hb.2⟩
 have L:∀b,Sd b->lP O 0 w.heap.size w1.heap.size b=.shared/\b<w1.heap.size/\Rd 0 b:=λb hb=>by
  have:=iC b hb;have fM:=h.lt b (by simp_all);exact⟨by simp_all,by omega,h.tr.main b⟩
 refine⟨J,⟨by simp[h.size],h.tr.step I H (.inl rfl) N L U,λi r g hr hg=>?_,λb hb=>?_,λc k hc=>?_,λp hp=>by simpa using h.mH p hp⟩,
  ⟨I,λb hb hl=>M b hl (by grind),H,E.os,E.out,E.tape⟩,λb hb=>(N b hb).1,λb hb=>(L b hb).1⟩
 ·rw[aaL (by omega)] at hg;refine(h.iH i r g hr hg).mono I h.lt H (λb hb=>?_) E.os E.out E.tape;refine M b (h.lt b (by grind)) ?_
  grind
 ·unfold lP at hb;split at hb
  ·omega
  ·have:=h.lt b hb;omega
 ·obtain⟨h1,h2⟩:=h.chan c k hc
  grind
theorem Aside.agree{O O':Nat->Own}{w w':World}(h:Aside O O' w w')(p:∀b,O b≠.kept->b<w.heap.size){Ow Sd:aG}(ho:∀b,Ow b->O b=.of 0)(iC:∀b,Sd b->O b=.shared):aU Ow Sd w w':=
 ⟨h.size,λb hb=>h.heap b (.inl (ho b hb)) (p b (by simp_all)),λb hb=>h.heap b (.inr (.inr (iC b hb))) (p b (by simp_all)),h.os,h.out,h.tape⟩
theorem Co.phase{Sd:aG}{Stop:GS->Prop}{s:GS}(ht:WT Q true Sd Stop s)(h:Co Q ch pr O Rd pend w gs t rs)(h0:gs[0]?=some s.g)(ha:aU s.ow Sd s.w w)(ho:∀b,s.ow b->O b=.of 0)(iC:∀b,Sd b->O b=.shared)
  (H:∀s' O' gs' t' J p,vU Sd Stop s'->Co Q ch pr O' Rd pend s'.w gs' t' J->gs'[0]?=some s'.g->s'.g.status=.running->AW O O' w s'.w->(∀b,s'.ow b->O' b=.of 0)->(∀b,Sd b->O' b=.shared)->(∀b,b<w.heap.size->s'.ow b->s.ow b)->(∀b,s.ow b->s'.ow b)->gs'.size=gs.size->
   AE Q Qp (crowd gs' s'.w p) t') (sl:Option (Nat×Nat)):AE Q Qp (crowd gs w sl) t:=by
 induction ht generalizing O w gs t rs sl with
 | @stop s hr hs=>exact H ⟨s.g,w,s.ow⟩ O gs t rs sl (λw' h'=>hs w' (ha.trans h')) h h0 hr (AW.refl _ _) ho iC (λ_ _ x=>x) (λ_ x=>x) rfl
 | @go s hr G V E bH k ih=>
  refine h.Dq h0 hr (λO' w' gs' t' J p d0 Yh hc E9 has hz=>?_) sl
  replace hc:=hc.at d0
  replace has:=has.trans (Aside.at O' w' d0)
  generalize w'.at d0=w2 at hc has;have I:=ha.trans (has.agree h.lt ho iC);have Z:∀b,s.ow b->O' b=.of 0:=λb hb=>by rw[has.own b (h.lt b (by grind))];exact ho b hb
  have oa:∀b,Sd b->O' b=.shared:=λb hb=>by rw[has.own b (h.lt b (by grind))];grind
  obtain⟨e1,L,e3⟩:=bH w2 I;obtain⟨pf,mq,mO,Ru,Wq⟩:=hc.own E9 hr e1 L e3 Z oa p;have hs1:=has.size;have hs2:=L.size;refine .goes _ _ pf (ih w2 I mq (aaz (by grind)) (aU.refl _ _ _) Ru Wq (λs' O2 Cr t2 BB M x1 x2 Y W U N x7 x8 x9 x10=>?_) p);refine H s' O2 Cr t2 BB M x1 x2 Y W (has.fwd.trans (mO.trans U)) N x7 (λb hb hs=>?_) (λb hb=>x9 b (.inl hb)) (x10.trans (by simpa using hz));rcases x8 b (by omega) hs with e|e
  ·exact e
  ·omega
theorem Co.spawn(h:Co Q ch pr O Rd pend w gs t rs){a a1 child:Goroutine}{c k:Nat}(N:ch=some (c,k))(h0:gs[0]?=some a)(hrun:a.status=.running)(J:stepG Q true a w=.spawn a1 child w #[])(p:WP)(s:GS)(hp:pr gs.size=p.y)(hc:p.c=c)
  (ht:WT Q false p.sd (AtSend Q p) s) (hs:s.g=child) (M:aU s.ow p.sd s.w w) (E:∀b,¬s.ow b) (iC:∀b,p.sd b->O b=.shared) (sl:Option (Nat×Nat)):
  ∃u,runT Q (crowd gs w sl) 0=(.next (crowd ((gs.setIfInBounds 0 a1).push child) w sl),u)/\Co Q ch pr O (λg=>if g=gs.size then p.sd else Rd g) (λg=>pend g\/g=gs.size) w ((gs.setIfInBounds 0 a1).push child) (t++u) (rs++ [.tree p s]):=by
 have H:=runT_crowd_spawn (sl:=sl) h0 (show stepG Q ((0:Nat)==0) a w=.spawn a1 child w #[] from J);refine⟨_,H,⟨by simp[h.size],?_,λi r g hr hg=>?_,h.lt,h.chan,λq hq=>?_⟩⟩
 ·rw[jV];exact h.tr.spawn (by grind) p.sd
 ·by_cases hi:i<rs.length
  ·rw[abJ hi] at hr;rw[Array.getElem?_push_lt (by simp;have:=h.size;omega)] at hg;rw[<-Array.getElem?_eq_getElem,aaL (by omega)] at hg;have hm:=h.iH i r g hr hg;cases hm with
   |anT I s' hp hy hc ht ha ho iC gf=>exact .anT I s' (.inl hp) hy hc ht ha ho iC (λb hb=>by grind)
   |sends g z c k n hp hc hq=>exact .sends g z c k n (.inl hp) hc hq
   |leaves n g hp hq=>exact .leaves n g (λe=>e.elim hp (by simp_all)) hq
  ·have L:=(abi.1 hr).1;simp at L;have hi:i=rs.length:=by omega
   subst hi;rw[abK (aax _)] at hr;simp at hr;subst hr;have e:rs.length+1=(gs.setIfInBounds 0 a1).size:=by simp[h.size]
   rw[e,Array.getElem?_push_size] at hg;cases hg;rw[<-hs];exact .anT p s (.inr h.size) (by simp_all) ⟨k,by grind⟩ ht M (λb hb=>absurd hb (E b)) iC (λb hb=>by simp_all)
 ·rcases hq with hq|hq
  ·have:=h.mH q hq
   grind
  grind
end
def aea:=@List.getElem?_drop
def mi:Frame->List Frame->World->Prop:=λ_ _ _=>False
section
variable{P:Program}{St:Frame->List Frame->World->Prop}{R:Value->World->Prop}
end
structure P2(O O':Nat->Own)(w w':World):Prop where
 own:∀b,b<w.heap.size->O' b=O b\/(O' b=.kept/\∃i,i≠0/\O b=.of i)
 heap:∀b,b<w.heap.size->w'.heap[b]?=w.heap[b]?
 size:w.heap.size<=w'.heap.size
 os:w'.os=w.os
 out:w'.output=w.output
 tape:w'.tape=w.tape
def Phase(Q:Program)(Qp:Machine->Outcome->World->Trace->Prop)(f:FuncId)(ys:Array Value)(x:Value)(G:(Nat->Own)->World->Prop):Prop:=
 ∀(pr:Nat->Value) (O:Nat->Own) (Rd:Nat->aG) (w:World) (gs:Array Goroutine) (t:Trace) (rs:List Rk) (sl:Option (Nat×Nat)) (c0:Frame) (cs:List Frame),
  Co Q none pr O Rd (λ_=>False) w gs t rs->gs[0]?=some (LG (Frame.enter Q f ys .normal) (c0::cs))->G O w->
  (∀O' p w' gs' t' H E,Co Q none pr O' p (λ_=>False) w' gs' t' H->gs'[0]?=some (LG (c0.finish x) cs)->P2 O O' w w'->AE Q Qp (crowd gs' w' E) t')->
  AE Q Qp (crowd gs w sl) t
def Ends(Q:Program)(W0:World):Machine->Outcome->World->Trace->Prop:=
 λm o w t=>Conc.Good Q (λv w'=>v=.bool true/\w'.os=W0.os/\w'.output=W0.output/\w'.tape=W0.tape/\W0.heap.size<=w'.heap.size/\∀b,b<W0.heap.size->w'.heap[b]?=W0.heap[b]?) m o w t
def UL(G:(Nat->Own)->World->Prop):Prop:=∀O O' w w',G O w->(∀b,b<w.heap.size->O b=.shared->O' b=.shared/\w'.heap[b]?=w.heap[b]?)->(∀b,O b≠.kept->b<w.heap.size)->w.heap.size<=w'.heap.size->G O' w'
def qG(O:Nat->Own):Nat->Own:=λb=>match O b with| .of 0=>.kept|o=>o
theorem iX{O:Nat->Own}{b:Nat}(h:O b≠.of 0):qG O b=O b:=by
 unfold qG
 simp_all
theorem uP{O:Nat->Own}{b:Nat}(h:O b=.of 0):qG O b=.kept:=by grind [qG]
def qJ(O p:Nat->Own)(n:Nat):Nat->Own:=λb=>if b<n then(match O b with| .of 0=>.of 0|_=>p b) else p b
theorem uT{O p:Nat->Own}{n b:Nat}(hb:b<n)(h:O b=.of 0):qJ O p n b=.of 0:=by
 unfold qJ
 simp_all
theorem o_{O p:Nat->Own}{n b:Nat}(h:O b≠.of 0):qJ O p n b=p b:=by
 unfold qJ
 simp_all
theorem mX{O p:Nat->Own}{n b:Nat}(hb:n<=b):qJ O p n b=p b:=aat (by omega)
theorem P2.same{O O':Nat->Own}{w w':World}(h:P2 (qG O) O' w w'){b:Nat}(hb:b<w.heap.size)(hs:O b=.kept\/O b=.shared):O' b=O b:=by
 rcases h.own b hb with e|⟨_,i,_,e⟩
 ·grind [iX]
 grind [iX]
theorem Co.GO{Q:Program}{ch:Option (Nat×Nat)}{pr:Nat->Value}{O O':Nat->Own}{Rd:Nat->aG}{pend:Nat->Prop}{w:World}{gs:Array Goroutine}{t:Trace}{rs:List Rk}(h:Co Q ch pr O Rd pend w gs t rs)
  (E:kJ O' Rd pend w.heap.size t) (hi:∀b i,i≠0->O b=.of i->O' b=.of i) (hs:∀b,O b=.shared->O' b=.shared) (I:∀b,O' b≠.kept->b<w.heap.size) (H:∀c k,ch=some (c,k)->O' c=.kept):Co Q ch pr O' Rd pend w gs t rs:=by
 refine⟨h.size,E,λi r g hr hg=>?_,I,λc k hc=>⟨(h.chan c k hc).1,H c k hc⟩,h.mH⟩;have hm:=h.iH i r g hr hg;cases hm with
 |anT p s hp hy hc ht ha ho iC gf=>exact .anT p s hp hy hc ht ha (λb hb=>hi b _ (by omega) (ho b hb)) (λb hb=>hs b (iC b hb)) gf
 |sends g z c k n hp hc hq=>exact .sends g z c k n hp hc hq
 |leaves n g hp hq=>exact .leaves n g hp hq
section
variable{P Q:Program}[Twin P Q]{K:fO}{Sh:Nat->Prop}{Sd:aG}
theorem J8{Q:Program}{gs:Array Goroutine}{w w':World}{sl:Option (Nat×Nat)}{i:Nat}{g:Goroutine}{o:Outcome}{es:Array Event}(hi:gs[i]?=some g)(h:stepG Q (i==0) g w=.ended o w' es):
  runT Q (crowd gs w sl) i=(.ended o w',MemOp.ofEvents i g.frame.fn g.frame.place es):=by
 obtain⟨p,rfl⟩:=aah.1 hi;have E:=swapAt_of_lt p { (default:Goroutine) with status:=.finished };show runT Q { world:=w,gs:=gs,rest:= { timers:= #[],alone:=none,slice:=sl } } i=_
 grind [runT,GStep.es]
theorem Co.done{pr:Nat->Value}{O:Nat->Own}{Rd:Nat->aG}{w w1 W0:World}{gs:Array Goroutine}{t:Trace}{rs:List Rk}{a:Goroutine}{es:Array Event}{Ow:aG}{d:Nat}(h:Co Q none pr O Rd (λ_=>False) w gs t rs)(h0:gs[0]?=some a)
  (bH:stepG Q true a (w.at d)=.ended (.done (.bool true)) w1 es) (E:jM Ow (w.at d) w1) (Z:∀e∈es,EvW (bU Ow (w.at d) w1) Sd e) (ho:∀b,Ow b->O b=.of 0) (iC:∀b,Sd b->O b=.shared)
  (hold:∀b,b<W0.heap.size->w.heap[b]?=W0.heap[b]?/\(O b=.kept\/O b=.shared)) (M:W0.heap.size<=w.heap.size) (L:w.os=W0.os/\w.output=W0.output/\w.tape=W0.tape) (sl N:Option (Nat×Nat)):
  Dz Q (Ends Q W0) (crowd gs w N) t (runT Q (crowd gs (w.at d) sl) 0):=by
 have U:=J8 (sl:=sl) h0 (show stepG Q ((0:Nat)==0) a (w.at d)=.ended (.done (.bool true)) w1 es from bH);have Y:∀b,bU Ow (w.at d) w1 b->lP O 0 w.heap.size w1.heap.size b=.of 0/\b<w1.heap.size:=by
  have hs:=E.size;rintro b (hb|hb)
  ·have:=ho b hb;have fM:=h.lt b (by simp_all);exact⟨by grind [oC],abD fM hs⟩
  ·exact⟨by unfold lP;exact aay hb,hb.2⟩
 have W:∀b,Sd b->lP O 0 w.heap.size w1.heap.size b=.shared/\b<w1.heap.size/\Rd 0 b:=λb hb=>by
  have:=iC b hb;have fM:=h.lt b (by simp_all);exact⟨by grind [oC],abD fM E.size,h.tr.main b⟩
 have H:=h.tr.step (O':=lP O 0 w.heap.size w1.heap.size) (hs':=w1.heap.size) (g:=0) (fn:=a.frame.fn) (pos:=a.frame.place) (λb hb=>oC hb) E.size (.inl rfl) Y W Z;refine .ends _ _ _ U ⟨.bool true,rfl,⟨rfl,E.os.trans L.1,E.out.trans L.2.1,E.tape.trans L.2.2,aaY M E.size,λb hb=>?_⟩,H.race,H.handedOver,⟨λg hg=>?_,rfl⟩,λi g hg hi=>?_⟩
 ·rw[E.frame b (abD hb M) (λx=>by grind)];exact(hold b hb).1
 ·obtain⟨i,hi⟩:=List.getElem?_of_mem hg;rw[aea] at hi;have I:gs[i+1]?=some g:=by
   have:gs.toList[1+i]?=some g:=hi
   grind
  have J:i<rs.length:=by have:=(aah.1 I).1;have:=h.size;omega
  have hm:=h.iH i rs[i] g (aaf J) I;generalize rs[i]=r at hm;cases hm with
  |anT p s hp=>exact hp.elim
  |sends g z c k n hp=>exact hp.elim
  |leaves n g hp hq=>exact⟨n,hq.leaves⟩
 ·obtain⟨i,rfl⟩:∃j,i=j+1:=⟨i-1,by omega⟩
  have I:gs[i+1]?=some g:=hg;have J:i<rs.length:=by have:=(aah.1 I).1;have:=h.size;omega
  have hm:=h.iH i rs[i] g (aaf J) I;generalize rs[i]=r at hm;cases hm with
  |anT p s hp=>exact hp.elim
  |sends g z c k n hp=>exact hp.elim
  |leaves n g hp hq=>exact⟨n,by rw[H.wordless.deaf];exact hq.hears _ _⟩
end
def aF(n:Nat)(T:Nat->Value):Act:=⟨(Array.range n).map T,[]⟩
def up(T:Nat->Value)(d:Nat)(v:Value):Nat->Value:=λi=>if i=d then v else T i
theorem sY{n:Nat}{T:Nat->Value}{d:Nat}(v:Value):(aF n T).put (some d) v=aF n (up T d v):=by
 unfold aF Act.put;simp only[Act.mk.injEq,abQ];apply adT;intro i;simp only[ac3,ad_,Array.size_map,Array.size_range];by_cases h:d=i
 ·subst h;rw[aay rfl];by_cases hn:d<n
  ·rw[aay hn,aa_ (by simpa using hn)];simp[up]
  simp_all
 ·rw[aat h];cases e:(Array.range n)[i]? with
  |none=>rfl
  |some j=>
   have:j=i:=by
    grind
   subst this;have cr:j≠d:=λe=>h e.symm
   simp[up,cr]
theorem ae{n:Nat}{T:Nat->Value}{k:Nat}(h:k<n):(aF n T).eval (.tmp k)=T k:=by
 unfold aF Act.eval
 simp_all
theorem DO{n:Nat}{T:Nat->Value}(v:Value):(aF n T).eval (.const v)=v:=rfl
theorem um(xs:Array Value)(n:Nat)(h:xs.size<=n):(⟨xs++Array.replicate (n-xs.size) undef,[]⟩:Act)=aF n (λi=>xs.getD i undef):=by
 unfold aF;simp only[Act.mk.injEq,abQ];apply adT;intro i;rw[aev,ad_];by_cases hi:i<xs.size
 ·rw[aay hi,aa_ hi,aa_ (by simp;omega)];simp[hi]
 grind
theorem nT(Ow:aG)(w:World):bU Ow w w=Ow:=by
 funext b
 unfold bU
 grind
section
variable{Q:Program}{m:Bool}{Sd:aG}{Stop:GS->Prop}{b:Frame}{n:Nat}{T:Nat->Value}{k:List Item}{cs:List Frame}{w:World}{Ow:aG}
theorem WT.ctl{g g':Goroutine}(hr:g.status=.running)(h:∀w,stepG Q m g w=.go g' w #[])(kk:WT Q m Sd Stop ⟨g',w,Ow⟩):WT Q m Sd Stop ⟨g,w,Ow⟩:=by
 refine .go hr (λ_=>g') id (λ_=> #[]) (λw' ha=>⟨h w',jM.refl _ _,λe he=>by simp at he⟩) (λw' ha=>?_);simp only[id];rw[nT];exact kk.agree ha
theorem WT.own{g:Goroutine}(hr:g.status=.running)(h:∀w',aU Ow Sd w w'->∃g1 w1 es,stepG Q m g w'=.go g1 w1 es/\jM Ow w' w1/\(∀e∈es,EvW (bU Ow w' w1) Sd e)/\WT Q m Sd Stop ⟨g1,w1,bU Ow w' w1⟩):WT Q m Sd Stop ⟨g,w,Ow⟩:=by
 classical
 refine .go hr (λw'=>if h':aU Ow Sd w w' then(h w' h').choose else default) (λw'=>if h':aU Ow Sd w w' then(h w' h').choose_spec.choose else w') (λw'=>if h':aU Ow Sd w w' then(h w' h').choose_spec.choose_spec.choose else #[]) (λw' ha=>?_) (λw' ha=>?_)
 ·grind
 grind
theorem WT.pure{ops:Array Oper}{i:Nat}{rest:List Nat}{o:Oper}{d:Nat}{v:Value}(ho:ops[i]?=some o)(hw:Region.wanted o (yielded ops (aF n T).tmps)=true)(hk:b.kind≠.early)(hd:o.dst=some d)
  (hrun:∀w,(execOp (aF n T).eval o).run Q w=.ok (.value v) w) (p:∀w,(execOp (aF n T).eval o).events Q w #[]= #[])
  (kk:WT Q m Sd Stop ⟨G (b.at (aF n (up T d v)) (.inRegion ops rest::k)) cs,w,Ow⟩):WT Q m Sd Stop ⟨G (b.at (aF n T) (.inRegion ops (i::rest)::k)) cs,w,Ow⟩:=by
 refine WT.ctl (g':=G (b.at (aF n (up T d v)) (.inRegion ops rest::k)) cs) rfl (λw'=>?_) kk;rw[stepG_value ho hw hk (hrun w'),hd,sY];unfold listed;rw[p w'];rfl
theorem WT.value{ops:Array Oper}{i:Nat}{rest:List Nat}{o:Oper}{d:Nat}(ho:ops[i]?=some o)(hw:Region.wanted o (yielded ops (aF n T).tmps)=true)(hk:b.kind≠.early)(hd:o.dst=some d)
  (h:∀w',aU Ow Sd w w'->∃v w1,(execOp (aF n T).eval o).run Q w'=.ok (.value v) w1/\jM Ow w' w1/\(∀e∈(execOp (aF n T).eval o).events Q w' #[],EvW (bU Ow w' w1) Sd e)/\
   WT Q m Sd Stop ⟨G (b.at (aF n (up T d v)) (.inRegion ops rest::k)) cs,w1,bU Ow w' w1⟩):WT Q m Sd Stop ⟨G (b.at (aF n T) (.inRegion ops (i::rest)::k)) cs,w,Ow⟩:=by
 refine WT.own rfl λw' ha=>?_
 obtain⟨v,w1,h1,h2,E,p⟩:=h w' ha;refine⟨_,w1,_,stepG_value ho hw hk h1,h2,λe he=>E e (h_ he),?_⟩;rw[hd,sY];exact p
theorem WT.skip{ops:Array Oper}{i:Nat}{rest:List Nat}{o:Oper}(ho:ops[i]?=some o)(hw:Region.wanted o (yielded ops (aF n T).tmps)=true)(hk:b.kind≠.early)(hd:o.dst=none)
  (h:∀w',aU Ow Sd w w'->∃w1,(execOp (aF n T).eval o).run Q w'=.ok .skip w1/\jM Ow w' w1/\(∀e∈(execOp (aF n T).eval o).events Q w' #[],EvW (bU Ow w' w1) Sd e)/\
   WT Q m Sd Stop ⟨G (b.at (aF n T) (.inRegion ops rest::k)) cs,w1,bU Ow w' w1⟩):WT Q m Sd Stop ⟨G (b.at (aF n T) (.inRegion ops (i::rest)::k)) cs,w,Ow⟩:=by
 refine WT.own rfl λw' ha=>?_
 obtain⟨w1,h1,h2,E,p⟩:=h w' ha;refine⟨_,w1,_,stepG_none ho hw hk h1,h2,λe he=>E e (h_ he),?_⟩;rw[hd];exact p
theorem WT.seq{x y:Code}{a:Act}(kk:WT Q m Sd Stop ⟨G (b.at a (.code x::.code y::k)) cs,w,Ow⟩):WT Q m Sd Stop ⟨G (b.at a (.code (.seq x y)::k)) cs,w,Ow⟩:=WT.ctl rfl (λ_=>stepG_seq) kk
theorem WT.region{id:Nat}{ops:Array Oper}{a:Act}(kk:WT Q m Sd Stop ⟨G (b.at a (.inRegion ops (List.range ops.size)::k)) cs,w,Ow⟩):WT Q m Sd Stop ⟨G (b.at a (.code (.region id ops false)::k)) cs,w,Ow⟩:=WT.ctl rfl (λ_=>stepG_region) kk
theorem WT.bu{ops:Array Oper}{a:Act}(kk:WT Q m Sd Stop ⟨G (b.at a k) cs,w,Ow⟩):WT Q m Sd Stop ⟨G (b.at a (.inRegion ops []::k)) cs,w,Ow⟩:=WT.ctl rfl (λ_=>stepG_region_end) kk
theorem WT.DQ{a:Act}(kk:WT Q m Sd Stop ⟨G (b.at a k) cs,w,Ow⟩):WT Q m Sd Stop ⟨G (b.at a (.code .skip::k)) cs,w,Ow⟩:=WT.ctl rfl (λ_=>stepG_skip) kk
theorem WT.block{id:Nat}{c:Code}{a:Act}(kk:WT Q m Sd Stop ⟨G (b.at a (.code c::.inBlock id::k)) cs,w,Ow⟩):WT Q m Sd Stop ⟨G (b.at a (.code (.block id c)::k)) cs,w,Ow⟩:=WT.ctl rfl (λ_=>stepG_block) kk
theorem WT.inBlock{id:Nat}{a:Act}(kk:WT Q m Sd Stop ⟨G (b.at a k) cs,w,Ow⟩):WT Q m Sd Stop ⟨G (b.at a (.inBlock id::k)) cs,w,Ow⟩:=WT.ctl rfl (λ_=>stepG_inBlock) kk
theorem WT.loop{c:Code}{a:Act}(kk:WT Q m Sd Stop ⟨G (b.at a (.code c::.inLoop c::k)) cs,w,Ow⟩):WT Q m Sd Stop ⟨G (b.at a (.code (.loop c)::k)) cs,w,Ow⟩:=WT.ctl rfl (λ_=>stepG_loop) kk
theorem WT.inLoop{c:Code}{a:Act}(kk:WT Q m Sd Stop ⟨G (b.at a (.code c::.inLoop c::k)) cs,w,Ow⟩):WT Q m Sd Stop ⟨G (b.at a (.inLoop c::k)) cs,w,Ow⟩:=WT.ctl rfl (λ_=>stepG_inLoop) kk
theorem WT.exit{id:Nat}{k':List Item}{a:Act}(h:exitTo id k=some k')(kk:WT Q m Sd Stop ⟨G (b.at a k') cs,w,Ow⟩):WT Q m Sd Stop ⟨G (b.at a (.code (.exit id)::k)) cs,w,Ow⟩:=WT.ctl rfl (λ_=>stepG_exit h) kk
theorem WT.cond{c:Operand}{x y:Code}{t:Bool}{a:Act}(h:a.eval c=.bool t)(kk:WT Q m Sd Stop ⟨G (b.at a (.code (if t then x else y)::k)) cs,w,Ow⟩):WT Q m Sd Stop ⟨G (b.at a (.code (.cond c x y)::k)) cs,w,Ow⟩:=
 WT.ctl rfl (λ_=>stepG_cond h) kk
end
def Holds(w:World)(b:Nat)(xs:Array Value)(e:TypeId):Prop:=w.heap[b]?=some (.cells xs e (0,0))
theorem Holds.agree{Ow Sd:aG}{w w':World}{b:Nat}{xs:Array Value}{e:TypeId}(h:Holds w b xs e)(ha:aU Ow Sd w w')(hb:Ow b\/Sd b):Holds w' b xs e:=by
 unfold Holds;rcases hb with hb|hb
 ·rw[ha.own b hb];exact h
 ·rw[ha.oV b hb];exact h
theorem Holds.cell{w:World}{b:Nat}{xs:Array Value}{e:TypeId}(h:Holds w b xs e)(i:Nat):w.cell? ⟨b,i,none⟩=xs[i]?:=by
 unfold World.cell?;rw[show w.heap[(⟨b,i,none⟩:Addr).block]?=some (.cells xs e (0,0)) from h];simp
def agA:=@Array.size_push
section
variable{Q:Program}{m:Bool}{Sd:aG}{Stop:GS->Prop}{b:Frame}{n:Nat}{T:Nat->Value}{k:List Item}{cs:List Frame}{w:World}{Ow:aG}
theorem heap_alloc(w:World)(o:Obj):(w.alloc o).heap=w.heap.push o:=rfl
structure eo(Ow Sd:aG)(n:Nat):Prop where
 ow:∀c,Ow c->c<n
 sd:∀c,Sd c->c<n
 yz:∀c,Ow c->¬Sd c
theorem eo.mono{Ow Sd:aG}{n p:Nat}(h:eo Ow Sd n)(hn:n<=p):eo Ow Sd p:=⟨λc hc=>abD (h.ow c hc) hn,λc hc=>abD (h.sd c hc) hn,h.yz⟩
def But(B:Nat)(Ow:aG):aG:=λc=>Ow c/\c≠B
theorem WT.new{ops:Array Oper}{i:Nat}{rest:List Nat}{o:Oper}{d:Nat}{xs:Array Value}{e:TypeId}(ho:ops[i]?=some o)(hw:Region.wanted o (yielded ops (aF n T).tmps)=true)(hk:b.kind≠.early)(hd:o.dst=some d)
  (p:eo Ow Sd w.heap.size)
  (hrun:∀w',(execOp (aF n T).eval o).run Q w'=.ok (.value (.pointer (some ⟨w'.heap.size,0,none⟩))) (w'.alloc (.cells xs e))) (H:∀w',(execOp (aF n T).eval o).events Q w' #[]= #[])
  (kk:∀w1 B E,Holds w1 B xs e->(∀c,E c↔(Ow c\/c=B))->w.heap.size<=B->eo E Sd w1.heap.size->aU Ow Sd w w1->
   WT Q m Sd Stop ⟨G (b.at (aF n (up T d (.pointer (some ⟨B,0,none⟩)))) (.inRegion ops rest::k)) cs,w1,E⟩):WT Q m Sd Stop ⟨G (b.at (aF n T) (.inRegion ops (i::rest)::k)) cs,w,Ow⟩:=by
 refine WT.value ho hw hk hd λw' ha=>?_
 have hs:=ha.size;have I:(w'.alloc (.cells xs e)).heap.size=w'.heap.size+1:=by rw[heap_alloc,agA]
 have hold:∀c,c<w'.heap.size->(w'.alloc (.cells xs e)).heap[c]?=w'.heap[c]?:=λc hc=>by
  rw[heap_alloc,abP,aat (by omega)]
 have hn:∀c,bU Ow w' (w'.alloc (.cells xs e)) c↔(Ow c\/c=w'.heap.size):=λc=>by
  unfold bU
  grind
 refine⟨_,_,hrun w',⟨by omega,λc hc _=>hold c hc,rfl,rfl,rfl⟩,λev he=>by simp_all,?_⟩;refine kk _ w'.heap.size _ ?_ hn hs ⟨λc hc=>?_,λc hc=>?_,λc hc hd=>?_⟩ ⟨by omega,λc hc=>?_,λc hc=>?_,ha.os,ha.out,ha.tape⟩
 ·unfold Holds;rw[heap_alloc,abP,aay rfl]
 ·rcases(hn c).1 hc with h|h
  ·have:=p.ow c h;omega
  ·omega
 ·have:=p.sd c hc;omega
 ·rcases(hn c).1 hc with h|h
  ·exact p.yz c h hd
  ·have:=p.sd c hd;omega
 ·rw[hold c (by have:=p.ow c hc;omega)];exact ha.own c hc
 ·rw[hold c (by have:=p.sd c hc;omega)];exact ha.oV c hc
theorem WT.load{ops:Array Oper}{i:Nat}{rest:List Nat}{o:Oper}{d:Nat}{xs:Array Value}{e:TypeId}{B:Nat}{v:Value}(ho:ops[i]?=some o)(hw:Region.wanted o (yielded ops (aF n T).tmps)=true)(hk:b.kind≠.early)(hd:o.dst=some d)
  (p:Ow B\/Sd B) (hh:Holds w B xs e)
  (hrun:∀w',Holds w' B xs e->(execOp (aF n T).eval o).run Q w'=.ok (.value v) w') (E:∀w',Holds w' B xs e->∀ev∈(execOp (aF n T).eval o).events Q w' #[],∃j,ev=⟨.cell ⟨B,j,none⟩,false,false⟩)
  (kk:WT Q m Sd Stop ⟨G (b.at (aF n (up T d v)) (.inRegion ops rest::k)) cs,w,Ow⟩):WT Q m Sd Stop ⟨G (b.at (aF n T) (.inRegion ops (i::rest)::k)) cs,w,Ow⟩:=by
 refine WT.value ho hw hk hd λw' ha=>⟨v,w',hrun w' (hh.agree ha p),jM.refl _ _,λev he=>?_,?_⟩
 ·obtain⟨j,rfl⟩:=E w' (hh.agree ha p) ev he;rw[nT];exact⟨rfl,p.imp id λh=>⟨h,rfl⟩⟩
 ·rw[nT];exact kk.agree ha
theorem WT.store{ops:Array Oper}{i:Nat}{rest:List Nat}{o:Oper}{xs ys:Array Value}{e:TypeId}{B:Nat}(ho:ops[i]?=some o)(hw:Region.wanted o (yielded ops (aF n T).tmps)=true)(hk:b.kind≠.early)(hd:o.dst=none)
  (E:Ow B) (hh:Holds w B xs e)
  (hrun:∀w',Holds w' B xs e->(execOp (aF n T).eval o).run Q w'=.ok .skip { w' with heap:=w'.heap.setIfInBounds B (.cells ys e) }) (I:∀w',Holds w' B xs e->∀ev∈(execOp (aF n T).eval o).events Q w' #[],∃j wr,ev=⟨.cell ⟨B,j,none⟩,wr,false⟩)
  (kk:∀w1,Holds w1 B ys e->aU (But B Ow) Sd w w1->WT Q m Sd Stop ⟨G (b.at (aF n T) (.inRegion ops rest::k)) cs,w1,Ow⟩) (iC:¬Sd B):WT Q m Sd Stop ⟨G (b.at (aF n T) (.inRegion ops (i::rest)::k)) cs,w,Ow⟩:=by
 refine WT.skip ho hw hk hd λw' ha=>?_
 have p:=hh.agree ha (.inl E);have L:B<w'.heap.size:=(aah.1 p).1;have J:({ w' with heap:=w'.heap.setIfInBounds B (.cells ys e) } :World).heap.size=w'.heap.size:=by simp
 have cr:∀c,c≠B->({ w' with heap:=w'.heap.setIfInBounds B (.cells ys e) } :World).heap[c]?=w'.heap[c]?:=λc hc=>aaL (λe=>hc e.symm)
 have hn:bU Ow w' { w' with heap:=w'.heap.setIfInBounds B (.cells ys e) } =Ow:=by
  funext c
  unfold bU
  grind
 refine⟨_,hrun w' p,⟨by omega,λc hc H=>cr c (λe=>H (e▸E)),rfl,rfl,rfl⟩,λev he=>?_,?_⟩
 ·obtain⟨j,wr,rfl⟩:=I w' p ev he;rw[hn];exact⟨rfl,.inl E⟩
 ·rw[hn];refine kk _ ?_ ⟨by rw[J];exact ha.size,λc hc=>(cr c hc.2).trans (ha.own c hc.1),λc hc=>(cr c (λe=>iC (e▸hc))).trans (ha.oV c hc),ha.os,ha.out,ha.tape⟩;unfold Holds
  simp_all
theorem WT.enter{ops:Array Oper}{i:Nat}{rest:List Nat}{o:Oper}{f:FuncId}{args:Array Value}(ho:ops[i]?=some o)(hw:Region.wanted o (yielded ops (aF n T).tmps)=true)(hk:b.kind≠.early)
  (hrun:∀w',(execOp (aF n T).eval o).run Q w'=.ok (.enter f args) w') (p:∀w',(execOp (aF n T).eval o).events Q w' #[]= #[])
  (kk:WT Q m Sd Stop ⟨LG (Frame.enter Q f args .normal) (b.at (aF n T) (.inRegion ops (i::rest)::k)::cs),w,Ow⟩):WT Q m Sd Stop ⟨G (b.at (aF n T) (.inRegion ops (i::rest)::k)) cs,w,Ow⟩:=by
 refine WT.ctl (g':=LG (Frame.enter Q f args .normal) (b.at (aF n T) (.inRegion ops (i::rest)::k)::cs)) rfl (λw'=>?_) kk;rw[stepG_enter ho hw hk (hrun w')];unfold listed;rw[p w'];rfl
theorem j0{ops:Array Oper}{i:Nat}{rest:List Nat}{o:Oper}{d:Nat}{v:Value}(ho:ops[i]?=some o)(hd:o.dst=some d):(b.at (aF n T) (.inRegion ops (i::rest)::k)).finish v=b.at (aF n (up T d v)) (.inRegion ops rest::k):=by
 rw[Frame.finish_at,ho];simp only[abN,hd,sY]
end
def afV:=@Nat.add_comm
def bare:Obj:=.cells #[] 0 (0,0)
def shown:Option Obj->Obj
 |some (.cells xs e _)=>.cells xs e (0,xs.size)
 |_=>bare
abbrev D1:=Nat->Option (Nat×Nat×Nat)
def noW:D1:=λ_=>none
def cut(o n:Nat):Option Obj->Obj
 |some (.cells xs _ _)=>.cells (xs.extract o (o+n)) 1000000 (0,(xs.extract o (o+n)).size)
 |_=>bare
theorem arK{o n:Nat}{xs:Array Value}{i:Nat}{x:Value}(h:(xs.extract o (o+n))[i]?=some x):xs[i+o]?=some x:=by
 rw[Array.getElem?_extract] at h;split at h
 ·rw[afV];exact h
 ·cases h
def cK(V:D1)(D:Nat->Bool)(w:World):World:= { w with heap:=(Array.range w.heap.size).map λb=>match V b with|some (c,o,n)=>cut o n w.heap[c]?|none=>if D b then shown w.heap[b]? else bare }
def B6(V:D1)(D:Nat->Bool):Ren:=λb=>match V b with|some (c,o,_)=>some (c,o)|none=>if D b then some (b,0) else none
def Vw(P:Program)(V:D1)(D:Nat->Bool):Prop:=∀b c o n,V b=some (c,o,n)->D c=true/\P.globals.size<=b/\P.globals.size<=c/\P.info? 1000000=none
theorem aq6(P:Program)(D:Nat->Bool):Vw P noW D:=λ_ _ _ _ h=>by cases h
section
variable{V:D1}{D:Nat->Bool}{w:World}
theorem fa{b c d:Nat}(h:B6 V D b=some (c,d)):(V b=none/\D b=true/\c=b/\d=0)\/∃n,V b=some (c,d,n):=by
 unfold B6 at h;split at h
 ·rename_i c' o n e;cases h;exact .inr ⟨n,e⟩
 ·rename_i e;split at h
  ·cases h;exact .inl ⟨e,by assumption,rfl,rfl⟩
  ·cases h
theorem mL{b:Nat}(h:D b=true)(hv:V b=none):B6 V D b=some (b,0):=by
 unfold B6;rw[hv];exact aay h
theorem asj{b c o n:Nat}(hv:V b=some (c,o,n)):B6 V D b=some (c,o):=by unfold B6;rw[hv]
theorem ar6{P:Program}(hV:Vw P V D){b c d:Nat}(h:B6 V D b=some (c,d)):D c=true:=by
 rcases fa h with ⟨_,h1,rfl,_⟩|⟨n,h1⟩
 ·exact h1
 ·exact(hV _ _ _ _ h1).1
structure mh(S:FuncId->Prop)(V:D1)(D:Nat->Bool)(w:World):Prop where
 all:∀c,D c=true->V c=none->∃xs e fr,w.heap[c]?=some (.cells xs e fr)/\∀(i:Nat) (x:Value),xs[i]?=some x->aI S (B6 V D) x x
 win:∀b c o n,V b=some (c,o,n)->b<w.heap.size/\∃xs e fr,w.heap[c]?=some (.cells xs e fr)/\∀(i:Nat) (x:Value),(xs.extract o (o+n))[i]?=some x->aI S (B6 V D) x x
 lt:∀c,D c=true->c<w.heap.size
theorem mh.same{P:Program}(hV:Vw P V D){S:FuncId->Prop}{w':World}(h:mh S V D w)(hz:w.heap.size<=w'.heap.size)(hs:∀b,D b=true->w'.heap[b]?=w.heap[b]?):mh S V D w':=
 ⟨λc hc hv=>by rw[hs c hc];exact h.all c hc hv,λb c o n hv=>by rw[hs c (hV _ _ _ _ hv).1];exact⟨abD (h.win b c o n hv).1 hz,(h.win b c o n hv).2⟩,λc hc=>abD (h.lt c hc) hz⟩
theorem mh.dom{S:FuncId->Prop}(h:mh S V D w){b:Nat}{x:Nat×Nat}(e:B6 V D b=some x):b<w.heap.size:=by
 rcases fa (c:=x.1) (d:=x.2) e with ⟨_,h1,_⟩|⟨n,h1⟩
 ·exact h.lt b h1
 ·exact(h.win _ _ _ _ h1).1
theorem lh:(cK V D w).heap.size=w.heap.size:=by simp[cK]
theorem aqL{b:Nat}(hb:b<w.heap.size):(cK V D w).heap[b]?=some (match V b with|some (c,o,n)=>cut o n w.heap[c]?|none=>if D b then shown w.heap[b]? else bare):=by
 simp only[cK,ad_];rw[aa_ (by grind)];simp only[Array.getElem_range,acz]
theorem kx{c:Nat}(hc:D c=true)(hv:V c=none){xs:Array Value}{e:TypeId}{fr:Nat×Nat}(h:w.heap[c]?=some (.cells xs e fr)):(cK V D w).heap[c]?=some (.cells xs e (0,xs.size)):=by
 rw[aqL (aah.1 h).1,hv];simp only[hc,acC,h,shown]
theorem aqr{b c o n:Nat}(hb:b<w.heap.size)(hv:V b=some (c,o,n)){xs:Array Value}{e:TypeId}{fr:Nat×Nat}(h:w.heap[c]?=some (.cells xs e fr)):(cK V D w).heap[b]?=some (.cells (xs.extract o (o+n)) 1000000 (0,(xs.extract o (o+n)).size)):=by
 rw[aqL hb,hv];simp only[h,cut]
theorem wI:J (cK V D w):=λb d p h=>by
 have hb:b<w.heap.size:=by have:=(aah.1 h).1;rwa[lh] at this
 rw[aqL hb] at h;have hs:∀o:Option Obj,∃xs e fr,shown o=.cells xs e fr:=λo=>by unfold shown bare;split <;>exact⟨_,_,_,rfl⟩
 have hc:∀a k (o:Option Obj),∃xs e fr,cut a k o=.cells xs e fr:=λa k o=>by unfold cut bare;split <;>exact⟨_,_,_,rfl⟩
 split at h
 ·rename_i c o n _;obtain⟨_,_,_,e⟩:=hc o n w.heap[c]?;rw[e] at h;cases h
 ·split at h
  ·obtain⟨_,_,_,e⟩:=hs w.heap[b]?;rw[e] at h;cases h
  ·cases h
end
section
variable{P Q:Program}[Twin P Q]{K:fO}{Sd Ow:aG}
theorem qe{S:FuncId->Prop}{CO:Code->Prop}{V:D1}{D:Nat->Bool}{w:World}(hV:Vw P V D)(h:mh S V D w)(hg:P.globals.size<=w.heap.size):cp P S CO (λb=>b<w.heap.size) (B6 V D) (cK V D w) w:=by
 refine⟨λb b' c d d' h1 h2=>.inr ⟨h.dom h1,h.dom h2⟩,λb c d h1 hs=>absurd (h.dom h1) hs,λb c d h1 _=>?_,λb c d h1 _=>?_,λb hb=>by rw[lh];exact hb,λb c d h1 E=>?_,by rw[lh];exact hg,hg⟩
 ·rcases fa h1 with ⟨hv,hb,rfl,rfl⟩|⟨n,hv⟩
  ·obtain⟨xs,e,fr,h2,p⟩:=h.all c hb hv;exact⟨_,_,_,xs,e,fr,kx hb hv h2,aax _,h2,λi x hx=>⟨x,hx,p i x hx⟩⟩
  ·obtain⟨hb,xs,e,fr,h2,p⟩:=h.win _ _ _ _ hv;exact⟨_,_,_,xs,e,fr,aqr hb hv h2,aax _,h2,λi x hx=>⟨x,arK hx,p i x hx⟩⟩
 ·rcases fa h1 with ⟨hv,hb,rfl,rfl⟩|⟨n,hv⟩
  ·obtain⟨xs,e,fr,h2,p⟩:=h.all c hb hv;refine .inl ⟨rfl,?_⟩;unfold World.shape?;rw[kx hb hv h2,h2]
  ·obtain⟨hb,xs,e,fr,h2,p⟩:=h.win _ _ _ _ hv;refine .inr ⟨1000000,(xs.extract d (d+n)).size,?_,(hV _ _ _ _ hv).2.2.2⟩;unfold World.shape?;rw[aqr hb hv h2]
 ·rcases fa h1 with ⟨hv,hb,rfl,rfl⟩|⟨n,hv⟩
  ·obtain⟨xs,e,fr,h2,p⟩:=h.all c hb hv;refine⟨rfl,rfl,λ_=>?_⟩;unfold World.shape?;rw[kx hb hv h2,h2]
  ·have:=hV _ _ _ _ hv;omega
theorem uo{V:D1}{D:Nat->Bool}{w:World}(hV:Vw P V D){S:FuncId->Prop}(h:mh S V D w)(iC:∀b,D b=true->Sd b)(hl:eo Ow Sd w.heap.size):mn (λb=>b<w.heap.size) (B6 V D) Ow Sd w.heap.size:=
 ⟨λb c d e=>hl.sd _ (iC _ (ar6 hV e)),λb c d e hs=>absurd (h.dom e) hs,λb c d e _=>iC _ (ar6 hV e),hl.ow,hl.yz,hl.sd⟩
structure Setup(P Q:Program)[Twin P Q](K0 K:fO):Prop where
 self: @Env P P (Twin.self P) K0.S (K0.CO P) K0.g K0.H
 ai8:∀f,K0.j4 f=false
 env:Env P Q K.S (K.CO P) K.g K.H
 j4:∀f,K.j4 f=true->Twin.B P Q f
 sub:∀f,K.s f=true->K0.s f=true
 cz:K0.g=K.g
theorem xV(p:Setup P Q K K)(hnb:∀f,K.j4 f=false){f:FuncId}(hf:K.s f=true)(hb:∃fn c,P.funcs[f]?=some fn/\fn.body=some c){Sh:Nat->Prop}{ρ:Ren}{v w:World}(L:cp P K.S (K.CO P) Sh ρ v w)(I:zo K.g ρ)(H:J v)
  (hl:mn Sh ρ Ow Sd w.heap.size) {Kp:aG} (Y:∀c,Kp c->Ow c/\∀b d,ρ b≠some (c,d)) {xs ys:Array Value} (hy:AR K.S ρ xs ys) {R:Value->World->Prop} (N:∀x v t,R x v->R x { v with tape:=t })
  (hc:∀t:Nat->Question->Nat,Calls P f xs { v with tape:=t } fun| .returned x,v=>R x v|_,_=>False)
  {Stop:GS->Prop} {m:Bool} {c0:Frame} {cs:List Frame}
  (kk:∀ρ1 x x' v1 w1 E,ρ.le ρ1->(∀b,Ow b->E b)->mn Sh ρ1 E Sd w1.heap.size->cp P K.S (K.CO P) Sh ρ1 v1 w1->(∀b,b<w.heap.size->E b->Ow b)->w.heap.size<=w1.heap.size->
   aI K.S ρ1 x x'->R x v1->J v1->aU Kp Sd w w1->(∀c,Kp c->∀b d,ρ1 b≠some (c,d))->WT Q m Sd Stop ⟨LG (c0.finish x') cs,w1,E⟩):
  WT Q m Sd Stop ⟨LG (Frame.enter Q f ys .normal) (c0::cs),w,Ow⟩:=by
 have M:gu P mi R (Frame.enter P f xs .normal) [] v:=
  pC p.self p.ai8 hc N hf hb (λ_ _ _ h=>h.elim) I L hy H
 have W:gy P Q K Sh mi R ρ (Frame.enter P f xs .normal) [] v (Frame.enter Q f ys .normal) [] w:=
  ⟨M,I,L,⟨fL.enter p.env hf hy hb,.nil,rfl⟩,H⟩
 refine W.tree (bs:=c0::cs) p.env p.j4 (λ_ _ _ h=>h.elim) hl Y (λO Uy e=>?_) (λe=>by cases e) ?_
 ·grind
 ·intro g ρ1 xs dG v1 Z fH w1 E _ _ _ _ _ _ U _;have:=U.j4;have:=this.1
  simp_all
theorem AM(M:Setup P Q K K)(hnb:∀f,K.j4 f=false){f:FuncId}(hf:K.s f=true)(hb:∃fn c,P.funcs[f]?=some fn/\fn.body=some c){V:D1}{D:Nat->Bool}{w:World}(hV:Vw P V D)(H:mh K.S V D w)(hg:P.globals.size<=w.heap.size)(E:∀g,K.g g=true->D g=true/\V g=none)
  (iC:∀b,D b=true->Sd b) (hl:eo Ow Sd w.heap.size) {Kp:aG} (L:∀c,Kp c->Ow c) {xs ys:Array Value} (hy:AR K.S (B6 V D) xs ys) {R:Value->World->Prop} (N:∀x v t,R x v->R x { v with tape:=t })
  (hc:∀t:Nat->Question->Nat,Calls P f xs { cK V D w with tape:=t } fun| .returned x,v=>R x v|_,_=>False)
  {Stop:GS->Prop} {m:Bool} {c0:Frame} {cs:List Frame}
  (kk:∀ρ1 x x' v1 w1 p,(B6 V D).le ρ1->(∀b,Ow b->p b)->mn (λb=>b<w.heap.size) ρ1 p Sd w1.heap.size->cp P K.S (K.CO P) (λb=>b<w.heap.size) ρ1 v1 w1->(∀b,b<w.heap.size->p b->Ow b)->w.heap.size<=w1.heap.size->
   aI K.S ρ1 x x'->R x v1->J v1->aU Kp Sd w w1->(∀c,Kp c->∀b d,ρ1 b≠some (c,d))->WT Q m Sd Stop ⟨LG (c0.finish x') cs,w1,p⟩):
  WT Q m Sd Stop ⟨LG (Frame.enter Q f ys .normal) (c0::cs),w,Ow⟩:=
 xV M hnb hf hb (qe hV H hg) (λg I=>mL (E g I).1 (E g I).2) wI (uo hV H iC hl) (λc hc=>⟨L c hc,λb d e=>hl.yz _ (L _ hc) (iC _ (ar6 hV e))⟩) hy N hc kk
end
end Go.Proofs.YtjagmhagphbfcaaGreatDoor
