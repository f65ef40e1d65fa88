/- Lemmas, part 16. -/
import Derived.RangeFuncCalls
import Derived.RangeFuncIn
import Derived.OrdersIn
import Derived.LoopNIn
import Derived.Test.YtjagmhagphbfcaaGreatDoorO15
set_option maxRecDepth 100000
set_option linter.all false
namespace Go.Proofs.YtjagmhagphbfcaaGreatDoor
open Go Go.Proofs
section
variable{P:Program}{F:Fence}{n:Nat}
def Wd(F:Fence):Prop:=F=Fence.wide\/∃l,F=Fence.wide.inRound l
theorem Wd.fn(h:Wd F)(f:FuncId):F.fn f:=by rcases h with rfl|⟨l,rfl⟩ <;>trivial
theorem Wd.depth(h:Wd F):F.depth.isSome=true->1<=n:=by rcases h with rfl|⟨l,rfl⟩ <;>simp[Fence.wide]
theorem Wd.calls(h:Wd F){f:FuncId}{args:Array Value}{w:World}{R:Ending->World->Prop}(hc:Calls P f args w R):CallsIn F n P f args w R:=by
 rcases h with rfl|⟨l,rfl⟩
 ·exact callsIn_wide.2 hc
 ·exact(callsIn_wide.2 hc).inRound l
theorem Wd.rows(h:Wd F){row:String}{args:Array Value}{w:World}{R:Value->World->Prop}(hc:Rows P row args w R):RowsIn F n P row args w R:=by
 have this:RowsIn Fence.wide n P row args w R:=λc cs _=>let ⟨v,w',r,s⟩:=hc c cs;⟨v,w',r,stepsIn_wide.2 s⟩
 rcases h with rfl|⟨l,rfl⟩
 ·exact this
 ·exact this
variable{Q:Exit->Act->World->Prop}{ops:Array Oper}
theorem Wd.upon(h:Wd F){o:Oper}{a:Act}{K p:Act->World->Prop}(hk:∀a w,K a w->p a w)(hq:∀a w,¬Q .outgrown a w){r:Result Next}(hu:o.upon P a K Q r):o.uponIn F n P a p Q r:=by
 cases r with
 |ok nx w'=>
  cases nx with
  |value v=>exact hk _ _ hu
  |skip=>exact hk _ _ hu
  |defer d=>exact hk _ _ hu
  |enter f args=>
   refine⟨h.depth,h.calls (Calls.mono hu ?_)⟩
   grind
  |row row args=>exact⟨h.depth,h.rows (Rows.mono hu λv E he=>hk _ _ he)⟩
  |_=>exact hu.elim
 |halt s w'=>
  cases s with
  |panic v=>exact hu
  |_=>exact hu.elim
theorem Wd.anD(h:Wd F)(hq:∀a w,¬Q .outgrown a w)(hd:∀(i:Nat) (o:Oper),ops[i]?=some o->∀c,o.op≠.defer c):∀(l:List Nat) (a:Act) (w:World),wpOps P ops Q l a w->wpOpsIn F n P ops Q l a w
 | [],a,w,hw=>hw
 |i::l,a,w,hw=>by
  simp only[wpOps] at hw;simp only[wpOpsIn];cases ho:ops[i]? with
  |none=>rw[ho] at hw;exact Wd.anD h hq hd l a w hw
  |some o=>
   rw[ho] at hw;simp only at hw ⊢;split at hw
   ·rename_i hg;rw[aay hg];rcases hw with hw|⟨_,a',w',hl⟩
    ·refine⟨λf _=>h.fn f,?_⟩;rw[Oper.semAt_eq _ _ _ (hd i o ho)];exact h.upon (λa w hk=>Wd.anD h hq hd l a w hk) hq hw
    simp_all
   ·rename_i hg;rw[aat hg];exact⟨λf _=>h.fn f,Wd.anD h hq hd l _ w hw⟩
def G8(o:Oper):Bool:=match o.op with
 | .defer _=>false
 |_=>true
def nd:Code->Bool
 | .region _ ops _=>ops.toList.all G8
 | .seq x y=>nd x&&nd y
 | .cond _ x y=>nd x&&nd y
 | .block _ c=>nd c
 | .loop c=>nd c
 |_=>true
theorem G7(h:ops.toList.all G8=true)(i:Nat)(o:Oper)(ho:ops[i]?=some o)(c:Call):o.op≠.defer c:=by
 grind [G8]
variable{g0:Gh}{w0:World}{tb:qd}{mt:Nat->Bool}{s s':AS}{a:Act}{w:World}
theorem QS.out{Q:Ex->AS->Prop}(a:Act)(w:World):¬QS P g0 w0 Q .outgrown a w:=by
 rintro⟨x,s,h,_⟩;cases h
theorem GN(H:Wd F)(E:jb P tb g0)(hm:P.follows .mixedOrders=true){id:Nat}{draw:Bool}(hnd:ops.toList.all G8=true)(W:draw=true->Region.lexB .any ops=true/\oz mt ops=true)(hs:FL P tb mt ops s=some s')(h:ST P g0 w0 s a w)(hq:∀a w,¬Q .outgrown a w)(O:∀a' w',ST P g0 w0 s' a' w'->Q .normal a' w'):
  (Code.region id ops draw).wpIn F n P Q a w:=by
 obtain⟨g,m,J,I⟩:=h;unfold FL at hs;cases ha:fJ P tb mt (λj=>(ops[j]?).bind (·.dst)) 0 ops.toList s with
 |none=>simp_all
 |some s1=>
  rw[ha] at hs;simp only[acz,Option.some.injEq] at hs;have fin:∀(s2:AS) g' w' m' (a':Act),s2=s1->SR P g0 w0 (λj=>s.nx+ops.size<=j) s2 g' w' m' a'.tmps->a'.defers= []->Q .normal a' w':=λs2 g' w' m' a' e k1 k2=>by
   subst e;refine O a' w' ⟨g',m',?_,k2⟩;rw[<-hs];exact⟨k1.size,k1.tmps,k1.free,k1.boxes,k1.cD,k1.cB,k1.c_,k1.vd,k1.wi,k1.ext,k1.keeps,k1.gi,k1.fV,k1.pins⟩
  cases draw with
  |false=>
   refine wpIn_region (H.anD hq (G7 hnd) _ _ _ ?_);have:=qm (g0:=g0) (w0:=w0) E ops.toList 0 s s1 g w m a (Q:=Q) (λj=>by simp) ha (by omega) I (λg' w' m' a' k1 k2=>fin s1 g' w' m' a' rfl (by grind) k2);rw[afd];omega
  |true=>
   obtain⟨Y,U⟩:=W rfl;refine wpIn_region_draw λt=>H.anD hq (G7 hnd) _ _ _ ?_
   simp only[Region.schedule,hm,Bool.true_or,acC];refine wpAny_sound ops.size t _ a _ ?_;simp only[Region.lexB,aaZ] at Y;have p:=yh U (K:=λs2=>s2=s1) ops.toList 0 (Array.replicate ops.size false) s s1 (λj Z _ h=>by
    rw[aba,adY] at h
    grind) (λj _=>(J.free _ (Nat.le_add_right _ _)).1) (λj _=>aet _) (λj=>by simp) (by grind) ha rfl
   rw[ac5] at p;refine PD E ops.size _ s g _ m a p (by simp) (J.drawn.sub λj N=>N.1) I (λs' g' w' m' a' k1 k2 M L=>fin s' g' w' m' a' k1 M L)
theorem lC(E:Wd F)(p:jb P tb g0)(hm:P.follows .mixedOrders=true):∀(c:Code) (Q:Ex->AS->Prop) (s:AS) (a:Act) (w:World),nd c=true->awp P tb mt c Q s->ST P g0 w0 s a w->c.wpIn F n P (QS P g0 w0 Q) a w
 | .skip,Q,s,a,w,_,h,hs=>wpIn_skip ⟨_,s,rfl,h,hs⟩
 | .region id ops draw,Q,s,a,w,hn,h,hs=>by
  obtain⟨M,s',s2,h1,N,h2⟩:=h;exact GN E p hm hn M h1 hs (QS.out) (λa' w' hs'=>⟨_,s2,rfl,h2,hs'.wk N⟩)
 | .seq x y,Q,s,a,w,hn,h,hs=>by
  unfold nd at hn;rw[aaZ] at hn;refine wpIn_seq (wpIn_mono (lC E p hm x _ s a w hn.1 h hs) ?_);rintro e a' w' ⟨x',s',he,hq,hs'⟩;cases e <;>simp only[c8,Option.some.injEq,reduceCtorEq] at he <;>subst he
  ·exact lC E p hm y Q s' a' w' hn.2 hq hs'
  ·exact⟨_,s',rfl,hq,hs'⟩
  ·exact⟨_,s',rfl,hq,hs'⟩
 | .cond c x y,Q,s,a,w,hn,h,hs=>by
  obtain⟨g,m,I,J⟩:=hs;unfold nd at hn;rw[aaZ] at hn;unfold awp at h;have hc:=I.ev c;split at h
  ·rename_i heq;rw[heq] at hc;exact wpIn_cond_true hc.b (lC E p hm x Q s a w hn.1 h ⟨g,m,I,J⟩)
  ·rename_i heq;rw[heq] at hc;exact wpIn_cond_false hc.b (lC E p hm y Q s a w hn.2 h ⟨g,m,I,J⟩)
  ·exact h.elim
 | .block id c,Q,s,a,w,hn,h,hs=>by
  unfold nd at hn;refine wpIn_block (wpIn_mono (lC E p hm c _ s a w hn h hs) ?_);rintro e a' w' ⟨x',s',he,hq,hs'⟩;cases e <;>simp only[c8,Option.some.injEq,reduceCtorEq] at he <;>subst he
  ·exact⟨_,s',rfl,hq,hs'⟩
  ·rename_i j;simp only at hq;simp only[Exit.inBlock];split at hq
   ·rename_i H;rw[aay H];exact⟨_,s',rfl,hq,hs'⟩
   ·rename_i H;rw[aat H];exact⟨_,s',rfl,hq,hs'⟩
  ·exact⟨_,s',rfl,hq,hs'⟩
 | .loop c,Q,s,a,w,hnd,h,hs=>by
  unfold nd at hnd;obtain⟨k,hk⟩:=h;refine wpIn_loop_rounds k ?_;have key:∀(k:Nat) (s:AS) (a:Act) (w:World),rv (awp P tb mt c) Q k s->ST P g0 w0 s a w->Code.roundsIn F n P c (QS P g0 w0 Q) k a w:=by
   intro k
   induction k with
   |zero=>intro s a w h _;exact h.elim
   |succ k L=>
    intro s a w h O;rw[roundsIn_succ];refine wpIn_mono (lC E p hm c _ s a w hnd h O) ?_;rintro e a' w' ⟨x',s',he,hq,hs'⟩;cases e <;>simp only[c8,Option.some.injEq,reduceCtorEq] at he <;>subst he
    ·exact L s' a' w' hq hs'
    ·exact⟨_,s',rfl,hq,hs'⟩
    ·exact⟨_,s',rfl,hq,hs'⟩
  grind
 | .exit id,Q,s,a,w,_,h,hs=>wpIn_exit ⟨_,s,rfl,h,hs⟩
 | .ret,Q,s,a,w,_,h,hs=>wpIn_ret ⟨_,s,rfl,h,hs⟩
 | .label l,Q,s,a,w,_,h,hs=>wpIn_label ⟨_,s,rfl,h,hs⟩
 | .rangeFunc ..,_,_,_,_,_,h,_=>h.elim
 | .scope ..,_,_,_,_,_,h,_=>h.elim
 | .goto ..,_,_,_,_,_,h,_=>h.elim
 | .refuse ..,_,_,_,_,_,h,_=>h.elim
end
def adZ:=@Go.World.putObj_heap_other
def adu:=@Go.World.putObj_heap_same
section
variable{P:Program}{g0 g1:Gh}{w0:World}{fr:Nat->Prop}{s:AS}{g:Gh}{w:World}{m:Mem}{tmps:Array Value}{e:TypeId}
theorem SR.Bs(h:SR P g0 w0 fr s g w m tmps){i0 i1 τ:Nat}{l:List AV}{wd:Option (List AV)}(W:s.B i0=some (false,[.sq (some τ) (aQ P e) l]))(Y:s.lv τ=some e)(hi:i0≠i1)(U:∀c,wd=some c->s.B i1=some (false,c)/\nS c)
  (h1:g1.hw=g0.hw) (h2:g1.aD=g0.aD) (hm:∀g g' w w',Lw g g' w w'->g1.ex g.hw g.aD w->g1.ex g'.hw g'.aD w') (hs:g1.ex g.hw g.aD w) (hp:∀id b,g1.iF id=some b->(id=0/\m.bm i0=b)\/(id=1/\m.bm i1=b)):
  SR P g1 w0 (λj=>2<=j) (F1 P e l wd) g w { bm:=λj=>if j=1 then m.bm i1 else m.bm i0,tm:=λ_=>m.tm τ } #[]:=by
 obtain⟨N,Ma,b1,b2,b3,b4,b5,b6⟩:=h.boxes i0 false _ W;obtain⟨n0,UN,t1,t2⟩:=h.cB τ _ Y;have H:∀id,id≠0->(F1 P e l wd).B id≠none->id=1/\∃c,wd=some c:=λid h0 hn=>by
  rcases mD hn with e'|e'
  ·omega
  ·refine⟨e',?_⟩;subst e';rw[mC] at hn;cases wd with
   |none=>simp_all
   |some c=>grind
 exact {
  size:=rfl
  tmps:=λt=>.cw (.any _) rfl
  free:=λid M=>⟨Bu (by omega) (by omega),Bt (by omega)⟩
  boxes:=λid ro cells e'=>by
   by_cases E:id=0
   ·subst E;rw[nO] at e';simp only[Option.some.injEq,Prod.mk.injEq] at e';obtain⟨rfl,rfl⟩:=e';refine⟨N,Ma,b1,b2,by omega,b4,λj a' y p L=>?_,by grind⟩;cases j with
    |zero=>
     simp only[abe,Option.some.injEq] at p;subst p;have hq:=b5 0 _ y rfl L;refine⟨hq.1,λτ' k' l' e'=>?_⟩;cases e';exact⟨by omega,λ_=>(hq.2 τ _ _ rfl).2 (by simp_all)⟩
    |succ j=>grind
   ·obtain⟨rfl,c,rfl⟩:=H id E (by simp_all);rw[mC] at e';simp only[acz,Option.some.injEq,Prod.mk.injEq] at e';obtain⟨rfl,rfl⟩:=e';obtain⟨hb,O⟩:=U c rfl;obtain⟨Tj,ty1,c1,c2,c3,c4,c5,Z⟩:=h.boxes i1 false _ hb;exact⟨Tj,ty1,c1,c2,c3,c4,λj a' y p L=>⟨(c5 j a' y p L).1,λτ' k' l' e'=>absurd e' (O _ (List.mem_of_getElem? p) _ _ _)⟩,Z⟩
  cD:=λi j J I he=>by
   rcases mD J with rfl|rfl <;>rcases mD I with rfl|rfl
   ·rfl
   ·obtain⟨_,c,rfl⟩:=H 1 (by omega) I;exact absurd (h.cD i0 i1 (by simp_all) (by simp_all) he) hi
   ·obtain⟨_,c,rfl⟩:=H 1 (by omega) J;exact absurd (h.cD i0 i1 (by simp_all) (by simp_all) he.symm) hi
   ·rfl
  cB:=λσ e' he=>by
   grind [lS,iZ]
  c_:=λi j c J I _ _=>by grind [lS]
  vd:=λσ id _ M=>by
   by_cases E:id=0
   ·subst E;exact h.vd τ i0 (by simp_all) (by simp_all)
   ·obtain⟨rfl,c,rfl⟩:=H id E M;exact h.vd τ i1 (by simp_all) (by simp_all)
  wi:=h.wi
  ext:=⟨h.ext.1,λb=>by rw[h1];exact h.ext.2 b,λb o ho=>h.ext.3 b o (by simp_all),λb d hd=>h.ext.4 b d (by simp_all),h.ext.5,h.ext.6,h.ext.7,h.ext.8⟩
  keeps:=⟨λb hb hd=>h.keeps.1 b hb (by simp_all),λb hb=>by rw[h1];exact h.keeps.2 b hb,λb hb=>by rw[h2];exact h.keeps.3 b hb⟩
  gi:=hm
  fV:=hs
  pins:=λid b e'=>by
   grind }
def C8:AV->AV
 | .sq (some _) _ _=>.any
 |a=>a
@[simp] theorem als (k n):C8 (.i k n)=.i k n:=(rfl)
@[simp] theorem alu (t):C8 (.b t)=.b t:=(rfl)
@[simp] theorem alr (t):C8 (.s t)=.s t:=(rfl)
@[simp] theorem alq (t):C8 (.v t)=.v t:=(rfl)
@[simp] theorem aiJ (k l):C8 (.sq none k l)=.sq none k l:=(rfl)
@[simp] theorem aiK (l):C8 (.sp l)=.sp l:=(rfl)
@[simp] theorem aiN (i o):C8 (.bx i o)=.bx i o:=(rfl)
@[simp] theorem aiO (l):C8 (.ag l)=.ag l:=(rfl)
@[simp] theorem aiI (l):C8 (.tu l)=.tu l:=(rfl)
@[simp] theorem aiM (f l m):C8 (.fn f l m)=.fn f l m:=(rfl)
@[simp] theorem aiL (l):C8 (.mm l)=.mm l:=(rfl)
@[simp] theorem aeG:C8 .any=.any:=(rfl)
theorem RV.C8{fr fr':Nat->Prop}{lv LM:Nat->Option TypeId}{g g':Gh}{w w':World}{m m':Mem}{a:AV}{y:Value}(h:RV fr lv g w m a y)(p:Lw g g' w w')(hf:∀id,fr' id->fr id)(hb:m'.bm=m.bm):RV fr' LM g' w' m' (C8 a) y:=by
 cases a with
 |sq c k l=>
  cases c with
  |none=>exact .cw ((h.rd (by simp)).mono p) rfl
  |some τ=>exact .cw (.any _) rfl
 |bx id off=>
  obtain⟨h1,h2⟩:=h.bx;exact .inr ⟨id,off,rfl,λk=>h1 (hf id k),by simp_all⟩
 |_=>exact .cw ((h.rd (by simp)).mono p) rfl
def XG(P:Program)(e:TypeId)(s:AS)(i0 i1 τ':Nat)(l':List AV)(wd':Option (List AV)):AS:=
 { s with T:=λt=>C8 (s.T t),B:=λid=>if id=i0 then some (false,[.sq (some τ') (aQ P e) l']) else if id=i1 then wd'.map (λc=>(false,c)) else none,lv:=Lo (λ_=>none) τ' (some e) }
theorem Pl{i0 i1 τ':Nat}{l':List AV}{wd':Option (List AV)}{σ:Nat}(h:σ≠τ'):(XG P e s i0 i1 τ' l' wd').lv σ=none:=aL (λ_=>none) τ' (some e) σ h
theorem SK{i0 i1 τ':Nat}{l':List AV}{wd':Option (List AV)} :(XG P e s i0 i1 τ' l' wd').lv τ'=some e:=bc (λ_=>none) τ' (some e)
theorem SR.acA(h:SR P g0 w0 fr s g w m tmps){i0 i1 τ':Nat}{l':List AV}{wd':Option (List AV)}{g':Gh}{w':World}{m':Mem}(hi:i0≠i1)(hf0:¬fr i0)(RK:¬fr i1)(hft:fr τ')
  (k2:SR P g1 w0 (λj=>2<=j) (F1 P e l' wd') g' w' m' #[]) (Z:∀c,wd'=some c->nS c) (C6:m'.bm 0=m.bm i0) (HC:m'.bm 1=m.bm i1) (O:Lw g g' w w') (h1:g1.hw=g0.hw) (h2:g1.aD=g0.aD):
  SR P g0 w0 (λj=>fr j/\j≠τ') (XG P e s i0 i1 τ' l' wd') g' w' { bm:=m.bm,tm:=Lo m.tm τ' (m'.tm 0) } tmps:=by
 obtain⟨Tj,L_,vv,b2',b3',CK,L,H9⟩:=k2.boxes 0 false _ nO;obtain⟨n1,Y,Tr,Y8⟩:=k2.cB 0 e iZ;have U:∀id,(XG P e s i0 i1 τ' l' wd').B id=if id=i0 then some (false,[.sq (some τ') (aQ P e) l']) else if id=i1 then wd'.map (λc=>(false,c)) else none:=λ_=>rfl
 have E:∀id,(XG P e s i0 i1 τ' l' wd').B id≠none->id=i0\/(id=i1/\∃c,wd'=some c):=λid hn=>by
  rw[U] at hn;by_cases H:id=i0
  ·omega
  ·rw[aat H] at hn;by_cases p:id=i1
   ·rw[aay p] at hn;cases wd' with
    |none=>simp_all
    |some c=>simp_all
   simp_all
 have W:∀σ,(XG P e s i0 i1 τ' l' wd').lv σ≠none->σ=τ':=λσ J=>aaO λe'=>J (Pl e')
 exact {
  size:=h.size
  tmps:=λt=>(h.tmps t).C8 O (λid k=>k.1) rfl
  free:=λid fg=>⟨by
   grind,Pl fg.2⟩
  boxes:=λid ro cells e'=>by
   rw[U] at e';by_cases H:id=i0
   ·subst H;rw[aay rfl] at e';simp only[Option.some.injEq,Prod.mk.injEq] at e';obtain⟨rfl,rfl⟩:=e';refine⟨Tj,L_,?_,?_,by omega,CK,λj a' y p I=>?_,?_⟩
    ·grind
    ·grind
    ·cases j with
     |zero=>
      simp only[abe,Option.some.injEq] at p;subst p;have hq:=L 0 _ y rfl I;refine⟨hq.1,λτ2 k' l2 e'=>?_⟩;cases e';refine⟨λhn=>hn.2 rfl,λ_=>?_⟩;have:=(hq.2 0 _ _ rfl).2 (by rfl);simp[this]
     |succ j=>grind
    grind
   ·rw[aat H] at e';by_cases p:id=i1
    ·subst p;rw[aay rfl] at e';cases wd' with
     |none=>cases e'
     |some c=>
      simp only[acz,Option.some.injEq,Prod.mk.injEq] at e';obtain⟨rfl,rfl⟩:=e';obtain⟨zs2,ty2,c1,c2,c3,c4,c5,c6⟩:=k2.boxes 1 false c (by rfl);refine⟨zs2,ty2,by grind,by grind,c3,c4,λj a' y p I=>⟨(c5 j a' y p I).1,λτ2 k2 l2 e'=>absurd e' (Z c rfl _ (List.mem_of_getElem? p) _ _ _)⟩,by grind⟩
    grind
  cD:=λi j N M he=>by
   rcases E i N with rfl|⟨rfl,c,rfl⟩ <;>rcases E j M with rfl|⟨rfl,c',I⟩
   ·rfl
   ·refine absurd (k2.cD 0 1 (by grind [nO]) (by grind [mC]) ?_) (by omega)
    grind
   ·refine absurd (k2.cD 0 1 (by grind [nO]) (by grind [mC]) ?_) (by omega)
    grind
   ·rfl
  cB:=λσ e' he=>by
   have H:=W σ (by grind);subst H;have:e'=e:=by
    grind [SK]
   subst this;exact⟨n1,Y,by simpa using Tr,λc hc=>Y8 c (by simpa using hc)⟩
  c_:=λi j c N M _ _=>by grind
  vd:=λσ id h3 h4=>by
   rw[W σ h3];show(Lo m.tm τ' (m'.tm 0) τ').ownBlock≠some (m.bm id);rw[bc];rcases E id h4 with rfl|⟨rfl,c,rfl⟩
   ·rw[<-C6];exact k2.vd 0 0 (by grind [iZ]) (by grind [nO])
   ·rw[<-HC];exact k2.vd 0 1 (by grind [iZ]) (by grind [mC])
  wi:=k2.wi
  ext:=⟨k2.ext.1,λb=>by rw[<-h1];exact k2.ext.2 b,λb o ho=>k2.ext.3 b o (by grind),λb d hd=>k2.ext.4 b d (by grind),k2.ext.5,k2.ext.6,k2.ext.7,k2.ext.8⟩
  keeps:=⟨λb hb hd=>k2.keeps.1 b hb (by grind),λb hb=>by rw[<-h1];exact k2.keeps.2 b hb,λb hb=>by rw[<-h2];exact k2.keeps.3 b hb⟩
  gi:=h.gi
  fV:=h.gi _ _ _ _ O h.fV
  pins:=λid b e'=>by
   obtain⟨q1,q2⟩:=h.pins id b e'
   grind }
theorem SR.Dq(h:SR P g0 w0 fr s g w m tmps){b:Nat}{o o':Obj}(hb:w0.heap.size<=b)(ho:w.heap[b]?=some o)(hn:(∀c t f,o≠.cells c t f)/\(∀es ck,o≠.map es ck))(hs:g0.ex g.hw g.aD (w.putObj b o'))(dK:∀c t f,o'≠.cells c t f):
  SR P g0 w0 fr s g (w.putObj b o') m tmps:=by
 have O:=(aah.1 ho).1;have M:∀k,k≠b->(w.putObj b o').heap[k]?=w.heap[k]?:=λk hk=>adZ hk
 have C7:(w.putObj b o').heap[b]?=some o':=adu O;have L:∀k p,(w.putObj b o').cell? ⟨k,p,none⟩=w.cell? ⟨k,p,none⟩:=λk p=>by
  grind [World.cell?]
 have I:Th g g w (w.putObj b o'):=⟨by simp,λ_=>aax _,λk p _=>L k p,λ_ _ h=>h⟩
 have E:∀ {a:AV} {y:Value},RC fr s.lv g w m a y->RC fr s.lv g (w.putObj b o') m a y:=λh=>⟨h.1.wZ I,h.2⟩
 exact {
  size:=h.size
  tmps:=λt=>by
   rcases h.tmps t with h1|h1
   ·exact .inl (E h1)
   ·exact .inr h1
  free:=h.free
  boxes:=λid ro cells e'=>by
   obtain⟨ys,ty,k1,k2,k3,k4,k5,Z⟩:=h.boxes id ro cells e'
   grind
  cD:=h.cD
  cB:=λτ e' he=>by
   obtain⟨n,ys,⟨h1,h2⟩,N⟩:=h.cB τ e' he;refine⟨n,ys,⟨h1,?_⟩,N⟩;rcases h2 with h2|⟨c,cap,cur,hv,hr⟩
   ·grind
   ·refine .inr ⟨c,cap,cur,hv,hr.1,?_,hr.2.2⟩
    grind
  c_:=h.c_
  vd:=h.vd
  wi:=⟨λk hk=>h.wi.out k (by simpa using hk),λk d hd=>by
   obtain⟨es,ck,J,H⟩:=h.wi.aD k d hd;refine⟨es,ck,?_,λx hx=>by obtain⟨a,ha,U⟩:=H x hx;exact⟨a,ha,U.wZ I⟩⟩
   grind,λk p v hv=>by
   obtain⟨Y,W⟩:=h.wi.cz k p v hv
   simp_all⟩
  ext:=⟨by grind,h.ext.2,λk p hk=>by rw[L];exact h.ext.3 k p hk,h.ext.4,h.ext.5,h.ext.6,h.ext.7,λk o2 J H=>by
   rw[M k (by grind)];exact h.ext.8 k o2 J H⟩
  keeps:=⟨λk hk hd=>by rw[M k (by omega)];exact h.keeps.1 k hk hd,h.keeps.2,h.keeps.3⟩
  gi:=h.gi
  fV:=hs
  pins:=h.pins }
end
section
variable{P:Program}{tb:qd}{mt:Nat->Bool}
def ID(P:Program)(rs:List ResultVar)(g0:Gh)(w0:World)(res:AV)(e:Exit)(a:Act)(w:World):Prop:=
 ∃x s g1,c8 e=some x/\(x=.normal\/x=.ret)/\Dn P rs s res/\g1.hw=g0.hw/\g1.aD=g0.aD/\ST P g1 w0 s a w
theorem qF{f:FuncId}{fn:Func}{c:Code}(hf:P.funcs[f]?=some fn)(hb:fn.body=some c){args:List AV}(hn:args.length<=fn.ntmps){res:AV}
  (h:∀(g0:Gh) w0 a w,(∀id,g0.iF id=none)->(∀x y z,g0.ex x y z)->ST P g0 w0 (a0 args fn.ntmps) a w->c.wp P (ID P fn.results.toList g0 w0 res) a w):aq P f args res:=by
 intro g w ys hW hr;refine aey hf hb ?_;have J:=uV (P:=P) hW hr hn;have U:ys.toArray.size=ys.length:=by simp
 rw[U];refine wp_mono (h { g with ex:=λ_ _ _=>True,iF:=λ_=>none } w _ _ (λ_=>rfl) (λ_ _ _=>trivial) J) ?_;rintro e a w' ⟨x,s,g1,he,hx,E,WJ,hg2,⟨g',m,p,N⟩⟩;have O:∃v,(results fn a.tmps).run P w'=.ok v w'/\Rd g' w' res v/\anC g' w' w.heap.size res v:=by
  rw[cX];rcases E with E|⟨t,τ,e',k,l,W,I,hl,hk,rfl⟩
  ·split at E
   ·rename_i r W;obtain⟨y,y1,y2⟩:=vz p E;refine⟨y,?_,y2,?_⟩
    ·have:fn.results= #[r]:=by grind
     simp_all
    ·have J:res.strip=res:=by
      cases r with
      |tmp t=>
       grind [eH,aH]
      |cell x t=>
       simp only[aH] at E;split at E
       ·obtain⟨_,_,h2⟩:=ax E
        grind [Option.map_eq_some_iff,eH]
       grind
     unfold anC;split
     ·cases J
     ·trivial
   ·rename_i l cr;obtain⟨xs,h1,rfl⟩:=E;obtain⟨ys',k1,k2⟩:=vA p h1;refine⟨.tuple ys'.toArray,?_,.tu xs ys' k2.1 k2.2,trivial⟩;have hlen:ys'.length≠1:=λe=>by
     have h9:fn.results.toList.length=1:=by
      have:∀ {l:List ResultVar} {xs:List AV},dc P s l=some xs->xs.length=l.length:=by
       intro l
       induction l with
       |nil=>intro xs h;cases h;rfl
       |cons r l Z=>
        intro xs h;obtain⟨x,_,h2⟩:=ax (show(aH P s r).bind (λx=>(dc P s l).map (x:: ·))=some xs from h)
        grind [Option.map_eq_some_iff]
      rw[<-this h1,<-k2.1];exact e
     grind [List.length_eq_one_iff]
    simp_all [abC]
  ·have:fn.results= #[.tmp t]:=by grind
   rw[this];have H:=p.tmps t;rw[I] at H;obtain⟨r1,Y⟩:Rd g' w' (.sq none k l) (a.tmps.getD t undef)/\a.tmps.getD t undef=m.tm τ:=by
    rcases H with H|⟨_,_,e',_⟩
    ·exact⟨H.1,(H.2 τ _ _ rfl).2 (by grind)⟩
    ·cases e'
   refine⟨a.tmps.getD t undef,?_,r1.tok,?_⟩
   ·simp[abC,ey]
   ·obtain⟨n,ys',o1,o2⟩:=p.cB τ e' hl;unfold anC
    grind
 obtain⟨v,v1,v2,v3⟩:=O;have M:Lw g g' w w':=⟨p.ext.1,λb=>by have:=p.ext.2 b;simp_all,λb o ho=>p.ext.3 b o (by simp_all),λb d hd=>p.ext.4 b d (by simp_all),p.ext.5,p.ext.6,p.ext.7,p.ext.8⟩
 have L:anw g g' w w':=⟨λb hb hd=>p.keeps.1 b hb (by simp_all),λb hb=>by have:=p.keeps.2 b hb;simp_all,λb hb=>by have:=p.keeps.3 b hb;simp_all⟩
 rcases hx with rfl|rfl
 ·cases e <;>simp only[c8,Option.some.injEq,reduceCtorEq] at he
  exact⟨N,v,v1,v,g',rfl,M,p.wi,L,v2,v3⟩
 ·cases e <;>simp only[c8,Option.some.injEq,reduceCtorEq] at he
  exact⟨N,v,v1,v,g',rfl,M,p.wi,L,v2,v3⟩
def Kg(g0:Gh)(b:Nat):Gh:= { g0 with iF:=λid=>if id=0 then some b else none }
theorem SR.alone{g0:Gh}{w0:World}{fr:Nat->Prop}{s:AS}{g:Gh}{w:World}{m:Mem}{tmps:Array Value}{e:TypeId}(h:SR P g0 w0 fr s g w m tmps){i0:Nat}(M:s.B i0=some (false,[.sq none 0 []]))(I:Nat->AV)
  (L:∀t,RV (λj=>1<=j) (bG 0 e) g w { bm:=λ_=>m.bm i0,tm:=λ_=>.slice none 0 0 } (I t) (tmps.getD t undef)):
  SR P (Kg g0 (m.bm i0)) w0 (λj=>1<=j) ⟨I,eh (false,[.sq (some 0) (aQ P e) []]),bG 0 e,1,s.n⟩ g w { bm:=λ_=>m.bm i0,tm:=λ_=>.slice none 0 0 } tmps:=by
 obtain⟨J,W,b1,b2,b3,U,O,b6⟩:=h.boxes i0 false _ M;have Z:∀j,eh (false,[AV.sq (some 0) (aQ P e) []]) j≠none->j=0:=λj p=>aaO λe'=>p (aL _ _ _ _ e')
 have Y:∀j,bG 0 e j≠none->j=0:=λj p=>aaO λe'=>p (aL _ _ _ _ e')
 exact {
  size:=h.size
  tmps:=L
  free:=λid fg=>by
   grind
  boxes:=λid ro cells e'=>by
   have E:=Z id (by grind);subst E;dsimp only at e';rw[o8] at e';simp only[Option.some.injEq,Prod.mk.injEq] at e';obtain⟨rfl,rfl⟩:=e';refine⟨J,W,b1,b2,by omega,U,λj a' y H N=>?_,by omega⟩;cases j with
   |zero=>
    simp only[abe,Option.some.injEq] at H;subst H;have hq:=(O 0 _ y rfl N).1;have hy:y=.slice none 0 0:=by
     cases hq with
     |nil=>rfl
     |sq _ _ _ b o n m ys h0=>omega
    subst hy;refine⟨.nil _ _,λτ' k' l' e'=>?_⟩
    grind
   |succ j=>grind
  cD:=λi j hi p _=>by grind
  cB:=λσ e' he=>by
   have E:=Y σ (by grind);subst E;dsimp only at he;rw[dA] at he;cases he;exact⟨0,[],World.ownsRow_nil w _ e (aQ P e),λc hc=>by cases hc⟩
  c_:=λi j c hi p _ _=>by grind
  vd:=λσ id _ _ hc=>by cases hc
  wi:=h.wi
  ext:=⟨h.ext.1,h.ext.2,h.ext.3,h.ext.4,h.ext.5,h.ext.6,h.ext.7,h.ext.8⟩
  keeps:=⟨h.keeps.1,h.keeps.2,h.keeps.3⟩
  gi:=h.gi
  fV:=h.fV
  pins:=λid b e'=>by
   grind [Kg] }
theorem nB{id:Nat}{o1 o2:Oper}{Q:Exit->Act->World->Prop}{a:Act}{w:World}(h1:o1.guard=none)(h2:o2.guard=none)(h:o1.wp P a w (λa w=>o2.wp P a w (λa w=>Q .normal a w) Q) Q):(Code.region id #[o1,o2] false).wp P Q a w:=by
 refine wp_region ?_;show wpOps P #[o1,o2] Q [0,1] a w;have g1:∀ts,Region.wanted o1 ts=true:=λts=>by grind [Region.wanted]
 have g2:∀ts,Region.wanted o2 ts=true:=λts=>by grind [Region.wanted]
 have E:∀(o:Oper) (a:Act) (K p:Act->World->Prop) (w:World),(∀a w,K a w->p a w)->o.wp P a w K Q->o.wp P a w p Q:=λo a K p w hk ho=>by
  unfold Oper.wp at ho ⊢;cases hr:(execOp a.eval o).run P w with
  |ok nx w'=>
   rw[hr] at ho;cases nx with
   |value v=>exact hk _ _ ho
   |skip=>exact hk _ _ ho
   |defer d=>exact hk _ _ ho
   |enter f args=>
    refine Calls.mono ho ?_
    grind
   |row row args=>exact Rows.mono ho λv H he=>hk _ _ he
   |_=>exact ho.elim
  |halt s w'=>
   rw[hr] at ho;cases s with
   |panic v=>exact ho
   |_=>exact ho.elim
 simp only[wpOps,aek,abe,List.getElem?_cons_succ,g1,g2,acC]
 grind
end
end Go.Proofs.YtjagmhagphbfcaaGreatDoor
