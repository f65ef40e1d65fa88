/- Lemmas, part 31. -/
import Derived.Test.YtjagmhagphbfcaaGreatDoorP30
set_option maxRecDepth 100000
set_option linter.all false
namespace Go.Proofs.YtjagmhagphbfcaaGreatDoor.Mi
open Go renaming Value→aa,World→am,Program→ap,FuncId→aP,Frame→b8
open Go Go.Proofs
structure FM(b n0:Nat)(fa fb:b8):Prop where
 fn:fb.fn=mf fa.fn
 dm:dom fa.fn=true
 size:fb.tmps.size=fa.tmps.size
 tm:∀t,VM b n0 (cl fa.fn t) (fa.tmps.getD t undef) (fb.tmps.getD t undef)
 todo:fb.todo=fa.todo.map (rl fa.fn)
 ok:∀i∈fa.todo,mik fa.fn i=true
 da:fa.defers= []
 db:fb.defers= []
 mode:fb.mode=fa.mode
 going:fa.mode=.run\/fa.mode=.returning
 ka:fa.kind=.normal
 kb:fb.kind=.normal
 ra:fa.roundOf=none
 rb:fb.roundOf=none
inductive Stk(b n0:Nat):b8->List b8->b8->List b8->Prop
 |bot {fa fb:b8} (h:FM b n0 fa fb):Stk b n0 fa [] fb []
 |cons {fa fb ga gb:b8} {gas gbs:List b8} (h:FM b n0 fa fb) (hd:∀ops i r k d,ga.todo=.inRegion ops (i::r)::k->(ops[i]?).bind (·.dst)=some d->cl ga.fn d=rc fa.fn) (t:Stk b n0 ga gas gb gbs):Stk b n0 fa (ga::gas) fb (gb::gbs)
theorem Stk.top{b n0:Nat}{fa fb:b8}{gas gbs:List b8}(h:Stk b n0 fa gas fb gbs):FM b n0 fa fb:=by cases h <;>assumption
theorem Stk.put{b n0:Nat}{fa fb p E:b8}{gas gbs:List b8}(h:Stk b n0 fa gas fb gbs)(k:FM b n0 p E)(e:p.fn=fa.fn):Stk b n0 p gas E gbs:=by
 cases h with
 |bot=>exact .bot k
 |cons h hd t=>exact .cons k (by grind) t
section
variable{P:ap}[l:cL P]{b N n0:Nat}{e e':TypeId}{fr:Nat×Nat}{w0 wa wb wb1:am}{fa fb:b8}
theorem FM.em(h:FM b n0 fa fb):EM b n0 fa.fn fa.eval fb.eval:=by
 intro c x hx;cases x with
 |tmp t=>
  simp only[opc,ac6] at hx;have:=h.tm t;rw[hx] at this;exact this
 |const v=>
  show VM b n0 c v v;cases v with
  |slice p n m=>
   cases p with
   |none=>
    simp only[opc,ac6] at hx;subst hx;exact⟨rfl,.inr (.inl ⟨_,_,rfl⟩)⟩
   |some=>simp[opc,at3] at hx
  |int|bool=>
   simp[opc,at3] at hx;subst hx;exact⟨rfl,trivial⟩
  |_=>simp[opc,at3] at hx
 |_=>cases hx
theorem FM.next(h:FM b n0 fa fb){ta:List Item}(ht:∀i∈ta,mik fa.fn i=true):FM b n0 { fa with todo:=ta } { fb with todo:=ta.map (rl fa.fn) } :=
 { h with todo:=rfl,ok:=ht }
theorem FM.ret(h:FM b n0 fa fb):FM b n0 { fa with mode:=.returning } { fb with mode:=.returning } :=
 { h with mode:=rfl,going:=.inr rfl }
theorem FM.fin(h:FM b n0 fa fb){ops:Array Oper}{i:Nat}{r:List Nat}{k:List Item}(ht:fa.todo=.inRegion ops (i::r)::k){x y:aa}(hv:∀d,(ops[i]?).bind (·.dst)=some d->VM b n0 (cl fa.fn d) x y):FM b n0 (fa.finish x) (fb.finish y):=by
 have E:fb.todo=.inRegion (ops.map (qd fa.fn)) (i::r)::k.map (rl fa.fn):=by rw[h.todo,ht];rfl
 have L:((ops.map (qd fa.fn))[i]?).bind (·.dst)=(ops[i]?).bind (·.dst):=by
  rw[ad_];cases ops[i]? <;>rfl
 have ea:fa.finish x= { fa with tmps:=match(ops[i]?).bind (·.dst) with|some d=>fa.tmps.setIfInBounds d x|none=>fa.tmps,todo:=.inRegion ops r::k } :=by unfold Frame.finish;grind
 have eb:fb.finish y= { fb with tmps:=match(ops[i]?).bind (·.dst) with|some d=>fb.tmps.setIfInBounds d y|none=>fb.tmps,todo:=.inRegion (ops.map (qd fa.fn)) r::k.map (rl fa.fn) } :=by unfold Frame.finish;rw[E];grind
 rw[ea,eb];have J:∀j∈(Item.inRegion ops r::k),mik fa.fn j=true:=by
  intro j H;rcases abZ.1 H with rfl|H
  ·exact h.ok (.inRegion ops (i::r)) (by simp_all)
  ·exact h.ok j (by simp_all)
 refine { h with size:=?_,tm:=λt=>?_,todo:=rfl,ok:=J }
 ·cases(ops[i]?).bind (·.dst) <;>simp[h.size]
 ·cases hd:(ops[i]?).bind (·.dst) with
  |none=>exact h.tm t
  |some d=>
   simp only[aba,ac3,h.size];by_cases p:d=t
   ·subst p;simp only[acC];by_cases I:d<fa.tmps.size
    ·simp_all
    ·rw[aat I,aat I];exact VM.und _ _ _
   ·rw[aat p,aat p];have:=h.tm t
    simp_all
theorem at5(f:Nat)(m:Region.Mode)(ops:Array Oper):∀(n t:Nat) (ls:Array Bool) (acc:List Nat),Region.linearise.go m (ops.map (qd f)) n t ls acc=Region.linearise.go m ops n t ls acc:=by
 intro n
 induction n with
 |zero=>intro t ls acc;rfl
 |succ n p=>
  intro t ls acc;have hq:∀i:Nat,(((ops.map (qd f))[i]?).map (·.after.all λe=> !Region.binds m e||ls.getD e.on false))=((ops[i]?).map (·.after.all λe=> !Region.binds m e||ls.getD e.on false)):=by
   intro i;rw[ad_,Option.map_map];rfl
  simp only[Region.linearise.go,Array.size_map,hq,p]
theorem asM(f:Nat)(ops:Array Oper)(t:Nat):Region.schedule true (ops.map (qd f)) t=Region.schedule true ops t:=by
 simp only[Region.schedule,Bool.true_or,acC,Region.linearise,Array.size_map];exact at5 f _ ops _ _ _ _
theorem atK(f id:Nat):∀k:List Item,exitTo id (k.map (rl f))=(exitTo id k).map (List.map (rl f)):=by
 intro k
 induction k with
 |nil=>rfl
 |cons i k E=>
  cases i with
  |inBlock p=>
   show exitTo id (.inBlock p::k.map (rl f))=_;simp only[exitTo]
   grind
  |_=>simp only[List.map_cons,rl,exitTo];exact E
theorem atJ(id:Nat):∀ {k t:List Item},exitTo id k=some t->∀i∈t,i∈k:=by
 intro k
 induction k with
 |nil=>intro t h;cases h
 |cons j k p=>
  intro t h i hi;have:(t=k)\/exitTo id k=some t:=by
   cases j <;>simp only[exitTo] at h <;>first|exact .inr h|grind
  grind
theorem asn{fr:b8}(hm:fr.mode=.run)(cs:List b8)(u:am):stepG P true (LG fr cs) u=stepG.exec P true true fr cs none u:=by
 obtain⟨fn,tmps,todo,defers,mode,kind,ro⟩:=fr;simp only at hm;subst hm;rfl
def arj:b8->List b8->aP
 |fr,[]=>fr.fn
 |_,g::gs=>arj g gs
theorem aqD{fr dL:b8}{fs:List b8}(h:dL.fn=fr.fn):arj dL fs=arj fr fs:=by cases fs <;>first|exact h|rfl
def On(P:ap)(b N:Nat)(e e':TypeId)(fr:Nat×Nat)(w0:am)(n:aP)(cs:List b8)(X:GStep)(fb1:b8)(gs:List b8)(wb1:am):Prop:=
 ∃fa1 p wa1 es,X=.go (LG fa1 (p++cs)) wa1 es/\Stk b w0.heap.size fa1 p fb1 gs/\MW b N e e' fr w0 wa1 wb1/\arj fa1 p=n
variable{fas fbs:List b8}{cs:List b8}
def Tri(P:ap)(b N:Nat)(e e':TypeId)(fr:Nat×Nat)(w0:am)(n:aP)(cs:List b8)(fb:b8)(fbs:List b8)(H E:GStep):Prop:=
 (∃o u es,E=.ended o u es)\/(∃p u es ch,E=.go (LG p (fbs++ [bz P])) u es/\p.mode=.panicking ch/\p.defers= []/\p.fn=fb.fn)\/
 ∃fb1 gs wb1 es,E=.go (LG fb1 (gs++ [bz P])) wb1 es/\On P b N e e' fr w0 n cs H fb1 gs wb1
theorem aqn(E:Stk b w0.heap.size fa fas fb fbs)(hW:MW b N e e' fr w0 wa wb){ta:List Item}(ht:∀i∈ta,mik fa.fn i=true){I H:GStep}{es1 es2:Array Event}
  (ha:I=.go (LG { fa with todo:=ta } (fas++cs)) wa es1) (p:H=.go (LG { fb with todo:=ta.map (rl fa.fn) } (fbs++ [bz P])) wb es2):Tri P b N e e' fr w0 (arj fa fas) cs fb fbs I H:=
 .inr (.inr ⟨_,_,_,_,p,_,_,_,_,ha,E.put (E.top.next ht) rfl,hW,aqD rfl⟩)
theorem atw(E:Stk b w0.heap.size fa fas fb fbs)(hW:MW b N e e' fr w0 wa wb){I H:GStep}{es1 es2:Array Event}
  (ha:I=.go (LG { fa with mode:=.returning } (fas++cs)) wa es1) (p:H=.go (LG { fb with mode:=.returning } (fbs++ [bz P])) wb es2):Tri P b N e e' fr w0 (arj fa fas) cs fb fbs I H:=
 .inr (.inr ⟨_,_,_,_,p,_,_,_,_,ha,E.put E.top.ret rfl,hW,aqD rfl⟩)
theorem aq_{E p:GStep}{n:aP}(o:Outcome)(u:am)(es:Array Event)(h:p=.ended o u es):Tri P b N e e' fr w0 n cs fb fbs E p:=.inl ⟨o,u,es,h⟩
theorem VM.eq0{n0:Nat}{x y:aa}(h:VM b n0 0 x y):y=x:=h.1
theorem asL(h:FM b n0 fa fb){ops:Array Oper}(hk:arv fa.fn ops=true){o:Oper}(i:Nat)(ho:ops[i]?=some o):Region.wanted (qd fa.fn o) (yielded (ops.map (qd fa.fn)) fb.tmps)=Region.wanted o (yielded ops fa.tmps):=by
 have hg:gdk fa.fn ops o=true:=by
  unfold arv at hk
  grind
 unfold Region.wanted;show(match o.guard with|none=>true|some (j,want)=>yielded (ops.map (qd fa.fn)) fb.tmps j==some want)=_;cases p:o.guard with
 |none=>rfl
 |some x=>
  obtain⟨j,want⟩:=x;simp only;have H:((ops.map (qd fa.fn))[j]?).bind (·.dst)=(ops[j]?).bind (·.dst):=by
   rw[ad_];cases ops[j]? <;>rfl
  unfold yielded;rw[H];unfold gdk at hg;rw[p] at hg;simp only at hg;cases hd:(ops[j]?).bind (·.dst) with
  |none=>rfl
  |some d=>
   rw[hd] at hg;simp only[ac6] at hg;have ht:=h.tm d;rw[hg] at ht;have ht:=ht.eq0;simp only[abN];rw[aba,aba] at ht;by_cases E:d<fa.tmps.size
   ·have I:d<fb.tmps.size:=by rw[h.size];exact E
    simp_all
   ·rw[abU (xs:=fb.tmps) (by rw[h.size];grind),abU (xs:=fa.tmps) (af2 E)]
def avS(g h:Nat):Prop:=∃a d c,Tryz.prog.funcs[g]?=some a/\Tryz.prog.funcs[h]?=some d/\a.body=some c/\d.body=some (xd g c)/\d.results=a.results/\a.ntmps=d.ntmps
theorem auP:∀x∈aqW,avS x.1 x.2:=by
 unfold aqW;simp only[List.forall_mem_cons,adz,false_imp_iff,implies_true,abQ];refine⟨⟨_,_,_,Tryz.func150,Tryz.func131,rfl,by kernel_rfl,by kernel_rfl,by kernel_rfl⟩,⟨_,_,_,Tryz.func151,Tryz.func132,rfl,by kernel_rfl,by kernel_rfl,by kernel_rfl⟩,⟨_,_,_,Tryz.func163,Tryz.func163,rfl,by kernel_rfl,by kernel_rfl,by kernel_rfl⟩,⟨_,_,_,Tryz.func176,Tryz.func162,rfl,by kernel_rfl,by kernel_rfl,by kernel_rfl⟩,⟨_,_,_,Tryz.func192,Tryz.func192,rfl,by kernel_rfl,by kernel_rfl,by kernel_rfl⟩,⟨_,_,_,Tryz.func193,Tryz.func193,rfl,by kernel_rfl,by kernel_rfl,by kernel_rfl⟩,⟨_,_,_,Tryz.func196,Tryz.func183,rfl,by kernel_rfl,by kernel_rfl,by kernel_rfl⟩,⟨_,_,_,Tryz.func197,Tryz.func184,rfl,by kernel_rfl,by kernel_rfl,by kernel_rfl⟩,⟨_,_,_,Tryz.func198,Tryz.func185,rfl,by kernel_rfl,by kernel_rfl,by kernel_rfl⟩,⟨_,_,_,Tryz.func199,Tryz.func186,rfl,by kernel_rfl,by kernel_rfl,by kernel_rfl⟩,⟨_,_,_,Tryz.func200,Tryz.func187,rfl,by kernel_rfl,by kernel_rfl,by kernel_rfl⟩,⟨_,_,_,Tryz.func201,Tryz.func188,rfl,by kernel_rfl,by kernel_rfl,by kernel_rfl⟩,⟨_,_,_,Tryz.func202,Tryz.func189,rfl,by kernel_rfl,by kernel_rfl,by kernel_rfl⟩,⟨_,_,_,Tryz.func203,Tryz.func190,rfl,by kernel_rfl,by kernel_rfl,by kernel_rfl⟩,⟨_,_,_,Tryz.func204,Tryz.func191,rfl,by kernel_rfl,by kernel_rfl,by kernel_rfl⟩,⟨_,_,_,Tryz.func212,Tryz.func212,rfl,by kernel_rfl,by kernel_rfl,by kernel_rfl⟩,⟨_,_,_,Tryz.func213,Tryz.func213,rfl,by kernel_rfl,by kernel_rfl,by kernel_rfl⟩,⟨_,_,_,Tryz.func225,Tryz.func211,rfl,by kernel_rfl,by kernel_rfl,by kernel_rfl⟩,⟨_,_,_,Tryz.func226,Tryz.func214,rfl,by kernel_rfl,by kernel_rfl,by kernel_rfl⟩,⟨_,_,_,Tryz.func227,Tryz.func215,rfl,by kernel_rfl,by kernel_rfl,by kernel_rfl⟩,⟨_,_,_,Tryz.func228,Tryz.func175,rfl,by kernel_rfl,by kernel_rfl,by kernel_rfl⟩,⟨_,_,_,Tryz.func236,Tryz.func231,rfl,by kernel_rfl,by kernel_rfl,by kernel_rfl⟩⟩
theorem aq2{g:Nat}(hg:dom g=true):∃a d c,P.funcs[g]?=some a/\P.funcs[mf g]?=some d/\a.body=some c/\d.body=some (xd g c)/\mck g c=true/\at0 g a.results.toList=true/\d.results=a.results/\a.ntmps=d.ntmps/\(aqH g).2.2.2.length<=a.ntmps:=by
 unfold dom at hg;rw[afl] at hg;obtain⟨x,hx,hg⟩:=hg;have h1:=auP x hx;have h2:=acp.1 atl x hx;have M:=acp.1 asI x hx;simp only[ac6,aaZ] at hg M;obtain⟨⟨p,E⟩,I⟩:=M;obtain⟨a,d,c,H,L,J,q4,q5,q6⟩:=h1;unfold ato at h2;rw[I,H,L] at h2;simp only[J,q4,aaZ] at h2;unfold atL at p E;simp only[aaZ,bne_iff_ne] at p E;rw[hg] at H q4 h2 p I;rw[I];exact⟨a,d,c,lf H p.1.1 p.1.2,lf L E.1.1 E.1.2,J,q4,h2.1.1.1,h2.1.1.2,q5,q6,Nat.le_of_ble_eq_true h2.2⟩
theorem asX:(aqW.all λx=>(List.range (aqH x.1).2.2.2.length).all λt=>(aqH x.1).2.2.2.getD t 9==cl x.1 t)=true:=by kernel_rfl
theorem asY{g t:Nat}(hg:dom g=true)(ht:t<(aqH g).2.2.2.length):cl g t=(aqH g).2.2.2[t]:=by
 unfold dom at hg;rw[afl] at hg;obtain⟨x,hx,hg⟩:=hg;simp only[ac6] at hg;have:=acp.1 (acp.1 asX x hx) t (aeh.2 (by simp_all))
 simp_all
theorem FM.enter{g:Nat}{xs ys:Array aa}{n0:Nat}{a d:Func}{c:Code}(hg:dom g=true)(hs:ys.size=xs.size)(hl:xs.size=(aqH g).2.2.2.length)(hv:∀(i c:Nat) (x y:aa),(aqH g).2.2.2[i]?=some c->xs[i]?=some x->ys[i]?=some y->VM b n0 c x y)
  (g1:P.funcs[g]?=some a) (g2:P.funcs[mf g]?=some d) (g3:a.body=some c) (g4:d.body=some (xd g c)) (g5:mck g c=true) (g8:a.ntmps=d.ntmps) (g9:(aqH g).2.2.2.length<=a.ntmps):FM b n0 (Frame.enter P g xs .normal) (Frame.enter P (mf g) ys .normal):=by
 have H:Frame.enter P g xs .normal= { fn:=g,tmps:=xs++Array.replicate (a.ntmps-xs.size) undef,todo:= [.code c],defers:= [],mode:=.run,kind:=.normal } :=by
  unfold Frame.enter;simp_all
 have E:Frame.enter P (mf g) ys .normal= { fn:=mf g,tmps:=ys++Array.replicate (d.ntmps-ys.size) undef,todo:= [.code (xd g c)],defers:= [],mode:=.run,kind:=.normal } :=by
  unfold Frame.enter;simp_all
 rw[H,E];refine⟨rfl,hg,by simp_all,λt=>?_,rfl,λi hi=>?_,rfl,rfl,rfl,.inl rfl,rfl,rfl,rfl,rfl⟩
 ·simp only[aba,aev,hs,g8];by_cases ht:t<xs.size
  ·rw[aay ht,aay ht,aa_ ht,aa_ (by omega)];have p:t<(aqH g).2.2.2.length:=by omega
   have:=hv t _ _ _ (aaf p) (aa_ ht) (aa_ (by omega));rwa[<-asY hg p] at this
  ·rw[aat ht,aat ht];have:∀n m:Nat,((Array.replicate n undef)[m]?).getD undef=undef:=by
    grind
   rw[this];exact VM.und _ _ _
 ·rw[acE] at hi;subst hi;exact g5
theorem ate(h:FM b n0 fa fb){c:Nat} :∀ {rs:List ResultVar},(∀r∈rs,∃t,r=.tmp t/\cl fa.fn t=c)->∃xs ys:List aa,xs.length=rs.length/\ys.length=rs.length/\(∀w,(rs.mapM (m:=Sem) λx=>match x with| .tmp t=>Pure.pure (fa.tmps.getD t undef)| .cell a t=>do loadVar t (<-asAddr (fa.tmps.getD a undef))).run P w=.ok xs w)/\(∀w,(rs.mapM (m:=Sem) λx=>match x with| .tmp t=>Pure.pure (fb.tmps.getD t undef)| .cell a t=>do loadVar t (<-asAddr (fb.tmps.getD a undef))).run P w=.ok ys w)/\∀(i:Nat) (x y:aa),xs[i]?=some x->ys[i]?=some y->VM b n0 c x y:=by
 intro rs
 induction rs with
 |nil=>simp_all
 |cons r rs I=>
  intro hr;obtain⟨t,rfl,ht⟩:=hr r (by simp);obtain⟨xs,ys,h1,h2,M,L,J⟩:=I λr H=>hr r (aed _ H)
  refine⟨fa.tmps.getD t undef::xs,fb.tmps.getD t undef::ys,by grind,by grind,λw=>?_,λw=>?_,λi=>?_⟩
  ·simp_all
  ·simp_all
  ·cases i with
   |zero=>
    intro x y E p;simp only[abe,Option.some.injEq] at E p;subst E p;rw[<-ht];exact h.tm t
   |succ i=>grind
theorem atd(h:FM b n0 fa fb){a E:Func}{wb2:am}{y:aa}(g6:at0 fa.fn a.results.toList=true)(g7:E.results=a.results)(hr:(results E fb.tmps).run P wb=.ok y wb2):
  ∃x,(∀w,(results a fa.tmps).run P w=.ok x w)/\VM b n0 (rc fa.fn) x y/\wb2=wb:=by
 unfold at0 at g6;rw[aaZ,acp] at g6;obtain⟨k1,k2⟩:=g6;obtain⟨xs,ys,h1,h2,M,L,p⟩:=ate (P:=P) h (c:=bif fa.fn==151 then 1 else 0) (rs:=a.results.toList) (λr hr=>by
  grind)
 have O:∀w,(results a fa.tmps).run P w=.ok (if h:xs.toArray.size=1 then xs.toArray[0] else .tuple xs.toArray) w:=by
  intro w;unfold results;rw[abC,aaw,Sem.run_map]
  erw [M w]
  rfl
 have N:∀w,(results E fb.tmps).run P w=.ok (if h:ys.toArray.size=1 then ys.toArray[0] else .tuple ys.toArray) w:=by
  intro w;unfold results;rw[g7,abC,aaw,Sem.run_map]
  erw [L w]
  rfl
 rw[N] at hr;cases hr;refine⟨_,O,?_,rfl⟩;by_cases hl:xs.length=1
 ·have hr4:rc fa.fn=bif fa.fn==151 then 1 else 0:=by
   have:rc fa.fn≠4:=by
    cases I:a.results.toList with
    |nil=>simp_all
    |cons r l=>simp_all
   unfold rc at this ⊢
   grind
  rw[agp (by omega),agp (by grind),hr4];exact p 0 _ _ (aaf (by omega)) (aaf (by omega))
 ·rw[dif_neg (by omega),dif_neg (by grind)];have U:(fa.fn==151)=false\/xs= []:=by
   cases I:a.results.toList with
   |nil=>simp_all
   |cons r l=>cases l with
    |nil=>simp_all
    |cons=>
     rw[I] at k2;simp only[ac6] at k2;refine .inl ?_;cases hq:fa.fn==151 with
     |false=>rfl
     |true=>rw[ac6] at hq;rw[hq] at k2;cases k2
  by_cases H:xs= []
  ·subst H;have:ys= []:=abA (by simp_all);subst this;exact VM.und _ _ _
  ·have hn:=U.resolve_right H;rw[hn] at p;have V:ys=xs:=by
    refine List.ext_getElem (by omega) λi J p2=>?_
    exact(p i _ _ (aaf p2) (aaf J)).1
   have W:rc fa.fn=4:=by
    grind
   rw[W];refine⟨by rw[V],_,rfl,λz hz=>?_⟩;obtain⟨i,hi⟩:=List.getElem?_of_mem (ahf.1 hz);exact(p i z z hi (by simp_all)).2
theorem au7(E:Stk b w0.heap.size fa fas fb fbs)(hW:MW b N e e' fr w0 wa wb)(hn:¬uW fb fbs)(cs:List b8):
  Tri P b N e e' fr w0 (arj fa fas) cs fb fbs (stepG P true (LG fa (fas++cs)) wa) (stepG P true (LG fb (fbs++ [bz P])) wb):=by
 have h:=E.top;rcases h.going with hm|hm
 ·have I:fb.mode=.run:=h.mode.trans hm;rw[asn hm,asn I];have O:=h.ok;have p:=h.todo;have ra:=h.ra;have rb:=h.rb;cases ht:fa.todo with
  |nil=>
   rw[ht] at p;refine atw E hW (es1:= #[]) (es2:= #[]) ?_ ?_
   ·simp only[stepG.exec,ht,ra];rfl
   ·simp only[stepG.exec,p,List.map_nil,rb];rfl
  |cons i k=>
   rw[ht] at p O;simp only[List.map_cons] at p;have hi:=O i (by simp);have hk:∀j∈k,mik fa.fn j=true:=λj hj=>O j (aed _ hj)
   have two:∀ {x y:Item},mik fa.fn x=true->mik fa.fn y=true->∀j∈x::y::k,mik fa.fn j=true:=by
    simp_all
   have one:∀ {x:Item},mik fa.fn x=true->∀j∈x::k,mik fa.fn j=true:=by
    simp_all
   cases i with
   |inBlock id=>
    refine aqn E hW hk (es1:= #[]) (es2:= #[]) ?_ ?_
    ·simp only[stepG.exec,ht];rfl
    ·simp only[stepG.exec,p,rl];rfl
   |inScope c=>
    refine aqn E hW hk (es1:= #[]) (es2:= #[]) ?_ ?_
    ·simp only[stepG.exec,ht];rfl
    ·simp only[stepG.exec,p,rl];rfl
   |inLoop c=>
    refine aqn E hW (two (x:=.code c) (y:=.inLoop c) hi hi) (es1:= #[]) (es2:= #[]) ?_ ?_
    ·simp only[stepG.exec,ht];rfl
    ·simp only[stepG.exec,p,rl];rfl
   |inRegion ops H=>
    cases H with
    |nil=>
     refine aqn E hW hk (es1:= #[]) (es2:= #[]) ?_ ?_
     ·simp only[stepG.exec,ht];rfl
     ·simp only[stepG.exec,p,rl];rfl
    |cons j H=>
     have Rt:arv fa.fn ops=true:=hi;have bH:=λ(u:b8) (l:List b8) (w:am)=>show stepG.exec P true true { u with todo:=.inRegion ops (j::H)::k } l none w=(if((ops[j]?).map (Region.wanted · (yielded ops u.tmps))).getD false then stepG.oper P true { u with todo:=.inRegion ops (j::H)::k } l none w else .go (LG (Frame.finish { u with todo:=.inRegion ops (j::H)::k } undef) l) w #[]) from rfl
     have eA:fa= { fa with todo:=.inRegion ops (j::H)::k } :=by rw[<-ht]
     have eB:fb= { fb with todo:=.inRegion (ops.map (qd fa.fn)) (j::H)::k.map (rl fa.fn) } :=by
      have:fb.todo=.inRegion (ops.map (qd fa.fn)) (j::H)::k.map (rl fa.fn):=p;rw[<-this]
     have Y:stepG.exec P true true fa (fas++cs) none wa=(if((ops[j]?).map (Region.wanted · (yielded ops fa.tmps))).getD false then stepG.oper P true fa (fas++cs) none wa else .go (LG (fa.finish undef) (fas++cs)) wa #[]):=by grind
     have M:stepG.exec P true true fb (fbs++ [bz P]) none wb=(if(((ops.map (qd fa.fn))[j]?).map (Region.wanted · (yielded (ops.map (qd fa.fn)) fb.tmps))).getD false then stepG.oper P true fb (fbs++ [bz P]) none wb else .go (LG (fb.finish undef) (fbs++ [bz P])) wb #[]):=by rw[eB];rfl
     have fin:∀ {x y:aa} {wa1 wb2:am},(∀d,(ops[j]?).bind (·.dst)=some d->VM b w0.heap.size (cl fa.fn d) x y)->FM b w0.heap.size (fa.finish x) (fb.finish y):=λhv=>h.fin ht hv
     have L:∀x,(fa.finish x).fn=fa.fn:=by intro x;unfold Frame.finish;rw[ht]
     have skip:∀ {XA XB:GStep} {es2:Array Event},XA=.go (LG (fa.finish undef) (fas++cs)) wa #[]->XB=.go (LG (fb.finish undef) (fbs++ [bz P])) wb es2->Tri P b N e e' fr w0 (arj fa fas) cs fb fbs XA XB:=λha yx=>
      .inr (.inr ⟨_,_,_,_,yx,_,_,_,_,ha,E.put (h.fin ht λd _=>VM.und _ _ _) (L _),hW,aqD (L _)⟩)
     cases ho:ops[j]? with
     |none=>
      grind
     |some o=>
      have hw:=asL h Rt j ho;simp only[ho,ad_,acz,aem] at Y M;simp only[hw] at M;cases hwt:Region.wanted o (yielded ops fa.tmps) with
      |false=>
       grind
      |true=>
       simp only[hwt,acC] at Y M;have U:aqo fa.fn o=true:=by
        have h9:arv fa.fn ops=true:=Rt;unfold arv at h9
        grind
       have hnd:∀c,o.op≠.defer c:=λc hc=>by unfold aqo at U;grind
       have axH:∀c,(qd fa.fn o).op≠.defer c:=λc hc=>by
        have:mop fa.fn o.op=.defer c:=hc;cases hop:o.op <;>rw[hop] at this <;>first|exact absurd hop (hnd _)|cases this
       have hoA:fa.oper?=some o:=by unfold Frame.oper?;grind
       have hoB:fb.oper?=some (qd fa.fn o):=by unfold Frame.oper?;grind
       rw[AH hoA hnd] at Y;rw[AH hoB axH] at M;rw[Y,M];have tB:X3 fb.todo:=by rw[p];trivial
       have tA:X3 fa.todo:=by rw[ht];trivial
       cases hr:(execOp fb.eval (qd fa.fn o)).run P wb with
       |halt x u=>
        have aup:=au6 hW h.em (λg=>⟨rfl,rfl⟩) (λv=>⟨rfl,rfl⟩) U _ _ hr;simp only[stepG.apply,ada,acC,Fw h.kb,abX,ab3,hr];cases x with
        |panic v=>
         have:∃ch,(fb.raise [{ v:=v,recovered:=false }]).mode=.panicking ch:=by unfold Frame.raise;split <;>exact⟨_,rfl⟩
         obtain⟨ch,pg⟩:=this;exact .inr (.inl ⟨fb.raise [{ v:=v,recovered:=false }],u,_,ch,rfl,pg,by unfold Frame.raise;split <;>exact h.db,by unfold Frame.raise;grind⟩)
        |unsupported u=>cases u <;>first|exact aup.elim|exact aq_ _ _ _ rfl
        |stuck=>exact aq_ _ _ _ rfl
        |_=>exact aup.elim
       |ok nb wb2=>
        obtain⟨na,wa1,q1,q2,q3⟩:=au5 hW h.em (λg=>⟨rfl,rfl⟩) (λv=>⟨rfl,rfl⟩) U hr;have okA:NOk na/\NOk nb:=by cases q3 <;>exact⟨trivial,trivial⟩
        rw[ark h.ka tA q1 okA.1,ark h.kb tB hr okA.2];cases q3 with
        |value x y hv=>
         exact .inr (.inr ⟨_,_,_,_,rfl,_,_,_,_,rfl,E.put (h.fin ht λd hd=>hv d (by grind)) (L _),q2,aqD (L _)⟩)
        |skip hd=>
         exact .inr (.inr ⟨_,_,_,_,rfl,_,_,_,_,rfl,E.put (h.fin ht λd _=>VM.und _ _ _) (L _),q2,aqD (L _)⟩)
        |enter g xs ys hg h1 hs hl hv hd=>
         obtain⟨a,dd,c,g1,g2,g3,g4,g5,g6,g7,g8,g9⟩:=aq2 (P:=P) hg;refine .inr (.inr ⟨Frame.enter P (mf g) ys .normal,fb::fbs,wb2,_,rfl,Frame.enter P g xs .normal,fa::fas,wa1,_,rfl,.cons ?_ (λaA5 i' r' k' d' Z e2=>?_) E,q2,rfl⟩)
         ·exact FM.enter hg hs hl hv g1 g2 g3 g4 g5 g8 g9
         ·rw[ht] at Z;cases Z;rw[ho] at e2;exact hd d' e2
   |code c=>
    cases c with
    |ret=>
     refine atw E hW (es1:= #[]) (es2:= #[]) ?_ ?_
     ·simp only[stepG.exec,ht,ra];rfl
     ·simp only[stepG.exec,p,rl,xd,rb];rfl
    |skip=>
     refine aqn E hW hk (es1:= #[]) (es2:= #[]) ?_ ?_
     ·simp only[stepG.exec,ht];rfl
     ·simp only[stepG.exec,p,rl,xd];rfl
    |seq x y=>
     have cZ:mck fa.fn x=true/\mck fa.fn y=true:=by simpa[mik,mck] using hi
     refine aqn E hW (two (x:=.code x) (y:=.code y) cZ.1 cZ.2) (es1:= #[]) (es2:= #[]) ?_ ?_
     ·simp only[stepG.exec,ht];rfl
     ·simp only[stepG.exec,p,rl,xd];rfl
    |block id x=>
     refine aqn E hW (two (x:=.code x) (y:=.inBlock id) hi rfl) (es1:= #[]) (es2:= #[]) ?_ ?_
     ·simp only[stepG.exec,ht];rfl
     ·simp only[stepG.exec,p,rl,xd];rfl
    |loop x=>
     refine aqn E hW (two (x:=.code x) (y:=.inLoop x) hi hi) (es1:= #[]) (es2:= #[]) ?_ ?_
     ·simp only[stepG.exec,ht];rfl
     ·simp only[stepG.exec,p,rl,xd];rfl
    |scope x=>
     refine aqn E hW (two (x:=.code x) (y:=.inScope x) hi hi) (es1:= #[]) (es2:= #[]) ?_ ?_
     ·simp only[stepG.exec,ht];rfl
     ·simp only[stepG.exec,p,rl,xd];rfl
    |cond c x y=>
     have cZ:(opc fa.fn 0 c=true/\mck fa.fn x=true)/\mck fa.fn y=true:=by simpa[mik,mck] using hi
     have hc:=(h.em 0 c cZ.1.1).eq0;cases hv:fa.eval c with
     |bool t=>
      rw[hv] at hc;refine aqn E hW (one (x:=.code (if t then x else y)) (by cases t;exact cZ.2;exact cZ.1.2)) (es1:= #[]) (es2:= #[]) ?_ ?_
      ·simp only[stepG.exec,ht,hv];rfl
      ·simp only[stepG.exec,p,rl,xd,hc];cases t <;>rfl
     |_=>
      rw[hv] at hc;refine aq_ ?_ wb ?_ ?_
      rotate_left 2
      ·simp only[stepG.exec,p,rl,xd,hc];rfl
    |exit id=>
     have hex:=atK fa.fn id k;cases hx:exitTo id k with
     |some t=>
      rw[hx] at hex;refine aqn E hW (λj hj=>hk j (atJ id hx j hj)) (ta:=t) (es1:= #[]) (es2:= #[]) ?_ ?_
      ·simp only[stepG.exec,ht,hx];rfl
      ·simp only[stepG.exec,p,rl,xd,hex];rfl
     |none=>
      rw[hx] at hex;refine aq_ ?_ wb ?_ ?_
      rotate_left 2
      ·simp only[stepG.exec,p,rl,xd,hex,aez,Option.elim,rb];rfl
    |region id ops draw=>
     have Rt:arv fa.fn ops=true:=by simpa[mik,mck] using hi
     cases draw with
     |false=>
      refine aqn E hW (one (x:=.inRegion ops (List.range ops.size)) Rt) (es1:= #[]) (es2:= #[]) ?_ ?_
      ·simp only[stepG.exec,ht];rfl
      ·simp only[stepG.exec,p,rl,xd,Array.size_map,List.map_cons];rfl
     |true=>
      have hmx:P.follows .mixedOrders=true:=(Ek (P:=P) .mixedOrders).trans rfl;have Y:(choose (.order fa.fn id)).run P wa=.ok (wa.tape wa.drawn (.order fa.fn id)) { wa with drawn:=wa.drawn+1 } :=rfl;have M:(choose (.order fb.fn id)).run P wb=.ok (wb.tape wb.drawn (.order fb.fn id)) { wb with drawn:=wb.drawn+1 } :=rfl;have heq:wb.tape wb.drawn (.order fb.fn id)=wa.tape wa.drawn (.order fa.fn id):=by
       rw[h.fn,hW.tp _ _ _ h.dm,hW.drawn,hW.tape]
      rw[heq] at M;have Xa:MW b N e e' fr w0 { wa with drawn:=wa.drawn+1 } { wb with drawn:=wb.drawn+1 } := { hW with drawn:=by simp[hW.drawn] }
      refine aqn E Xa (one (x:=.inRegion ops (Region.schedule true ops (wa.tape wa.drawn (.order fa.fn id)))) Rt) (es1:= #[]) (es2:= #[]) ?_ ?_
      ·simp only[stepG.exec,ht,aeF,abX,ab3,Y,hmx];rfl
      ·simp only[stepG.exec,p,rl,xd,aeF,abX,ab3,M,hmx,asM,List.map_cons];rfl
    |_=>exact absurd hi (by simp[mik,mck])
   |_=>exact absurd hi (by simp[mik])
 ·have I:fb.mode=.returning:=h.mode.trans hm;cases E with
  |bot h=>exact absurd ⟨rfl,I,h.db⟩ hn
  |cons h hd t=>
   rename_i ga gb gas gbs;obtain⟨a,dd,c,g1,g2,g3,g4,g5,g6,g7,g8,g9⟩:=aq2 (P:=P) h.dm;have gB:P.funcs[fb.fn]?=some dd:=by rw[h.fn];exact g2
   cases hr:(results dd fb.tmps).run P wb with
   |halt x u=>
    have Z:stepG P true (LG fb (gb::gbs++ [bz P])) wb=unwind P true fb (gb::gbs++ [bz P]) none wb:=by
     obtain⟨fn,tmps,todo,defers,mode,kind,ro⟩:=fb;simp only at I;subst I;rfl
    rw[Z];simp only[unwind,h.db,I,gB,ada,hr];cases x <;>exact aq_ _ _ _ rfl
   |ok y wb2=>
    obtain⟨x,q1,q2,rfl⟩:=atd (P:=P) h g6 g7 hr;rw[aaT,aaT,my I h.db h.kb gB hr,my hm h.da h.ka g1 (q1 wa)];have tt:=t.top;have key:FM b w0.heap.size (ga.finish x) (gb.finish y)/\(ga.finish x).fn=ga.fn:=by
     cases J:ga.todo with
     |nil=>
      have W:gb.todo= []:=by rw[tt.todo,J];rfl
      have Z:ga.finish x=ga:=by unfold Frame.finish;rw[J]
      have e2:gb.finish y=gb:=by unfold Frame.finish;rw[W]
      simp_all
     |cons i k=>
      by_cases hi:∃ops j r,i=.inRegion ops (j::r)
      ·obtain⟨ops,j,r,rfl⟩:=hi;refine⟨tt.fin J λd Cj=>?_,by unfold Frame.finish;rw[J]⟩
       simp_all
      ·have Z:ga.finish x=ga:=by
        have V:=tt.ok i (by simp_all);unfold Frame.finish;rw[J];cases i with
        |inRegion ops l=>
         simp_all
        |code c=>rfl
        |inBlock=>rfl
        |inLoop=>rfl
        |inScope=>rfl
        |_=>cases V
       have e2:gb.finish y=gb:=by
        have V:=tt.ok i (by simp_all);have W:gb.todo=rl ga.fn i::k.map (rl ga.fn):=by rw[tt.todo,J];rfl
        unfold Frame.finish;rw[W];cases i with
        |inRegion ops l=>
         cases l with
         |nil=>rfl
         |cons j r=>simp_all
        |code c=>rfl
        |inBlock=>rfl
        |inLoop=>rfl
        |inScope=>rfl
        |_=>cases V
       simp_all
    exact .inr (.inr ⟨_,_,_,_,rfl,_,_,_,_,rfl,t.put key.1 key.2,hW,aqD key.2⟩)
theorem aw2:∀(n:Nat) (fr:b8) (fs:List b8) (ch:List PanicEntry) (v:am),fr.mode=.panicking ch->(∀f∈fr::fs,f.defers= []/\∃fn,P.funcs[f.fn]?=some fn)->
  ∀(g:b8) (gs:List b8) (u:am),g.mode=.returning->runN P n (lone fr (fs++ [bz P]) v)≠.next (lone g (gs++ [bz P]) u):=by
 intro n
 induction n with
 |zero=>
  intro fr fs ch v hm _ g gs u hg h;simp only[runN,adW] at h;rw[(D1 h).1,hg] at hm;cases hm
 |succ n I=>
  intro fr fs ch v hm hp g gs u hg h;obtain⟨hd,fn,H⟩:=hp fr (by simp);have E:∀cs,stepG P true (LG fr cs) v=unwind P true fr cs none v:=by
   intro cs;obtain⟨fn,tmps,todo,defers,mode,kind,ro⟩:=fr;simp only at hm;subst hm;rfl
  have hc:fr.catches P=false:=by unfold Frame.catches;rw[H]
  cases fs with
  |nil=>
   have p:stepG P true (LG fr ([]++ [bz P])) v=.go (LG ((bz P).raise ch) []) v #[]:=by
    rw[E];simp only[unwind,hd,hm,hc,aaV];rfl
   rw[ff (jQ p)] at h;exact Gm ch v n g gs u h
  |cons f1 fs=>
   have p:stepG P true (LG fr (f1::fs++ [bz P])) v=.go (LG (f1.raise ch) (fs++ [bz P])) v #[]:=by
    rw[E];simp only[unwind,hd,hm,hc,aaT];rfl
   rw[ff (jQ p)] at h;have hr:(∃c,(f1.raise ch).mode=.panicking c)/\(f1.raise ch).defers=f1.defers/\(f1.raise ch).fn=f1.fn:=by unfold Frame.raise;grind
   grind
theorem Stk.ayx{fa fb:b8}(h:Stk b n0 fa fas fb fbs):∀f∈fb::fbs,f.defers= []/\∃fn,P.funcs[f.fn]?=some fn:=by
 have one:∀ {fa fb:b8},FM b n0 fa fb->fb.defers= []/\∃fn,P.funcs[fb.fn]?=some fn:=by
  intro fa fb h;obtain⟨a,p,c,g1,g2,_⟩:=aq2 (P:=P) h.dm;exact⟨h.db,p,by rw[h.fn];exact g2⟩
 induction h with
 |bot h=>grind
 |cons h hd t E=>
  grind
theorem mir{f0:aP}{y:aa}{H:b8}{p:am}(cT:H.leaving P p (.returned y)):∀(n:Nat) {fa fb:b8} {fas fbs:List b8} {wa wb:am},Stk b w0.heap.size fa fas fb fbs->MW b N e e' fr w0 wa wb->arj fa fas=f0->
  runN P n (lone fb (fbs++ [bz P]) wb)=.next (lone H [bz P] p)->
  ∃x w' fr',MW b N e e' fr w0 w' p/\VM b w0.heap.size (rc f0) x y/\Comes P (lone fa (fas++cs) wa) (lone fr' cs w') (.returned x)/\fr'.fn=f0/\fr'.leaving P w' (.returned x):=by
 obtain⟨lm,ld,lk,lfn,lf,lr⟩:=cT;intro n
 induction n with
 |zero=>
  intro fa fb fas fbs wa wb J hW I hr;simp only[runN,adW] at hr;obtain⟨rfl,M,rfl⟩:=D1 hr;cases J with
  |cons=>simp at M
  |bot E=>
   obtain⟨a,O,c,g1,g2,g3,g4,g5,g6,g7,g8,g9⟩:=aq2 (P:=P) E.dm;have L:P.funcs[fb.fn]?=some O:=by rw[E.fn];exact g2
   rw[lf] at L;cases L;obtain⟨x,q1,W,_⟩:=atd (P:=P) (wb:=wb) E g6 g7 lr;have V:fa.fn=f0:=I;rw[V] at W;exact⟨x,wa,fa,hW,W,Steps.refl _ _,V,E.mode▸lm,E.da,E.ka,a,g1,q1 wa⟩
 |succ n ih=>
  intro fa fb fas fbs wa wb J hW I hr;by_cases hn:uW fb fbs
  ·exfalso;obtain⟨rfl,hm,hd⟩:=hn;cases J with
   |bot E=>
    obtain⟨a,O,c,g1,g2,g3,g4,g5,g6,g7,g8,g9⟩:=aq2 (P:=P) E.dm;have L:P.funcs[fb.fn]?=some O:=by rw[E.fn];exact g2
    cases hq:(results O fb.tmps).run P wb with
    |ok z w2=>
     have:=my (P:=P) (m:=true) (c0:=bz P) (cs:= []) hm hd E.kb L hq;rw[aaV,ff (jQ this)] at hr;exact ud w2 z n H [] p hr
    |halt x u=>
     have e1:stepG P true (LG fb ([]++ [bz P])) wb=unwind P true fb ([]++ [bz P]) none wb:=by
      obtain⟨fn,tmps,todo,defers,mode,kind,ro⟩:=fb;simp only at hm;subst hm;rfl
     have M:∃o es,stepG P true (LG fb ([]++ [bz P])) wb=.ended o u es:=by
      rw[e1];simp only[unwind,hd,hm,L,ada,hq];cases x <;>exact⟨_,_,rfl⟩
     obtain⟨o,es,M⟩:=M;rw[ky (step_end M)] at hr;cases hr
  ·rcases au7 (P:=P) J hW hn cs with ⟨o,u,es,h1⟩|⟨U,u,es,ch,h1,h2,h3,h4⟩|⟨fb1,gs,wb1,es,h1,fa1,auh,wa1,es1,a1,a2,a3,a4⟩
   ·rw[ky (step_end h1)] at hr;cases hr
   ·exfalso;rw[ff (jQ h1)] at hr;refine aw2 (P:=P) n U fbs ch u h2 (λf hf=>?_) H [] p lm hr;have hg:=J.ayx (P:=P);rcases abZ.1 hf with rfl|hf
    ·simp_all
    simp_all
   ·rw[ff (jQ h1)] at hr;obtain⟨x,w',fr',r1,r2,Z,Y⟩:=ih a2 a3 (a4.trans I) hr;exact⟨x,w',fr',r1,r2,.of_steps (Steps.one (jQ a1)) Z,Y⟩
end
abbrev evB(c:UInt8):aa:=.int .u8 c.toNat
abbrev aq4(c:UInt8):Int:=(c.toNat:Int)
def inv(g:Nat):Nat:=match aqW.find? λx=>x.2==g with|some x=>x.1|none=>g
theorem auD:(aqW.all λx=>inv (mf x.1)==x.1)=true:=by kernel_rfl
theorem auE{g:Nat}(h:dom g=true):inv (mf g)=g:=by
 grind [auD,dom]
def aqL(l:List UInt8)(cap:Nat):Array aa:=((l.map λc=>Value.int .i64 c.toNat)++List.replicate (cap-l.length) undef).toArray
def wI(w:am)(b:Nat)(l:List UInt8)(cap:Nat):am:=
 { w with heap:=w.heap.setIfInBounds b (.cells (aqL l cap) 3 (0,0)),tape:=λn q=>match q with| .order g id=>w.tape n (.order (inv g) id)|q=>w.tape n q }
theorem atx{a b:UInt8}(h:aq4 a=aq4 b):a=b:=by
 grind [UInt8.toNat.inj]
theorem as_(l:List UInt8):(l.map aq4).mergeSort (λx y=>decide (x<=y))=(l.mergeSort λx y=>decide (x<=y)).map aq4:=
 (List.map_mergeSort (f:=aq4) (r:=λx y=>decide (x<=y)) (s:=λx y=>decide (x<=y)) λa _ b _=>by
  grind [UInt8.le_iff_toNat_le]).symm
theorem atN(l:List UInt8):Lib.compact (l.map aq4)=(Lib.compact l).map aq4:=by
 induction l using wF with
 |h0=>rfl
 |h1 l x p=>
  rw[afD,List.map_singleton,j3,j3,p,afD];congr 1;rw[List.getLast?_map];cases hl:l.getLast? with
  |none=>simp
  |some y=>
   simp only[acz,Option.some.injEq];by_cases h:y=x
   ·simp[h]
   ·rw[aat (λe=>h (atx e)),aat h];rfl
section
variable{P:ap}[l:cL P]{g:Gh}{w:am}{B b cap:Nat}
theorem start(hW:WI g w){xs:List UInt8}(J:Row B 5 g w (.slice (some ⟨b,0,none⟩) xs.length cap) (xs.map evB)):MW b cap 5 3 (0,0) w w (wI w b xs cap)/\Sort.Holds (Value.int .i64) (wI w b xs cap) b 0 (xs.map aq4).toArray/\b<(wI w b xs cap).heap.size/\xs.length<=cap:=by
 rcases J.own.2 with ⟨p,_⟩|⟨b',V,cur,p,O,hg,h1,h2,U,E⟩
 ·cases p
 rw[abz] at p h1 E;cases p;have hb:=(aah.1 hg).1;have L:(aqL xs cap).size=cap:=by grind [aqL]
 have M:(wI w b xs cap).heap[b]?=some (.cells (aqL xs cap) 3 (0,0)):=by
  grind [wI]
 have I:∀(i:Nat) (hi:i<xs.length),(aqL xs cap)[i]?=some (.int .i64 xs[i].toNat):=by
  grind [aqL]
 refine⟨⟨by simp[wI],aax _,hb,λc hc=>?_,λc o hc ho=>?_,⟨cur,aqL xs cap,hg,M,by omega,L,λi x y hx hy=>?_⟩,λ_ _ _=>rfl,rfl,rfl,rfl,rfl,λn f id hd=>?_⟩,λj N=>?_,by grind,h1⟩
 ·grind [wI]
 ·simp_all
 ·by_cases hi:i<xs.length
  ·right;rw[I i hi] at hy;cases hy;have:cur.toList.take (xs.length*1)=xs.map evB:=E;have H:(cur.toList.take (xs.length*1))[i]?=some x:=by
    grind
   rw[this,aeq,aaf hi] at H;cases H;exact⟨xs[i].toNat,xs[i].toNat_lt,rfl,rfl⟩
  ·left
   grind [aqL]
 ·show w.tape n (.order (inv (mf f)) id)=_;rw[auE hd]
 grind [World.cell?,World.frozen?]
omit l in
theorem finish(hW:WI g w){xs r:List UInt8}{w' wb:am}{ys:Array aa}(L:Row B 5 g w (.slice (some ⟨b,0,none⟩) xs.length cap) (xs.map evB))(p:MW b cap 5 3 (0,0) w w' wb)(hk:r.length<=xs.length)
  (hb:wb.heap[b]?=some (.cells ys 3 (0,0))) (hy:∀(i:Nat) (hi:i<r.length),ys[i]?=some (.int .i64 r[i].toNat)):
  Lw g g w w'/\WI g w'/\Row B 5 g w' (.slice (some ⟨b,0,none⟩) r.length cap) (r.map evB)/\∀c,c<w.heap.size->(Value.slice (some ⟨b,0,none⟩) xs.length cap).ownBlock≠some c->w'.heap[c]?=w.heap[c]?:=by
 rcases L.own.2 with ⟨H,_⟩|⟨b',Pf,cur,H,W,hg,h1,h2,h3,h4⟩
 ·cases H
 rw[abz] at H h1;cases H;obtain⟨cs,ds,r1,J,r3,Z,O⟩:=p.row;rw[hb] at J;cases J;have M:cs.toList.take (r.length*1)=r.map evB:=by
  refine aer λi=>?_
  rw[acF,Nat.mul_one,aeq];by_cases hi:i<r.length
  ·rw[aay hi,ae2,aaf hi];have E:i<cs.size:=by omega
   rw[aa_ E];rcases O i _ _ (aa_ E) (hy i hi) with h|⟨n,hn,ha,V⟩
   ·cases h
   simp_all
  grind
 have N:w.grownBy w' (some b):=⟨p.os,p.tape,p.out,p.n0,λc hc I=>p.mo c hc (λe=>I (by rw[e]))⟩
 have Y:w'.ownsRow B 5 1 (.slice (some ⟨b,0,none⟩) r.length cap) (r.map evB).length (r.map evB):=by
  rw[abz];exact⟨by simp,.inr ⟨b,cap,cs,rfl,W,r1,by omega,h2,by omega,M⟩⟩
 obtain⟨k1,k2,U⟩:=L.Mb hW Y (λc hc=>.inl hc) N (λh=>by cases h);exact⟨k1,k2,U,λc hc I=>p.mo c hc (λe=>I (by rw[e];rfl))⟩
theorem Dq{f0 f1:Nat}(hd:dom f0=true)(hf:mf f0=f1)(hp:(aqH f0).2.2.2= [1]){xs:List UInt8}{R:aa->am->Prop}(hW:WI g w)(I:Row B 5 g w (.slice (some ⟨b,0,none⟩) xs.length cap) (xs.map evB))
  (hc:Calls P f1 #[.slice (some ⟨b,0,none⟩) xs.length cap] (wI w b xs cap) λe v=>∃y,e=.returned y/\R y v):
  Calls P f0 #[.slice (some ⟨b,0,none⟩) xs.length cap] w λe w'=>∃x y v,e=.returned x/\R y v/\MW b cap 5 3 (0,0) w w' v/\VM b w.heap.size (rc f0) x y:=by
 intro cs;obtain⟨U,v,H,⟨y,rfl,O⟩,⟨n,hn⟩,_,hl⟩:=hc [bz P];obtain⟨a,V,c,g1,g2,g3,g4,g5,g6,g7,g8,g9⟩:=aq2 (P:=P) hd;have p:FM b w.heap.size (Frame.enter P f0 #[.slice (some ⟨b,0,none⟩) xs.length cap] .normal) (Frame.enter P (mf f0) #[.slice (some ⟨b,0,none⟩) xs.length cap] .normal):=by
  refine FM.enter hd rfl (by grind) (λi c x y h1 h2 E=>?_) g1 g2 g3 g4 g5 g8 g9;rw[hp] at h1;cases i with
  |zero=>
   simp at h1 h2 E;subst h1 h2 E;exact⟨rfl,.inr (.inr (.inl ⟨_,_,_,rfl⟩))⟩
  |succ i=>grind
 rw[hf] at p;obtain⟨x,w',fr',r1,N,M,L,J⟩:=mir (P:=P) (f0:=f0) (cs:=cs) hl n (.bot p) (start hW I).1 (by rfl) hn
 grind
theorem ata(l:List UInt8)(hl:l.length<4611686018427387904):kK P 150 5 evB l (l.mergeSort λx y=>decide (x<=y)):=by
 intro B g w x hW p;rcases lV p with ⟨rfl,rfl⟩|⟨b,cap,rfl,hb,h1,h2⟩
 ·rw[List.mergeSort_nil];exact J1 [] (by simp) B g w _ hW p
 ·obtain⟨s1,s2,s3,J⟩:=start hW p;have hc:=Any.slices_Sort_int (P:=P) Nq b 0 cap (l.map aq4) (wI w b l cap) s2 s3 (by grind);rw[abz,as_] at hc;refine(Dq (P:=P) (f0:=150) (f1:=131) (R:=λy v=>y=.tuple #[]/\∃n os,v=Sort.grow (Sort.putRow (Value.int .i64) (Sort.ahead (wI w b l cap) n) b 0 ((l.mergeSort λx y=>decide (x<=y)).map aq4).toArray) os) rfl rfl rfl hW p (hc.mono λe v ⟨h1,h2⟩=>⟨_,h1,rfl,h2⟩)).mono ?_;rintro M w' ⟨x,y,v,rfl,⟨rfl,n,os,rfl⟩,H,hx⟩;have I:x=.tuple #[]:=hx.1.symm;subst I;refine⟨rfl,?_⟩;have E:(Sort.grow (Sort.putRow (Value.int .i64) (Sort.ahead (wI w b l cap) n) b 0 ((l.mergeSort λx y=>decide (x<=y)).map aq4).toArray) os).heap[b]?=some (.cells (Sort.putCells (Value.int .i64) 0 ((l.mergeSort λx y=>decide (x<=y)).map aq4).toArray (aqL l cap)) 3 (0,0)):=by
   rw[Sort.heap_grow_old _ _ (by simp_all)];show((wI w b l cap).heap.modify b (Sort.onCells _))[b]?=_;rw[acD,aay rfl]
   grind [wI,Sort.onCells]
  have hf:=finish hW (r:=l.mergeSort λx y=>decide (x<=y)) p H (by simp) E (λi hi=>by
   have L:i<l.length:=by simpa using hi
   grind [aqL,Sort.putCells])
  simp_all
theorem atP(l:List UInt8)(hl:l.length<4611686018427387904):CY P 151 5 evB l (Lib.compact l):=by
 intro B g w x hW p;rcases lV p with ⟨rfl,rfl⟩|⟨b,cap,rfl,hb,h1,h2⟩
 ·exact Ld [] (by simp) B g w _ hW p
 ·obtain⟨s1,s2,s3,J⟩:=start hW p;have hc:=Any.slices_Compact_int (P:=P) TD b 0 cap (l.map aq4) (wI w b l cap) s2 (by grind) (by simp_all);rw[abz,atN,abz] at hc;have hle:=iv l;obtain⟨r,hr⟩:∃r,r=Lib.compact l:=⟨_,rfl⟩
  rw[<-hr] at hc hle ⊢;refine(Dq (P:=P) (f0:=151) (f1:=132) (R:=λy v=>y=.slice (some ⟨b,0,none⟩) r.length cap/\∃n,v=Sort.putRow (Value.int .i64) (Sort.ahead (wI w b l cap) n) b 0 (r.map aq4++List.replicate (l.length-r.length) 0).toArray) (by decide) (by decide) rfl hW p (hc.mono λe v h=>⟨_,h.1,rfl,h.2⟩)).mono ?_;rintro L w' ⟨x,y,v,rfl,⟨rfl,n,rfl⟩,H,hx⟩;have I:x=.slice (some ⟨b,0,none⟩) (r).length cap:=hx.1.symm;subst I;have E:(Sort.putRow (Value.int .i64) (Sort.ahead (wI w b l cap) n) b 0 ((r).map aq4++List.replicate (l.length-(r).length) 0).toArray).heap[b]?=some (.cells (Sort.putCells (Value.int .i64) 0 ((r).map aq4++List.replicate (l.length-(r).length) 0).toArray (aqL l cap)) 3 (0,0)):=by
   show((wI w b l cap).heap.modify b (Sort.onCells _))[b]?=_;rw[acD,aay rfl]
   grind [wI,Sort.onCells]
  have hf:=finish hW (r:=r) p H hle E (λi hi=>by
   grind [aqL,Sort.putCells])
  exact⟨_,rfl,hf.1,hf.2.1,hf.2.2.1,λc hc=>hc,hf.2.2.2⟩
end
end Go.Proofs.YtjagmhagphbfcaaGreatDoor.Mi
namespace Go.Proofs.YtjagmhagphbfcaaGreatDoor
open Go renaming Value→aa,World→am,Program→ap,FuncId→aP,Frame→b8
open Go Go.Proofs
section
variable{P:ap}[l:cL P]
theorem asm(ws:List (List UInt8))(hw:∀w∈ws,w.length=10)(hn:ws.length<100000000)(Y:List UInt8->List UInt8)(p:aP)(l1 l2:List AV)(E:Enters P p)(hl1:l1.map AV.strip=l1)(hl2:l2.map AV.strip=l2)
  (H:∀w∈ws,aq P p (l1++ [.ag (ao w)]++l2) (.sq none 1 (ao (Y w)))) (hb:(ws.flatMap Y).length<=4000000000000):aq P 105 [.sq none 10 (amE ws),.fn p l1 l2] (.sq none 1 (ao (uB (ws.flatMap Y)))):=
 qE (R:=λn w y=>∃g2,Row n 5 g2 w y _) (mP (.inr (.inl ⟨rfl,rfl,rfl,rfl,rfl,rfl⟩)) (λh=>absurd h (by decide)) CB ⟨⟩ ⟨⟩ ⟨⟩ ⟨⟩ ⟨⟩ ws hw hn Y p l1 l2 E hl1 hl2 H hb (Mi.ata _ (by omega)) (Mi.atP _ (by rw[af0];omega)))
def tk(h:ay)(d:Int):List UInt8:=uB ((aB h).flatMap λw=> [nX w d])
theorem ash(h:ay)(hm:j9 h)(d:Int):aq P 46 [.ag (o6 h),.i .i64 d] (.tu [.s (bK h [mT d] (tk h d) []),.i .i64 (bJ h [mT d])]):=by
 obtain⟨A,J,p⟩:=kA (P:=P) h hm [mT d] (by simp);obtain⟨B,I,H⟩:=ca (HY (P:=P) d);simp only[o6,List.map_cons,List.map_nil] at p;by_cases ho:bJ h [mT d]=0
 ·have hr:bZ h [mT d]=opened h:=by simp[bZ,ho]
  rw[hr] at p;simp only[opened,aj,o6,aaT,aaV] at p;obtain⟨hc,fM,_⟩:=ij ho;have hd:0<=d/\d<=9:=by
   refine aaO λhn=>?_
   have:mT d=1:=by unfold mT;rw[aat hn]
   rw[this] at fM;simp[bN] at fM
  have M:aq P 105 [.sq none 10 (amE (aB h)),.fn 106 [] [.sp [.i .i64 d]]] (.sq none 1 (ao (tk h d))):=by
   unfold tk;refine asm (aB h) (cI hc) (jc hc) (λw=> [nX w d]) 106 [] [.sp [.i .i64 d]] (aR Tryz.func106) rfl (by simp) (λw hw=>?_) ?_
   ·exact BV w d (cI hc w hw) hd.1 hd.2
   ·rw[rT,abz];have:=jc hc;omega
  obtain⟨C,O,hC⟩:=ca M;have N:=mZ (tk h d);refine fi (ak (aR Tryz.func74) J (ak (aR Tryz.func104) I (ak (aR Tryz.func105) O (au P)))) (lf Tryz.func46) ?_
  repeat' first|apply nI|(refine eI aq5 λK E=>?_;simp[o6,ab,az,p,H,hC,bne,N];apply E)
  simp[Dn,dc,aH,Tryz.f46,bK,ho]
 ·have hr:bZ h [mT d]=cG (bJ h [mT d]):=by simp[bZ,ho]
  rw[hr] at p;simp only[cG,dQ] at p;have L:(bJ h [mT d]==0)=false:=by simp[ho]
  refine fi (ak (aR Tryz.func74) J (ak (aR Tryz.func104) I (au P))) (lf Tryz.func46) ?_
  repeat' first|apply nI|(refine eI aq5 λK E=>?_;simp[o6,ab,az,p,H,bne,L];apply E)
  simp[Dn,dc,aH,Tryz.f46,bK,ho]
end
section
variable{P:ap}[l:cL P]
end
theorem aqY:∀(L S:List UInt8),S.Nodup->(e_ L S).Nodup
 | [],S,_=>by simp[e_]
 |c::L,S,h=>by
  unfold e_;split
  ·refine List.pairwise_flatMap.2 ⟨λk hk=>?_,?_⟩
   ·refine List.pairwise_map.2 ((aqY L _ ?_).imp λp e=>p (List.cons.inj e).2);have:(S.take k++S.drop (k+1))=S.eraseIdx k:=(List.eraseIdx_eq_take_drop_succ ..).symm
    grind
   ·refine(List.pairwise_lt_range).imp_of_mem fun {a b} ha hb E x hx y hy e=>?_
    grind [getD_inj]
  ·exact List.pairwise_map.2 ((aqY L S h).imp λp e=>p (List.cons.inj e).2)
theorem aqX{h:ay}(hc:aO h=0):(aB h).Nodup:=by
 have h1:=(checked h hc).1;have p:h.S.Nodup:=by
  have hd:=La h1.2.2.2.2.2.2.2;have hf:h.S.filter (· !=63)=h.S:=List.filter_eq_self.2 λc hc=>by simpa using lZ (En h1.2.2.1 c hc)
  grind
 exact(aqY _ _ p).sublist List.filter_sublist
def arf(ws:List (List UInt8)):Bool:= !(ws.any λv=> !(v==ws.headD []))
theorem atv{ws:List (List UInt8)}(hn:ws.Nodup)(p:ws≠ []):arf ws=((ws.length:Int)==1):=by
 match ws,hn,p with
 | [],_,p=>simp_all
 | [w],_,_=>simp[arf]
 |w::v::r,hn,_=>
  grind [arf]
theorem aq8:∀(L S p:List UInt8),S.Perm p->∀w,w∈e_ L S->w∈e_ L p
 | [],_,_,_,w,h=>h
 |c::L,S,p,hp,w,h=>by
  unfold e_ at h ⊢;split at h
  ·rename_i hc;rw[aay hc];simp only[aeQ,ac4,aeh] at h ⊢;obtain⟨k,hk,v,hv,rfl⟩:=h;have E:=nH S k hk;have hm:S.getD k 0∈p:=hp.mem_iff.1 (E.mem_iff.1 (by simp));obtain⟨j,H,e⟩:=List.mem_iff_getElem.1 hm;have e':p.getD j 0=S.getD k 0:=by simp_all
   have p2:=nH p j H;rw[e'] at p2;exact⟨j,H,v,aq8 L _ _ ((List.perm_cons _).1 (E.trans (hp.trans p2.symm))) v hv,by rw[e']⟩
  ·rename_i hc;rw[aat hc];simp only[ac4] at h ⊢;obtain⟨v,hv,rfl⟩:=h;exact⟨v,aq8 L S p hp v hv,rfl⟩
structure Tw(h k:ay):Prop where
 L:k.L=h.L
 R:k.R=h.R
 S:k.S.Perm h.S
 al:∀r c,fK k r c=fK h r c
 tags:k.tags=h.tags.reverse
theorem Tw.symm{h k:ay}(t:Tw h k):Tw k h:=⟨t.L.symm,t.R.symm,t.S.symm,λr c=>(t.al r c).symm,by rw[t.tags,List.reverse_reverse]⟩
theorem ar5{h k:ay}(hr:k.R=h.R)(ha:∀r c,fK k r c=fK h r c)(w:List UInt8):∀(s:List UInt8) (last n:Int) (b:Bool),bf k w s last n b=bf h w s last n b
 | [],_,_,_=>rfl
 |r::s,last,n,b=>by
  have p:=ar5 hr ha w s;simp only[bf,p,ha,hr]
theorem as8{h k:ay}(hr:k.R=h.R)(ha:∀r c,fK k r c=fK h r c)(w:List UInt8)(t:Tag):cF k w t=cF h w t:=by
 grind [ar5,cF]
theorem asZ{x:ay}{w:List UInt8} :w∈aB x↔w∈e_ x.L x.S/\∀t∈x.tags,cF x w t≠ []:=by
 unfold aB Az
 simp_all
theorem ar4{h k:ay}(hl:k.L=h.L)(hr:k.R=h.R)(hs:k.S.Perm h.S)(ha:∀r c,fK k r c=fK h r c)(ht:∀t,t∈h.tags->t∈k.tags){w:List UInt8}(hw:w∈aB k):w∈aB h:=by
 grind [asZ,aq8,as8]
theorem Tw.words{h k:ay}(t:Tw h k)(w:List UInt8):w∈aB k↔w∈aB h:=
 ⟨ar4 t.L t.R t.S t.al λu hu=>by rw[t.tags];grind,ar4 t.symm.L t.symm.R t.symm.S t.symm.al λu hu=>by rw[t.tags] at hu;grind⟩
theorem Tw.nil{h k:ay}(t:Tw h k):aB k= []↔aB h= []:=by
 simp only[List.eq_nil_iff_forall_not_mem,t.words]
theorem Tw.len{h k:ay}(t:Tw h k)(hc:aO h=0)(kc:aO k=0):(aB k).length=(aB h).length:=
 ((List.perm_ext_iff_of_nodup (aqX kc) (aqX hc)).2 λw=>t.words w).length_eq
theorem as7{s:List UInt8}(h:s.length=2):∃x y,s= [x,y]:=by
 match s,h with
 | [x,y],_=>simp_all
def atH(s:List UInt8):Prop:=s.length=2/\bA s 65=true/\s[0]?≠s[1]?
theorem atn(pre:List (List UInt8))(s:List UInt8):eR pre s=0↔atH s/\∀p∈pre,cP p s=false:=by
 unfold eR atH
 grind
theorem arT:∀(l pre:List (List UInt8)),cb pre l=0↔(∀s∈l,atH s/\∀p∈pre,cP p s=false)/\l.Pairwise (λa b=>cP a b=false)
 | [],pre=>by simp[cb]
 |s::l,pre=>by
  have E:=arT l (pre++ [s]);have hp:=atn pre s;unfold cb;by_cases h0:eR pre s=0
  ·rw[aat (by omega),E]
   grind [List.pairwise_cons]
  grind
theorem arU(c:UInt8):∀l:List (List UInt8),(∀s∈l,s.length=2)->aqK c l=c\/∃s∈l,vF (aqK c l) c s=true
 | [],_=>.inl rfl
 |s::l,h=>by
  obtain⟨y,z,rfl⟩:=as7 (h s (by simp));unfold aqK;by_cases h1:y=c
  ·right;exact⟨[y,z],by simp,by simp[vF,h1]⟩
  ·by_cases h2:z=c
   ·right;exact⟨[y,z],by simp,by simp[vF,h1,h2]⟩
   ·have:=arU c l λs hs=>h s (by simp[hs])
    rw[show(if[y,z].getD 0 0=c then[y,z].getD 1 0 else if[y,z].getD 1 0=c then[y,z].getD 0 0 else aqK c l)=aqK c l by simp[h1,h2]];rcases this with e|⟨s,hs,e⟩
    ·exact .inl e
    ·exact .inr ⟨s,by simp[hs],e⟩
theorem asA{h:ay}(hv:sH h)(r c:UInt8)(b:Bool):fK h (if r=63 then 63 else aqs h c b) c=true:=by
 by_cases h1:r=63
 ·simp[fK,h1]
 ·rw[aat h1];unfold aqs;cases b with
  |false=>exact lD h c
  |true=>
   rw[aay rfl];rcases arU c h.alike hv.2 with e|⟨s,hs,e⟩
   ·rw[e];exact lD h c
   ·unfold fK;rw[adr];exact .inr (afl.2 ⟨s,hs,e⟩)
theorem aty{h:ay}(hl:∀s∈h.alike,s.length=2/\∀c∈s,isLet c=true){c:UInt8}(hc:isLet c=true)(b:Bool):isLet (aqs h c b)=true:=by
 unfold aqs;cases b with
 |false=>exact hc
 |true=>
  rw[aay rfl];generalize h.alike=l at hl
  induction l with
  |nil=>exact hc
  |cons s l E=>
   obtain⟨h2,p⟩:=hl s (by simp);obtain⟨y,z,rfl⟩:=as7 h2;unfold aqK;split
   ·exact p z (by simp)
   ·split
    ·exact p y (by simp)
    ·exact E λs hs=>hl s (by simp[hs])
theorem arJ(h:ay)(w:List UInt8):∀(p:List Int) (rs:List UInt8) (last n:Int) (b:Bool),(∀d∈p,0<=d/\d<=9)->rs.length=p.length->(∀k<p.length,fK h (rs.getD k 0) ((dC w h.R last p).getD k 0)=true)->
  (valOf n p,b||bE (dC w h.R last p) rs)∈bf h w rs last n b
 | [],[],last,n,b,_,_,_=>by simp[dC,bf,valOf,bE]
 | [],r::rs,_,_,_,_,hl,_=>by simp at hl
 |d::l,[],_,_,_,_,hl,_=>by simp at hl
 |d::l,r::rs,last,n,b,hd,hl,ha=>by
  have M:=hd d (by simp);have H:=λb'=>arJ h w l rs d (10*n+d) b' (λx hx=>hd x (by simp[hx])) (by simpa using hl) λk hk=>by
   have:=ha (k+1) (by simpa using hk);simpa[dC] using this
  have h0:fK h r (Gc w h.R last d)=true:=by
   have:=ha 0 (by simp);simpa[dC] using this
  have J:valOf n (d::l)=valOf (10*n+d) l:=rfl;rw[dC,bf,abH,J,bE,<-Bool.or_assoc];by_cases E:h.R≠ []/\d=last
  ·right;obtain⟨q,L,hq⟩:=agl E.1;have hc:Gc w h.R last d=q:=by simp[Gc,E,hq]
   rw[hc] at h0 ⊢;rw[hq];simp only;rw[aay (by omega),aay h0,<-E.2,<-hq];exact H _
  ·left;have hc:Gc w h.R last d=w.getD ((d+9)%10).toNat 0:=by rw[Gc,aat E]
   rw[hc] at h0 ⊢;have hk:((d+9)%10).toNat<10:=by omega
   have he:(((((d+9)%10).toNat+1)%10:Nat):Int)=d:=by omega
   have I:(d !=last||h.R.isEmpty)=true:=by
    by_cases e:d=last
    ·have:h.R= []:=aaO λhn=>E ⟨hn,e⟩
     simp[this]
    ·simp[e]
   refine aeQ.2 ⟨((d+9)%10).toNat,aeh.2 hk,?_⟩;rw[he,aay I,aay h0];exact H _
theorem arM(x:UInt8):∀a b:List UInt8,a.length=b.length->(∀k<a.length,(a.getD k 0=x↔b.getD k 0=x))->a.count x=b.count x
 | [],[],_,_=>rfl
 | [],_::_,h,_=>by simp at h
 |_::_,[],h,_=>by simp at h
 |c::a,d::b,hl,h=>by
  have h0:=h 0 (by simp);simp only[List.getD_cons_zero] at h0;have p:=arM x a b (by simpa using hl) λk hk=>by
   have:=h (k+1) (by simpa using hk);simpa using this
  rw[List.count_cons,List.count_cons,p];congr 1;by_cases e:c=x
  ·rw[aay (by simp[e]),aay (by simp[h0.1 e])]
  ·rw[aat (by simp[e]),aat (by simpa using λe'=>e (h0.2 e'))]
theorem atQ{h:ay}(hc:aO h=0){ts:List Tag}(hl:ts.length<=5)(ht:∀t∈ts,aM t.reads=0/\dR t.low t.high=true):aO { h with tags:=ts } =0:=by
 unfold aO at hc ⊢;have p:bB { h with tags:=ts } =bB h:=rfl;simp only[p,alm _ ht];split at hc
 ·rename_i h;exact absurd hc h
 rename_i a1;rw[aat a1];split at hc
 ·rename_i h;exact absurd hc h
 rename_i a2;rw[aat a2,aat (by omega)]
def gk(h:ay)(w:List UInt8)(more:List Int):ay:= { h with tags:=cv h w more h.tags.length }
section
variable{h:ay}{w:List UInt8}{more:List Int}(hc:aO h=0)(ho:Tc h w)
theorem at1{i:Nat}(hi:i<h.tags.length):(gk h w more).tags[i]?=some (aqj h w more i (l7 h i)):=by
 simp[gk,cv,hi]
theorem aqZ{i:Nat}(hi:i<h.tags.length):l7 h i∈h.tags:=by
 have:l7 h i=h.tags[i]:=by simp[l7,List.getD,aaf hi]
 rw[this];exact abG hi
include hc
theorem arD{t:Tag}(ht:t∈h.tags):1<=t.reads.length/\t.reads.length<=5:=by
 have:=(alh _ (checked h hc).2.2.2 t ht).1;unfold aM at this;split at this
 ·cases this
 ·omega
theorem asE:∀s∈h.alike,s.length=2/\∀c∈s,isLet c=true:=λs hs=>by
 obtain⟨h1,h2,_⟩:=(((arT _ _).1 (checked h hc).2.1.2).1 s hs).1;exact⟨h1,En h2⟩
theorem aqN{n:Int}{t:Tag} :(aqw h w n t).length=t.reads.length:=by unfold aqw;rw[tX,Fx]
include ho
theorem arS{n:Int}{t:Tag}{x k:Nat}(hk:k<t.reads.length):(aql h (aqw h w n t) t.reads x).getD k 0=aq6 h (aqw h w n t) t.reads x k:=by
 have hl:=aqN (h:=h) (w:=w) hc (n:=n) (t:=t);simp[aql,hl,hk]
theorem asS{n:Int}{t:Tag} :∀c∈aqw h w n t,isLet c=true:=tW ho _ _
theorem ar_{n:Int}{t:Tag}{x k:Nat}(hk:k<t.reads.length):(aq6 h (aqw h w n t) t.reads x k=63↔t.reads.getD k 0=63)/\(aq6 h (aqw h w n t) t.reads x k≠63->isLet (aq6 h (aqw h w n t) t.reads x k)=true):=by
 have hl:=aqN (h:=h) (w:=w) hc (n:=n) (t:=t);have hm:(aqw h w n t).getD k 0∈aqw h w n t:=xE (by omega);have hb:=aty (asE hc) (asS hc ho _ hm) (x.testBit k);unfold aq6;by_cases e:t.reads.getD k 0=63
 ·rw[aay e];exact⟨⟨λ_=>e,λ_=>rfl⟩,λh=>absurd rfl h⟩
 ·rw[aat e];exact⟨⟨λh=>absurd h (lZ hb),λh=>absurd h e⟩,λ_=>hb⟩
theorem atf{i:Nat}{t:Tag}(ht:t∈h.tags):aM (aqj h w more i t).reads=0/\dR (aqj h w more i t).low (aqj h w more i t).high=true:=by
 have H:=arD hc ht;obtain⟨k1,k2⟩:=alh _ (checked h hc).2.2.2 t ht;obtain⟨n0,n1,I⟩:=ard (more:=more) (i:=i) H.2;constructor
 ·unfold aqj;simp only;generalize ti more i t=n;generalize (more.getD (5+i) 0).toNat=x;have hl:=aqN (h:=h) (w:=w) hc (n:=n) (t:=t);have hlen:(aql h (aqw h w n t) t.reads x).length=t.reads.length:=by simp[aql,hl]
  have p:(aql h (aqw h w n t) t.reads x).count 63=t.reads.count 63:=arM 63 _ _ hlen λk hk=>by
   rw[arS hc ho (by omega)];exact(ar_ hc ho (by omega)).1
  have E:bA (aql h (aqw h w n t) t.reads x) 63=true:=acp.2 λc hm=>by
   simp only[aql,ac4,aeh] at hm;obtain⟨k,hk,rfl⟩:=hm;by_cases e:aq6 h (aqw h w n t) t.reads x k=63
   ·simp[e]
   ·simp[(ar_ hc ho (by omega)).2 e]
  unfold aM at k1 ⊢;rw[hlen,p,E];split at k1
  ·cases k1
  ·rename_i a1;rw[aat a1,aat (by simp)];split at k1
   ·cases k1
   ·exact k1
 ·simp only[dR,aan] at k2;unfold aqj dR;simp only[aan];split <;>omega
theorem atj:aO (gk h w more)=0:=by
 refine atQ hc (by simpa[cv] using(checked h hc).2.2.1) λt ht=>?_
 simp only[cv,ac4,aeh] at ht;obtain⟨i,hi,rfl⟩:=ht;exact atf hc ho (aqZ hi)
theorem arI{i:Nat}{t:Tag}(ht:t∈h.tags):(ti more i t,bE (aqw h w (ti more i t) t) (aqj h w more i t).reads)∈cF (gk h w more) w (aqj h w more i t):=by
 have p:=arD hc ht;obtain⟨n0,n1,E⟩:=ard (more:=more) (i:=i) p.2;have hl:=aqN (h:=h) (w:=w) hc (n:=ti more i t) (t:=t);have hv:sH h:=(dO h hc).al;unfold cF;refine afJ.2 ⟨?_,?_⟩
 ·have:=arJ (gk h w more) w (cj (ti more i t) t.reads.length) (aqj h w more i t).reads (-1) 0 false (CC _ _) (by rw[Fx];simp[aqj,aql,hl]) λk hk=>by
   rw[Fx] at hk;show fK h _ _=true;rw[show(aqj h w more i t).reads.getD k 0=_ from arS hc ho hk];exact asA hv _ _ _
  rw[pR _ _ n0 n1,ahe] at this;exact this
 ·unfold jU aqj;simp only[aaZ,aan];split <;>omega
theorem asP(hw:w∈e_ h.L h.S):w∈aB (gk h w more):=by
 unfold aB Az;rw[afJ,acp];refine⟨hw,λt ht=>?_⟩;simp only[gk,cv,ac4,aeh] at ht;obtain⟨i,hi,rfl⟩:=ht;have:=arI (more:=more) hc ho (i:=i) (aqZ hi);cases e:cF (gk h w more) w (aqj h w more i (l7 h i)) with
 |nil=>rw[e] at this;simp at this
 |cons _ _=>rfl
end
section
variable{x:ay}{w:List UInt8}(hc:aO x=0)(hw:w∈aB x){d:Int}(h0:0<=d)(h9:d<=9)
include hw
theorem ar8:nX w d∈tk x d:=(lW _ _).2 (aeQ.2 ⟨w,hw,by simp⟩)
theorem asu:qD x= []:=by unfold qD;rw[aay (List.ne_nil_of_mem hw)]
theorem asN(h1:(aB x).length=1):tk x d= [nX w d]:=by
 obtain⟨v,hv⟩:=aeR.1 h1;rw[hv,acE] at hw;subst hw;unfold tk;rw[hv,aco,ahn];exact L6 _
theorem ass{i:Nat}{t:Tag}(ht:x.tags[i]?=some t){n:Int}{o:Bool}(hr:(n,o)∈cF x w t):n∈dP x i:=by
 unfold dP;rw[Int.toNat_natCast,ht];exact(lW _ _).2 (aeQ.2 ⟨w,hw,ac4.2 ⟨_,hr,rfl⟩⟩)
theorem arZ{i:Nat}{t:Tag}(ht:x.tags[i]?=some t){n:Int}{o:Bool}(hr:(n,o)∈cF x w t):(vE x i=1->o=true)/\(vE x i=2->o=false):=by
 have hm:(n,o)∈allM x t (aB x):=aeQ.2 ⟨w,hw,hr⟩;unfold vE;rw[Int.toNat_natCast,ht];simp only[VC];constructor
 ·intro e;split at e
  ·rename_i h1;have:=ag8.1 h1 _ hm;simpa using this
  ·split at e <;>cases e
 ·intro e;split at e
  ·cases e
  ·split at e
   ·rename_i h1;have:=ag8.1 h1 _ hm;simpa using this
   ·cases e
include hc h0 h9
theorem ast:d∈CD x [nX w d]:=by
 have ho:=MX hc hw;have hk:((d+9)%10).toNat<w.length:=by rw[ho.len];omega
 have e:placeOf w (nX w d)=d:=by
  have:nX w d=w[((d+9)%10).toNat]:=by simp[nX,List.getD,aaf hk]
  rw[this,apI ho hk];omega
 unfold CD;refine(lW _ _).2 (aeQ.2 ⟨w,hw,?_⟩);unfold digitsOf;rw[e,aay h0];simp
end
@[simp] abbrev aqf:List Nat:=[0,1,4,5,9,24]
section
variable{P:ap}[l:cL P]
theorem apM(s r:List UInt8)(hl:s.length=r.length)(hs:s.length<1000000):aq P 59 [.s s,.s r] (.b (bE s r)):=by
 refine fi (au P) (lf Tryz.func59) ?_
 repeat' first|apply nI|(refine eI aqf λK p=>?_;simp;apply p)
 refine amF (λd T B lv nx=>∃k,k+d=s.length/\T 0=.s s/\T 1=.s r/\T 5=.i .i64 k/\bE s r=bE (s.drop k) (r.drop k)) s.length ?_ ?_
 ·simp_all
 rintro d T B lv nx ⟨k,hk,t0,t1,t5,hp⟩;have w1:=aS ((k:Int)+1);by_cases E:k<s.length
 ·have H:k<r.length:=by omega
  have es:s.drop k=s[k]::s.drop (k+1):=aa4 E;have M:r.drop k=r[k]::r.drop (k+1):=aa4 H;rw[es,M,bE] at hp;have I:((r[k].toNat:Int)==63)=(r[k]==63):=kn r[k] 63 (by omega);have J:((r[k].toNat:Int)==(s[k].toNat:Int))=(r[k]==s[k]):=dV r[k] s[k];cases h1:(r[k]==63) with
  |true=>
   repeat' first|apply nI|(refine eI aqf λK p=>?_;simp[t0,t1,t5,E,H,I,h1,bne,w1];apply p)
   refine aN (d-1) ⟨k+1,by omega,by rfl,by rfl,by simp,by simp_all⟩
  |false=>
   cases h2:(r[k]==s[k]) with
   |true=>
    repeat' first|apply nI|(refine eI aqf λK p=>?_;simp[t0,t1,t5,E,H,I,h1,J,h2,bne,w1];apply p)
    refine aN (d-1) ⟨k+1,by omega,by rfl,by rfl,by simp,by simp_all⟩
   |false=>
    have hv:bE s r=true:=by simp_all
    repeat' first|apply nI|(refine eI aqf λK p=>?_;simp[t0,t1,t5,E,H,I,h1,J,h2,bne,w1];apply p)
    simp_all [Dn,aH]
 ·have L:k=s.length:=by omega
  subst L;rw[List.drop_length] at hp;have hv:bE s r=false:=by rw[hp];rfl
  repeat' first|apply nI|(refine eI aqf λK p=>?_;simp[t0,t1,t5];apply p)
  simp_all [Dn,aH]
end
section
variable{P:ap}[l:cL P]
end
section
variable{P:ap}[l:cL P]
end
section
variable{P:ap}[l:cL P]
end
theorem ao6{h:ay}(hc:aO h=0)(i:Int):(dP h i).length<100000000000000:=by
 unfold dP;split
 ·rename_i t ht;have h1:=anS (λw=>(cF h w t).map (·.1)) 161051 (aB h) λw _=>kz h w t (qW hc (List.mem_of_getElem? ht))
  have p:=sP hc;have E:(aB h).length*161051<=256*161051:=ab2 _ p;exact Nat.lt_of_le_of_lt (aaY (kX _) h1) (by omega)
 ·simp
section
variable{P:ap}[l:cL P]
end
section
variable{P:ap}[l:cL P]{g0:Gh}{w0:am}{fr:Nat->Prop}{g:Gh}{w:am}{m:Mem}{a:Act}{T:Nat->AV}{nx N:Nat}{o:Oper}{K:Act->am->Prop}{Q:Exit->Act->am->Prop}
end
section
variable{P:ap}[l:cL P]
end
section
variable{P:ap}[l:cL P]
end
@[simp] abbrev aqa:List Nat:=[0,1,4,5,9,16]
section
variable{P:ap}[l:cL P]
theorem as4(s:List UInt8)(c:UInt8)(hs:s.length<100000000000000):aq P 56 [.s s,.i .u8 c.toNat] (.b (s.contains c)):=by
 refine fi (au P) (lf Tryz.func56) ?_
 repeat' first|apply nI|(refine eI aqa λK p=>?_;simp;apply p)
 refine amF (λd T B lv nx=>∃k,k+d=s.length/\T 0=.s s/\T 1=.i .u8 c.toNat/\T 5=.i .i64 k/\c∉s.take k) s.length ?_ ?_
 ·simp_all
 ·rintro d T B lv nx ⟨k,hk,t0,t1,t5,hp⟩;have w1:=aS ((k:Int)+1);by_cases E:k<s.length
  ·have ta:s.take (k+1)=s.take k++ [s[k]]:=aaN E;have I:s[k]∈s:=abG E;by_cases he:s[k]=c
   ·have hc:c∈s:=by simp_all
    repeat' first|apply nI|(refine eI aqa λK p=>?_;simp[t0,t1,t5,E,he,w1];apply p)
    simp[Dn,aH,Tryz.f56,hc]
   ·repeat' first|apply nI|(refine eI aqa λK p=>?_;simp[t0,t1,t5,E,dV,he,w1];apply p)
    refine aN (d-1) ⟨k+1,by omega,by rfl,by rfl,by simp,by grind⟩
  ·have H:k=s.length:=by omega
   subst H;have he:c∉s:=by simp_all
   repeat' first|apply nI|(refine eI aqa λK p=>?_;simp[t0,t1,t5];apply p)
   simp[Dn,aH,Tryz.f56,he]
end
section
variable{P:ap}[l:cL P]
theorem arK{tb:Tbl}(W:jw P tb)(V:pN tb)(f:aP)(N:List AV)(ws:List (List UInt8))(p:List UInt8->Bool)(hw:∀w∈ws,w.length=10)(hp:∀s∈ws,tb.fn f ([.ag (ao s)]++N)=some (.b (p s)))(hl:ws.length<100000000):
  aq P 154 [.sq none 10 (amE ws),.fn f [] N] (.i .i64 (idx p ws)):=by
 have hlen:(amE ws).length=ws.length*10:=by rw[fy ws hw];omega
 refine o7 (tb:=tb) (mt:=λ_=>false) W mixed (lf (P:=P) Tryz.func154) rfl (Nat.le_of_ble_eq_true rfl) ?_
 repeat' first|apply nI|(refine eI aib λK H=>?_;simp[hlen];apply H)
 refine amF (λd T B lv nx=>∃k,k+d=ws.length/\T 0=.sq none 10 (amE ws)/\T 1=.fn f [] N/\T 7=.i .i64 ws.length/\T 8=.i .i64 k/\(ws.take k).any p=false) ws.length ?_ ?_
 ·exact⟨0,by simp,by simp,by simp,by simp,by simp,by simp⟩
 ·rintro d T B lv nx ⟨k,hk,t0,t1,t7,t8,O⟩;have w1:=aS ((k:Int)+1);by_cases E:k<ws.length
  ·have I:=hp ws[k] (abG E);have U:(ws.take (k+1)).any p=p ws[k]:=by
    rw[aaN E,aeC,O];simp
   have L:=zr ws hw k E;have hle:(k+1)*10<=ws.length*10:=by omega
   have J:=ND p ws k E O;have M:(ao ws[k]++amE (ws.drop (k+1))).take 10=ao ws[k]:=by
    rw[aec (by simp[ao,hw _ (abG E)]),aa1 (by simp[ao,hw _ (abG E)])]
   have h9:9<(ao ws[k]).length+(amE (ws.drop (k+1))).length:=by simp[ao,hw _ (abG E)];omega
   generalize ws[k]=v at I U L J M h9;simp only[aaT,aaV] at I;cases hc:p v with
   |true=>
    rw[hc] at I
    repeat' first|apply nI|(refine eI aib λK H=>?_;simp[t0,t1,t7,t8,E,hlen,L,hle,M,h9,I];apply H)
    simp[Dn,aH,Tryz.f154,J hc]
   |false=>
    rw[hc] at I
    repeat' first|apply nI|(refine eI aib λK H=>?_;simp[t0,t1,t7,t8,E,hlen,L,hle,M,h9,I,w1];apply H)
    refine aN (d-1) ⟨k+1,by omega,by simp[t0],by simp[t1],by simp[t7],by simp,by rw[U,hc]⟩
  ·have Y:k=ws.length:=by omega
   subst Y;have hf:ws.any p=false:=by simpa using O
   repeat' first|apply nI|(refine eI aib λK H=>?_;simp[t7,t8];apply H)
   simp[Dn,aH,Tryz.f154,idx,hf]
theorem ari{tb:Tbl}(I:jw P tb)(E:pN tb)(f:aP)(H:List AV)(ws:List (List UInt8))(p:List UInt8->Bool)(hw:∀w∈ws,w.length=10)(hp:∀s∈ws,tb.fn f ([.ag (ao s)]++H)=some (.b (p s)))(hl:ws.length<100000000):
  aq P 117 [.sq none 10 (amE ws),.fn f [] H] (.b (ws.any p)):=by
 obtain⟨F,hd,L⟩:=ca (arK I E f H ws p hw hp hl);refine fi (ak (aR Tryz.func154) hd (au P)) (lf Tryz.func117) ?_;have h0:decide (idx p ws>=0)=ws.any p:=by
  unfold idx;cases ws.any p <;>simp
 simp only[ge_iff_le] at h0
 repeat' first|apply nI|(refine eI aqU λK J=>?_;simp[ab,L,h0];apply J)
 simp[Dn,aH,Tryz.f117]
theorem arY(ws:List (List UInt8))(w v:List UInt8)(hw:w.length=10)(hv:v.length=10):aq P 118 [.ag (ao v),.sp [.sq none 10 (amE (w::ws))]] (.b (!(v==w))):=by
 have N:(ao v).length=10:=by simp[ao,hv]
 have E:(ao w).length=10:=by simp[ao,hw]
 have O:=bY v;have I:amE (w::ws)=ao w++amE ws:=rfl;have J:(ao w++amE ws).take 10=ao w:=by
  rw[aec (by omega),aa1 (by omega)]
 have hle:10<=(ao w++amE ws).length:=by rw[abj];omega
 have h9:9<10+(amE ws).length:=by omega
 have p:(ao v).take 10=ao v:=aa1 (by omega);have M:0<(ao w++amE ws).length/10:=by omega
 have a1:=mZ v;have a2:=mZ w;have H:=bY w;rw[I];refine fi (au P) (lf Tryz.func118) ?_;generalize amE ws=r at *
 repeat' first|apply nI|(refine eI [0,1,2,3] λK L=>?_;simp[O,H,J,p,hle,M,h9,a1,a2,hv,hw,N,E];apply L)
 simp[Dn,aH,Tryz.f118]
theorem ar7(h:ay)(hm:j9 h):aq P 53 [.ag (o6 h)] (.tu [.b (bJ h []==0&&arf (aB h)),.i .i64 (bJ h [])]):=by
 obtain⟨A,J,p⟩:=apw (P:=P) h hm;simp only[o6] at p;by_cases ho:bJ h []=0
 ·have hr:bZ h []=opened h:=by simp[bZ,ho]
  rw[hr] at p;simp only[opened,aj,o6,aaT,aaV] at p;have hc:=(ij ho).1;have E:=cI hc;have I:(aB h).length<100000000:=jc hc;have N:aB h≠ []:=(ij ho).2.2;generalize aB h=ws at *;obtain⟨w,rs,rfl⟩:∃w rs,ws=w::rs:=by cases ws with|nil=>exact absurd rfl N|cons w rs=>exact⟨w,rs,rfl⟩
  obtain⟨S,sd,M⟩:=cC (P:=P) (f:=118) (ι:= {v:List UInt8//v.length=10}) (λv=> [.ag (ao v.1),.sp [.sq none 10 (amE (w::rs))]]) (λv=>.b (!(v.1==w))) (λ_=>True) (λx y _ _ e=>by
   simp only[abg,AV.ag.injEq,abQ] at e;rw[Subtype.ext (sQ e)]) (λv _=>arY rs w v.1 (E w (by simp)) v.2)
  have hC:=ari (ak (aR Tryz.func118) sd (au P)) ⟨λ_ _=>rfl,λ_ _ _=>rfl⟩ 118 [.sp [.sq none 10 (amE (w::rs))]] (w::rs) (λv=> !(v==w)) E (λs hs=>by
   have:=M ⟨s,E s hs⟩ trivial;simp only[ab,aaT,aaV];exact this) I
  obtain⟨C,O,hC⟩:=ca hC;refine fi (ak (aR Tryz.func74) J (ak (aR Tryz.func117) O (au P))) (lf Tryz.func53) ?_
  repeat' first|apply nI|(refine eI arh λK H=>?_;simp[o6,ab,az,p,hC];apply H)
  simp[Dn,dc,aH,Tryz.f53,arf,ho]
 ·have hr:bZ h []=cG (bJ h []):=by simp[bZ,ho]
  rw[hr] at p;simp only[cG,dQ] at p;have L:(bJ h []==0)=false:=by simp[ho]
  refine fi (ak (aR Tryz.func74) J (au P)) (lf Tryz.func53) ?_
  repeat' first|apply nI|(refine eI arh λK H=>?_;simp[o6,ab,az,p,L];apply H)
  simp[Dn,dc,aH,Tryz.f53,ho]
end
@[simp] abbrev aqI:List Nat:=[0,1,2,3,4,5,10,11,12,13,14,15,16,17,18,19,20,21,22,23,24,25,26,27,28,32,139,143]
section
variable{P:ap}
theorem aqC{f:aP}{rest:List AV}{res:AV}(o:ay)(h:aq P f (.ag (o6 o)::rest) res):aq P f (.ag [.s o.L,.s o.S,.s o.R,.sq none 1 (o.alike.map .s),alF o.tags]::rest) res:=by
 unfold alF;split
 ·rename_i e;refine aq.PJ (k:=3) (pre:= [.s o.L,.s o.S,.s o.R,.sq none 1 (o.alike.map .s)]) (suf:= []) ?_;have:o6 o= [.s o.L,.s o.S,.s o.R,.sq none 1 (o.alike.map .s)]++.sq none 3 []:: []:=by simp[o6,e,bI]
  rw[this] at h;exact h
 ·exact h
end
section
variable{P:ap}[l:cL P]
set_option maxHeartbeats 4000000 in
theorem ath(e17:Enters P 17)(Xl:aq P 17 [] (.b true))(h:ay)(ps more:List Int)(qt:ajF ps)(hmo:ajF more)(b dd:Int)(C6:0<=b)(hb:b<=255)(hd0:0<=dd)(hd5:dd<=255):
  aq P 11 [eG h,ajv ps,ajv more,.i .u8 b,.i .u8 dd] (.b true):=by
 obtain⟨A,ad,hA⟩:=ca (Si (P:=P) h);obtain⟨T,td,hT⟩:=ca Xl;simp only[o6] at hA;cases hf:Fo h with
 |false=>
  rw[hf] at hA;refine fi (ak (aR Tryz.func30) ad (ak e17 td (au P))) (lf Tryz.func11) ?_
  repeat' first|apply nI|(refine eI aqI λK hK=>?_;simp[eG,o6,ab,az,hA,hT];apply hK)
  simp[Dn,aH,Tryz.f11]
 |true=>
 rw[hf] at hA;have hm:=K4 (OO hf);have hc:=Sj hf;obtain⟨⟨k1,k2,k3,k4,k5,k6,k7,k8⟩,_,Yx,_⟩:=checked h hc;have hpw:=ajC ps 0 h.L h.S k6;have ho:=aiZ hc hpw;obtain⟨W,wd,hW⟩:=ca (akh (P:=P) h ps qt (by omega) (by omega) k6);generalize aju ps 0 h.L h.S=w at *;have F3:w.length=10:=ho.len;obtain⟨Y,yd,hY⟩:=ca (asv (P:=P) h hc w F3 more hmo);have oc:=atj (more:=more) hc ho;have J:=asP (more:=more) hc ho hpw;have hot:(gk h w more).tags.length=h.tags.length:=by simp[gk,cv]
 obtain⟨d,⟨d0,d9⟩,vl⟩:∃d:Int,(0<=d/\d<=9)/\dd.tmod 10=d:=⟨dd%10,by omega,ae6 hd0⟩
 have c1:IntKind.i64.wrap dd=dd:=aS dd;have c2:IntKind.i64.wrap b=b:=aS b;obtain⟨p,atm,TR⟩:∃p:Nat,p<10/\(d+9).tmod 10=p:=⟨((d+9)%10).toNat,by omega,by rw[ae6 (by omega)];omega⟩
 have hpz:((d+9)%10).toNat=p:=by rw[ae6 (by omega)] at TR;omega
 have w9:=aS (d+9);have wp:=aS ((p:Int)+1);have gp:w[p]?=some w[p]:=aaf (by omega);have hls:(w.take (p+1)).drop p= [w[p]]:=by
  rw[aaN (by omega),List.drop_append_of_le_length (by rw[afk];omega),List.drop_of_length_le (by rw[afk];omega)];rfl
 have s2:(0:Int)<=(p:Int)+1:=by omega
 have s3:(p:Int)<=(p:Int)+1:=by omega
 have s4:(p:Int)+1<=w.length:=by omega
 have Ak:nX w d=w[p]:=by unfold nX;rw[hpz,abM,gp];rfl
 have aaF:=ho.lets _ (abG (show p<w.length by omega));have a1:=ar8 J (d:=d);have a2:=asu J;have a3:=ast oc J d0 d9;have a4:=asN J (d:=d);rw[Ak] at a1 a3 a4;have hR:(gk h w more).R=h.R:=rfl;have asB:j9 (gk h w more):=⟨hm.L,hm.S,hm.R,hm.n,hm.a,by rw[hot];exact hm.m,λt ht=>by
  obtain⟨i,hi,rfl⟩:=by simpa[gk,cv] using ht
  have:=arD hc (aqZ hi);simp[aqj,aql,aqN hc];omega⟩
 have cr:aB (gk h w more)≠ []:=List.ne_nil_of_mem J;have bo:∀bs,bN bs=0->bJ (gk h w more) bs=0:=λbs hb=>Vm oc hb cr
 have fo:∀(α:Type) (bs:List Int) (x y:α),bN bs=0->bK (gk h w more) bs x y=x:=λα bs x y hb=>by unfold bK;rw[aat (by simp[bo bs hb])]
 have lb:tj [w[p]]=0:=by simp[tj,bA,aaF]
 have db:mT d=0:=by unfold mT;rw[aay ⟨d0,d9⟩]
 have f0:bN [0]=0:=rfl;have f1:bN []=0:=rfl;have hN:=aqC _ (Gg (P:=P) _ asB);have hC:=aqC _ (Le (P:=P) _ asB);have hE:=aqC _ (ash (P:=P) _ asB d);have hD:=aqC _ (HX (P:=P) _ asB [w[p]] (by simp));have hS:=aqC _ (ar7 (P:=P) _ asB);have vK:tG (gk h w more)=.tu [ints [],.i .i64 0]:=by simp[tG,oc,a2]
 have hon:=atv (aqX oc) cr;rw[fo _ _ _ _ f1,bo _ f1] at hN;rw[vK] at hC;rw[db,fo _ _ _ _ f0,bo _ f0] at hE;rw[lb,fo _ _ _ _ f0,bo _ f0] at hD;rw[bo _ f1,hon] at hS;have l1:(tk (gk h w more) d).length<100000000000000:=by
  have:=kX (le:=λ(a b:UInt8)=>a<=b) ((aB (gk h w more)).flatMap λw=> [nX w d]);have h2:=jc oc;rw[rT,abz] at this;show(uB _).length<_;unfold uB;rw[rT];omega
 have l2:(CD (gk h w more) [w[p]]).length<100000000000000:=by
  unfold CD;have h1:=anS (λw'=>digitsOf w' w[p]) 1 (aB (gk h w more)) λw _=>by unfold digitsOf;split <;>simp
  have h3:=sP oc;exact Nat.lt_of_le_of_lt (aaY (kX _) h1) (by omega)
 have l3:=ao6 oc;have Yz:1<=(aB (gk h w more)).length:=agz.2 cr;obtain⟨N,eN⟩:∃N:Int,((aB (gk h w more)).length:Int)=N:=⟨_,rfl⟩
 have q1:¬N<1:=by omega
 rw[eN] at hN hS;have a4':(N==1)=true->tk (gk h w more) d= [w[p]]:=λe=>a4 (by simp at e;omega)
 have hH:=as4 (P:=P) (tk (gk h w more) d) w[p] l1;rw[show(tk (gk h w more) d).contains w[p]=true by simpa using a1] at hH;obtain⟨G,gd,hG⟩:=RY (P:=P);have Qd:=hG (CD (gk h w more) [w[p]]) d l2;rw[show(CD (gk h w more) [w[p]]).contains d=true by simpa using a3] at Qd;obtain⟨N',nd,hN⟩:=ca hN;obtain⟨C,cd,hC⟩:=ca hC;obtain⟨E,ed,hE⟩:=ca hE;obtain⟨D,dd',hD⟩:=ca hD;obtain⟨S,sd,hS⟩:=ca hS;obtain⟨H,hd,hH⟩:=ca hH;simp only[ak_,o6,ints,ajv] at hY hN hC hE hD hS Qd hW;have t0:(gk h w more).tags=cv h w more h.tags.length:=rfl;change N' [.ag [.s h.L,.s h.S,.s h.R,.sq none 1 (h.alike.map .s),alF (cv h w more h.tags.length)]]=_ at hN;change C [.ag [.s h.L,.s h.S,.s h.R,.sq none 1 (h.alike.map .s),alF (cv h w more h.tags.length)]]=_ at hC;change E [.ag [.s h.L,.s h.S,.s h.R,.sq none 1 (h.alike.map .s),alF (cv h w more h.tags.length)],_]=_ at hE;change D [.ag [.s h.L,.s h.S,.s h.R,.sq none 1 (h.alike.map .s),alF (cv h w more h.tags.length)],_]=_ at hD;change S [.ag [.s h.L,.s h.S,.s h.R,.sq none 1 (h.alike.map .s),alF (cv h w more h.tags.length)]]=_ at hS;by_cases NZ:h.tags.length=0
 ·have hoc:alF (cv h w more h.tags.length)=.sq none 0 []:=by rw[NZ];rfl
  rw[hoc] at hY hN hC hE hD hS;generalize CD (gk h w more) [w[p]]=DL at *;generalize tk (gk h w more) d=LA at *;refine o7 (tb:=bW 30 A (bW 17 T (bW 31 W (bW 55 Y (bW 36 N' (bW 35 C (bW 46 E (bW 51 D (bW 53 S (bW 56 H (bW 45 G a_))))))))))) (mt:=λd=>d==5) (ak (aR Tryz.func30) ad (ak e17 td (ak (aR Tryz.func31) wd (ak (aR Tryz.func55) yd (ak (aR Tryz.func36) nd (ak (aR Tryz.func35) cd (ak (aR Tryz.func46) ed (ak (aR Tryz.func51) dd' (ak (aR Tryz.func53) sd (ak (aR Tryz.func56) hd (ak (aR Tryz.func45) gd (au P)))))))))))) mixed (lf (P:=P) Tryz.func11) rfl (Nat.le_of_ble_eq_true rfl) ?_;cases U:(N==1) with
  |true=>
   have e4:=a4' U;subst e4
   repeat' first|apply nI|(refine eI aqI λK hK=>?_;simp[eG,o6,ajv,ab,az,hA,hT,hW,hY,vl,c1,c2,TR,w9,wp,hN,hC,hE,hD,hS,hH,Qd,q1,U,gp,hls,s2,s3,s4,bne];apply hK)
   simp[Dn,aH,Tryz.f11]
  |false=>
   repeat' first|apply nI|(refine eI aqI λK hK=>?_;simp[eG,o6,ajv,ab,az,hA,hT,hW,hY,vl,c1,c2,TR,w9,wp,hN,hC,hE,hD,hS,hH,Qd,q1,U,gp,hls,s2,s3,s4,bne];apply hK)
   simp[Dn,aH,Tryz.f11]
 have ana:((h.tags.length:Int)==0)=false:=by simp;intro e;simp[e] at NZ
 have Ru:¬h.tags= []:=λe=>NZ (by simp[e])
 obtain⟨i,hi,hir⟩:∃i:Nat,i<h.tags.length/\b.tmod h.tags.length=i:=by
  refine⟨b.toNat%h.tags.length,Nat.mod_lt _ (by omega),?_⟩;rw[ae6 C6,Int.natCast_emod,Int.toNat_of_nonneg C6]
 have TK:=aqZ (h:=h) hi;have rat:=at1 (h:=h) (w:=w) (more:=more) hi;have rr:=arI (more:=more) hc ho (i:=i) TK;have h5:=arD hc TK;obtain⟨n0,n1,n2⟩:=ard (more:=more) (i:=i) h5.2;have a5:=ass J rat rr;obtain⟨a6,a7⟩:=arZ J rat rr;have Yw:=aqN (h:=h) (w:=w) hc (n:=ti more i (l7 h i)) (t:=l7 h i);have ED:(aqj h w more i (l7 h i)).reads.length=(l7 h i).reads.length:=by simp[aqj,aql,Yw]
 have tb:iN (gk h w more) i=0:=by unfold iN;rw[aay (by omega)]
 have I:=aqC _ (wR (P:=P) _ asB i);have Z:=aqC _ (Ec (P:=P) _ asB i);rw[tb,fo _ _ _ _ f0,bo _ f0] at I Z;have hG2:=hG (dP (gk h w more) i) (ti more i (l7 h i)) (l3 i);rw[show(dP (gk h w more) i).contains (ti more i (l7 h i))=true by simpa using a5] at hG2;have au8:=aor (P:=P) w h.R (ti more i (l7 h i)) (l7 h i).reads.length F3 k4 n0 n2 h5.2;have axF:=apM (P:=P) (aqw h w (ti more i (l7 h i)) (l7 h i)) (aqj h w more i (l7 h i)).reads (by omega) (by omega);have axZ:=atI (P:=P) _ _ a6 a7;change aq P 57 _ (.tu [.s (aqw h w (ti more i (l7 h i)) (l7 h i)),_]) at au8;obtain⟨R,rd,I⟩:=ca I;obtain⟨M,md,Z⟩:=ca Z;obtain⟨V,vd,hV⟩:=ca au8;obtain⟨O,od,hO⟩:=ca axF;obtain⟨F,fd,hF⟩:=ca axZ;change R [.ag [.s h.L,.s h.S,.s h.R,.sq none 1 (h.alike.map .s),alF (cv h w more h.tags.length)],_]=_ at I;change M [.ag [.s h.L,.s h.S,.s h.R,.sq none 1 (h.alike.map .s),alF (cv h w more h.tags.length)],_]=_ at Z;have vH:cv h w more h.tags.length≠ []:=λe=>by have:=congrArg List.length e;simp[cv,Ru] at this
 have hoc:alF (cv h w more h.tags.length)=.sq none 3 (bI (cv h w more h.tags.length)):=by unfold alF;rw[aat vH]
 rw[hoc] at hY hN hC hE hD hS I Z;have kN:=cV (cv h w more h.tags.length);have htn:(cv h w more h.tags.length).length=h.tags.length:=by simp[cv]
 have avl:=fA (cv h w more h.tags.length) i _ rat;rw[htn] at kN;have eu:(i+1)*3<=h.tags.length*3:=by omega
 have hnl:(D5 h more h.tags.length).length=h.tags.length:=by simp[D5]
 have gn:(D5 h more h.tags.length)[i]?=some (ti more i (l7 h i)):=by simp[D5,hi]
 have dn:((D5 h more h.tags.length).map (AV.i .i64)).drop i=.i .i64 (ti more i (l7 h i))::((D5 h more h.tags.length).map (AV.i .i64)).drop (i+1):=by
  rw[aa4 (by simpa[hnl] using hi)];simp[D5]
 generalize CD (gk h w more) [w[p]]=DL at *;generalize tk (gk h w more) d=LA at *;generalize dP (gk h w more) i=PL' at *;generalize vE (gk h w more) i=mi at *;generalize aqw h w (ti more i (l7 h i)) (l7 h i)=s at *;generalize (aqj h w more i (l7 h i)).reads=rs at *;generalize (aqj h w more i (l7 h i)).low=lo at *;generalize (aqj h w more i (l7 h i)).high=hg at *;generalize bI (cv h w more h.tags.length)=tc at *;generalize D5 h more h.tags.length=ns at *;generalize ti more i (l7 h i)=n at *;obtain⟨g,eg⟩:∃g,(l7 h i).reads.length=g:=⟨_,rfl⟩
 rw[eg] at ED hV;simp only[ints] at I hG2;refine o7 (tb:=bW 30 A (bW 17 T (bW 31 W (bW 55 Y (bW 36 N' (bW 35 C (bW 46 E (bW 51 D (bW 53 S (bW 56 H (bW 45 G (bW 18 R (bW 26 M (bW 57 V (bW 59 O (bW 58 F a_)))))))))))))))) (mt:=λd=>d==5) (ak (aR Tryz.func30) ad (ak e17 td (ak (aR Tryz.func31) wd (ak (aR Tryz.func55) yd (ak (aR Tryz.func36) nd (ak (aR Tryz.func35) cd (ak (aR Tryz.func46) ed (ak (aR Tryz.func51) dd' (ak (aR Tryz.func53) sd (ak (aR Tryz.func56) hd (ak (aR Tryz.func45) gd (ak (aR Tryz.func18) rd (ak (aR Tryz.func26) md (ak (aR Tryz.func57) vd (ak (aR Tryz.func59) od (ak (aR Tryz.func58) fd (au P))))))))))))))))) mixed (lf (P:=P) Tryz.func11) rfl (Nat.le_of_ble_eq_true rfl) ?_;cases U:(N==1) with
 |true=>
  have e4:=a4' U;subst e4
  repeat' first|apply nI|(refine eI aqI λK hK=>?_;simp[eG,o6,ajv,ab,az,hA,hT,hW,hY,vl,c1,c2,TR,w9,wp,hN,hC,hE,hD,hS,hH,Qd,q1,U,gp,hls,s2,s3,s4,kN,ana,Ru,hir,hi,I,Z,hG2,hV,hO,hF,avl,eu,hnl,gn,dn,ED,bne];apply hK)
  simp[Dn,aH,Tryz.f11]
 |false=>
  repeat' first|apply nI|(refine eI aqI λK hK=>?_;simp[eG,o6,ajv,ab,az,hA,hT,hW,hY,vl,c1,c2,TR,w9,wp,hN,hC,hE,hD,hS,hH,Qd,q1,U,gp,hls,s2,s3,s4,kN,ana,Ru,hir,hi,I,Z,hG2,hV,hO,hF,avl,eu,hnl,gn,dn,ED,bne];apply hK)
  simp[Dn,aH,Tryz.f11]
end
end Go.Proofs.YtjagmhagphbfcaaGreatDoor
