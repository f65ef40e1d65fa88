/- Lemmas, part 13. -/
import Derived.Still
import Derived.Test.YtjagmhagphbfcaaGreatDoorO12
set_option maxRecDepth 100000
set_option linter.all false
namespace Go.Proofs.YtjagmhagphbfcaaGreatDoor
open Go Go.Proofs
def lO(mt:Nat->Bool)(o:Oper):Bool:=
 match o.op with
 | .store .. | .alloc .. =>true
 | .box .. =>mt (o.dst.getD 0)
 | .call c=>match c.callee with
  | .value _=>mt (o.dst.getD 0)
  |_=>false
 |_=>false
def aeM(ops:Array Oper)(j i:Nat):Bool:=match ops[j]? with
 |some o=>o.after.any λe=>Region.binds .any e&&e.on==i
 |none=>false
def su(ops:Array Oper):Nat->List Nat
 |0=> []
 |n+1=>su ops n++ [match ops[n]? with
  |some o=>o.after.toList.foldr (λe m=>if Region.binds .any e=true then(1<<<e.on)|||((su ops n).getD e.on 0|||m) else m) 0
  |none=>0]
def VH(o:Oper):Bool:=match o.op with
 | .load .. =>true
 | .makeFunc .. =>true
 |_=>false
def nw(mt:Nat->Bool)(o:Oper):Bool:=match o.op with
 | .store .. =>true
 | .alloc .. =>true
 | .box .. =>mt (o.dst.getD 0)
 |_=>false
def fresh(mt:Nat->Bool)(o:Oper):Bool:=match o.op with
 | .alloc .. =>true
 | .box .. =>mt (o.dst.getD 0)
 |_=>false
def vr(mt:Nat->Bool)(o:Oper):Bool:= !lO mt o&& !VH o
def z_(mt:Nat->Bool)(o o':Oper):Bool:=(nw mt o&&vr mt o')||(vr mt o&&nw mt o')||(fresh mt o&&fresh mt o')
def aqB(o:Oper):Bool:=match o.op with
 | .load .. =>true
 |_=>false
def looseAt(mt:Nat->Bool)(o o':Oper):Bool:=z_ mt o o'||(aqB o&&fresh mt o')
def oz(mt:Nat->Bool)(ops:Array Oper):Bool:=
 (List.range ops.size).all λj=>(match ops[j]? with|some o=> !lO mt o|none=>true)||(List.range ops.size).all λi=>i==j||((su ops ops.size).getD (max i j) 0).testBit (min i j)||
  (match ops[min i j]?,ops[max i j]? with|some o,some o'=>looseAt mt o o'|_,_=>false)
section
variable{P:Program}{tb:qd}{mt:Nat->Bool}{dsts:Nat->Option Nat}{i:Nat}{o:Oper}{z:AV}{u:jA}
theorem mQ:∀(l:List Nat) (B:Nat->Option (Bool×List AV)) (id:Nat),mR B l id=if id∈l then(B id).map λx=>(true,x.2) else B id
 | [],B,id=>rfl
 |x::l,B,id=>by
  have e:mR B (x::l)=mR (Lo B x ((B x).map λx=>(true,x.2))) l:=rfl;rw[e,mQ l];by_cases h1:id=x
  ·subst h1;simp only[bc,abZ,true_or,acC];split
   ·cases B id <;>rfl
   ·rfl
  ·simp[h1]
theorem K2(B:Nat->Option (Bool×List AV))(l m:List Nat):mR (mR B l) m=mR (mR B m) l:=by
 grind [mQ]
theorem ye{s:AS}(hh:lO mt o=false)(h:gX P tb mt dsts i o s=some (z,u)):
  u.bx=none/\∀τ,u.kill=some τ->∃t k l e,Operand.tmp t∈o.op.operands/\s.T t=.sq (some τ) k l/\s.lv τ=some e/\(τ<s.nx\/dsts (τ-s.nx)=some t):=by
 unfold gX at h;unfold lO at hh;dsimp only at h;cases hop:o.op <;>rw[hop] at h hh <;>dsimp only at h hh
 case assign x=>
  split at h
  ·obtain⟨e,_,h2⟩:=ax h;grind
  grind
 case store=>cases hh
 case alloc=>cases hh
 case box t x=>
  obtain⟨l,_,h2⟩:=ax h
  grind
 case makeFunc fn first cap=>
  cases fn <;>dsimp only at h <;>try (cases h;done)
  obtain⟨⟨l1,f1⟩,_,h2⟩:=ax h;obtain⟨⟨l2,f2⟩,_,N⟩:=ax h2
  grind
 case call c=>
  obtain⟨callee,args,argTypes⟩:=c;cases callee with
  |invoke r n=>cases h
  |value f=>
   dsimp only at h hh;rw[hh] at h;dsimp only[cond_false] at h;split at h
   ·split at h
    ·obtain⟨r,_,h2⟩:=ax h;unfold jH at h2
     grind
    ·cases h
   ·cases h
  |builtin b=>
   cases b <;>dsimp only at h <;>try (cases h;done)
   case len=>
    split at h
    ·split at h
     ·grind
     ·obtain⟨e,_,h2⟩:=ax h
      grind
     ·cases h
    ·cases h
   case append=>
    split at h
    ·rename_i t y ty U I O;split at h
     ·rename_i τ k l c' k' r H M;obtain⟨e,_,h2⟩:=ax h;split at h2
      ·rename_i hn;cases h2;refine⟨rfl,λσ E=>?_⟩;cases E;refine⟨t,k,l,e,?_,H,hn.2.1,hn.2.2.2.2.2.1⟩;have:args= [.tmp t,y].toArray:=by rw[<-I]
       grind [Op.operands,Call.operands]
      ·cases h2
     ·obtain⟨e,_,h2⟩:=ax h
      grind
     ·cases h
    ·cases h
   case max=>
    split at h
    ·obtain⟨q,_,h2⟩:=ax h;grind
    ·cases h
   case min=>
    split at h
    ·obtain⟨q,_,h2⟩:=ax h;grind
    ·cases h
 case unOp op t x=>
  grind
 case slice t x L hi J=>
  grind [Option.bind_eq_some_iff]
 all_goals repeat' (first
  |split at h
  |(rw[adm] at h;obtain⟨_,_,h⟩:=h)
  |(cases h;exact⟨rfl,λτ p=>by cases p⟩)
  |(cases h;done)
  |(dsimp only at h))
theorem IC{s s':AS}(p:∀id,(s'.B id).map (·.2)=(s.B id).map (·.2))(x:AV):CU s' x=CU s x:=by
 unfold CU
 grind
theorem oL{s s':AS}(p:∀id,(s'.B id).map (·.2)=(s.B id).map (·.2)):∀(l:List Operand),(∀x∈l,s'.ev x=s.ev x)->jv s' l=jv s l
 | [],_=>rfl
 |x::l,h=>by
  unfold jv;rw[h x (by simp),IC p,oL p l λy hy=>h y (by grind)]
theorem zn{s s':AS}{n:Nat}{p hi:Option Operand}(h1:∀x,p=some x->s'.ev x=s.ev x)(h2:∀x,hi=some x->s'.ev x=s.ev x):fu s' n p hi=fu s n p hi:=by
 unfold fu
 grind
theorem Lv{s s':AS}(hh:lO mt o=false)(p:∀x∈o.op.operands,s'.ev x=s.ev x)(H:VH o=true->∀id,(s'.B id).map (·.2)=(s.B id).map (·.2))(hnx:s'.nx=s.nx)
  {r:AV×jA} (L:∀t τ k l e,r.2.kill=some τ->Operand.tmp t∈o.op.operands->s.T t=.sq (some τ) k l->(τ<s.nx\/dsts (τ-s.nx)=some t)->s.lv τ=some e->s'.lv τ=some e) (h:gX P tb mt dsts i o s=some r):gX P tb mt dsts i o s'=some r:=by
 unfold lO at hh;unfold gX at h ⊢;dsimp only at h ⊢;cases hop:o.op <;>rw[hop] at h hh p L <;>dsimp only at h hh ⊢
 case move x=>grind [Op.operands]
 case assign x=>
  grind [Op.operands]
 case pick c x y=>grind [Op.operands]
 case binOp op t x y yt=>grind [Op.operands]
 case unOp op t x=>
  cases op <;>dsimp only at h ⊢ <;>try (cases h;done)
  grind [Op.operands]
 case convert src dst x=>grind [Op.operands]
 case extract t ix=>grind [Op.operands]
 case field t x f=>grind [Op.operands]
 case index t x ix=>grind [Op.operands]
 case build t parts=>
  grind [List.map_congr_left,Op.operands]
 case buildSlice t len parts=>
  grind [List.map_congr_left,Op.operands]
 case slice t x E hi I=>
  cases I <;>dsimp only at h ⊢ <;>try (cases h;done)
  have hb:∀n,fu s' n E hi=fu s n E hi:=λn=>zn (λy e=>p y (by grind [Op.operands])) (λy e=>p y (by grind [Op.operands]))
  simp_all [Op.operands]
 case fieldAddr t x f=>grind [Op.operands]
 case indexAddr t x ix=>grind [Op.operands]
 case load t x=>
  grind [VH,Op.operands]
 case store=>cases hh
 case alloc=>cases hh
 case box t x=>
  grind [Op.operands]
 case makeFunc fn first cap=>
  have H:=H (by grind [VH]);cases fn <;>dsimp only at h ⊢ <;>try (cases h;done)
  grind [oL,Op.operands]
 case call c=>
  obtain⟨callee,args,argTypes⟩:=c;cases callee with
  |invoke r n=>cases h
  |value f=>
   grind [List.map_congr_left,Op.operands,Call.operands]
  |builtin b=>
   have ha:∀x∈args.toList,s'.ev x=s.ev x:=λx hx=>p x (by grind [Op.operands,Call.operands])
   cases b <;>dsimp only at h ⊢ <;>try (cases h;done)
   case len=>
    grind
   case append=>
    split at h
    ·rename_i t y ty O N M;have J:s'.T t=s.T t:=ha (.tmp t) (by simp_all);rw[J,ha y (by simp_all)];split at h
     ·grind [ax,Op.operands,Call.operands]
     ·simp_all
     ·cases h
    ·cases h
   case max=>
    grind
   grind
 all_goals (cases h)
theorem iT(h:fresh mt o=true):nw mt o=true:=by
 grind [fresh,nw]
theorem PC{s:AS}(hb:nw mt o=true)(h:gX P tb mt dsts i o s=some (z,u)):u.kill=none/\u.made=none/\u.pL= []/\∃id x,u.bx=some (id,x)/\(fresh mt o=true->id=s.nx+i):=by
 unfold nw at hb;unfold gX at h;unfold fresh;dsimp only at h;cases hop:o.op <;>rw[hop] at h hb <;>dsimp only at h hb ⊢ <;>try (cases hb;done)
 case alloc t=>
  obtain⟨l,_,h2⟩:=ax h
  grind
 case box t x=>
  obtain⟨l,_,h2⟩:=ax h
  grind
 grind
theorem yg{s s':AS}(hb:nw mt o=true)(E:∀x∈o.op.operands,s'.ev x=s.ev x)(p:fresh mt o=true\/s'.B=s.B)(hnx:s'.nx=s.nx){r:AV×jA}(h:gX P tb mt dsts i o s=some r):gX P tb mt dsts i o s'=some r:=by
 unfold nw at hb;unfold fresh at p;unfold gX at h ⊢;dsimp only at h ⊢;cases hop:o.op <;>rw[hop] at h hb E p <;>dsimp only at h hb p ⊢ <;>try (cases hb;done)
 case alloc t=>simp_all
 case box t x=>grind [Op.operands]
 grind [Op.operands]
theorem PB{s:AS}(hd:vr mt o=true)(h:gX P tb mt dsts i o s=some (z,u)):u.bx=none/\u.pL= []:=by
 simp only[vr,aaZ,Bool.not_eq_true'] at hd;refine⟨(ye hd.1 h).1,?_⟩;have hl:=hd.2;have hh:=hd.1;unfold VH at hl;unfold lO at hh;unfold gX at h;dsimp only at h;cases hop:o.op <;>rw[hop] at h hl hh <;>dsimp only at h hl hh <;>try (cases hl;done)
 case call c=>
  obtain⟨callee,args,argTypes⟩:=c;cases callee with
  |invoke r n=>cases h
  |value f=>
   dsimp only at h hh;rw[hh] at h;dsimp only[cond_false] at h;split at h
   ·split at h
    ·obtain⟨r,_,h2⟩:=ax h;unfold jH at h2
     grind
    ·cases h
   ·cases h
  |builtin b=>
   grind [Option.bind_eq_some_iff]
 case unOp op t x=>
  grind
 case slice t x E hi p=>
  grind [Option.bind_eq_some_iff]
 all_goals repeat' (first
  |split at h
  |(rw[adm] at h;obtain⟨_,_,h⟩:=h)
  |(cases h;rfl)
  |(cases h;done)
  |(dsimp only at h))
theorem XO{s:AS}(h:gX P tb mt dsts i o s=some (z,u)){id:Nat}{x:Bool×List AV}(hb:u.bx=some (id,x)):id=s.nx+i\/∃y,s.B id=some y:=by
 cases hh:lO mt o with
 |false=>grind [ye]
 |true=>
  unfold lO at hh;unfold gX at h;dsimp only at h;cases hop:o.op <;>rw[hop] at h hh <;>dsimp only at h hh <;>try (cases hh;done)
  case alloc t=>
   obtain⟨l,_,h2⟩:=ax h
   grind
  case box t x=>
   obtain⟨l,_,h2⟩:=ax h
   grind
  case store t a x=>
   grind
  case call c=>
   obtain⟨callee,args,argTypes⟩:=c;cases callee with
   |invoke r n=>cases h
   |builtin b=>cases hh
   |value f=>
    dsimp only at h hh;rw[hh] at h;dsimp only[cond_true] at h;split at h
    ·split at h
     ·unfold mY at h;split at h
      ·obtain⟨r,_,h2⟩:=ax h
       grind [CV]
      ·obtain⟨r,_,h2⟩:=ax h
       grind [sE]
      ·cases h
     ·cases h
    ·cases h
theorem asc{s:AS}(hl:aqB o=true)(h:gX P tb mt dsts i o s=some (z,u)):u= {} :=by
 grind [Option.bind_eq_some_iff,aqB,gX]
theorem yf{s s':AS}(hl:aqB o=true)(p:∀x∈o.op.operands,s'.ev x=s.ev x)(E:∀id y,s.B id=some y->s'.B id=some y){r:AV×jA}(h:gX P tb mt dsts i o s=some r):gX P tb mt dsts i o s'=some r:=by
 unfold aqB at hl;unfold gX at h ⊢;dsimp only at h ⊢;cases hop:o.op <;>rw[hop] at h hl p <;>dsimp only at h hl ⊢ <;>try (cases hl;done)
 grind [Op.operands]
end
def agC:=@Go.Oper.apart_spec
def abM:=@List.getD_eq_getElem?_getD
def agu:=@Go.getD_set_ne
def agW:=@Go.mem_ready
def aeh:=@List.mem_range
def ahe:=@Bool.false_or
section
variable{P:Program}{tb:qd}{mt:Nat->Bool}{dsts:Nat->Option Nat}{s s' s1 s2:AS}{i k:Nat}{o ok oi:Oper}{z:AV}{u:jA}{ops:Array Oper}
def yp(P:Program)(tb:qd)(mt:Nat->Bool)(dsts:Nat->Option Nat)(i:Nat)(o:Oper)(s:AS)(z:AV)(u:jA):Prop:=
 (iM dsts o s=some true/\gX P tb mt dsts i o s=some (z,u))\/(iM dsts o s=some false/\z=.tu []/\u= {})
theorem bw:b_ P tb mt dsts i o s=some s'↔(∀d,o.dst=some d->d<s.n)/\∃z u,yp P tb mt dsts i o s z u/\s'=upd s i o.dst z u:=by
 unfold b_ yp;have hd:sf o s=true↔∀d,o.dst=some d->d<s.n:=by
  unfold sf
  grind
 by_cases h:sf o s=true
 ·rw[h,cond_true];refine⟨λe=>⟨hd.1 h,?_⟩,λ⟨_,z,u,hz,e⟩=>?_⟩
  ·split at e
   ·rename_i b hw;cases b with
    |true=>
     rw[cond_true] at e;cases ha:gX P tb mt dsts i o s with
     |none=>simp_all
     |some x=>grind
    |false=>
     grind
   ·cases e
  grind
 grind
theorem yp.soft(hh:lO mt o=false)(h:yp P tb mt dsts i o s z u):u.bx=none/\∀τ,u.kill=some τ->∃t k l e,Operand.tmp t∈o.op.operands/\s.T t=.sq (some τ) k l/\s.lv τ=some e/\(τ<s.nx\/dsts (τ-s.nx)=some t):=by
 rcases h with ⟨_,h⟩|⟨_,_,rfl⟩
 ·exact ye hh h
 simp_all
theorem lX{t:Nat}(h:Operand.tmp t∈o.op.operands):t∈o.looksAt ops:=by
 unfold Oper.looksAt;refine List.mem_append_left _ (List.mem_filterMap.2 ⟨.tmp t,Array.mem_toList_iff.2 h,rfl⟩)
theorem yp.carry(I:dsts=λj=>(ops[j]?).bind (·.dst))(hh:lO mt o=false)(J:∀t∈o.looksAt ops,s'.T t=s.T t)(p:VH o=true->∀id,(s'.B id).map (·.2)=(s.B id).map (·.2))(hnx:s'.nx=s.nx)
  (H:∀t τ k l e,u.kill=some τ->Operand.tmp t∈o.op.operands->s.T t=.sq (some τ) k l->(τ<s.nx\/dsts (τ-s.nx)=some t)->s.lv τ=some e->s'.lv τ=some e) (h:yp P tb mt dsts i o s z u):yp P tb mt dsts i o s' z u:=by
 have E:∀x∈o.op.operands,s'.ev x=s.ev x:=λx hx=>by
  cases x with
  |tmp t=>simp_all [lX]
  |_=>rfl
 have hw:iM dsts o s'=iM dsts o s:=by
  grind [iM,Oper.looksAt]
 rcases h with ⟨h1,h2⟩|⟨h1,h2⟩
 ·exact .inl ⟨by simp_all,Lv hh E p hnx H h2⟩
 ·exact .inr ⟨by simp_all,h2⟩
theorem lH{T:Nat->AV}{dst:Option Nat}{a:AV}{t:Nat}(h:∀d,dst=some d->d≠t):sI T dst a t=T t:=by
 cases dst with
 |none=>rfl
 |some d=>simp_all [Ne.symm]
theorem nD(T:Nat->AV){d1 d2:Option Nat}(a b:AV)(h:∀d,d1=some d->d2≠some d):sI (sI T d1 a) d2 b=sI (sI T d2 b) d1 a:=by
 cases d1 with
 |none=>rfl
 |some d=>cases d2 with
  |none=>rfl
  |some e=>
   have cr:d≠e:=λe'=>h d rfl (by rw[e'])
   funext j
   simp only[L3,Lo]
   grind
def Eh(lv:Nat->Option TypeId)(n:Nat)(u:jA):Nat->Option TypeId:=
 let l1:=(match u.kill with|some τ=>Lo lv τ none|none=>lv)
 match u.made with
 |some e=>Lo l1 n (some e)
 |none=>l1
theorem mJ(lv:Nat->Option TypeId)(n:Nat)(u:jA)(τ:Nat):Eh lv n u τ=if(τ=n/\u.made≠none) then u.made else if u.kill=some τ then none else lv τ:=by
 unfold Eh;cases hk:u.kill with
 |none=>cases hm:u.made with
  |none=>simp
  |some e=>
   by_cases h:τ=n
   ·subst h;simp
   ·simp[h]
 |some σ=>cases hm:u.made with
  |none=>
   by_cases h:τ=σ
   ·subst h;simp
   simp_all [Ne.symm]
  |some e=>
   by_cases h:τ=n
   ·subst h;simp
   ·by_cases h2:τ=σ
    ·simp_all
    simp_all [Ne.symm]
theorem Kr(lv:Nat->Option TypeId){n1 p:Nat}(H E:jA)(hn:n1≠p)(h1:H.kill≠some p)(h2:E.kill≠some n1):Eh (Eh lv n1 H) p E=Eh (Eh lv p E) n1 H:=by
 grind [mJ]
theorem dw(hb:u.bx=none)(s:AS)(i:Nat)(dst:Option Nat)(z:AV):upd s i dst z u= { s with T:=sI s.T dst z,B:=mR s.B u.pL,lv:=Eh s.lv (s.nx+i) u } :=by
 obtain⟨kl,md,bx,p⟩:=u;simp only at hb;subst hb;rfl
theorem L5{z1 z2:AV}{E p:jA}(J:k≠i)(b1:E.bx=none)(b2:p.bx=none){H I:Option Nat}(hd:∀d,H=some d->I≠some d)(h1:E.kill≠some (s.nx+i))(h2:p.kill≠some (s.nx+k)):
  upd (upd s k H z1 E) i I z2 p=upd (upd s i I z2 p) k H z1 E:=by
 rw[dw b1,dw b2,dw b2,dw b1];simp only[AS.mk.injEq,abQ]
 grind [nD,K2,Kr]
theorem Fj(B:Nat->Option (Bool×List AV))(l:List Nat)(id:Nat):((mR B l) id).map (·.2)=(B id).map (·.2):=by
 rw[mQ];split
 ·cases B id <;>rfl
 ·rfl
theorem Il(J:dsts=λj=>(ops[j]?).bind (·.dst))(Z:k≠i)(iD:ops[k]?=some ok)(EJ:ops[i]?=some oi)(E2:ok.apart ops oi=true)(hk:lO mt ok=false)(hi:lO mt oi=false)
  (h1:b_ P tb mt dsts k ok s=some s1) (h2:b_ P tb mt dsts i oi s1=some s2):∃I,b_ P tb mt dsts i oi s=some I/\b_ P tb mt dsts k ok I=some s2:=by
 obtain⟨a1,a2,a3⟩:=agC E2;obtain⟨d1,z1,E,k1,rfl⟩:=bw.1 h1;obtain⟨d2,z2,p,k2,rfl⟩:=bw.1 h2;obtain⟨b1,q1⟩:=k1.soft hk;obtain⟨b2,L⟩:=k2.soft hi;have O:dsts k=ok.dst:=by simp_all
 have U:dsts i=oi.dst:=by simp_all
 rw[dw b1] at L d2;simp only at L d2;have r2:∀τ t,Operand.tmp t∈oi.op.operands->(τ<s.nx\/dsts (τ-s.nx)=some t)->τ≠s.nx+k:=λτ t ht hc e=>by
  grind [lX]
 have r1:∀τ t,Operand.tmp t∈ok.op.operands->(τ<s.nx\/dsts (τ-s.nx)=some t)->τ≠s.nx+i:=λτ t ht hc e=>by
  grind [lX]
 have c2:yp P tb mt dsts i oi s z2 p:=by
  refine k2.carry J hi (λt ht=>?_) (λ_ id=>?_) ?_ ?_
  ·rw[dw b1];grind [lH]
  ·simp_all [dw,Fj]
  ·rfl
  ·intro t τ kk l e _ ht M hc hl;rw[dw b1] at M hc hl
   grind [mJ]
 have N:E.kill≠some (s.nx+i):=λe=>by
  grind
 have H:p.kill≠some (s.nx+k):=λe=>by
  grind
 have W:∀τ,E.kill=some τ->p.kill≠some τ:=λτ e1 e2=>by
  simp_all [mJ]
 refine⟨upd s i oi.dst z2 p,bw.2 ⟨d2,z2,p,c2,rfl⟩,bw.2 ⟨by grind [dw],z1,E,?_,L5 Z b1 b2 a2 N H⟩⟩;refine k1.carry J hk (λt ht=>?_) (λ_ id=>?_) ?_ ?_
 ·rw[dw b2];grind [lH]
 ·simp_all [dw,Fj]
 ·rfl
 ·intro t τ kk l e Y ht M hc hl
  simp_all [dw,mJ]
def PE(P:Program)(tb:qd)(mt:Nat->Bool)(ops:Array Oper)(K:AS->Prop):Nat->Array Bool->AS->Prop
 |0,listed,s=>Region.ready .any ops listed= []/\K s
 |fuel+1,listed,s=>(Region.ready .any ops listed= []->K s)/\
  ∀i∈Region.ready .any ops listed,∀o,ops[i]?=some o->∃s',b_ P tb mt (λj=>(ops[j]?).bind (·.dst)) i o s=some s'/\PE P tb mt ops K fuel (listed.setIfInBounds i true) s'
theorem tL(ops:Array Oper)(n:Nat):su ops (n+1)=su ops n++ [match ops[n]? with
  |some o=>o.after.toList.foldr (λe m=>if Region.binds .any e=true then(1<<<e.on)|||((su ops n).getD e.on 0|||m) else m) 0
  |none=>0]:=rfl
theorem oI(ops:Array Oper):∀n,(su ops n).length=n
 |0=>rfl
 |n+1=>by rw[tL,abj,oI ops n];rfl
theorem mg(ops:Array Oper)(j:Nat):∀(n d:Nat),n=j+1+d->(su ops n).getD j 0=match ops[j]? with
  |some o=>o.after.toList.foldr (λe m=>if Region.binds .any e=true then(1<<<e.on)|||((su ops j).getD e.on 0|||m) else m) 0
  |none=>0
 |n,0,h=>by
  simp_all [tL,oI]
 |n,d+1,h=>by
  subst h;rw[show j+1+(d+1)=(j+1+d)+1 from by omega];rw[tL,abM,abJ (by grind [oI]),<-List.getD_eq_getElem?_getD];exact mg ops j (j+1+d) d rfl
theorem xG(f:Edge->Nat)(i:Nat):∀(l:List Edge),(l.foldr (λe m=>if Region.binds .any e=true then(1<<<e.on)|||(f e|||m) else m) 0).testBit i=true->∃e∈l,Region.binds .any e=true/\(e.on=i\/(f e).testBit i=true)
 | [],h=>by simp at h
 |e::l,h=>by
  simp only[List.foldr_cons] at h;split at h
  ·rename_i hb;rw[Nat.testBit_or,Nat.testBit_or,adr,adr] at h;rcases h with h|h|h
   ·simp_all [Nat.shiftLeft_eq,Nat.testBit_two_pow]
   ·simp_all
   simp_all [xG]
  simp_all [xG]
def anB(ops:Array Oper)(listed:Array Bool):Prop:=∀j p,ops[j]?=some p->listed.getD j false=true->∀e∈p.after,Region.binds .any e=true->listed.getD e.on false=true
theorem anB.set{listed:Array Bool}(h:anB ops listed){k:Nat}(hk:k∈Region.ready .any ops listed):anB ops (listed.setIfInBounds k true):=by
 intro j E H hl e he hb;have key:listed.getD e.on false=true->(listed.setIfInBounds k true).getD e.on false=true:=λh1=>by
  by_cases p:k=e.on
  ·subst p;rcases adv e.on listed.size with h2|h2
   ·simp[h2]
   simp_all
  simp_all
 by_cases I:k=j
 ·grind [mem_ready]
 ·rw[agu false I] at hl;exact key (h j E H hl e he hb)
theorem anB.anc{listed:Array Bool}(h:anB ops listed):∀(n j i:Nat) (p:Oper),j<n->ops[j]?=some p->(∀e∈p.after,Region.binds .any e=true->listed.getD e.on false=true)->((su ops (j+1)).getD j 0).testBit i=true->listed.getD i false=true
 |0,j,i,p,hn,E,hd,hb=>by omega
 |n+1,j,i,p,hn,E,hd,hb=>by
  rw[mg ops j (j+1) 0 rfl,E] at hb;obtain⟨e,he,O,H⟩:=xG (λe=>(su ops j).getD e.on 0) i _ hb;have N:e∈p.after:=Array.mem_toList_iff.1 he;have hl:=hd e N O;rcases H with rfl|H
  ·exact hl
  ·have U:e.on<j:=by
    grind [oI]
   have I:j<ops.size:=(aah.1 E).1;have ho:ops[e.on]?=some ops[e.on]:=aa_ (by omega);refine anB.anc h n e.on i ops[e.on] (by omega) ho (λM L J=>h _ _ ho hl M L J) ?_;rw[mg ops e.on (e.on+1) 0 rfl,<-mg ops e.on j (j-e.on-1) (by omega)];exact H
theorem Pg(Z:oz mt ops=true){listed:Array Bool}(hC:anB ops listed)(hk:k∈Region.ready .any ops listed)(hi:i∈Region.ready .any ops listed)(N5:k<i)(L:ops[k]?=some ok)(J:ops[i]?=some oi):
  (lO mt ok=false/\lO mt oi=false)\/looseAt mt ok oi=true:=by
 obtain⟨U,W,O,bk⟩:=agW.1 hk;obtain⟨ui,Y,N,bi⟩:=agW.1 hi;rw[L] at O;cases O;rw[J] at N;cases N;have I:k<ops.size:=(aah.1 L).1;have WC:i<ops.size:=(aah.1 J).1;have C4:((su ops ops.size).getD i 0).testBit k=true->False:=λM=>by
  have gd:∀(l:Array Bool) (j:Nat),j<ops.size->l.getD j true=false->l.getD j false=true->False:=λl j _ a b=>by
   grind
  have mv:∀j,j<ops.size->(su ops ops.size).getD j 0=(su ops (j+1)).getD j 0:=λj hj=>by
   rw[mg ops j (j+1) 0 rfl,mg ops j ops.size (ops.size-j-1) (by omega)]
  rw[mv i WC] at M;exact gd listed k I U (hC.anc _ i k oi (Nat.lt_succ_self i) J bi M)
 have key:∀j p,(j=k/\p=i)\/(j=i/\p=k)->(∀o,ops[j]?=some o->lO mt o=true)->looseAt mt ok oi=true:=λj p An hh=>by
  have H:j<ops.size:=by omega
  have ag6:p<ops.size:=by omega
  have h1:=acp.1 Z j (aeh.2 H);have E:ops[j]?=some ops[j]:=aa_ H;rw[E] at h1;simp only[hh _ E,aeF,ahe] at h1;have h2:=acp.1 h1 p (aeh.2 ag6)
  grind
 cases hh:lO mt ok with
 |true=>exact .inr (key k i (.inl ⟨rfl,rfl⟩) (λo ho=>by simp_all))
 |false=>
  cases hh2:lO mt oi with
  |true=>exact .inr (key i k (.inr ⟨rfl,rfl⟩) (λo ho=>by simp_all))
  |false=>simp_all
theorem yp.aqy(hb:nw mt o=true)(h:yp P tb mt dsts i o s z u):u.kill=none/\u.made=none/\u.pL= []/\(u.bx=none\/∃id x,u.bx=some (id,x)/\(fresh mt o=true->id=s.nx+i)):=by
 rcases h with ⟨_,h⟩|⟨_,_,rfl⟩
 ·grind [PC]
 simp_all
theorem yp.aqG(hd:vr mt o=true)(h:yp P tb mt dsts i o s z u):u.bx=none/\u.pL= []:=by
 rcases h with ⟨_,h⟩|⟨_,_,rfl⟩
 ·exact PB hd h
 simp_all
theorem zt(p:dsts=λj=>(ops[j]?).bind (·.dst))(E:∀t∈o.looksAt ops,s'.T t=s.T t):iM dsts o s'=iM dsts o s:=by
 grind [iM,Oper.looksAt]
theorem yp.mf(p:dsts=λj=>(ops[j]?).bind (·.dst))(hb:nw mt o=true)(E:∀t∈o.looksAt ops,s'.T t=s.T t)(H:fresh mt o=true\/s'.B=s.B)(hnx:s'.nx=s.nx)(h:yp P tb mt dsts i o s z u):yp P tb mt dsts i o s' z u:=by
 have I:∀x∈o.op.operands,s'.ev x=s.ev x:=λx hx=>by
  cases x with
  |tmp t=>simp_all [lX]
  |_=>rfl
 have hw:iM dsts o s'=iM dsts o s:=zt p E;rcases h with ⟨h1,h2⟩|⟨h1,h2⟩
 ·exact .inl ⟨by simp_all,yg hb I H hnx h2⟩
 ·exact .inr ⟨by simp_all,h2⟩
def CJ(B:Nat->Option (Bool×List AV))(u:jA):Nat->Option (Bool×List AV):=match u.bx with|some (id,x)=>Lo B id (some x)|none=>B
theorem cN(h1:u.kill=none)(h2:u.made=none)(p:u.pL= [])(s:AS)(i:Nat)(dst:Option Nat)(z:AV):upd s i dst z u= { s with T:=sI s.T dst z,B:=CJ s.B u } :=by
 obtain⟨kl,md,bx,E⟩:=u;simp only at h1 h2 p;subst h1 h2 p;rfl
theorem kq(h1:u.bx=none)(h2:u.pL= [])(s:AS)(i:Nat)(dst:Option Nat)(z:AV):upd s i dst z u= { s with T:=sI s.T dst z,lv:=Eh s.lv (s.nx+i) u } :=by
 rw[dw h1,h2];rfl
theorem akY(h:vr mt o=true):lO mt o=false/\VH o=false:=by
 grind [vr]
theorem xP(L:dsts=λj=>(ops[j]?).bind (·.dst))(U:k≠i)(O:ops[k]?=some ok)(W:ops[i]?=some oi)(N:ok.apart ops oi=true)(hk:nw mt ok=true)(hi:vr mt oi=true)
  (h1:b_ P tb mt dsts k ok s=some s1) (h2:b_ P tb mt dsts i oi s1=some s2):∃J,b_ P tb mt dsts i oi s=some J/\b_ P tb mt dsts k ok J=some s2:=by
 obtain⟨a1,a2,a3⟩:=agC N;obtain⟨d1,z1,M,k1,rfl⟩:=bw.1 h1;obtain⟨d2,z2,p,k2,rfl⟩:=bw.1 h2;obtain⟨I,p2,p3,_⟩:=k1.aqy hk;obtain⟨H,E⟩:=k2.aqG hi;rw[cN I p2 p3] at d2 k2 h2;have c2:yp P tb mt dsts i oi s z2 p:=by
  refine yp.carry (s':=s) L (akY hi).1 (λt ht=>?_) (λh=>?_) ?_ ?_ k2
  ·grind [lH]
  ·rw[(akY hi).2] at h;cases h
  ·rfl
  simp_all
 refine⟨upd s i oi.dst z2 p,bw.2 ⟨d2,z2,p,c2,rfl⟩,bw.2 ⟨by grind [kq],z1,M,?_,?_⟩⟩
 ·rw[kq H E];exact k1.mf L hk (λt ht=>lH λd hd e=>a3 d hd (e▸ht)) (.inr rfl) rfl
 ·rw[kq H E,cN I p2 p3,cN I p2 p3,kq H E];simp only[AS.mk.injEq,abQ]
  grind [nD]
theorem xO(M:dsts=λj=>(ops[j]?).bind (·.dst))(W:k≠i)(U:ops[k]?=some ok)(Y:ops[i]?=some oi)(O:ok.apart ops oi=true)(hk:vr mt ok=true)(hi:nw mt oi=true)
  (h1:b_ P tb mt dsts k ok s=some s1) (h2:b_ P tb mt dsts i oi s1=some s2):∃L,b_ P tb mt dsts i oi s=some L/\b_ P tb mt dsts k ok L=some s2:=by
 obtain⟨a1,a2,a3⟩:=agC O;obtain⟨d1,z1,N,k1,rfl⟩:=bw.1 h1;obtain⟨d2,z2,p,k2,rfl⟩:=bw.1 h2;obtain⟨J,p2⟩:=k1.aqG hk;obtain⟨I,H,E,_⟩:=k2.aqy hi;rw[kq J p2] at d2 k2 h2;have c2:yp P tb mt dsts i oi s z2 p:=by
  refine yp.mf (s':=s) M hi (λt ht=>?_) (.inr ?_) ?_ k2
  ·grind [lH]
  ·rfl
  ·rfl
 refine⟨upd s i oi.dst z2 p,bw.2 ⟨d2,z2,p,c2,rfl⟩,bw.2 ⟨by grind [cN],z1,N,?_,?_⟩⟩
 ·rw[cN I H E];refine k1.carry M (akY hk).1 (λt ht=>lH λd hd e=>a3 d hd (e▸ht)) (λh=>?_) rfl (λt τ kk l e _ _ _ _ hl=>hl);rw[(akY hk).2] at h;cases h
 ·rw[cN I H E,kq J p2,kq J p2,cN I H E];simp only[AS.mk.injEq,abQ]
  grind [nD]
theorem H3(M:dsts=λj=>(ops[j]?).bind (·.dst))(Z:k≠i)(U:ops[k]?=some ok)(EJ:ops[i]?=some oi)(O:ok.apart ops oi=true)(hk:fresh mt ok=true)(hi:fresh mt oi=true)
  (h1:b_ P tb mt dsts k ok s=some s1) (h2:b_ P tb mt dsts i oi s1=some s2):∃L,b_ P tb mt dsts i oi s=some L/\b_ P tb mt dsts k ok L=some s2:=by
 obtain⟨a1,a2,a3⟩:=agC O;obtain⟨d1,z1,N,k1,rfl⟩:=bw.1 h1;obtain⟨d2,z2,p,k2,rfl⟩:=bw.1 h2;obtain⟨J,p2,p3,p4⟩:=k1.aqy (iT hk);obtain⟨I,H,E,q4⟩:=k2.aqy (iT hi);rw[cN J p2 p3] at d2 k2 h2 q4;have c2:yp P tb mt dsts i oi s z2 p:=by
  refine yp.mf (s':=s) M (iT hi) (λt ht=>?_) (.inl hi) ?_ k2
  ·grind [lH]
  ·rfl
 refine⟨upd s i oi.dst z2 p,bw.2 ⟨d2,z2,p,c2,rfl⟩,bw.2 ⟨by grind [cN],z1,N,?_,?_⟩⟩
 ·rw[cN I H E];exact k1.mf M (iT hk) (λt ht=>lH λd hd e=>a3 d hd (e▸ht)) (.inl hk) rfl
 ·rw[cN I H E,cN J p2 p3,cN J p2 p3,cN I H E];simp only[AS.mk.injEq,abQ];refine⟨nD _ _ _ a2,?_⟩;unfold CJ;rcases p4 with p4|⟨W,x1,p4,f1⟩
  ·rw[p4]
  ·rcases q4 with q4|⟨Y,x2,q4,f2⟩
   ·rw[q4]
   ·rw[p4,q4]
    grind [Lo]
theorem vt(M:dsts=λj=>(ops[j]?).bind (·.dst))(Z:s.B (s.nx+i)=none)(Y:ops[k]?=some ok)(EJ:ops[i]?=some oi)(W:ok.apart ops oi=true)(hk:aqB ok=true)(hi:fresh mt oi=true)
  (h1:b_ P tb mt dsts k ok s=some s1) (h2:b_ P tb mt dsts i oi s1=some s2):∃L,b_ P tb mt dsts i oi s=some L/\b_ P tb mt dsts k ok L=some s2:=by
 obtain⟨a1,a2,a3⟩:=agC W;obtain⟨d1,z1,N,k1,rfl⟩:=bw.1 h1;obtain⟨d2,z2,p,k2,rfl⟩:=bw.1 h2;have hu1:N= {} :=by
  rcases k1 with ⟨_,h⟩|⟨_,_,h⟩
  ·exact asc hk h
  ·exact h
 subst hu1;obtain⟨I,H,E,q4⟩:=k2.aqy (iT hi);have U:upd s k ok.dst z1 {} = { s with T:=sI s.T ok.dst z1 } :=rfl;rw[U] at d2 k2 h2 q4 ⊢;have c2:yp P tb mt dsts i oi s z2 p:=by
  refine yp.mf (s':=s) M (iT hi) (λt ht=>?_) (.inl hi) ?_ k2
  ·grind [lH]
  ·rfl
 refine⟨upd s i oi.dst z2 p,bw.2 ⟨d2,z2,p,c2,rfl⟩,bw.2 ⟨by grind [cN],z1,{},?_,?_⟩⟩
 ·rw[cN I H E];have O:∀t∈ok.looksAt ops,(sI s.T oi.dst z2) t=s.T t:=λt ht=>lH λd hd e=>a3 d hd (e▸ht)
  have hw:iM dsts ok { s with T:=sI s.T oi.dst z2,B:=CJ s.B p } =iM dsts ok s:=zt M O;rcases k1 with ⟨h1,h2⟩|⟨h1,h2⟩
  ·refine .inl ⟨by simp_all,yf hk (λx hx=>?_) (λid y hy=>?_) h2⟩
   ·cases x with
    |tmp t=>simp_all [lX]
    |_=>rfl
   ·show CJ s.B p id=some y;unfold CJ;rcases q4 with q4|⟨VM,x2,q4,f2⟩
    ·simp_all
    ·rw[q4]
     grind [aL]
  ·exact .inr ⟨by simp_all,h2⟩
 ·have J:∀s':AS,upd s' k ok.dst z1 {} = { s' with T:=sI s'.T ok.dst z1 } :=λ_=>rfl
  rw[J,cN I H E,cN I H E];simp only[AS.mk.injEq,abQ]
  grind [nD]
theorem Mo(p:dsts=λj=>(ops[j]?).bind (·.dst))(M:s.B (s.nx+i)=none)(H:k≠i)(E:ops[k]?=some ok)(I:ops[i]?=some oi)(J:ok.apart ops oi=true)(hl:(lO mt ok=false/\lO mt oi=false)\/looseAt mt ok oi=true)
  (h1:b_ P tb mt dsts k ok s=some s1) (h2:b_ P tb mt dsts i oi s1=some s2):∃L,b_ P tb mt dsts i oi s=some L/\b_ P tb mt dsts k ok L=some s2:=by
 rcases hl with ⟨a,b⟩|hl
 ·exact Il p H E I J a b h1 h2
 ·simp only[looseAt,z_,adr,aaZ] at hl;rcases hl with ((⟨a,b⟩|⟨a,b⟩)|⟨a,b⟩)|⟨a,b⟩
  ·exact xP p H E I J a b h1 h2
  ·exact xO p H E I J a b h1 h2
  ·exact H3 p H E I J a b h1 h2
  grind [vt]
def Yet(listed:Array Bool)(s:AS):Prop:=∀j,listed.getD j true=false->s.B (s.nx+j)=none
theorem Yet.step{listed:Array Bool}(h:Yet listed s)(hi:listed.getD i true=false)(h1:b_ P tb mt dsts i o s=some s1):Yet (listed.setIfInBounds i true) s1:=by
 obtain⟨_,z,u,hd,rfl⟩:=bw.1 h1;intro j H;have L:i<listed.size:=by
  grind
 have M:j≠i:=λe=>by simp_all
 have p:listed.getD j true=false:=by simp_all [Ne.symm]
 have h0:=h j p;show(upd s i o.dst z u).B (s.nx+j)=none;have I:∀id x,u.bx=some (id,x)->id≠s.nx+j:=λid x hb=>by
  rcases hd with ⟨_,h⟩|⟨_,_,rfl⟩
  ·grind [XO]
  ·cases hb
 have E:(upd s i o.dst z u).B=mR (CJ s.B u) u.pL:=by
  rfl
 rw[E,mQ];have J:CJ s.B u (s.nx+j)=none:=by
  unfold CJ;cases hb:u.bx with
  |some y=>
   obtain⟨id,x⟩:=y
   simp_all [Ne.symm]
  |none=>exact h0
 simp_all
theorem Is(hH:oz mt ops=true){K:AS->Prop}(O:ops[k]?=some ok):∀(fuel:Nat) (listed:Array Bool) (s s1:AS),
  anB ops listed->Yet listed s->(∀j,listed.getD j true=false->k<=j)->(∀j J,ops[j]?=some J->j≠k->listed.getD j true=false->(∀e∈J.after,Region.binds .any e=true->e.on≠k)->ok.apart ops J=true)->
  k∈Region.ready .any ops listed->b_ P tb mt (λj=>(ops[j]?).bind (·.dst)) k ok s=some s1->PE P tb mt ops K fuel (listed.setIfInBounds k true) s1->PE P tb mt ops K (fuel+1) listed s:=by
 intro fuel
 induction fuel with
 |zero=>
  intro listed s s1 _ _ _ _ hr h1 H;refine⟨λh=>(by simp_all),λj E o ho=>?_⟩;by_cases p:j=k
  ·simp_all
  ·have:=ready_mono E p;rw[H.1] at this;cases this
 |succ fuel ih=>
  intro listed s s1 hC U Z Y hr h1 H;refine⟨λh=>(by simp_all),λj E o ho=>?_⟩;by_cases p:j=k
  ·grind
  ·obtain⟨s2,h2,H2⟩:=H.2 j (ready_mono E p) o ho;obtain⟨L,J,I,gU⟩:=agW.1 E;rw[ho] at I;cases I;have M:∀e∈o.after,Region.binds .any e=true->e.on≠k:=λe he hb heq=>by
    grind [mem_ready]
   obtain⟨N,W,e2⟩:=Mo (ops:=ops) rfl (U j L) (Ne.symm p) O ho (Y j o ho p L M) (Pg hH hC hr E (Nat.lt_of_le_of_ne (Z j L) (Ne.symm p)) O ho) h1 h2;refine⟨N,W,ih (listed.setIfInBounds j true) N s2 (hC.set E) (U.step L W) (λl hl=>Z l (by
    by_cases Am:j=l
    ·simp_all
    simp_all)) (λl ol hl Wx VY C4=>?_) (ready_mono hr (Ne.symm p)) e2 ?_⟩
   ·refine Y l ol hl Wx ?_ C4;by_cases Am:j=l
    ·simp_all
    simp_all
   grind [Array.setIfInBounds_comm]
theorem yh(J:oz mt ops=true){K:AS->Prop} :∀(l:List Oper) (k:Nat) (listed:Array Bool) (s s':AS),anB ops listed->Yet listed s->(∀j,listed.getD j true=false->k<=j)->(∀j,l[j]?=ops[k+j]?)->Region.lexFrom .any ops l.length k listed=true->
  fJ P tb mt (λj=>(ops[j]?).bind (·.dst)) k l s=some s'->K s'->PE P tb mt ops K l.length listed s
 | [],_,_,s,s',_,_,_,_,H,h,p=>by
  cases h;exact⟨by grind [Region.lexFrom],p⟩
 |o::l,k,listed,s,s',hC,I,U,hl,H,h,p=>by
  have h0:ops[k]?=some o:=by simpa using(hl 0).symm
  simp only[ab0,Region.lexFrom,aaZ] at H;obtain⟨⟨hr,hf⟩,E⟩:=H;obtain⟨s1,L,N⟩:=ax (show(b_ P tb mt (λj=>(ops[j]?).bind (·.dst)) k o s).bind (fJ P tb mt (λj=>(ops[j]?).bind (·.dst)) (k+1) l)=some s' from h);exact Is J h0 l.length listed s s1 hC I U (Region.free_spec h0 hf) (by grind) L
   (yh J l (k+1) _ s1 s' (hC.set (by grind)) (I.step (agW.1 (by simpa using hr)).1 L) (λj M=>by
    by_cases O:k=j
    ·simp_all
    ·rw[agu true O] at M
     grind) (λj=>by have:=hl (j+1);grind) E N p)
end
end Go.Proofs.YtjagmhagphbfcaaGreatDoor
