/- Lemmas, part 24. -/
import Derived.Scope
import Derived.Test.YtjagmhagphbfcaaGreatDoorO23
set_option maxRecDepth 100000
set_option linter.all false
namespace Go.Proofs.YtjagmhagphbfcaaGreatDoor
def agv:=@Nat.pow_le_pow_left
def afJ:=@List.mem_filter
@[simp] abbrev aim:List Nat:=[0,1,2,3,4,6,8,9,12,13,14,15,23]
open Go Go.Proofs
def Az(h:ay)(w:List UInt8):Bool:=h.tags.all λt=> !(cF h w t).isEmpty
def aB(h:ay):List (List UInt8):=(e_ h.L h.S).filter (Az h)
def amE(l:List (List UInt8)):List AV:=l.flatMap ao
def YW(h:ay)(w:List UInt8):List AV:=if Az h w then ao w else[]
theorem apr(h:ay):rN (YW h) h.L h.S []=amE (aB h):=by
 unfold rN aB amE;generalize e_ h.L h.S=l
 induction l with
 |nil=>rfl
 |cons w l p=>
  grind [YW]
theorem qi:∀(L S:List UInt8),(e_ L S).length<=(S.length+1)^L.length
 | [],S=>by simp[e_]
 |c::L,S=>by
  have hp:0<(S.length+1)^L.length:=Nat.pow_pos (by omega);unfold e_;split
  ·have:=rU (λk=>(e_ L (S.take k++S.drop (k+1))).map (S.getD k 0:: ·)) ((S.length+1)^L.length) (List.range S.length) (λk hk=>by
    have p:k<S.length:=aeh.1 hk;have h1:=qi L (S.take k++S.drop (k+1));simp only[abz];refine aaY h1 (agv ?_ _)
    grind)
   grind
  ·have h1:=qi L S
   grind
theorem nC(h:ay)(p:h.L.length=10)(E:h.S.length<=4):(aB h).length<=9765625:=by
 have h1:=qi h.L h.S;rw[p] at h1;have h2:(h.S.length+1)^10<=5^10:=agv (by omega) _;have H:(5:Nat)^10=9765625:=by decide
 exact aaY (ael _ _) (by omega)
theorem j_(h:ay)(p:h.L.length=10)(w:List UInt8)(hw:w∈aB h):w.length=10:=by
 rw[<-p];exact th _ _ _ (afJ.1 hw).1
theorem fy(l:List (List UInt8))(h:∀w∈l,w.length=10):(amE l).length=10*l.length:=by
 induction l with
 |nil=>rfl
 |cons w l p=>
  grind [amE,ao]
structure Sound(h:ay):Prop where
 L:h.L.length=10
 S:h.S.length<=4
 a:∀c∈h.S,c.toNat<128
 al:sH h
 nt:h.tags.length<=20
 t:∀t∈h.tags,t.reads.length<=11
section
variable{P:Program}[l:cL P]
theorem sQ:∀ {l m:List UInt8},ao l=ao m->l=m
 | [],[],_=>rfl
 | [],_::_,h=>by grind [ao]
 |_::_,[],h=>by grind [ao]
 |a::l,b::m,h=>by
  simp only[ao,List.map_cons,abg] at h;rw[oG h.1,sQ h.2]
theorem Mk{t u:Tag}(h:fP t=fP u):t=u:=by
 obtain⟨a1,a2,a3⟩:=t
 simp_all [fP]
theorem zJ(h:ay)(hv:sH h):∃F:List AV->Option AV,Den P 89 F/\∀w t,w.length=10->t.reads.length<=11->F [.ag (aj h (bF h)),.ag (ao w),.ag (fP t)]=some (.sq none 2 (bt (cF h w t))):=by
 obtain⟨F,h1,h2⟩:=cC (P:=P) (f:=89) (ι:=List UInt8×Tag) (λx=> [.ag (aj h (bF h)),.ag (ao x.1),.ag (fP x.2)]) (λx=>.sq none 2 (bt (cF h x.1 x.2))) (λx=>x.1.length=10/\x.2.reads.length<=11) (λx y _ _ e=>by
  simp only[abg,AV.ag.injEq,adM,abQ] at e
  grind [sQ,Mk]) (λx hx=>zI h x.1 x.2 hx.1 hv hx.2)
 exact⟨F,h1,λw t hw ht=>h2 (w,t) ⟨hw,ht⟩⟩
theorem wO(h:ay)(hh:Sound h){g0:Gh}{w0:World}{T:Nat->AV}{B:Nat->Option (Bool×List AV)}{lv:Nat->Option TypeId}{nx:Nat}{g1:Gh}{w1:World}{m1:Mem}{a1:Act}(E:SR P g0 w0 (λj=>nx<=j) ⟨T,B,lv,nx,30⟩ g1 w1 m1 a1.tmps)(jY:a1.defers= [])
  (t1:T 1=.sp (aj h (bF h))) (t3:T 3=.bx 2 0) (t8:T 8=.fn 148 [.ag (aj h (bF h))] []) (b2:B 2=some (false,[.sq none 0 []])) {tb:qd} {mt:Nat->Bool} (hT:jw P tb) (F4:pN tb) {UF H:Code} (Wm:nd UF=true) (Wj:nd H=true)
  (tx:∀(w:List UInt8),w.length=10->∀(T0:Nat->AV) (l:List AV),T0 1=.sp (aj h (bF h))->T0 3=.bx 0 0->T0 9=.ag (ao w)->l.length+(YW h w).length<=1099511627776->
   awp P tb mt UF (λx s1=>x=.normal/\awp P tb mt H (λx s2=>x=.normal/\(∃τ,s2.B 0=some (false,[.sq (some τ) (aQ P 116) (l++YW h w)])/\s2.lv τ=some 116)/\s2.B 1=some (false,ao w)) s1) ⟨T0,bQ (false,[.sq (some 0) (aQ P 116) l]) (false,ao w),bG 0 116,2,30⟩)
  {Q:Exit->Act->World->Prop} (hQ:∀w4 g4 m4,SR P { g0 with ex:=λ_ _ _=>True,iF:=λ_=>none } w0 (λj=>1<=j) (zE P 116 (amE (aB h))) g4 w4 m4 #[]->a1.tmps.getD 3 undef=.pointer (some ⟨m4.bm 0,0,none⟩)->w0.heap.size<=w1.heap.size->w4.heap[w1.heap.size]?=some (.deferred (some []))->
   Q .normal { a1 with defers:= [{ target:=.collected w1.heap.size,args:= #[] }]++a1.defers } w4):(Code.rangeFunc (.tmp 8) #[9] UF H).wp P Q a1 w1:=by
 refine(wpIn_wide (n:=2)).1 (wpIn_rangeFunc (λfn _=>?_));have e8:=E.tmps 8;dsimp only at e8;rw[t8] at e8;obtain⟨y1,y2,WL,VU,VT⟩:=e8.fn;have af1:=VT.nE;subst af1;obtain⟨hv,yn,rfl,Z,Y⟩:=VU.dX;have afZ:=Y.nE;subst afZ;have e1:=E.tmps 1;dsimp only at e1;rw[t1] at e1;have e1r:=e1.rd (by simp);have e3:=E.tmps 3;dsimp only at e3;rw[t3] at e3;have e3v:=e3.bx.2;have hA:=E.alone (e:=116) (i0:=2) b2 (λ_=>.any) (λt=>.cw (.any _) rfl);generalize mr:m1.bm 2=bo at hA e3v;obtain⟨rec,pe⟩:∃rec:Loop,rec= { state:=.ready,pending:=none,fn:=fn,tmps:=a1.tmps,params:= #[9],assign:=UF,body:=H,defers:=w1.heap.size } :=⟨_,rfl⟩
 obtain⟨w2,W⟩:∃w2,(w1.alloc (.deferred (some []))).alloc (.loop rec)=w2:=⟨_,rfl⟩
 have Ws:w2.heap[w1.heap.size+1]?=some (.loop rec):=by
  rw[<-W];have:=World.alloc_heap_new (w1.alloc (.deferred (some []))) (.loop rec);simp_all
 have hD:w2.heap[w1.heap.size]?=some (.deferred (some [])):=by
  grind [heap_alloc_old,heap_alloc_new]
 have Jh:Lw g1 g1 w1 (w1.alloc (.deferred (some []))):=iU E.wi _ _ rfl rfl rfl rfl (λ_=>aax _) rfl;have U:WI g1 (w1.alloc (.deferred (some []))):=ko E.wi _ _ rfl Jh (λb hb=>(E.wi.out b (by omega)).1) rfl;have KW:Lw g1 g1 (w1.alloc (.deferred (some []))) w2:=by rw[<-W];exact iU U _ _ rfl rfl rfl rfl (λ_=>aax _) rfl
 have hW2:WI g1 w2:=by rw[<-W];exact ko U _ _ rfl (by simp_all) (λb hb=>(U.out b (by omega)).1) rfl
 have qQ:=hA.alloc (a:=a1) Jh U (λb hb=>adx w1 _ hb) (λ_ _=>rfl) rfl;have hB2:=qQ.alloc (a:=a1) KW hW2 (λb hb=>by grind [heap_alloc_old]) (λ_ _=>rfl) rfl;have hS:=hB2.small (g1:= { g0 with ex:=Ss g1 w2,iF:=λid=>if id=0 then some bo else none }) (o8 _) (dA 0 116) rfl rfl
  (λg3 g4 w3 w4 hE I=>(Lw.trans (g2:=g3) ⟨I.1,I.2,I.3,I.4,I.5,I.6,I.7,I.8⟩ hE:Lw g1 g4 w2 w4)|>λq=>⟨q.1,q.2,q.3,q.4,q.5,q.6,q.7,q.8⟩)
  ⟨aax _,λ_=>aax _,λ_ _ _=>rfl,λ_ _ e=>e,rfl,rfl,rfl,λ_ _ e _=>e⟩ (λid b e=>by
   simp_all)
 have aot:(amE (aB h)).length<=97656250:=by
  rw[fy _ (j_ h hh.L)];have:=nC h hh.L hh.S;omega
 have N:=Jh.trans KW;have aag:=BO h (bF h) (YW h) (w1.heap.size+1) bo rec hh.L (by simp_all) (rcW g1 w2 (w1.heap.size+1) rec) MT (λg w h=>h.2) (by have:=hh.S;omega) hh.a (λb1 w hw=>by
  refine ML (P:=P) (tb:=tb) (mt:=mt) hT F4 mixed (n0:=30) (pt:=9) (T0:=λt=>if t=1 then .sp (aj h (bF h)) else if t=3 then .bx 0 0 else if t=9 then .ag (ao w) else .any) (by rw[<-Di w hw];exact oQ w) (by grind) (by grind) (by grind) (by simp_all) (by simp_all) (by rw[pe];exact E.size) (by omega) rfl (λt ht=>?_) (λl hl=>?_)
  ·rw[pe];dsimp only;split
   ·rename_i e;subst e;exact .inl ⟨e1r.mono N,rfl,λ_ _=>by simp⟩
   ·split
    ·simp_all
    ·first
      |(rw[aat ht];exact .inl ⟨.any _,rfl,λ_ _=>by simp⟩)
      |exact .inl ⟨.any _,rfl,λ_ _=>by simp⟩
  simp_all) _ w0 g1 w2 _ [] [hv,.func (.yield (w1.heap.size+1)) #[] #[]] hS rfl (oZ λ_ _ _=>Iff.rfl) ⟨⟨aax _,λ_=>aax _,λ_ _ _=>rfl,λ_ _ e=>e,rfl,rfl,rfl,λ_ _ e _=>e⟩,Ws⟩
  (by grind [apr]) (.cons (Z.mono N) (.cons (.v _) (.nil _ _)))
 have cu:a1.eval (.tmp 8)=.func (.func 148) #[hv] #[]:=WL;refine⟨w1.heap.size+1,[{ target:=.collected w1.heap.size,args:= #[] }],w2,{ target:=.fn (.func 148) #[],args:= #[hv,.func (.yield (w1.heap.size+1)) #[] #[]] },w2,148,#[hv,.func (.yield (w1.heap.size+1)) #[] #[]],w2,?_,?_,λ_ _=>trivial,?_,λhn=>by omega,callsIn_wide.2 (Calls.mono aag ?_)⟩
 ·simp_all [run_enterLoop_outer]
 ·simp_all [resolve,Deferred.ofValue,Act.eval]
 ·grind [(aR Tryz.func148),invoke]
 ·rintro e w' ⟨y,g',m',rfl,M,ahC,J⟩;have O:=J.8 _ _ Ws rfl;have hend:=run_endLoop (P:=P) O (by simp_all);have Wc:rec.pending=none:=by grind
  refine⟨none,_,hend.trans (congrArg (λp=>Result.ok p _) Wc),?_⟩;rw[apr,aaV] at M;have cU:=M.Uv (ex':=λ_ _ _=>True) (pin':=λ_=>none) (λ_ _ _ _ _ _=>trivial) trivial (λ_ _ e=>by cases e);have VX:w0.heap.size<=w1.heap.size:=E.ext.size;have aoa:=cU.Dq (o':=.loop { rec with state:=.exhausted }) (by omega) O ⟨λ_ _ _ e=>(by cases e),λ_ _ e=>(by cases e)⟩ trivial (λ_ _ _ e=>(by cases e));refine hQ _ g' m' aoa ?_ VX ?_
  ·simp_all
  ·rw[adZ (by omega)];exact J.8 _ _ hD rfl
set_option maxHeartbeats 2000000 in
theorem sO(h:ay)(hh:Sound h):aq P 99 [.ag (aj h (bF h))] (.sq none 10 (amE (aB h))):=by
 intro g w ys hW hr;have L:∀(g:Gh),jb P a_ g:=λg=>.of (au P) ⟨λ_ _=>rfl,λ_ _ _=>rfl⟩
 refine callsIn_wide.1 (callsIn_of_wp_marks (F:=Fence.wide) (n:=2) (lf (P:=P) Tryz.func99) rfl trivial ((wpIn_wide (n:=2)).2 ?_));have bH:=uV (P:=P) hW hr (n:=30) (by simp);have cq:ys.toArray.size=ys.length:=by simp
 rw[cq];generalize hR:bodyPostM Fence.wide 2 P Tryz.f99 (λe w'=>∃y g',e=.returned y/\Lw g g' w w'/\WI g' w'/\anw g g' w w'/\Rd g' w' (.sq none 10 (amE (aB h))) y/\anC g' w' w.heap.size (.sq none 10 (amE (aB h))) y)=R;refine(?_:Tv P { g with ex:=λ_ _ _=>True,iF:=λ_=>none } w _ R _) _ w bH;clear bH;refine ajr ?_;refine bD ?_ (aY (tb:=a_) (mt:=λ_=>false) (Q:=λe s1=>e=.normal/\s1.T 1=.sp (aj h (bF h))/\s1.nx=2/\s1.n=30) (L _) mixed ?_)
 rotate_left
 ·
  repeat apply nI
  refine eI aim ?_;simp_all [aj,o6]
 rintro e ⟨T,B,lv,nx,n⟩ ⟨rfl,t1,rfl,rfl⟩;simp only at t1;intro a1 w1 Ez;refine wp_scope_straight ?_
 revert a1 w1
 refine(?_:Tv P { g with ex:=λ_ _ _=>True,iF:=λ_=>none } w _ (Exit.noGoto R) _);refine ajr ?_;refine bD ?_ (aY (tb:=a_) (mt:=λ_=>false) (Q:=λe s1=>e=.normal/\s1.T 1=.sp (aj h (bF h))/\s1.T 3=.bx 2 0/\s1.B 2=some (false,[.sq none 0 []])/\s1.nx=3/\s1.n=30) (L _) mixed ?_)
 rotate_left
 ·
  repeat apply nI
  refine eI aim ?_;simp_all
 rintro e ⟨T,B,lv,nx,n⟩ ⟨rfl,t1,t3,b2,rfl,rfl⟩;simp only at t1 t3 b2;refine ajr ?_;refine aY (tb:=a_) (mt:=λ_=>false) (L _) mixed (II ?_);intro a0' U ve;refine wp_seq (wp_seq (wp_mono (aY (tb:=a_) (mt:=λ_=>false) (Q:=λe s1=>e=.normal/\s1.T 1=.sp (aj h (bF h))/\s1.T 3=.bx 2 0/\s1.T 8=.fn 148 [.ag (aj h (bF h))] []/\s1.B 2=some (false,[.sq none 0 []])/\s1.n=30) (L _) mixed ?_ a0' U ve) ?_))
 ·refine oR [1,3,8] (λh=>Bool.noConfusion h) (λK E=>?_)
  simp_all [aj,o6]
 rintro e a1 w1 ⟨x,⟨T,B,lv,nx,n⟩,he,⟨rfl,t1,t3,t8,b2,rfl⟩,g1,m1,dJ,jY⟩;simp only at t1 t3 t8 b2;have Ch:e=.normal:=by cases e <;>simp[c8] at he ⊢
 subst Ch;clear ve;obtain⟨F,hFd,KU⟩:=zJ (P:=P) h hh.al;refine af6 (wO h hh dJ jY t1 t3 t8 b2 (tb:=bW 89 F a_) (mt:=λ_=>false) (ak (aR Tryz.func89) hFd (au P)) ⟨λ_ _=>rfl,λ_ _ _=>rfl⟩ rfl rfl ?_ ?_)
 ·clear dJ jY t1 t3 t8 b2;intro v hv T l Z q3 q9 hl;have H:(ao v).length=10:=by grind [ao]
  have O:(ao v).take 10=ao v:=aa1 (by omega);have Ew:=bY v;have N:=cV h.tags
  repeat apply nI
  refine eI aim ?_;intro K E;simp[Z,q3,q9,H,Ew]
  repeat' (first|apply E|(refine aE (λhc=>?_) (λhc=>?_) <;>(try simp only[aan,aac] at hc) <;>simp[hc,Z,q3,q9,H,O,Ew])|fail)
  refine⟨rfl,?_⟩
  repeat apply nI
  repeat apply nI
  refine eI aim ?_;intro K E;simp[aj,o6,N]
  repeat' (first|apply E|(refine aE (λhc=>?_) (λhc=>?_) <;>(try simp only[aan,aac] at hc) <;>simp[hc,Z,aj,o6,N])|fail)
  repeat apply nI
  refine amF (λd T B lv nx=>∃k,k+d=h.tags.length/\T 1=.sp (aj h (bF h))/\T 3=.bx 0 0/\T 4=.bx 2 0/\T 12=.sq none 3 (bI h.tags)/\T 13=.i .i64 h.tags.length/\T 14=.i .i64 k/\B 0=some (false,[.sq (some 0) 10 l])/\B 1=some (false,ao v)/\B 2=some (false,ao v)/\lv 0=some 116/\3<=nx/\(h.tags.take k).all (λt=> !(cF h v t).isEmpty)=true) h.tags.length ?_ ?_
  ·exact⟨0,by simp,by rfl,by rfl,by simp,by simp,by simp,by simp,by rfl,by rfl,by simp,by simp,by simp,by simp⟩
  ·rintro d T B lv nx ⟨k,hk,r1,Y,W,r12,r13,r14,b0,b1,b2,KH,hnx,gU⟩;have w1:=aS ((k:Int)+1) (by omega) (by have:=hh.nt;omega);have n0:¬0=nx+1+2:=by omega
   have n1:¬1=nx+1+2:=by omega
   have n2:¬2=nx+1+2:=by omega
   by_cases J:k<h.tags.length
   ·have vl:=fA h.tags k h.tags[k] (by grind);have M:=KU v h.tags[k] hv (hh.t _ (abG J));simp only[aj,o6,fP,aaT,aaV] at M;have hle:(k+1)*3<=h.tags.length*3:=by omega
    have hml:=fC (cF h v h.tags[k]);cases he:(cF h v h.tags[k]).isEmpty with
    |true=>
     have RL:(cF h v h.tags[k])= []:=by grind
     rw[RL] at M
     repeat' first|apply nI|(refine eI aim λK E=>?_;simp[r1,Y,W,r12,r13,r14,b2,J,vl,hle,N,aj,o6,H,O,ab,M,bt];apply E)
     repeat (first|with_reducible refine Po ?_|(refine Jy (by decide) ?_)|with_reducible refine NB ?_|with_reducible refine Mm ?_)
     have hY:YW h v= []:=by
      unfold YW Az;rw[aat]
      grind
     simp_all
    |false=>
     have RL:¬(cF h v h.tags[k]).length=0:=by
      simp_all
     have abx:(h.tags.take (k+1)).all (λt=> !(cF h v t).isEmpty)=true:=by
      rw[aaN J,List.all_append,gU];grind
     repeat' first|apply nI|(refine eI aim λK E=>?_;simp[r1,Y,W,r12,r13,r14,b2,J,vl,hle,N,aj,o6,H,O,ab,M,hml,RL,w1];apply E)
     refine aN (d-1) ⟨k+1,by omega,by rfl,by rfl,by rfl,by rfl,by rfl,by simp,by simp[b0],by simp[b1],by simp[b2],by omega,by simp,abx⟩
   ·have gg:k=h.tags.length:=by omega
    subst gg;have hY:YW h v=ao v:=by
     unfold YW Az
     simp_all
    rw[hY] at hl ⊢;rw[H] at hl;have m0:¬0=nx+1+2:=by omega
    have m1:¬1=nx+1+2:=by omega
    have m3:(l.length+10)*11<=70368744177664:=by omega
    have m4:0<nx+1:=by omega
    repeat' first|apply nI|(refine eI aim λK E=>?_;simp[r1,Y,W,r12,r13,r14,b0,b2,KH,aj,o6,H,O,Ew,m3,m4];apply E)
    simp_all
 ·intro w4 g4 m4 I e3v VX hD;simp only[Exit.inBlock,Exit.then];obtain⟨zs,Ma,c1,c2,c3,c4,c5,c6⟩:=I.boxes 0 false _ wG;obtain⟨v,rfl⟩:∃v,zs= [v]:=by
   match zs,c3 with
   | [v],_=>grind
  have hv:=(c5 0 _ v rfl rfl).1;have dn:w4.cell? ⟨m4.bm 0,0,none⟩=some v:=by rw[aeg w4 _ 0 _ Ma _ c2];rfl
  refine wp_seq (nB rfl rfl ?_);have xv:(loadVar 100 ⟨m4.bm 0,0,none⟩).run P w4=.ok v w4:=by
   unfold loadVar;simp only[aaw,oX (show fv P 100=some false by simp),aas]
   simp_all
  have anM:a1.tmps.size=30:=dJ.size;have ev3:∀ds,Act.eval { tmps:=a1.tmps,defers:=ds } (.tmp 3)=.pointer (some ⟨m4.bm 0,0,none⟩):=λ_=>e3v
  unfold Oper.wp;simp only[execOp,ev3,Instr.loadAt,Instr.sureAddr,aaw,aaS,aas,xv,Oper.upon_value];have aiT:Act.eval (Act.put { tmps:=a1.tmps,defers:= [{ target:=.collected w1.heap.size,args:= #[] }]++a1.defers } (some 29) v) (.tmp 29)=v:=by
   show(a1.tmps.setIfInBounds 29 v).getD 29 undef=v
   simp_all
  simp only[aiT];refine wp_ret ?_;show R _ _ _;rw[<-hR];show LeavesInM Fence.wide 2 P Tryz.f99 _ _ ([{ target:=.collected w1.heap.size,args:= #[] }]++a1.defers) .returning w4;rw[jY,acO];refine⟨by simp,.inl ⟨w1.heap.size,_,rfl,run_takeDeferred hD,?_⟩⟩;have p:=I.Dq (o':=.deferred none) VX hD ⟨λ_ _ _ e=>(by cases e),λ_ _ e=>(by cases e)⟩ trivial (λ_ _ _ e=>(by cases e));have hv5:Rd g4 (w4.putObj w1.heap.size (.deferred none)) (.sq none 10 (amE (aB h))) v:=by
   have h9:=(p.boxes 0 false _ wG)
   obtain⟨zs5,ty5,d1,d2,d3,d4,d5,d6⟩:=h9;have J:=(aah.1 c2).1;have cr:m4.bm 0≠w1.heap.size:=λe=>by simp_all
   rw[adZ cr,c2] at d2;cases d2;have:=(d5 0 _ v rfl rfl).1;simpa using this
  show ∃v,(results Tryz.f99 _).run P _=.ok v _/\_;refine⟨v,?_,v,g4,rfl,⟨p.ext.1,p.ext.2,p.ext.3,p.ext.4,p.ext.5,p.ext.6,p.ext.7,p.ext.8⟩,p.wi,⟨p.keeps.1,p.keeps.2,p.keeps.3⟩,hv5,trivial⟩
  simp_all [cX,ey,Act.put]
end
@[simp] abbrev aqg:List Nat:=[0,1,2,4,11]
@[simp] abbrev aip:List Nat:=[0,1,4,12,13,14,15,20]
def ni(c:UInt8):Int:=if isLet c=true then 0 else if c=63 then 1 else 2
def lK(a b:Int):Int:=if dR a b=true then 0 else 1
def aV(n p:Int):Int:=if n<0\/99999<n\/p<1\/5<p then 1 else if 0<n/10^p.toNat then 8 else 0
def mT(n:Int):Int:=if 0<=n/\n<=9 then 0 else 1
def iN(h:ay)(i:Int):Int:=if 0<=i/\i<h.tags.length then 0 else 6
section
variable{P:Program}[l:cL P]
def pM:List AV->Option AV
 | [.i .u8 c]=>if 0<=c/\c<256 then some (.i .i64 (ni (UInt8.ofNat c.toNat))) else none
 |_=>none
theorem Nv(c:UInt8):aq P 164 [.i .u8 c.toNat] (.i .i64 (ni c)):=by
 refine fi (au P) (lf Tryz.func164) ?_;have H:(((c.toNat:Int))==63)=(c==63):=kn c 63 (by omega);by_cases h1:65<=(c.toNat:Int)
 ·by_cases h2:(c.toNat:Int)<=90
  ·have I:isLet c=true:=by grind [isLet]
   repeat' first|apply nI|(refine eI [0,2,3,10] λK p=>?_;simp[h1,h2];apply p)
   simp_all [Dn,aH,ni]
  ·have I:isLet c=false:=by grind [isLet]
   have E:(c==63)=false:=by
    grind
   repeat' first|apply nI|(refine eI [0,2,3,10] λK p=>?_;simp[h1,h2,H,E];apply p)
   simp_all [Dn,aH,ni]
 ·have I:isLet c=false:=by grind [isLet]
  cases E:(c==63) with
  |true=>
   repeat' first|apply nI|(refine eI [0,2,3,10] λK p=>?_;simp[h1,H,E];apply p)
   simp_all [Dn,aH,ni]
  |false=>
   repeat' first|apply nI|(refine eI [0,2,3,10] λK p=>?_;simp[h1,H,E];apply p)
   simp_all [Dn,aH,ni]
theorem Nw:Den P 164 pM:=λargs res h=>by
 unfold pM at h
 grind [Nv,SI]
def CE:List AV->Option AV
 | [.ag [.i .i64 a,.i .i64 b]]=>some (.i .i64 (lK a b))
 |_=>none
theorem Kd(a b:Int):aq P 120 [.ag [.i .i64 a,.i .i64 b]] (.i .i64 (lK a b)):=by
 refine fi (au P) (lf Tryz.func120) ?_;by_cases h1:a<0
 ·have hp:dR a b=false:=by grind [dR]
  repeat' first|apply nI|(refine eI [0,1,2,17] λK p=>?_;simp[h1];apply p)
  simp_all [Dn,aH,lK]
 ·by_cases h2:b<a
  ·have hp:dR a b=false:=by grind [dR]
   repeat' first|apply nI|(refine eI [0,1,2,17] λK p=>?_;simp[h1,h2];apply p)
   simp_all [Dn,aH,lK]
  ·by_cases E:b>99999
   ·have hp:dR a b=false:=by grind [dR]
    repeat' first|apply nI|(refine eI [0,1,2,17] λK p=>?_;simp[h1,h2,E];apply p)
    simp_all [Dn,aH,lK]
   ·have hp:dR a b=true:=by grind [dR]
    repeat' first|apply nI|(refine eI [0,1,2,17] λK p=>?_;simp[h1,h2,E];apply p)
    simp_all [Dn,aH,lK]
theorem Ke:Den P 120 CE:=λargs res h=>by
 unfold CE at h
 grind [Kd]
def lA:List AV->Option AV
 | [.i .i64 n]=>if 0<=n/\n<=9 then some (.i .i64 ((n+9)%10)) else none
 |_=>none
theorem G0(n:Int)(h0:0<=n)(E:n<=9):aq P 107 [.i .i64 n] (.i .i64 ((n+9)%10)):=by
 refine fi (au P) (lf Tryz.func107) ?_;have w1:=aS (n+9);have e:(n+9).tmod 10=(n+9)%10:=ae6 (by omega)
 repeat' first|apply nI|(refine eI [0,2] λK p=>?_;simp[w1,e];apply p)
 simp[Dn,aH,Tryz.f107]
theorem wS:Den P 107 lA:=λargs res h=>by
 unfold lA at h
 grind [G0]
theorem HY(n:Int):aq P 104 [.i .i64 n] (.i .i64 (mT n)):=by
 refine fi (ak (aR Tryz.func130) kB (au P)) (lf Tryz.func104) ?_;by_cases h1:0<=n
 ·by_cases h2:n<=9
  ·repeat' first|apply nI|(refine eI [0,2,5] λK p=>?_;simp[ab,dF,h1,h2];apply p)
   simp_all [Dn,aH,mT]
  ·repeat' first|apply nI|(refine eI [0,2,5] λK p=>?_;simp[ab,dF,h1,h2];apply p)
   simp_all [Dn,aH,mT]
 ·repeat' first|apply nI|(refine eI [0,2,5] λK p=>?_;simp[ab,dF,h1];apply p)
  simp[Dn,aH,Tryz.f104,mT,h1]
theorem Dw(h:ay)(i:Int)(hn:h.tags.length<1000000):aq P 75 [eG h,.i .i64 i] (.i .i64 (iN h i)):=by
 refine fi (ak (aR Tryz.func130) kB (au P)) (lf Tryz.func75) ?_;have E:=cV h.tags;have w1:=aS ((h.tags.length:Int)-1);by_cases h1:0<=i
 ·by_cases h2:i<=(h.tags.length:Int)-1
  ·have H:i<h.tags.length:=by omega
   repeat' first|apply nI|(refine eI aqg λK p=>?_;simp[eG,o6,E,w1,ab,dF,h1,h2];apply p)
   simp_all [Dn,aH,iN]
  ·have H:¬i<h.tags.length:=by omega
   repeat' first|apply nI|(refine eI aqg λK p=>?_;simp[eG,o6,E,w1,ab,dF,h1,h2];apply p)
   simp_all [Dn,aH,iN]
 ·repeat' first|apply nI|(refine eI aqg λK p=>?_;simp[eG,o6,E,w1,ab,dF,h1];apply p)
  simp[Dn,aH,Tryz.f75,iN,h1]
theorem tU(n g:Int):aq P 85 [.i .i64 n,.i .i64 g] (.i .i64 (aV n g)):=by
 refine fi (ak (aR Tryz.func130) kB (au P)) (lf Tryz.func85) ?_;by_cases h1:0<=n/\n<=99999
 ·by_cases h2:1<=g/\g<=5
  ·have hb:¬(n<0\/99999<n\/g<1\/5<g):=by omega
   repeat apply nI
   refine eI aip ?_;intro K p;simp
   repeat' (first|apply p|(refine aE (λhc=>?_) (λhc=>?_) <;>(try simp only[aan,aac] at hc) <;>simp[hc])|fail)
   repeat apply nI
   refine eI aip ?_;intro K p;simp[ab,dF,h1.1,h1.2,h2.1,h2.2]
   repeat' (first|apply p|(refine aE (λhc=>?_) (λhc=>?_) <;>(try simp only[aan,aac] at hc) <;>simp[hc,ab,dF,h1.1,h1.2,h2.1,h2.2])|fail)
   repeat apply nI
   refine eI aip ?_;intro K p;simp;apply p
   repeat apply nI
   repeat apply nI
   refine eI aip ?_;intro K p;simp
   repeat' (first|apply p|(refine aE (λhc=>?_) (λhc=>?_) <;>(try simp only[aan,aac] at hc) <;>simp[hc])|fail)
   repeat apply nI
   refine amF (λd T B lv nx=>∃k:Nat,(k:Int)+d=g/\T 0=.i .i64 (n/10^k)/\T 13=.i .i64 g/\T 14=.i .i64 k) g.toNat ?_ ?_
   ·exact⟨0,by omega,by simp,by simp,by simp⟩
   ·rintro d T B lv nx ⟨k,hk,t0,t13,t14⟩;have w1:=aS ((k:Int)+1);have U:(0:Int)<10^k:=Int.pow_pos (by omega);have I:0<=n/10^k:=Int.ediv_nonneg h1.1 (by omega);have W:n/10^k<=n:=Int.ediv_le_self _ h1.1;have hq:(n/10^k).tdiv 10=n/10^(k+1):=by
     grind [Int.ediv_ediv_of_nonneg]
    have M:0<=n/10^(k+1):=by grind
    have L:n/10^(k+1)<=n:=Int.ediv_le_self _ h1.1;have w2:=aS (n/10^(k+1));by_cases H:(k:Int)<g
    ·repeat' first|apply nI|(refine eI aip λK p=>?_;simp[t0,t13,t14,H,w1,hq,w2];apply p)
     refine aN (d-1) ⟨k+1,by omega,by simp,by simp,by simp⟩
    ·have J:g.toNat=k:=by omega
     by_cases E:0<n/10^k
     ·repeat' first|apply nI|(refine eI aip λK p=>?_;simp[t0,t13,t14,H,E];apply p)
      simp_all [Dn,aH,aV]
     ·repeat' first|apply nI|(refine eI aip λK p=>?_;simp[t0,t13,t14,H,E];apply p)
      simp[Dn,aH,Tryz.f85,aV,hb,J,E]
  ·have hb:(n<0\/99999<n\/g<1\/5<g):=by omega
   have N:(decide (1<=g)&&decide (g<=5))=false:=by grind
   repeat' first|apply nI|(refine eI aip λK p=>?_;simp[ab,dF,h1.1,h1.2,N];apply p)
   simp_all [Dn,aH,aV]
 ·have hb:(n<0\/99999<n\/g<1\/5<g):=by omega
  have O:(decide (0<=n)&&decide (n<=99999))=false:=by grind
  repeat' first|apply nI|(refine eI aip λK p=>?_;simp[ab,dF,O];apply p)
  simp_all [Dn,aH,aV]
end
end Go.Proofs.YtjagmhagphbfcaaGreatDoor
