/- Lemmas, part 30. -/
import Derived.Conc.LeavingOf
import Derived.Carry
import Derived.LaidMore
import Derived.LaidHandle
import Derived.ChangeSame
import Derived.LaidLaws
import Derived.Test.YtjagmhagphbfcaaGreatDoorCards
import Derived.Test.YtjagmhagphbfcaaGreatDoorTie
import Derived.Test.YtjagmhagphbfcaaGreatDoorQ29
set_option maxRecDepth 100000
set_option linter.all false
namespace Go.Proofs.YtjagmhagphbfcaaGreatDoor
open Go renaming Value→am,World→ap,Program→aC,TypeId→b8,Frame→bn,Operand→ct
def af7:=@Go.Proofs.Tryz.underlying4
open Go Go.Proofs Go.Conc Go.ChangeShapes Go.WideShapes Go.ChangeAt Go.RowKit
def xi:List (String×DataW Unit):= [("nosale/tag.checks",Rows.laid_nosale_tag_checks)]
def nm0:List UInt8:= [40,110,111,115,97,108,101,47,116,97,103,46,104,111,117,115,101,41,46,108,101,116,116,101,114,115]
def nm1:List UInt8:= [40,110,111,115,97,108,101,47,116,97,103,46,104,111,117,115,101,41,46,112,97,105,114,115]
def nm2:List UInt8:= [40,110,111,115,97,108,101,47,116,97,103,46,104,111,117,115,101,41,46,116,97,103,115]
theorem MY:ownKnob Tryz.prog.godebug=none:=by kernel_rfl
theorem Nu:laidOutB Tryz.prog=true:=by kernel_rfl
theorem z0:(((begin Tryz.prog (λ_ _=>0) default).world.heap[0]?).bind Obj.row?).map (λx=>(x.1.size,x.2))=some (3,140):=by kernel_rfl
theorem z1:(((begin Tryz.prog (λ_ _=>0) default).world.heap[1]?).bind Obj.row?).map (λx=>(x.1.size,x.2))=some (1,3):=by kernel_rfl
theorem z2:(((begin Tryz.prog (λ_ _=>0) default).world.heap[2]?).bind Obj.row?).map (λx=>(x.1.size,x.2))=some (256,226):=by kernel_rfl
theorem z3:(((begin Tryz.prog (λ_ _=>0) default).world.heap[3]?).bind Obj.row?).map (λx=>(x.1.size,x.2))=some (32,229):=by kernel_rfl
theorem UT:Tryz.prog.cellTypes Tryz.prog.depth 3=some [3]:=by kernel_rfl
theorem OH:Tryz.prog.globals.size=4:=rfl
theorem oW{W:ap}(h:W.ShapedOpen Tryz.prog){g n t:Nat}(hg:g<4)(hz:(((begin Tryz.prog (λ_ _=>0) default).world.heap[g]?).bind Obj.row?).map (λx=>(x.1.size,x.2))=some (n,t)):
  ∃cs,W.heap[g]?=some (.cells cs t)/\cs.size=n/\(Tryz.prog.buildable t=true->Row.ok Tryz.prog W .any 0 t cs):=by
 rw[aeb] at hz;obtain⟨⟨zero,t'⟩,h1,h2⟩:=hz;cases h2;obtain⟨cs,H,E,p⟩:=h.1 g zero t' (by simp_all) h1
 simp_all
theorem rj{W:ap}{b n t:Nat}{cs:Array am}(h:W.heap[b]?=some (.cells cs t))(hn:cs.size=n):W.shape? b=some (t,n):=by
 unfold World.shape?
 grind
theorem OG{W:ap}(h:W.ShapedOpen Tryz.prog):AU W/\(∃k n e fr,W.heap[1]?=some (.cells #[.int k n] e fr))/\4<=W.heap.size:=by
 obtain⟨c0,a0,b0,_⟩:=oW h (g:=0) (by decide) z0;obtain⟨c1,a1,b1,d1⟩:=oW h (g:=1) (by decide) z1;obtain⟨c2,a2,b2,_⟩:=oW h (g:=2) (by decide) z2;obtain⟨c3,a3,H,_⟩:=oW h (g:=3) (by decide) z3;refine⟨⟨rj a0 b0,rj a1 b1,rj a2 b2,rj a3 H⟩,?_,(aah.1 a3).1⟩;obtain⟨ts,p,_,E⟩:=d1 (by kernel_rfl);rw[UT] at p;cases p;obtain⟨v,rfl⟩:∃v,c1= #[v]:=⟨c1[0],by grind⟩
 obtain⟨u,hu,hv⟩:=E 0 v rfl;cases hu;unfold Cell.ok at hv
 grind [Tryz.underlying3]
theorem QZ:((List.range Tryz.prog.funcs.size).filter λf=>(Tryz.prog.funcs[f]?).any (·.name.toUTF8.data.toList==nm0))= [255]:=by kernel_rfl
theorem QY:((List.range Tryz.prog.funcs.size).filter λf=>(Tryz.prog.funcs[f]?).any (·.name.toUTF8.data.toList==nm1))= [256]:=by kernel_rfl
theorem QX:((List.range Tryz.prog.funcs.size).filter λf=>(Tryz.prog.funcs[f]?).any (·.name.toUTF8.data.toList==nm2))= [257]:=by kernel_rfl
theorem Pe:Tryz.prog.cellsOf 139=1:=by kernel_rfl
theorem Pd:Tryz.prog.cellsOf 140=3:=by kernel_rfl
theorem Jl:Tryz.prog.globalNamed "nosale/tag.checks" =some 0:=by kernel_rfl
theorem Qx:(Tryz.prog.globals[0]?).map (·.type)=some 140:=by kernel_rfl
theorem UY{W:ap}(h:laidMetH Tryz.prog xi W):∃e fr,W.heap[0]?=some (.cells F0 e fr):=by
 have hf:=laidMetH.funcs h (n:= "nosale/tag.checks") (d:=.agg [.iface "func" (.lit (.string nm0)),.iface "func" (.lit (.string nm1)),.iface "func" (.lit (.string nm2))]) (by exact acE.2 rfl);obtain⟨g,t,cs,fuel,p,hg,ht,hv,hd⟩:=hf;obtain rfl:=adw (Jl.symm.trans hg);obtain rfl:=adw (Qx.symm.trans ht);obtain⟨xs,m,_,hx,hlen,hn,E⟩:=DataW.trod_array Tryz.underlying140 hd;rw[Pd] at hlen;obtain⟨I,x1,H,rfl⟩:=Ri hn;obtain⟨c0,c1,c2,J⟩:=Ri hlen;simp only[Prod.mk.injEq] at hx;have hx1:(DataW.agg [.held nm0,.held nm1,.held nm2]:DataW (List UInt8))=.agg [I.1,x1.1,H.1]:=hx.1;simp only[DataW.agg.injEq,abg,abQ] at hx1;obtain⟨N,M,L⟩:=hx1;rw[Pe,J] at E;have h0:DataW.trod (funcToken Tryz.prog) Tryz.prog W 0 (λ_=>true) true m 139 [c0]=some I:=E 0 (by decide);have h1:DataW.trod (funcToken Tryz.prog) Tryz.prog W 0 (λ_=>true) true m 139 [c1]=some x1:=E 1 (by decide);have h2:DataW.trod (funcToken Tryz.prog) Tryz.prog W 0 (λ_=>true) true m 139 [c2]=some H:=E 2 (by decide);obtain⟨V,Z⟩:=I;obtain⟨y1,Y⟩:=x1;obtain⟨y2,p2⟩:=H;simp only at N M L;subst N M L;have r0:=func_of_trod Tryz.underlying139 QZ h0;have r1:=func_of_trod Tryz.underlying139 QY h1;have O:=func_of_trod Tryz.underlying139 QX h2;subst r0 r1 O;have U:cs=F0:=by
  rw[<-Array.toList_inj,J];rfl
 grind [World.var?]
section
variable{H:Type}{enc:b8×am->H}
theorem AN{W J:ap}(hb:Below W.heap.size W J):∀ {ts:List b8} {vs:List am} {E:List (DataW H)} {ps:List MemPlace},(∀t∈ts,Tryz.prog.readableRec t=true/\t<Tryz.prog.types.size)->DataW.TrodAll enc Tryz.prog W 0 (λ_=>true) true ts vs E ps->
  (∀x∈ps,x.block<W.heap.size)->DataW.TrodAll enc Tryz.prog J 0 (λb=>decide (b<W.heap.size)) true ts vs E ps
 | [],vs,E,ps,_,h,_=>by
  obtain⟨rfl,rfl,rfl⟩:=trodAll_nil h;exact rfl
 |t::ts,vs,E,ps,ht,h,I=>by
  obtain⟨v,L,d,N,p,q,rfl,rfl,rfl,h1,h2⟩:=trodAll_cons h;obtain⟨r1,M⟩:=ht t (by simp);exact⟨p,q,Below.trod Nu r1 M h1 hb (λx hx=>I x (by grind)),AN hb (λt O=>ht t (by grind)) h2 (λx hx=>I x (by grind)),rfl⟩
theorem Rl{f:FuncId}{fn:Func}{cd:Code}{s:ChangeSpec}{os:Os}(started:os.Started)(V:Tryz.prog.funcs[f]?=some fn)(J:fn.body=some cd)(hK:KL.s f=true)(Xl:f≠17)(Xj:f≠41)(I:fn.resultTypes= #[4])
  (agB:∀t∈fn.params.toList,Tryz.prog.readableRec t=true/\t<Tryz.prog.types.size) (TJ:s.vars= []) (Z5:∀E:List (DataW H),E.length=fn.params.size->s.fn H E= { results:= [.lit (.bool true)],args:=E })
  (witness:∃(w:ap) (tape:Tape) (i:Input),w.os=os/\(w.forCall tape i).Shaped Tryz.prog/\i.vars= []/\Input.okWide Tryz.prog (w.forCall tape i) .any w.heap.size f i/\
   ((s.pre enc Tryz.prog fn [] false (w.forCall tape i).memory i.args/\laidMetH Tryz.prog xi (w.forCall tape i).memory)/\sizedMet enc Tryz.prog fn (OpenSpec.ofChange s) false (w.forCall tape i).memory i.args)/\
    ({} :Assume).holds Tryz.prog (lone (Frame.enter Tryz.prog f i.args .normal) [] (w.forCall tape i)))
  (O:∀(W:ap) (base:Nat) (args:Array am) (E:List (DataW H)) (ps:List MemPlace),AU W->(∀(j:Nat) t v,fn.params[j]?=some t->args[j]?=some v->Value.okWide Tryz.prog W .any base t v)->
   DataW.TrodAll enc Tryz.prog W 0 (λ_=>true) true fn.params.toList args.toList E ps->∃la,qL W args.toList la/\aq PL f la (.b true)):
  ReturnsInLeavingWide {} Tryz.checked os f .any (λw args=>(s.pre enc Tryz.prog fn [] false w args/\laidMetH Tryz.prog xi w)/\sizedMet enc Tryz.prog fn (OpenSpec.ofChange s) false w args)
   (s.post enc Tryz.prog fn false true false false):=by
 refine returnsInLeavingWide_of_good (C:=Tryz.checked) MY started witness ?_;intro w tape i _ qp _ iD Ce _;obtain⟨_,_,_,fh,N,_,_,_,_,Kz⟩:=iD;have e:fh=fn:=adw (N.symm.trans V);subst e;obtain⟨⟨⟨E,gs,before,hw,_⟩,hl⟩,_⟩:=Ce;have cO:=DataW.Whole.of_heap (w':=w.forCall tape i) (by rfl) hw;have sM:laidMetH Tryz.prog xi (w.forCall tape i):=hl.of_heap (by rfl);generalize w.forCall tape i=W at *;obtain⟨hG,L,h4⟩:=OG qp;have hT:sF W:=⟨UY sM,L⟩
 have Xa:=cO;obtain⟨p,q,Z,hV,hbf,_,_⟩:=cO;rw[TJ] at hV;obtain⟨rfl,rfl⟩:=trodVars_none hV;have aK:∀x∈p,x.block<W.heap.size:=λx hx=>Xa.lt x (by simp_all)
 obtain⟨la,ho,hc⟩:=O W _ i.args E p hG Kz Z;obtain⟨ws,ys,k1,_,k3⟩:=ho [];obtain⟨q1,Y⟩:=k3 [];simp only[aaV,acO] at q1 Y;have hlen:E.length=fh.params.size:=by have:=(trodAll_length Z).2;omega
 obtain⟨M,last,o,w',t',h1,h2,h3,Ap⟩:=Nr hK ⟨fh,cd,(MM f Xl Xj).trans V,J⟩ hT h4 k1 (args:=i.args) (by omega) hc Y;refine⟨M,last,o,w',t',h1,h2,h3,Ap.mono λv hF=>?_⟩;refine ChangeSpec.post_blind ?_;obtain⟨rfl,E1⟩:=hF;have U:=Z5 E hlen;refine⟨E,[],before,[],p,[],Xa,?_,?_,?_,E1.frame _,λh=>by cases h⟩
 ·rw[acO,U,I];exact trodAll_mk1 (shut_bool af7 _)
 ·grind [AN]
 ·rw[TJ,acO,U];exact rfl
end
theorem O8(os:Os)(args:Array am):laidMetH Tryz.prog xi ((World.doorLaid Tryz.prog 40 os).forCall (λ_ _=>0) ⟨#[],args,[]⟩).memory:=
 laidMetH_of_parts3 (fuel:=8) (laidMet_of_run' 8 (by kernel_rfl) (by kernel_rfl)) (by kernel_rfl) (by kernel_rfl)
def Xv:am:=.agg #[.string ⟨#[]⟩,.string ⟨#[]⟩,.string ⟨#[]⟩,.slice none 0 0,.slice none 0 0]
theorem Lf{s:OpenSpec}{c:OpenClaim}(hc:c.holds Tryz.pinned s)(hw:c.wfByText s=true)(p:c.laidByTextAt .later Tryz.pinned [.funcs] true)
  (I:c.start=.entering) (hnb:c.noBlocks=false/\c.again=false) (hm:Tryz.pinned.checked.prog.mainIs=some (true, "f07a5fa70ed6775463b7a086f57573263f2086de7ec9f9dbb2d285f1a5080804".toList))
  (hl:∀f fn,Tryz.pinned.checked.prog.funcNamed c.func=some f->Tryz.pinned.checked.prog.funcs[f]?=some fn->false=Tryz.pinned.checked.prog.looks []/\∀(j:Nat) t,fn.params[j]?=some t->Tryz.pinned.checked.prog.wantsStandIn t=false)
  (hg:true=c.goesBy Tryz.pinned.checked.prog):
  Claim7.holds Tryz.pinned (.plain s) { stood:= { row:=c,standIns:= [],harness:=(true, "f07a5fa70ed6775463b7a086f57573263f2086de7ec9f9dbb2d285f1a5080804"),looks:=false },kinds:= [],alts:= [],goes:=true,laidByText:=true,laidKinds:= [.funcs],laidTests:=true,laidLooks:=.later } :=by
 have H:∀r:OpenClaim,Claim7.isSixth { stood:= { row:=r,standIns:= [],harness:=(true, "f07a5fa70ed6775463b7a086f57573263f2086de7ec9f9dbb2d285f1a5080804"),looks:=false },kinds:= [] } =false:=λr=>by rfl
 exact⟨Claim7.tied_new_at .later [.funcs] true (Claim7.new_of_sixth hc (true, "f07a5fa70ed6775463b7a086f57573263f2086de7ec9f9dbb2d285f1a5080804") false I hnb hm (H c) hl) hw,(λD E=>by cases E),p,(λh=>by cases h),hg⟩
end Go.Proofs.YtjagmhagphbfcaaGreatDoor
namespace Go.Proofs.YtjagmhagphbfcaaGreatDoor.Mi
open Go renaming Value→am,World→ap,Program→aC,TypeId→b8,Frame→bn,Operand→ct
open Go Go.Proofs
def com(f:Nat):Bool:=f==163||f==192||f==193||f==212||f==213
def aqP:List (Nat×Nat):= [(150,131),(151,132),(163,163),(176,162),(192,192),(193,193),(196,183),(197,184),(198,185),(199,186),(200,187),(201,188),(202,189),(203,190),(204,191),(212,212),(213,213),(225,211),(226,214),(227,215),(228,175),(236,231)]
def dom(f:Nat):Bool:=aqP.any λx=>x.1==f
def mf(f:Nat):Nat:=match aqP.find? λx=>x.1==f with|some x=>x.2|none=>f
def mt(f:Nat)(t:b8):b8:=bif com f then t else if t=5 then 3 else if t=91 then 28 else t
def aqz:Nat->Nat×Nat×Nat×List Nat
 |150=>(0,0x29,0,[1])
 |151=>(0x4084001080000,0x1b4aa4a854950a55,0,[1])
 |176=>(0x1100000000000000000000,0x80200000810a90200008081041000001,0,[1,0,0,0])
 |196=>(0x440010800000,0x1aa4a09500001,0,[1,0,0])
 |197=>(0x1100000000000,0xea88a00400001,0,[1,0,0])
 |198=>(0x4400000000000000,0x1aa22800000000001,0x80,[1,0,0])
 |199=>(0,0x124800000001,0x200,[1,0,0])
 |200=>(0x2200000,0xd554001,0,[1,0,0])
 |201=>(0x440042000110010800088000021000000,0x1aa4a254006a9289500354940012a00001,0,[1,0,0])
 |202=>(0x6123,0,0,[2,2])
 |203=>(0x11000220011000440000,0x6aaa015400aa01aaa801,0,[1,0,0,0])
 |204=>(0x110004400044004400110022000220022000880000,0x6aaa1aaa802a802a806aaad5540154015403555001,0,[1,0,0,0])
 |213=>(0,0,0xe371b8d9,[3])
 |225=>(0x1040004100408000000,0x68a2222288214400001,0,[1,0,0,0])
 |226=>(0,0x81,0x2004,[1,0,3])
 |227=>(0,0x10101001,0x80808010,[1,0,0,0,3])
 |228=>(0x19,0,0,[2])
 |236=>(0x22000,0x15401,0x980008,[1,0,0,3])
 |_=>(0,0,0,[0])
def many:Nat->Nat
 |176=>0x8400000000000440000000000
 |227=>0x109090800
 |_=>0
def rc(f:Nat):Nat:=bif f==199||f==204||f==236 then 4 else bif f==151 then 1 else 0
def cl(f t:Nat):Nat:=bif (many f).testBit t then 4 else bif (aqz f).1.testBit t then 2 else bif (aqz f).2.1.testBit t then 1 else bif (aqz f).2.2.1.testBit t then 3 else 0
def aww(f:Nat):Callee->Callee
 | .value (.func g)=>.value (.func (mf g))
 |c=>c
def mop(f:Nat):Op->Op
 | .binOp op t x y t'=>.binOp op (mt f t) x y (mt f t')
 | .indexAddr t x i=>.indexAddr (mt f t) x i
 | .load t a=>.load (mt f t) a
 | .store t a x=>.store (mt f t) a x
 | .slice t x E hi p=>.slice (mt f t) x E hi p
 | .call c=>.call { c with callee:=aww f c.callee,argTypes:=c.argTypes.map (mt f) }
 |o=>o
def cv(f:Nat)(o:Oper):Oper:= { o with op:=mop f o.op,type:=mt f o.type }
def n6(f:Nat):Code->Code
 | .region id ops d=>.region id (ops.map (cv f)) d
 | .seq a b=>.seq (n6 f a) (n6 f b)
 | .cond c a b=>.cond c (n6 f a) (n6 f b)
 | .block i b=>.block i (n6 f b)
 | .loop b=>.loop (n6 f b)
 | .scope b=>.scope (n6 f b)
 |c=>c
def er(f:Nat):Item->Item
 | .code c=>.code (n6 f c)
 | .inLoop c=>.inLoop (n6 f c)
 | .inScope c=>.inScope (n6 f c)
 | .inRegion ops l=>.inRegion (ops.map (cv f)) l
 |i=>i
def ity(t:b8):Bool:=t==3||t==189||t==206||t==214||t==216||t==230
def ath:am->Bool
 | .int _ _| .bool _=>true
 |_=>false
def opc(f c:Nat):ct->Bool
 | .tmp t=>cl f t==c
 | .const (.slice none _ _)=>c==1
 | .const v=>c==0&&ath v
 |_=>false
def dcl(f c:Nat)(o:Oper):Bool:=match o.dst with|some d=>cl f d==c|none=>true
def ara(f:Nat):List ct->List Nat->Bool
 | [],[]=>true
 |x::xs,c::cs=>opc f c x&&ara f xs cs
 |_,_=>false
def aqj(f:Nat)(o:Oper):Bool:=match o.op with
 | .move x| .assign x=>(opc f 4 x&&dcl f 4 o)||(opc f 0 x&&dcl f 0 o)||(opc f 1 x&&dcl f 1 o)||(opc f 2 x&&dcl f 2 o)||(opc f 3 x&&dcl f 3 o)
 | .pick c a b=>opc f 0 c&&opc f 0 a&&opc f 0 b&&dcl f 0 o
 | .unOp .not _ x=>opc f 0 x&&dcl f 0 o
 | .extract x _=>opc f 4 x&&dcl f 0 o
 | .convert s d x=>(ity s||com f&&s==5)&&(ity d||com f&&d==5)&&opc f 0 x&&dcl f 0 o
 | .nilCheck x=>opc f 3 x&&dcl f 3 o
 | .index t (.const (.string _)) ix=>t==9&&opc f 0 ix&&dcl f 0 o
 | .binOp op t x y t'=>if !com f&&t==5 then opc f 2 x&&opc f 2 y&&dcl f 0 o&&(op==.lss||op==.eql||op==.neq) else ity t&&opc f 0 x&&opc f 0 y&&dcl f 0 o&&mt f t==t&&mt f t'==t'
 | .alloc t=>(t==3||t==230)&&dcl f 3 o
 | .load t a=>if !com f&&t==5 then opc f 1 a&&dcl f 2 o else(t==3||t==230)&&opc f 3 a&&dcl f 0 o
 | .store t a x=>o.dst.isNone&&(if !com f&&t==5 then opc f 1 a&&opc f 2 x else(t==3||t==230)&&opc f 3 a&&opc f 0 x)
 | .indexAddr t x ix=> !com f&&t==91&&opc f 1 x&&opc f 0 ix&&dcl f 1 o
 | .slice t x p hi none=> !com f&&t==91&&opc f 1 x&&p.all (opc f 0)&&hi.all (opc f 0)&&dcl f 1 o
 | .call { callee:=.builtin .len,args,argTypes } => !com f&&argTypes.toList== [91]&&ara f args.toList [1]&&dcl f 0 o
 | .call { callee:=.builtin .clear,args,argTypes } => !com f&&argTypes.toList== [91]&&ara f args.toList [1]&&o.dst.isNone
 | .call { callee:=.value (.func g),args,.. } =>dom g&&g !=151&&ara f args.toList (aqz g).2.2.2&&dcl f (rc g) o
 |_=>false
def gdk(f:Nat)(ops:Array Oper)(o:Oper):Bool:=match o.guard with
 |some (j,_)=>match(ops[j]?).bind (·.dst) with|some d=>cl f d==0|none=>true
 |none=>true
def arf(f:Nat)(ops:Array Oper):Bool:=ops.all λo=>aqj f o&&gdk f ops o
def mck(f:Nat):Code->Bool
 | .region _ ops _=>arf f ops
 | .seq a b=>mck f a&&mck f b
 | .cond c a b=>opc f 0 c&&mck f a&&mck f b
 | .block _ b| .loop b| .scope b=>mck f b
 | .exit _| .skip| .ret=>true
 |_=>false
def mik(f:Nat):Item->Bool
 | .code c| .inLoop c| .inScope c=>mck f c
 | .inBlock _=>true
 | .inRegion ops _=>arf f ops
 |_=>false
def atf(f:Nat)(rs:List ResultVar):Bool:=(rs.all λr=>match r with| .tmp t=>cl f t==(bif f==151 then 1 else 0)|_=>false)&&(match rs with| []| [_]=>rc f !=4|_=>rc f==4)
def asP(P:aC)(f:Nat):Bool:=match P.funcs[f]?,P.funcs[mf f]? with
 |some a,some b=>match a.body,b.body with
  |some c,some _=>mck f c&&atf f a.results.toList&&a.ntmps==b.ntmps&&Nat.ble (aqz f).2.2.2.length a.ntmps
  |_,_=>false
 |_,_=>false
theorem asO:(aqP.all λx=>asP Tryz.prog x.1)=true:=by kernel_rfl
def Pl:am->Prop
 | .int _ _| .bool _=>True
 | .tuple xs=>xs= #[]
 |_=>False
def VM(b n0:Nat):Nat->am->am->Prop
 |0,x,y=>y=x/\Pl x
 |1,x,y=>y=x/\(x=undef\/(∃n m,x=.slice none n m)\/(∃o n m,x=.slice (some ⟨b,o,none⟩) n m)\/∃o,x=.pointer (some ⟨b,o,none⟩))
 |2,x,y=>y=undef\/∃n:Nat,n<256/\x=.int .u8 n/\y=.int .i64 n
 |4,x,y=>y=x/\∃xs,x=.tuple xs/\∀z∈xs,Pl z
 |_,x,y=>y=x/\(x=undef\/∃c,n0<=c/\x=.pointer (some ⟨c,0,none⟩))
theorem VM.und(b n0 c:Nat):VM b n0 c undef undef:=by
 unfold VM;split
 ·exact⟨rfl,rfl⟩
 ·simp_all
 ·grind
 ·exact⟨rfl,_,rfl,λz hz=>by grind⟩
 simp_all
structure MW(b N:Nat)(e e':b8)(fr:Nat×Nat)(w0 wa wb:ap):Prop where
 size:wb.heap.size=wa.heap.size
 n0:w0.heap.size<=wa.heap.size
 low:b<w0.heap.size
 new:∀c,w0.heap.size<=c->wb.heap[c]?=wa.heap[c]?
 cells:∀c o,w0.heap.size<=c->wa.heap[c]?=some o->∃xs e,o=.cells xs e (0,0)/\∀x∈xs,Pl x
 row:∃xs ys,wa.heap[b]?=some (.cells xs e fr)/\wb.heap[b]?=some (.cells ys e' fr)/\xs.size=N/\ys.size=N/\∀(i:Nat) (x y:am),xs[i]?=some x->ys[i]?=some y->VM b w0.heap.size 2 x y
 mo:∀c,c<w0.heap.size->c≠b->wa.heap[c]?=w0.heap[c]?
 os:wa.os=w0.os
 out:wa.output=w0.output
 tape:wa.tape=w0.tape
 drawn:wb.drawn=wa.drawn
 tp:∀n f id,dom f=true->wb.tape n (.order (mf f) id)=w0.tape n (.order f id)
inductive NM(b n0 f:Nat)(o:Oper):Next->Next->Prop
 |value (x y:am) (h:∀d,o.dst=some d->VM b n0 (cl f d) x y):NM b n0 f o (.value x) (.value y)
 |skip (h:o.dst=none):NM b n0 f o .skip .skip
 |enter (g:Nat) (xs ys:Array am) (hg:dom g=true) (h1:g≠151) (hs:ys.size=xs.size) (hl:xs.size=(aqz g).2.2.2.length) (h:∀(i c:Nat) (x y:am),(aqz g).2.2.2[i]?=some c->xs[i]?=some x->ys[i]?=some y->VM b n0 c x y) (hd:∀d,o.dst=some d->cl f d=rc g):NM b n0 f o (.enter g xs) (.enter (mf g) ys)
section
variable{P:aC}[l:cL P]{b N f:Nat}{e e':b8}{fr:Nat×Nat}{w0 wa wb wb1:ap}{ea eb:ct->am}{o:Oper}{nb:Next}
def EM(b n0 f:Nat)(ea eb:ct->am):Prop:=∀c x,opc f c x=true->VM b n0 c (ea x) (eb x)
theorem as6{f c:Nat}{o:Oper}(h:dcl f c o=true):∀d,o.dst=some d->cl f d=c:=by
 grind [dcl]
theorem aqB{x y:am}{c:Nat}{n0:Nat}(hd:dcl f c o=true)(h:VM b n0 c x y):NM b n0 f o (.value x) (.value y):=.value x y λd e=>by grind [as6]
def Pur(s:Sem am):Prop:=∀(v v':ap) z v1,s.run P v=.ok z v1->v1=v/\s.run P v'=.ok z v'/\Pl z
theorem Pur.pure{x:am}(h:Pl x):Pur (P:=P) (Pure.pure x):=by
 intro v v' z v1 e
 simp_all
theorem Pur.stuck(s:String):Pur (P:=P) (Go.stuck s):=by
 intro v v' z v1 e
 simp_all
theorem asA{s:Sem am}(h:∀v z v1,s.run P v≠.ok z v1):Pur (P:=P) s:=λv v' z v1 e=>absurd e (h v z v1)
theorem arG(op k x y):Pur (P:=P) (Op.intArith op k x y):=by
 unfold Op.intArith;split <;>first|exact .pure trivial|exact .stuck _
theorem arW(op k x y):Pur (P:=P) (Op.intBits op k x y):=by
 unfold Op.intBits;simp only;split <;>first|exact .pure trivial|exact .stuck _
theorem asl(op x y):Pur (P:=P) (Op.intCmp op x y):=by
 unfold Op.intCmp;split <;>first|exact .pure trivial|exact .stuck _
theorem aq2{s:Sem am}(h:bC P s):Pur (P:=P) s:=λv v' z v1 e=>by
 obtain⟨x,v2,h1,_⟩:=h v
 simp_all
theorem asj(op k x y):Pur (P:=P) (Op.intDiv op k x y):=by
 unfold Op.intDiv;split
 ·exact aq2 (aT _)
 ·split <;>first|exact .pure trivial|exact .stuck _
theorem asy(op k x j y):Pur (P:=P) (Op.shift op k x j y):=by
 unfold Op.shift;split
 ·exact aq2 (aT _)
 ·simp only;split <;>first|exact .pure trivial|exact .stuck _
theorem aqD{t:b8}(h:ity t=true):∃k,P.underlying t=some (.int k):=by
 simp only[ity,adr,ac6] at h;rw[aX];rcases h with ((((h|h)|h)|h)|h)|h <;>subst h
 ·simp_all
 ·simp_all
 ·simp_all
 ·simp_all
 ·simp_all
 simp_all
theorem bT{t:b8}{d:TypeDesc}(h:P.underlying t=some d)(w:ap):(underlying t).run P w=.ok d w:=by
 unfold underlying
 simp_all
theorem asB {op : BinOp} {t : b8} (ht : ity t = true) {x y : am} (hx : Pl x) (hy : Pl y) : Pur (P := P) (binOp op t x y) := by
  obtain ⟨k, hk⟩ := aqD (P := P) ht
  have heq : ∀ x y : am, Pl x -> Pl y -> (∀ k a k' b, x = .int k a -> y = .int k' b -> False) -> ∀ v z v1, (Op.equal t x y).run P v ≠ .ok z v1 := by
    intro x y hx hy hn v z v1 e
    unfold Op.equal Op.maxDepth Op.equalIn at e
    simp only [aaw, bT hk, aas] at e
    cases x <;> cases y <;> first | (exact hx.elim) | (exact hy.elim) | (simp only [run_stuck] at e; cases e) | grind | skip
  cases x <;> first | exact hx.elim | skip
  all_goals cases y <;> first | exact hy.elim | skip
  all_goals unfold binOp
  all_goals cases op <;> simp only []
  all_goals first
    | exact asy _ _ _ _ _
    | exact .stuck _
    | (split <;> first | exact .stuck _ | exact arG _ _ _ _ | exact asj _ _ _ _ | exact arW _ _ _ _ | exact asl _ _ _)
    | (refine asA fun v z v1 e => ?_
       simp only [aaw] at e
       generalize hr : (Op.equal t _ _).run P v = r at e
       cases r with
       | ok z v2 => exact heq _ _ hx hy (by intro _ _ _ _ h1 h2; first | (cases h1; done) | (cases h2; done)) _ _ _ hr
       | halt => cases e)
theorem atg{x:am}(hx:Pl x):Pur (P:=P) (Op.unary .not x):=by
 cases x <;>first|exact hx.elim|exact .pure trivial|exact .stuck _
theorem arX{xs:Array am}(hx:∀z∈xs,Pl z)(i:Nat):Pur (P:=P) (Instr.extract (.tuple xs) i):=by
 have e:Instr.extract (.tuple xs) i=match xs[i]? with|some v=>Pure.pure v|none=>Go.stuck "Extract: no such component" :=rfl
 rw[e];cases h:xs[i]? with
 |none=>exact .stuck _
 |some v=>exact .pure (hx v (aew h))
theorem asz{s:ByteArray}{x:am}(hx:Pl x):Pur (P:=P) (Instr.index 9 (.string s) x):=by
 have p:P.underlying 9=some .string:=by simp_all [aX]
 cases x with
 |int k n=>
  intro v v' z v1 e;simp only[Instr.index,asIntOf,aaw,aaS,aas,bT p] at e ⊢;split at e
  ·rename_i c hc;cases e;exact⟨rfl,rfl,trivial⟩
  ·obtain⟨y,v2,h1,_⟩:=dT (P:=P) (α:=am) k n s.size .index v
   simp_all
 |bool|tuple=>
  intro v v' z v1 e
  simp_all [Instr.index,asIntOf]
 |_=>exact hx.elim
theorem arY{s d:b8}(hs:∃k,P.underlying s=some (.int k))(hd:∃k,P.underlying d=some (.int k)){x:am}(hx:Pl x):Pur (P:=P) (convert s d x):=by
 obtain⟨p,hs⟩:=hs;obtain⟨kd,hd⟩:=hd;cases x with
 |int k n=>
  intro v v' z v1 e;simp only[convert,aaw,aas,bT hs,bT hd] at e ⊢;cases e;exact⟨rfl,rfl,trivial⟩
 |bool|tuple=>
  intro v v' z v1 e
  simp_all [bT,convert]
 |_=>exact hx.elim
theorem aqq{t:b8}{k:IntKind}(h:P.underlying t=some (.int k))(a:Addr)(w:ap):(loadVar t a).run P w=(load a).run P w:=by
 simp_all [bT,loadVar,isAgg]
theorem ar0{a:Addr}{w w1:ap}{z:am}{xs:Array am}{e:b8}{fr:Nat×Nat}(hb:w.heap[a.block]?=some (.cells xs e fr))(ha:a.spot=none)(h:(load a).run P w=.ok z w1):w1=w/\xs[a.off]?=some z:=by
 grind [Go.run_load,World.cell?,World.farLoad]
theorem ar1{a:Addr}{w:ap}{z:am}{xs:Array am}{e:b8}{fr:Nat×Nat}(hb:w.heap[a.block]?=some (.cells xs e fr))(ha:a.spot=none)(h:xs[a.off]?=some z):(load a).run P w=.ok z w:=by
 grind [Go.run_load,World.cell?]
theorem aqS{a:Addr}{w w1:ap}{z:am}{u:Unit}{xs:Array am}{e:b8}{fr:Nat×Nat}(hb:w.heap[a.block]?=some (.cells xs e fr))(ha:a.spot=none)(h:(store a z).run P w=.ok u w1):z.oneCell'=true/\a.off<xs.size/\w.frozen? a=false/\w1=w.setCell a z:=by
 have hz:z.oneCell'=true:=by
  cases z <;>first|rfl|grind [store,Sem.run]
 grind [run_store,World.cell?,World.farStore]
theorem aq_{a:Addr}{w:ap}{z:am}{xs:Array am}{e:b8}{fr:Nat×Nat}(hb:w.heap[a.block]?=some (.cells xs e fr))(ha:a.spot=none)(hz:z.oneCell'=true)(h:a.off<xs.size)(hf:w.frozen? a=false):(store a z).run P w=.ok () (w.setCell a z):=by
 grind [run_store,World.cell?]
theorem aqF{a:Addr}{w:ap}{xs:Array am}{e:b8}{fr:Nat×Nat}(hb:w.heap[a.block]?=some (.cells xs e fr)):w.frozen? a=(decide (fr.1<=a.off)&&decide (a.off<fr.2)):=by
 grind [World.frozen?]
theorem aqn{t:b8}(hs:∀w,(sizeOf t).run P w=.ok 1 w){z:am}(hz:∀xs,z≠.agg xs)(a:Addr)(w:ap):(storeVar t a z).run P w=(store a z).run P w:=by
 have hc:z.cells= #[z]:=by cases z <;>first|rfl|simp_all
 unfold storeVar;rw[hc];simp only[aaw,hs,aas];rfl
theorem aq0{w:ap}{a:Addr}{z:am}{xs:Array am}{e:b8}{fr:Nat×Nat}(hb:w.heap[a.block]?=some (.cells xs e fr))(ha:a.spot=none)(c:Nat):(w.setCell a z).heap[c]?=if c=a.block then some (.cells (xs.setIfInBounds a.off z) e fr) else w.heap[c]?:=by
 unfold World.setCell
 grind
theorem MW.set(hW:MW b N e e' fr w0 wa wb){o:Nat}{x y:am}(h:VM b w0.heap.size 2 x y):MW b N e e' fr w0 (wa.setCell ⟨b,o,none⟩ x) (wb.setCell ⟨b,o,none⟩ y):=by
 obtain⟨xs,ys,h1,h2,I,H,E⟩:=hW.row;have ga:=λc=>aq0 (w:=wa) (a:=⟨b,o,none⟩) (z:=x) h1 rfl c
 have gb:=λc=>aq0 (w:=wb) (a:=⟨b,o,none⟩) (z:=y) h2 rfl c
 refine⟨by simpa[World.setCell] using hW.size,by simpa[World.setCell] using hW.n0,hW.low,λc hc=>?_,λc o' hc ho=>?_,⟨xs.setIfInBounds o x,ys.setIfInBounds o y,by simp_all,by simp_all,by grind,by grind,λi u v hu hv=>?_⟩,λc hc p=>?_,hW.os,hW.out,hW.tape,hW.drawn,hW.tp⟩
 ·have:=hW.low;rw[ga,gb,aat (by grind),aat (by grind)];exact hW.new c hc
 ·have:=hW.low;rw[ga,aat (by grind)] at ho;exact hW.cells c o' hc ho
 ·grind
 ·rw[ga,aat p];exact hW.mo c hc p
theorem MW.put(hW:MW b N e e' fr w0 wa wb){c o:Nat}(hc:w0.heap.size<=c){x:am}(h:Pl x){xs:Array am}{t:b8}(hx:wa.heap[c]?=some (.cells xs t (0,0))):MW b N e e' fr w0 (wa.setCell ⟨c,o,none⟩ x) (wb.setCell ⟨c,o,none⟩ x):=by
 have hy:wb.heap[c]?=some (.cells xs t (0,0)):=(hW.new c hc).trans hx;have ga:=λd=>aq0 (w:=wa) (a:=⟨c,o,none⟩) (z:=x) hx rfl d
 have gb:=λd=>aq0 (w:=wb) (a:=⟨c,o,none⟩) (z:=x) hy rfl d
 have hl:=hW.low;have p:b≠c:=by omega
 obtain⟨ps,qs,h1,h2,I,H,E⟩:=hW.row;refine⟨by simpa[World.setCell] using hW.size,by grind,hW.low,λd hd=>?_,λd o' hd ho=>?_,⟨ps,qs,by simp_all,by simp_all,I,H,E⟩,λd hd J=>?_,hW.os,hW.out,hW.tape,hW.drawn,hW.tp⟩
 ·rw[ga,gb];by_cases h:d=c
  ·simp[h]
  ·rw[aat h,aat h];exact hW.new d hd
 ·rw[ga] at ho;split at ho
  ·cases ho;obtain⟨M,t',L,hp⟩:=hW.cells c _ hc hx
   grind
  ·exact hW.cells d o' hd ho
 ·rw[ga,aat (show ¬d=c by omega)];exact hW.mo d hd J
theorem MW.push(hW:MW b N e e' fr w0 wa wb){xs:Array am}{t:b8}(h:∀x∈xs,Pl x):MW b N e e' fr w0 { wa with heap:=wa.heap.push (.cells xs t (0,0)) } { wb with heap:=wb.heap.push (.cells xs t (0,0)) } :=by
 have hl:=hW.low;have hn:=hW.n0;have hs:=hW.size;obtain⟨ps,qs,h1,h2,I,H,E⟩:=hW.row;have hb:=(aah.1 h1).1;have p:=(aah.1 h2).1;refine⟨by grind,by grind,hl,λc hc=>?_,λc o hc ho=>?_,⟨ps,qs,by grind,by grind,I,H,E⟩,λc hc J=>?_,hW.os,hW.out,hW.tape,hW.drawn,hW.tp⟩
 ·simp only[abP,hs];split
  ·rfl
  ·exact hW.new c hc
 ·simp only[abP] at ho;split at ho
  ·grind
  ·exact hW.cells c o hc ho
 ·simp only[abP];rw[aat (by omega)];exact hW.mo c hc J
def JI(P:aC)(b N f:Nat)(e e':b8)(fr:Nat×Nat)(w0 wa wb1:ap)(ea:ct->am)(o:Oper)(nb:Next):Prop:=
 ∃na wa1,(execOp ea o).run P wa=.ok na wa1/\MW b N e e' fr w0 wa1 wb1/\NM b w0.heap.size f o na nb
theorem aqw{s:Sem am}{w w1:ap}{n:Next}(h:(do Pure.pure (Next.value (<-s)):Sem Next).run P w=.ok n w1):∃z,s.run P w=.ok z w1/\n=.value z:=by
 simp only[aaw] at h;cases hr:s.run P w with
 |ok z w2=>simp_all
 |halt=>simp_all
theorem aqO{s:Sem am}{w w1:ap}{z:am}(h:s.run P w=.ok z w1):(do Pure.pure (Next.value (<-s)):Sem Next).run P w=.ok (.value z) w1:=by
 simp_all
theorem aro(hW:MW b N e e' fr w0 wa wb){s:Sem am}(hp:Pur (P:=P) s)(hd:dcl f 0 o=true)(ha:execOp ea o=(do Pure.pure (Next.value (<-s)):Sem Next))(hr:(do Pure.pure (Next.value (<-s)):Sem Next).run P wb=.ok nb wb1):JI P b N f e e' fr w0 wa wb1 ea o nb:=by
 obtain⟨z,h1,rfl⟩:=aqw hr;obtain⟨rfl,h2,p⟩:=hp wb wa z wb1 h1;exact⟨_,_,by simp_all,hW,aqB hd ⟨rfl,p⟩⟩
theorem asr{x:ct}(p:EM b w0.heap.size f ea eb)(h:((opc f 4 x&&dcl f 4 o)||(opc f 0 x&&dcl f 0 o)||(opc f 1 x&&dcl f 1 o)||(opc f 2 x&&dcl f 2 o)||(opc f 3 x&&dcl f 3 o))=true):NM b w0.heap.size f o (.value (ea x)) (.value (eb x)):=by
 simp only[adr,aaZ] at h;rcases h with (((⟨h1,h2⟩|⟨h1,h2⟩)|⟨h1,h2⟩)|⟨h1,h2⟩)|⟨h1,h2⟩ <;>exact aqB h2 (p _ _ h1)
theorem un3:P.underlying 3=some (.int .i64):=by simp_all [aX]
theorem un5:P.underlying 5=some (.int .u8):=by simp_all [aX]
theorem aty:P.underlying 230=some (.int .u64):=by simp_all [aX]
theorem aqs:P.underlying 28=some (.slice 3):=by simp_all [aX]
theorem ase:P.underlying 91=some (.slice 5):=by simp_all [aX]
theorem ew{t:b8}{n:Nat}(h:(P.info? t).map (·.size)=some n)(w:ap):(sizeOf t).run P w=.ok n w:=by
 unfold sizeOf typeInfo;have hq:program.run P w=.ok P w:=rfl;cases hi:P.info? t with
 |none=>simp_all
 |some i=>
  simp_all
theorem si3(w:ap):(sizeOf 3).run P w=.ok 1 w:=ew (by rw[pG];kernel_rfl) w
theorem si5(w:ap):(sizeOf 5).run P w=.ok 1 w:=ew (by rw[pG];kernel_rfl) w
theorem atA(w:ap):(sizeOf 230).run P w=.ok 1 w:=ew (by rw[pG];kernel_rfl) w
theorem MW.local(hW:MW b N e e' fr w0 wa wb){c:Nat}(hc:w0.heap.size<=c){Q:Prop}(hn:wb.heap[c]?=none->Q)(hs:∀xs t,wa.heap[c]?=some (.cells xs t (0,0))->wb.heap[c]?=some (.cells xs t (0,0))->(∀x∈xs,Pl x)->Q):Q:=by
 have h:=hW.new c hc;cases hx:wa.heap[c]? with
 |none=>simp_all
 |some o=>
  obtain⟨xs,t,rfl,hp⟩:=hW.cells c o hc hx
  simp_all
theorem asE{a:Addr}{w w1:ap}{z:am}(hb:w.heap[a.block]?=none)(h:(load a).run P w=.ok z w1):False:=by
 grind [Go.run_load,World.cell?,World.farLoad]
theorem ash{a:Addr}{w w1:ap}{z:am}{u:Unit}(hb:w.heap[a.block]?=none)(h:(store a z).run P w=.ok u w1):False:=by
 have hz:z.oneCell'=true:=by
  cases z <;>first|rfl|grind [store,Sem.run]
 grind [run_store,World.cell?,World.farStore]
theorem arS{s:Sem Unit}{w w1:ap}{n:Next}(h:(do s;Pure.pure Next.skip:Sem Next).run P w=.ok n w1):s.run P w=.ok () w1/\n=.skip:=by
 simp only[aaw] at h;cases hr:s.run P w with
 |ok z w2=>simp_all
 |halt=>simp_all
theorem arT{s:Sem Unit}{w w1:ap}(h:s.run P w=.ok () w1):(do s;Pure.pure Next.skip:Sem Next).run P w=.ok .skip w1:=by
 simp_all
theorem aqY{α:Type}{x:am}{s:Addr->Sem α}{w w1:ap}{z:α}(h:(do s (<-Instr.sureAddr x):Sem α).run P w=.ok z w1):∃a,x=.pointer (some a)/\(s a).run P w=.ok z w1:=by
 cases x with
 |pointer a=>
  cases a with
  |some a=>exact⟨a,rfl,h⟩
  |none=>simp_all [Instr.sureAddr]
 |_=>simp only[Instr.sureAddr,aaw,run_stuck] at h;cases h
theorem atj{t:b8}{a:ct}(hW:MW b N e e' fr w0 wa wb)(M:EM b w0.heap.size f ea eb)(ho:o.op=.load t a)
  (hk:aqj f o=true) (hr:(execOp eb (cv f o)).run P wb=.ok nb wb1):JI P b N f e e' fr w0 wa wb1 ea o nb:=by
 obtain⟨d,op,ty,p,af,gd⟩:=o;simp only at ho;subst ho;unfold aqj at hk;simp only at hk;split at hk
 ·rename_i I;simp only[aaZ,Bool.not_eq_true',ac6] at I hk;obtain⟨I,rfl⟩:=I;have hm:mt f 5=3:=by grind [mt]
  obtain⟨z,h1,rfl⟩:=aqw (P:=P) (s:=Instr.loadAt (mt f 5) (eb a)) hr;rw[hm] at h1;obtain⟨Y,h2,H⟩:=aqY h1;rw[aqq un3] at H;have hp:=M 1 a hk.1;obtain⟨L,hp⟩:=hp;have E:∃o,ea a=.pointer (some ⟨b,o,none⟩):=by
   rw[L] at h2;rcases hp with hp|⟨n,m,hp⟩|⟨o,n,m,hp⟩|⟨o,hp⟩ <;>rw[hp] at h2 <;>first|exact⟨o,hp⟩|cases h2
  obtain⟨of,E⟩:=E;rw[L,E] at h2;cases h2;obtain⟨xs,ys,r1,V,r3,r4,U⟩:=hW.row;obtain⟨rfl,J⟩:=ar0 (a:=⟨b,of,none⟩) V rfl H;have hi:of<xs.size:=by grind
  have W:=ar1 (P:=P) (a:=⟨b,of,none⟩) r1 rfl (aa_ hi);refine⟨.value xs[of],wa,?_,hW,aqB hk.2 (U of _ _ (aa_ hi) J)⟩;refine aqO (s:=Instr.loadAt 5 (ea a)) ?_;rw[E];show(loadVar 5 ⟨b,of,none⟩).run P wa=_
  simp_all [aqq,un5]
 ·rename_i I;simp only[aaZ,adr,ac6] at hk;obtain⟨⟨ht,Z⟩,hk2⟩:=hk;have hm:mt f t=t:=by
   unfold mt
   grind
  obtain⟨z,h1,rfl⟩:=aqw (P:=P) (s:=Instr.loadAt (mt f t) (eb a)) hr;rw[hm] at h1;obtain⟨Y,h2,H⟩:=aqY h1;have hu:∃k,P.underlying t=some (.int k):=by rcases ht with rfl|rfl;exact⟨_,un3⟩;exact⟨_,aty⟩
  obtain⟨k,hu⟩:=hu;rw[aqq hu] at H;obtain⟨L,hp⟩:=M 3 a Z;rw[L] at h2;rcases hp with hp|⟨c,hc,hp⟩
  ·rw[hp] at h2;cases h2
  ·rw[hp] at h2;cases h2;refine hW.local hc (λhn=>(asE (a:=⟨c,0,none⟩) hn H).elim) λxs t' ha hb O=>?_
   obtain⟨rfl,J⟩:=ar0 (a:=⟨c,0,none⟩) hb rfl H;have W:=ar1 (P:=P) (a:=⟨c,0,none⟩) ha rfl J;refine⟨.value z,wa,?_,hW,aqB hk2 ⟨rfl,O z (aew J)⟩⟩;refine aqO (s:=Instr.loadAt t (ea a)) ?_;rw[hp];show(loadVar t ⟨c,0,none⟩).run P wa=_
   grind [aqq]
theorem M3{t:b8}{a x:ct}(hW:MW b N e e' fr w0 wa wb)(I:EM b w0.heap.size f ea eb)(ho:o.op=.store t a x)
  (hk:aqj f o=true) (hr:(execOp eb (cv f o)).run P wb=.ok nb wb1):JI P b N f e e' fr w0 wa wb1 ea o nb:=by
 obtain⟨d,op,ty,p,af,gd⟩:=o;simp only at ho;subst ho;unfold aqj at hk;simp only[aaZ,Option.isNone_iff_eq_none] at hk;obtain⟨rfl,hk⟩:=hk;split at hk
 ·rename_i M;simp only[aaZ,Bool.not_eq_true',ac6] at M hk;obtain⟨M,rfl⟩:=M;have hm:mt f 5=3:=by grind [mt]
  obtain⟨h1,rfl⟩:=arS (P:=P) (s:=Instr.storeAt (mt f 5) (eb a) (eb x)) hr;rw[hm] at h1;obtain⟨V,h2,H⟩:=aqY h1;obtain⟨J,hp⟩:=I 1 a hk.1;have E:∃o,ea a=.pointer (some ⟨b,o,none⟩):=by
   rw[J] at h2;rcases hp with hp|⟨n,m,hp⟩|⟨o,n,m,hp⟩|⟨o,hp⟩ <;>rw[hp] at h2 <;>first|exact⟨o,hp⟩|cases h2
  obtain⟨of,E⟩:=E;rw[J,E] at h2;cases h2;have hx:=I 2 x hk.2;have L:∀q,eb x≠.agg q:=by
   intro q hq;rcases hx with h|⟨n,_,_,h⟩ <;>(rw[h] at hq;cases hq)
  rw[aqn si3 L] at H;obtain⟨xs,ys,r1,O,r3,r4,Z⟩:=hW.row;obtain⟨g1,g2,g3,rfl⟩:=aqS (a:=⟨b,of,none⟩) O rfl H;rcases hx with h|⟨n,hn,ha,hb⟩
  ·rw[h] at g1;cases g1
  rw[aqF O] at g3;refine⟨.skip,wa.setCell ⟨b,of,none⟩ (ea x),?_,hW.set (I 2 x hk.2),.skip rfl⟩;refine arT (s:=Instr.storeAt 5 (ea a) (ea x)) ?_;rw[E];show(storeVar 5 ⟨b,of,none⟩ (ea x)).run P wa=_;rw[aqn si5 (by simp_all)];exact aq_ (a:=⟨b,of,none⟩) r1 rfl (by rw[ha];rfl) (by omega) (by grind [aqF])
 ·simp only[aaZ,adr,ac6] at hk;obtain⟨⟨ht,W⟩,hk2⟩:=hk;have hm:mt f t=t:=by
   unfold mt
   grind
  obtain⟨h1,rfl⟩:=arS (P:=P) (s:=Instr.storeAt (mt f t) (eb a) (eb x)) hr;rw[hm] at h1;obtain⟨V,h2,H⟩:=aqY h1;have hz:∀w,(sizeOf t).run P w=.ok 1 w:=by grind [si3,atA]
  obtain⟨J,hp⟩:=I 3 a W;obtain⟨U,hx⟩:=I 0 x hk2;have L:∀q,ea x≠.agg q:=by
   intro q hq;rw[hq] at hx;exact hx.elim
  rw[J] at h2;rw[U,aqn hz L] at H;rcases hp with hp|⟨c,hc,hp⟩
  ·rw[hp] at h2;cases h2
  ·rw[hp] at h2;cases h2;refine hW.local hc (λhn=>(ash (a:=⟨c,0,none⟩) hn H).elim) λxs t' ha hb Y=>?_
   obtain⟨g1,g2,g3,rfl⟩:=aqS (a:=⟨c,0,none⟩) hb rfl H;rw[aqF hb] at g3;refine⟨.skip,wa.setCell ⟨c,0,none⟩ (ea x),?_,hW.put hc hx ha,.skip rfl⟩;refine arT (s:=Instr.storeAt t (ea a) (ea x)) ?_;rw[hp];show(storeVar t ⟨c,0,none⟩ (ea x)).run P wa=_;rw[aqn hz L];exact aq_ (a:=⟨c,0,none⟩) ha rfl g1 g2 (by rw[aqF ha];exact g3)
theorem arH{t:b8}{x ix:ct}(hW:MW b N e e' fr w0 wa wb)(H:EM b w0.heap.size f ea eb)(ho:o.op=.indexAddr t x ix)
  (hk:aqj f o=true) (hr:(execOp eb (cv f o)).run P wb=.ok nb wb1):JI P b N f e e' fr w0 wa wb1 ea o nb:=by
 obtain⟨d,op,ty,p,af,gd⟩:=o;simp only at ho;subst ho;unfold aqj at hk;simp only[aaZ,Bool.not_eq_true',ac6] at hk;obtain⟨⟨⟨⟨O,rfl⟩,k1⟩,k2⟩,I⟩:=hk;have hm:mt f 91=28:=by grind [mt]
 obtain⟨z,h1,rfl⟩:=aqw (P:=P) (s:=Instr.indexAt (mt f 91) (eb x) (eb ix)) hr;rw[hm] at h1;obtain⟨M,hp⟩:=H 1 x k1;obtain⟨L,hi⟩:=H 0 ix k2;rw[M,L] at h1;cases hx:ea ix with
 |int k n=>
  rw[hx] at h1;rcases hp with hp|⟨E,m,hp⟩|⟨of,E,m,hp⟩|⟨of,hp⟩ <;>rw[hp] at h1
  ·simp only[undef,Instr.indexAt,asIntOf,aaw,aaS,aas,bT aqs,run_stuck] at h1;cases h1
  ·simp only[Instr.indexAt,asIntOf,aaw,aaS,aas,bT aqs] at h1;obtain⟨y,v2,J,_⟩:=dT (P:=P) (α:=am) k n 0 .index wb
   simp_all
  ·simp only[Instr.indexAt,asIntOf,aaw,aaS,aas,bT aqs] at h1;split at h1
   ·rename_i hc;simp only[aaw,si3,aas,aaS,Nat.mul_one] at h1;cases h1;refine⟨.value (.pointer (some ((⟨b,of,none⟩:Addr).add n.toNat))),wa,?_,hW,aqB I ⟨rfl,.inr (.inr (.inr ⟨of+n.toNat,?_⟩))⟩⟩
    ·refine aqO (s:=Instr.indexAt 91 (ea x) (ea ix)) ?_;rw[hp,hx];simp only[Instr.indexAt,asIntOf,aaw,aaS,aas,bT ase]
     simp_all [si5]
    ·unfold Addr.add
     simp_all
   ·exfalso;obtain⟨y,v2,J,_⟩:=dT (P:=P) (α:=am) k n E .index wb
    simp_all
  ·simp only[Instr.indexAt,asIntOf,aaw,aaS,aas,bT aqs,run_stuck] at h1;cases h1
 |_=>rw[hx] at h1 hi;first|exact hi.elim|(simp only[Instr.indexAt,asIntOf,aaw,run_stuck] at h1;cases h1)
theorem atM{c:Call}(hW:MW b N e e' fr w0 wa wb)(J:EM b w0.heap.size f ea eb)(ho:o.op=.call c)(hc:c.callee=.builtin .len)
  (hk:aqj f o=true) (hr:(execOp eb (cv f o)).run P wb=.ok nb wb1):JI P b N f e e' fr w0 wa wb1 ea o nb:=by
 obtain⟨d,op,ty,p,af,gd⟩:=o;obtain⟨M,⟨args⟩,⟨U⟩⟩:=c;simp only at ho hc;subst ho hc;unfold aqj at hk;simp only[aaZ,Bool.not_eq_true',ac6] at hk;obtain⟨⟨⟨O,rfl⟩,k1⟩,I⟩:=hk;have hm:mt f 91=28:=by grind [mt]
 obtain⟨x,rfl⟩:∃x,args= [x]:=by
  cases args with
  |nil=>cases k1
  |cons x r=>grind [ara]
 simp only[ara,Bool.and_true] at k1;have H:(do Pure.pure (Next.value (<-Builtin.len_ ((⟨[91]⟩:Array b8).map (mt f)) (mt f ty) ((⟨[x]⟩:Array ct).map eb))):Sem Next).run P wb=.ok nb wb1:=hr;rw[show(⟨[91]⟩:Array b8).map (mt f)= #[28] by grind,show(⟨[x]⟩:Array ct).map eb= #[eb x] by simp] at H;obtain⟨z,h1,rfl⟩:=aqw (P:=P) (s:=Builtin.len_ #[28] (mt f ty) #[eb x]) H;obtain⟨L,hp⟩:=J 1 x k1;rw[L] at h1;have key:∀n,(wb1=wb/\z=goInt n)->(Builtin.len_ #[91] ty #[ea x]).run P wa=.ok (goInt n) wa->JI P b N f e e' fr w0 wa wb1 ea ⟨d,.call ⟨.builtin .len,⟨[x]⟩,⟨[91]⟩⟩,ty,p,af,gd⟩ (.value z):=by
  rintro n ⟨rfl,rfl⟩ h2;refine⟨.value (goInt n),wa,?_,hW,aqB I ⟨rfl,trivial⟩⟩;show(do Pure.pure (Next.value (<-Builtin.len_ (⟨[91]⟩:Array b8) ty ((⟨[x]⟩:Array ct).map ea))):Sem Next).run P wa=_
  simp_all
 rcases hp with hp|⟨E,m,hp⟩|⟨of,E,m,hp⟩|⟨of,hp⟩ <;>rw[hp] at h1 key
 ·simp_all [bT,aqs,undef,Builtin.len_]
 ·simp[Builtin.len_,bT aqs] at h1;exact key E ⟨h1.2.symm,h1.1.symm⟩ (by simp[Builtin.len_,bT ase])
 ·simp[Builtin.len_,bT aqs] at h1;exact key E ⟨h1.2.symm,h1.1.symm⟩ (by simp[Builtin.len_,bT ase])
 simp_all [bT,aqs,Builtin.len_]
theorem atN{op:BinOp}{t t':b8}{x y:ct}(hW:MW b N e e' fr w0 wa wb)(M:EM b w0.heap.size f ea eb)(ho:o.op=.binOp op t x y t')
  (hk:aqj f o=true) (hr:(execOp eb (cv f o)).run P wb=.ok nb wb1):JI P b N f e e' fr w0 wa wb1 ea o nb:=by
 obtain⟨d,op',ty,p,af,gd⟩:=o;simp only at ho;subst ho;have hg:∀(t:b8) (u v:am) (w:ap),(∀q,u≠.agg q)->u≠.nilIface->(eqGuard op t x y u v).run P w=.ok () w:=by
  intro t u v w h1 h2;cases u <;>first|exact absurd rfl (h1 _)|exact absurd rfl h2|(cases op <;>first|rfl|(cases v <;>rfl))
 have hb:∀ {t:b8} {u v:am} {w w1:ap} {z:am},(∀q,u≠.agg q)->u≠.nilIface->((do eqGuard op t x y u v;binOp op t u v:Sem am).run P w=.ok z w1↔(binOp op t u v).run P w=.ok z w1):=by
  simp_all
 unfold aqj at hk;simp only at hk;split at hk
 ·rename_i V;simp only[aaZ,Bool.not_eq_true',ac6] at V hk;obtain⟨V,rfl⟩:=V;obtain⟨⟨⟨k1,k2⟩,O⟩,E⟩:=hk;have hm:mt f 5=3:=by grind [mt]
  obtain⟨z,h1,rfl⟩:=aqw (P:=P) (s:=do eqGuard op (mt f 5) x y (eb x) (eb y);binOp op (mt f 5) (eb x) (eb y)) hr;rw[hm] at h1;have Y:=M 2 x k1;have W:=M 2 y k2;have uu:(eb x=undef\/∃n:Nat,n<256/\ea x=.int .u8 n/\eb x=.int .i64 n)->(∀q,eb x≠.agg q)/\eb x≠.nilIface:=by
   rintro(h|⟨n,_,_,h⟩) <;>rw[h] <;>exact⟨λq hq=>(by cases hq),λhq=>(by cases hq)⟩
  obtain⟨u1,u2⟩:=uu Y;rw[hb u1 u2] at h1;simp only[adr,ac6] at E;rcases Y with hx|⟨n,hn,Es,L⟩
  ·exfalso;rw[hx] at h1;rcases W with hy|⟨m,U,J,H⟩
   ·rw[hy] at h1;rcases E with (rfl|rfl)|rfl <;>simp[binOp,undef,Op.equal,Op.maxDepth,Op.equalIn,bT un3] at h1
   ·rw[H] at h1;rcases E with (rfl|rfl)|rfl <;>simp[binOp,undef,Op.equal,Op.maxDepth,Op.equalIn,bT un3] at h1
  ·rcases W with hy|⟨m,U,J,H⟩
   ·exfalso;rw[L,hy] at h1;rcases E with (rfl|rfl)|rfl <;>simp[binOp,undef,Op.equal,Op.maxDepth,Op.equalIn,bT un3] at h1
   ·rw[L,H] at h1;refine⟨.value z,wa,?_,?_,?_⟩
    ·refine aqO (s:=do eqGuard op 5 x y (ea x) (ea y);binOp op 5 (ea x) (ea y)) ?_;rw[hb (by simp_all) (by simp_all),Es,J];rcases E with (rfl|rfl)|rfl <;>(simp_all [binOp,Op.intCmp])
    ·rcases E with (rfl|rfl)|rfl <;>(simp_all [binOp,Op.intCmp])
    ·refine aqB O ⟨rfl,?_⟩;rcases E with (rfl|rfl)|rfl <;>(simp[binOp,Op.intCmp] at h1;rw[<-h1.1];trivial)
 ·simp only[aaZ,ac6] at hk;obtain⟨⟨⟨⟨⟨k1,k2⟩,O⟩,E⟩,k5⟩,k6⟩:=hk;obtain⟨e1,I⟩:=M 0 x k2;obtain⟨e2,p2⟩:=M 0 y O;have q1:∀q,ea x≠.agg q:=by intro q hq;rw[hq] at I;exact I
  have Z:ea x≠.nilIface:=by intro hq;rw[hq] at I;exact I
  obtain⟨z,h1,rfl⟩:=aqw (P:=P) (s:=do eqGuard op (mt f t) x y (eb x) (eb y);binOp op (mt f t) (eb x) (eb y)) hr;rw[k5,e1,e2,hb q1 Z] at h1;obtain⟨rfl,h2,h3⟩:=asB (P:=P) k1 I p2 wb wa z wb1 h1;exact⟨.value z,wa,aqO (s:=do eqGuard op t x y (ea x) (ea y);binOp op t (ea x) (ea y)) ((hb q1 Z).2 h2),hW,aqB E ⟨rfl,h3⟩⟩
def Dry{α:Type}(P:aC)(s:Sem α):Prop:=∀(v v':ap) z v1,s.run P v=.ok z v1->v1=v/\s.run P v'=.ok z v'
theorem Dry.pure{α:Type}(x:α):Dry P (Pure.pure x:Sem α):=λv v' z v1 e=>by simp_all
theorem Dry.aw{α:Type}{s:Sem α}(h:bC P s):Dry P s:=λv v' z v1 e=>by
 obtain⟨x,v2,h1,_⟩:=h v
 simp_all
theorem Dry.bind{α β:Type}{s:Sem α}{k:α->Sem β}(hs:Dry P s)(hk:∀a,Dry P (k a)):Dry P (s>>=k):=by
 intro v v' z v1 e;rw[aaw] at e ⊢;cases hr:s.run P v with
 |halt=>simp_all
 |ok a v2=>
  rw[hr] at e;obtain⟨rfl,h2⟩:=hs v v' a v2 hr;rw[h2];exact hk a v2 v' z v1 e
theorem aqr(x:am)(y:Nat)(c:BoundsCode):Dry P (Instr.sliceBound x y c):=by
 unfold Instr.sliceBound;refine .bind ?_ λp=>?_
 ·cases x with
  |int=>exact .pure _
  |pointer a=>cases a with
   |none=>exact .aw (ah _)
   |some a=>exact .aw (an (by simp))
  |_=>exact .aw (ah _)
 ·obtain⟨k,i⟩:=p;simp only;split
  ·exact .pure _
  ·exact .aw (dT _ _ _ _)
theorem arn(n m:Nat)(p hi:Option am):Dry P (Instr.sliceBounds true n m p hi none):=by
 unfold Instr.sliceBounds;cases hi with
 |none=>cases p with
  |none=>exact .bind (.pure _) λ_=>.bind (.pure _) λ_=>.bind (.pure _) λ_=>.pure _
  |some v=>exact .bind (.pure _) λ_=>.bind (.pure _) λ_=>.bind (aqr _ _ _) λ_=>.pure _
 |some u=>cases p with
  |none=>exact .bind (.pure _) λ_=>.bind (aqr _ _ _) λ_=>.bind (.pure _) λ_=>.pure _
  |some v=>exact .bind (.pure _) λ_=>.bind (aqr _ _ _) λ_=>.bind (aqr _ _ _) λ_=>.pure _
theorem asR{t:b8}{x:ct}{E hi:Option ct}(hW:MW b N e e' fr w0 wa wb)(I:EM b w0.heap.size f ea eb)(ho:o.op=.slice t x E hi none)
  (hk:aqj f o=true) (hr:(execOp eb (cv f o)).run P wb=.ok nb wb1):JI P b N f e e' fr w0 wa wb1 ea o nb:=by
 obtain⟨d,op,ty,p,af,gd⟩:=o;simp only at ho;subst ho;unfold aqj at hk;simp only[aaZ,Bool.not_eq_true',ac6] at hk;obtain⟨⟨⟨⟨⟨U,rfl⟩,k1⟩,k2⟩,M⟩,L⟩:=hk;have hm:mt f 91=28:=by grind [mt]
 have H:∀z:Option ct,z.all (opc f 0)=true->z.map eb=z.map ea:=by
  intro z hz;cases z with
  |none=>rfl
  |some z=>simp only[acz];rw[(I 0 z hz).1]
 obtain⟨z,h1,rfl⟩:=aqw (P:=P) (s:=Instr.sliceAt (mt f 91) (eb x) (E.map eb) (hi.map eb) none) hr;obtain⟨O,hp⟩:=I 1 x k1;rw[hm,O,H E k2,H hi M] at h1;have key:∀pt n m,ea x=.slice pt n m->wb1=wb/\(∃l h m',z=.slice (if m'=l then pt else pt.map (·.add l)) (h-l) (m'-l))/\(Instr.sliceAt 91 (ea x) (E.map ea) (hi.map ea) none).run P wa=.ok z wa:=by
  intro pt n m hx;rw[hx] at h1 ⊢;simp only[Instr.sliceAt,Instr.slice,aaw,bT aqs,bT ase,aas] at h1 ⊢;cases hb:(Instr.sliceBounds true n m (E.map ea) (hi.map ea) none).run P wb with
  |halt=>simp_all
  |ok q v2=>
   obtain⟨rfl,h2⟩:=arn (P:=P) _ _ _ _ wb wa q v2 hb;rw[hb] at h1;rw[h2];obtain⟨l,h,m'⟩:=q;simp only[aas,aaw,si3,si5,aaS,Nat.mul_one] at h1 ⊢
   grind
 have fin:wb1=wb/\VM b w0.heap.size 1 z z/\(Instr.sliceAt 91 (ea x) (E.map ea) (hi.map ea) none).run P wa=.ok z wa:=by
  rcases hp with hp|⟨J,m,hp⟩|⟨of,J,m,hp⟩|⟨of,hp⟩
  ·simp_all [bT,aqs,undef,Instr.sliceAt,Instr.slice]
  ·obtain⟨a1,⟨l,h,m',hz⟩,a3⟩:=key _ _ _ hp;refine⟨a1,⟨rfl,.inr (.inl ⟨h-l,m'-l,?_⟩)⟩,a3⟩
   simp_all
  ·obtain⟨a1,⟨l,h,m',hz⟩,a3⟩:=key _ _ _ hp;refine⟨a1,⟨rfl,.inr (.inr (.inl ?_))⟩,a3⟩
   grind [Addr.add]
  simp_all [bT,aqs,Instr.sliceAt,Instr.slice]
 obtain⟨rfl,f2,f3⟩:=fin;exact⟨.value z,wa,aqO (s:=Instr.sliceAt 91 (ea x) (E.map ea) (hi.map ea) none) f3,hW,aqB L f2⟩
theorem zv3(w:ap):(zeroValue 3).run P w=.ok (.int .i64 0) w:=(cx _ w).trans rfl
theorem zv5(w:ap):(zeroValue 5).run P w=.ok (.int .u8 0) w:=(cx _ w).trans rfl
theorem atx(w:ap):(zeroValue 230).run P w=.ok (.int .u64 0) w:=(cx _ w).trans rfl
theorem ar_:∀(n i of:Nat) {wa wb wb1:ap},MW b N e e' fr w0 wa wb->(storeCells ⟨b,of,none⟩ (List.replicate n (.int .i64 0)) i).run P wb=.ok () wb1->∃wa1,(storeCells ⟨b,of,none⟩ (List.replicate n (.int .u8 0)) i).run P wa=.ok () wa1/\MW b N e e' fr w0 wa1 wb1:=by
 intro n
 induction n with
 |zero=>intro i of wa wb wb1 hW h;cases h;exact⟨wa,rfl,hW⟩
 |succ n E=>
  intro i of wa wb wb1 hW h;have ha:(⟨b,of,none⟩:Addr).add i=⟨b,of+i,none⟩:=by unfold Addr.add;grind
  simp only[List.replicate_succ,storeCells,aaw,ha] at h ⊢;cases hr:(store ⟨b,of+i,none⟩ (.int .i64 0)).run P wb with
  |halt=>simp_all
  |ok u v2=>
   rw[hr] at h;obtain⟨xs,ys,r1,p,J,I,H⟩:=hW.row;obtain⟨g1,g2,g3,rfl⟩:=aqS (a:=⟨b,of+i,none⟩) p rfl hr;rw[aqF p] at g3;rw[aq_ (P:=P) (a:=⟨b,of+i,none⟩) (z:=.int .u8 0) r1 rfl rfl (by omega) (by grind [aqF])];exact E (i+1) of (hW.set (x:=.int .u8 0) (y:=.int .i64 0) (.inr ⟨0,by decide,rfl,rfl⟩)) h
theorem ars(x:am)(n:Nat):(Builtin.zeroCells #[x] n).toList=List.replicate n x:=by
 unfold Builtin.zeroCells;apply List.ext_getElem
 ·simp
 grind
theorem asS{c:Call}(hW:MW b N e e' fr w0 wa wb)(I:EM b w0.heap.size f ea eb)(ho:o.op=.call c)(hc:c.callee=.builtin .clear)
  (hk:aqj f o=true) (hr:(execOp eb (cv f o)).run P wb=.ok nb wb1):JI P b N f e e' fr w0 wa wb1 ea o nb:=by
 obtain⟨d,op,ty,p,af,gd⟩:=o;obtain⟨M,⟨args⟩,⟨V⟩⟩:=c;simp only at ho hc;subst ho hc;unfold aqj at hk;simp only[aaZ,Bool.not_eq_true',ac6,Option.isNone_iff_eq_none] at hk;obtain⟨⟨⟨U,rfl⟩,k1⟩,rfl⟩:=hk;have hm:mt f 91=28:=by grind [mt]
 obtain⟨x,rfl⟩:∃x,args= [x]:=by
  cases args with
  |nil=>cases k1
  |cons x r=>grind [ara]
 simp only[ara,Bool.and_true] at k1;have E:(do Pure.pure (Next.value (<-Builtin.clear_ ((⟨[91]⟩:Array b8).map (mt f)) (mt f ty) ((⟨[x]⟩:Array ct).map eb))):Sem Next).run P wb=.ok nb wb1:=hr;rw[show(⟨[91]⟩:Array b8).map (mt f)= #[28] by grind,show(⟨[x]⟩:Array ct).map eb= #[eb x] by simp] at E;obtain⟨z,h1,rfl⟩:=aqw (P:=P) (s:=Builtin.clear_ #[28] (mt f ty) #[eb x]) E;obtain⟨L,hp⟩:=I 1 x k1;rw[L] at h1;have key:∀wa1,z=.tuple #[]->MW b N e e' fr w0 wa1 wb1->(Builtin.clear_ #[91] ty #[ea x]).run P wa=.ok (.tuple #[]) wa1->JI P b N f e e' fr w0 wa wb1 ea ⟨none,.call ⟨.builtin .clear,⟨[x]⟩,⟨[91]⟩⟩,ty,p,af,gd⟩ (.value z):=by
  rintro wa1 rfl O h2;refine⟨.value (.tuple #[]),wa1,?_,O,.value _ _ λd h=>by cases h⟩;show(do Pure.pure (Next.value (<-Builtin.clear_ (⟨[91]⟩:Array b8) ty ((⟨[x]⟩:Array ct).map ea))):Sem Next).run P wa=_
  simp_all
 rcases hp with hp|⟨H,m,hp⟩|⟨of,H,m,hp⟩|⟨of,hp⟩ <;>rw[hp] at h1 key
 ·simp_all [bT,aqs,undef,Builtin.clear_]
 ·simp_all [bT,aqs,ase,Builtin.clear_]
 ·cases H with
  |zero=>
   simp_all [bT,aqs,ase,Builtin.clear_]
  |succ n=>
   simp only[Builtin.clear_,aek,abe,aaw,bT aqs,aas,zv3,Value.cells,ars] at h1;cases hs:(storeCells ⟨b,of,none⟩ (List.replicate (n+1) (.int .i64 0))).run P wb with
   |halt=>simp_all
   |ok u v2=>
    rw[hs] at h1;cases h1;obtain⟨wa1,h2,J⟩:=ar_ _ 0 of hW hs;refine key wa1 rfl J ?_;simp only[Builtin.clear_,aek,abe,aaw,bT ase,aas,zv5,Value.cells,ars,h2];rfl
 simp_all [bT,aqs,Builtin.clear_]
theorem M6{t:b8}(hW:MW b N e e' fr w0 wa wb)(ho:o.op=.alloc t)
  (hk:aqj f o=true) (hr:(execOp eb (cv f o)).run P wb=.ok nb wb1):JI P b N f e e' fr w0 wa wb1 ea o nb:=by
 obtain⟨d,op,ty,p,af,gd⟩:=o;simp only at ho;subst ho;unfold aqj at hk;simp only[aaZ,adr,ac6] at hk;obtain⟨ht,hd⟩:=hk;obtain⟨z,h1,rfl⟩:=aqw (P:=P) (s:=Instr.alloc t true (.tuple #[])) hr;have hz:∃k,∀w,(zeroValue t).run P w=.ok (.int k 0) w:=by rcases ht with rfl|rfl;exact⟨_,zv3⟩;exact⟨_,atx⟩
 obtain⟨k,hz⟩:=hz;have run:∀w,(Instr.alloc t true (.tuple #[])).run P w=.ok (.pointer (some ⟨w.heap.size,0,none⟩)) { w with heap:=w.heap.push (.cells #[.int k 0] t (0,0)) } :=by
  intro w;simp only[Instr.alloc,aaw,hz,aas];rfl
 rw[run] at h1;cases h1;refine⟨.value (.pointer (some ⟨wa.heap.size,0,none⟩)),_,aqO (run wa),hW.push (λx hx=>by simp at hx;subst hx;trivial),aqB hd ?_⟩;rw[hW.size];exact⟨rfl,.inr ⟨_,hW.n0,rfl⟩⟩
def as4(P:aC)(f:Nat):Bool:=f !=17&&f !=41&&match P.funcs[f]? with|some fn=>fn.body.isSome&&fn.name != "runtime.NumGoroutine" |none=>false
theorem ass:(aqP.all λx=>as4 Tryz.prog x.1&&as4 Tryz.prog x.2&&mf x.1==x.2)=true:=by kernel_rfl
theorem at0{f:Nat}(h:as4 Tryz.prog f=true):ans P f:=by
 unfold as4 at h;simp only[aaZ,bne_iff_ne] at h;obtain⟨⟨h1,h2⟩,p⟩:=h;split at p
 ·rename_i fn hf;simp only[aaZ,bne_iff_ne] at p;exact aR hf h1 h2 (by simpa using p.1) p.2
 ·cases p
theorem ast{g:Nat}(h:dom g=true):ans P g/\ans P (mf g):=by
 unfold dom at h;rw[afl] at h;obtain⟨x,hx,hg⟩:=h;have:=acp.1 ass x hx;simp only[aaZ,ac6] at this hg
 grind [at0]
theorem asQ{xs:List ct} :∀ {cs:List Nat},ara f xs cs=true->EM b w0.heap.size f ea eb->xs.length=cs.length/\∀(i c:Nat) (x y:am),cs[i]?=some c->(xs.map ea)[i]?=some x->(xs.map eb)[i]?=some y->VM b w0.heap.size c x y:=by
 induction xs with
 |nil=>
  intro cs h p;cases cs with
  |nil=>simp_all
  |cons=>cases h
 |cons u xs J=>
  intro cs h p;cases cs with
  |nil=>cases h
  |cons c cs=>
   simp only[ara,aaZ] at h;obtain⟨h1,h2⟩:=J h.2 p;refine⟨by grind,λi=>?_⟩;cases i with
   |zero=>intro c' x y I H E;simp at I H E;subst I H E;exact p _ _ h.1
   |succ i=>grind
theorem QV{c:Call}{g:Nat}(hW:MW b N e e' fr w0 wa wb)(U:EM b w0.heap.size f ea eb)(H:∀g,ea (.func g)=.func (.func g) #[] #[]/\eb (.func g)=.func (.func g) #[] #[])(ho:o.op=.call c)(hc:c.callee=.value (.func g))
  (hk:aqj f o=true) (hr:(execOp eb (cv f o)).run P wb=.ok nb wb1):JI P b N f e e' fr w0 wa wb1 ea o nb:=by
 obtain⟨d,op,ty,p,af,gd⟩:=o;obtain⟨V,⟨args⟩,I⟩:=c;simp only at ho hc;subst ho hc;unfold aqj at hk;simp only[aaZ,bne_iff_ne] at hk;obtain⟨⟨⟨h1,h2⟩,k1⟩,O⟩:=hk;obtain⟨n1,M⟩:=ast (P:=P) h1;have run:∀(ev:ct->am) (h:Nat) (w:ap) (at_:Array b8) (ty:b8),ev (.func h)=.func (.func h) #[] #[]->ans P h->(execOp ev ({ dst:=d,op:=.call ⟨.value (.func h),⟨args⟩,at_⟩,type:=ty,pos:=p,after:=af,guard:=gd } :Oper)).run P w=.ok (.enter h ((⟨args⟩:Array ct).map ev)) w:=by
  grind [execOp,resolve,Deferred.ofValue,invoke]
 have E:(execOp eb ({ dst:=d,op:=.call ⟨.value (.func (mf g)),⟨args⟩,I.map (mt f)⟩,type:=mt f ty,pos:=p,after:=af,guard:=gd } :Oper)).run P wb=.ok nb wb1:=hr;rw[run eb (mf g) wb _ _ (H _).2 M] at E;cases E;obtain⟨Z,L⟩:=asQ k1 U;refine⟨_,_,run ea g wa I ty (H g).1 n1,hW,.enter g _ _ h1 h2 (by simp) (by grind) (λi c x y J Y W=>L i c x y J (by grind) (by grind)) (as6 O)⟩
theorem aum(hW:MW b N e e' fr w0 wa wb)(E:EM b w0.heap.size f ea eb)(hF:∀g,ea (.func g)=.func (.func g) #[] #[]/\eb (.func g)=.func (.func g) #[] #[])(hC:∀v,ea (.const v)=v/\eb (.const v)=v)
  (hk:aqj f o=true) (hr:(execOp eb (cv f o)).run P wb=.ok nb wb1):JI P b N f e e' fr w0 wa wb1 ea o nb:=by
 cases ho:o.op with
 |load t a=>grind [atj]
 |store t a x=>grind [M3]
 |indexAddr t x ix=>grind [arH]
 |binOp op t x y t'=>grind [atN]
 |alloc t=>grind [M6]
 |slice t x Z hi Y=>
  grind [asR,aqj]
 |call c=>
  grind [QV,atM,asS,aqj]
 |move x=>
  obtain⟨d,op,ty,p,af,gd⟩:=o;simp only at ho;subst ho;have:(.ok (.value (eb x)) wb:Result Next)=.ok nb wb1:=hr;cases this;exact⟨_,wa,rfl,hW,asr E hk⟩
 |assign x=>
  obtain⟨d,op,ty,p,af,gd⟩:=o;simp only at ho;subst ho;have:(.ok (.value (eb x)) wb:Result Next)=.ok nb wb1:=hr;cases this;exact⟨_,wa,rfl,hW,asr E hk⟩
 |pick c x y=>
  obtain⟨d,op,ty,p,af,gd⟩:=o;simp only at ho;subst ho;unfold aqj at hk;simp only[aaZ] at hk;obtain⟨⟨⟨k1,k2⟩,M⟩,U⟩:=hk;have H:=(E 0 c k1).1;have I:(do Pure.pure (Next.value (if<-asBool (eb c) then eb x else eb y)):Sem Next).run P wb=.ok nb wb1:=hr;rw[H] at I;cases hc:ea c with
  |bool t=>
   rw[hc] at I;cases I;refine⟨.value (if t then ea x else ea y),wa,?_,hW,aqB U ?_⟩
   ·show(do Pure.pure (Next.value (if<-asBool (ea c) then ea x else ea y)):Sem Next).run P wa=_;rw[hc];rfl
   ·cases t
    ·exact E 0 y M
    ·exact E 0 x k2
  |_=>rw[hc] at I;simp only[asBool,aaw,run_stuck] at I;cases I
 |unOp op t x=>
  obtain⟨d,J,ty,p,af,gd⟩:=o;simp only at ho;subst ho;unfold aqj at hk;cases op <;>simp only[aaZ,abX] at hk
  obtain⟨H,L⟩:=E 0 x hk.1;exact aro hW (atg (P:=P) L) hk.2 rfl (by rw[<-H];exact hr)
 |extract x i=>
  obtain⟨d,J,ty,p,af,gd⟩:=o;simp only at ho;subst ho;unfold aqj at hk;simp only[aaZ] at hk;obtain⟨H,xs,V,L⟩:=E 4 x hk.1;exact aro hW (arX (P:=P) L i) hk.2 (by rw[<-V];rfl) (by rw[<-V,<-H];exact hr)
 |convert s d x=>
  obtain⟨d',J,ty,p,af,gd⟩:=o;simp only at ho;subst ho;unfold aqj at hk;simp only[aaZ,adr,ac6] at hk;obtain⟨⟨⟨k1,k2⟩,M⟩,U⟩:=hk;obtain⟨H,L⟩:=E 0 x M;have hs:∃k,P.underlying s=some (.int k):=by
   rcases k1 with k1|⟨_,rfl⟩
   ·exact aqD k1
   simp_all [un5]
  have hd:∃k,P.underlying d=some (.int k):=by
   grind [aqD,un5]
  exact aro hW (arY (P:=P) hs hd L) U rfl (by rw[<-H];exact hr)
 |index t x ix=>
  obtain⟨d',J,ty,p,af,gd⟩:=o;simp only at ho;subst ho;unfold aqj at hk;split at hk <;>first|cases hk|skip
  all_goals simp only[Op.index.injEq,reduceCtorEq] at *
  rename_i _ O _ heq;obtain⟨rfl,rfl,rfl⟩:=heq;simp only[aaZ,ac6] at hk;obtain⟨⟨rfl,k2⟩,M⟩:=hk;obtain⟨H,L⟩:=E 0 _ k2;refine aro hW (asz (P:=P) L) M (s:=Instr.index 9 (.string O) (ea ix)) ?_ ?_
  rotate_left
  ·exact(by rw[<-H,<-(hC (.string O)).2];exact hr)
  ·show(do Pure.pure (Next.value (<-Instr.index 9 (ea (.const (.string O))) (ea ix))):Sem Next)=_
   simp_all
 |nilCheck x=>
  obtain⟨d',J,ty,p,af,gd⟩:=o;simp only at ho;subst ho;unfold aqj at hk;simp only[aaZ] at hk;have hx:=E 3 x hk.1;obtain⟨H,L⟩:=hx;have key:(eb x=undef\/∃c,eb x=.pointer (some c))->∀(ev:ct->am) (w:ap),ev x=eb x->(execOp ev ({ dst:=d',op:=.nilCheck x,type:=ty,pos:=p,after:=af,guard:=gd } :Oper)).run P w=.ok (.value (ev x)) w:=by
   rintro(h|⟨c,h⟩) ev w hv <;>(rw[h] at hv;simp only[execOp,hv,undef];rfl)
  have hu:eb x=undef\/∃c,eb x=.pointer (some c):=by
   grind
  have h1:=key hu eb wb rfl;have I:(execOp eb ({ dst:=d',op:=.nilCheck x,type:=mt f ty,pos:=p,after:=af,guard:=gd } :Oper)).run P wb=.ok nb wb1:=hr;have W:(execOp eb ({ dst:=d',op:=.nilCheck x,type:=mt f ty,pos:=p,after:=af,guard:=gd } :Oper)).run P wb=.ok (.value (eb x)) wb:=h1;rw[W] at I;cases I;exact⟨_,wa,key hu ea wa H.symm,hW,aqB hk.2 (E 3 x hk.1)⟩
 |_=>unfold aqj at hk;rw[ho] at hk;cases hk
end
section
variable{P:aC}[l:cL P]{b N f:Nat}{e e':b8}{fr:Nat×Nat}{w0 wa wb wb1:ap}{ea eb:ct->am}{o:Oper}{nb:Next}
def HF{α:Type}(P:aC)(s:Sem α)(w:ap):Prop:=∀h u,s.run P w=.halt h u->iy h
theorem HF.ok{α:Type}{s:Sem α}{w w1:ap}{a:α}(h:s.run P w=.ok a w1):HF P s w:=λx u e=>by simp_all
theorem HF.pure{α:Type}(a:α)(w:ap):HF P (Pure.pure a:Sem α) w:=.ok rfl
theorem HF.aw{α:Type}{s:Sem α}(h:bC P s)(w:ap):HF P s w:=λx u e=>by
 obtain⟨y,v,h1,h2⟩:=h w;rw[h1] at e;cases e;exact h2.1
theorem HF.stuck{α:Type}(s:String)(w:ap):HF P (Go.stuck s:Sem α) w:=.aw (ah _) w
theorem HF.bind{α β:Type}{s:Sem α}{k:α->Sem β}{w:ap}(hs:HF P s w)(hk:∀a w',s.run P w=.ok a w'->HF P (k a) w'):HF P (s>>=k) w:=by
 intro x u e;rw[aaw] at e;cases hr:s.run P w with
 |halt h v=>rw[hr] at e;cases e;exact hs _ _ hr
 |ok a v=>rw[hr] at e;exact hk a v hr x u e
theorem HF.val{s:Sem am}{w:ap}(hs:HF P s w):HF P (do Pure.pure (Next.value (<-s)):Sem Next) w:=.bind hs λ_ _ _=>.pure _ _
theorem HF.unit{s:Sem Unit}{w:ap}(hs:HF P s w):HF P (do s;Pure.pure Next.skip:Sem Next) w:=.bind hs λ_ _ _=>.pure _ _
theorem atu{a:Addr}{w:ap}(h:w.heap[a.block]?=none\/∃xs t fr,w.heap[a.block]?=some (.cells xs t fr)):HF P (load a) w:=by
 intro x u e;rw[Go.run_load] at e;split at e
 ·cases e
 ·unfold World.farLoad World.noCell at e;rcases h with h|⟨xs,t,fr,h⟩ <;>(rw[h] at e;cases e;trivial)
theorem ar6{a:Addr}{z:am}{w:ap}(h:w.heap[a.block]?=none\/∃xs t fr,w.heap[a.block]?=some (.cells xs t fr)):HF P (store a z) w:=by
 intro x u e;by_cases hz:z.oneCell'=true
 ·rw[run_store P w a z .plain hz] at e;split at e
  ·split at e
   ·cases e;trivial
   ·cases e
  ·unfold World.farStore World.noCell at e;rcases h with h|⟨xs,t,fr,h⟩ <;>(rw[h] at e;cases e;trivial)
 ·cases z <;>first|exact absurd rfl hz|(simp only[store,Sem.run] at e;cases e;trivial)
theorem atq{x:am}{w:ap} :HF P (Instr.sureAddr x) w:=by
 cases x with
 |pointer a=>cases a with
  |none=>exact .stuck _ _
  |some a=>exact .pure _ _
 |_=>exact .stuck _ _
theorem ar7{op:BinOp}{t:b8}(ht:ity t=true){x y:am}(hx:Pl x)(hy:Pl y)(w:ap):HF P (binOp op t x y) w:=by
 obtain⟨k,hk⟩:=aqD (P:=P) ht;have heq:∀x y:am,Pl x->Pl y->HF P (Op.equal t x y) w:=by
  intro x y hx hy;unfold Op.equal Op.maxDepth Op.equalIn;refine .bind (.ok (bT hk w)) λa w' e=>?_
  rw[bT hk] at e;cases e;cases x <;>first|exact hx.elim|skip
  all_goals cases y <;>first|exact hy.elim|exact .stuck _ _|(simp only;split <;>first|exact .pure _ _|exact .stuck _ _)
 cases x <;>first|exact hx.elim|skip
 all_goals cases y <;>first|exact hy.elim|skip
 all_goals unfold binOp
 all_goals cases op <;>simp only[]
 all_goals first
  |exact .stuck _ _
  |(unfold Op.shift;split <;>first|exact .aw (aT _) _|(simp only;first|exact .pure _ _|exact .stuck _ _))
  |(split <;>first|exact .stuck _ _|(unfold Op.intArith;first|exact .pure _ _|exact .stuck _ _)|(unfold Op.intBits;first|exact .pure _ _|exact .stuck _ _)|(unfold Op.intCmp;first|exact .pure _ _|exact .stuck _ _)|(unfold Op.intDiv;split <;>first|exact .aw (aT _) _|exact .pure _ _|exact .stuck _ _))
  |exact .bind (heq _ _ hx hy) λ_ _ _=>.pure _ _
theorem asK(hW:MW b N e e' fr w0 wa wb):∃xs t fr,wb.heap[b]?=some (.cells xs t fr):=let ⟨_,ys,_,h,_⟩:=hW.row;⟨ys,_,_,h⟩
theorem atP(hW:MW b N e e' fr w0 wa wb){c:Nat}(hc:w0.heap.size<=c):wb.heap[c]?=none\/∃xs t fr,wb.heap[c]?=some (.cells xs t fr):=
 hW.local hc (λh=>.inl h) λxs t _ h _=>.inr ⟨xs,t,_,h⟩
theorem arp(hW:MW b N e e' fr w0 wa wb){c:Nat}{x:am}(hc:c=1\/c=3){y:am}(h:VM b w0.heap.size c x y){a:Addr}(hy:y=.pointer (some a)):wb.heap[a.block]?=none\/∃xs t fr,wb.heap[a.block]?=some (.cells xs t fr):=by
 rcases hc with rfl|rfl
 ·obtain⟨p,hp⟩:=h;rw[p] at hy;rcases hp with hp|⟨n,m,hp⟩|⟨o,n,m,hp⟩|⟨o,hp⟩ <;>rw[hp] at hy <;>cases hy
  grind [asK]
 ·obtain⟨p,hp⟩:=h;rw[p] at hy;rcases hp with hp|⟨d,hd,hp⟩ <;>rw[hp] at hy <;>cases hy
  exact atP hW hd
theorem atI{x:am}{w:ap}{α:Type}{k:Addr->Sem α}(h:∀a,x=.pointer (some a)->HF P (k a) w):HF P (do k (<-Instr.sureAddr x)) w:=
 .bind atq λa w' e=>by
  cases x with
  |pointer p=>cases p with
   |none=>grind [run_stuck,Instr.sureAddr]
   |some q=>cases e;grind
  |_=>simp only[Instr.sureAddr,run_stuck] at e;cases e
theorem aqW{t:b8}{k:IntKind}(hu:P.underlying t=some (.int k)){a:Addr}{w:ap}(h:wb.heap[a.block]?=none\/∃xs t fr,wb.heap[a.block]?=some (.cells xs t fr)):HF P (loadVar t a) wb:=by
 intro x u e;rw[aqq hu] at e;exact atu h x u e
theorem ark{t:b8}(hs:∀w,(sizeOf t).run P w=.ok 1 w){a:Addr}{z:am}(hz:∀xs,z≠.agg xs)(h:wb.heap[a.block]?=none\/∃xs t fr,wb.heap[a.block]?=some (.cells xs t fr)):HF P (storeVar t a z) wb:=by
 intro x u e;rw[aqn hs hz] at e;exact ar6 h x u e
theorem as0{a:Addr} :∀(vs:List am) (i:Nat) {w:ap},(∃xs t fr,w.heap[a.block]?=some (.cells xs t fr))->a.spot=none->HF P (storeCells a vs i) w:=by
 intro vs
 induction vs with
 |nil=>intro i w _ _;exact .pure _ _
 |cons v vs p=>
  intro i w h hs;have ha:(a.add i).block=a.block/\(a.add i).spot=none:=by unfold Addr.add;grind
  unfold storeCells;refine .bind (ar6 (.inr (by simp_all))) λ_ w' e=>p _ ?_ hs
  obtain⟨xs,t,fr,h⟩:=h;obtain⟨_,_,_,rfl⟩:=aqS (a:=a.add i) (by rw[ha.1];exact h) ha.2 e;exact⟨_,t,fr,by rw[aq0 (a:=a.add i) (by rw[ha.1];exact h) ha.2,aay ha.1.symm]⟩
theorem aqx(x:am)(y:Nat)(c:BoundsCode)(w:ap):HF P (Instr.sliceBound x y c) w:=by
 unfold Instr.sliceBound;refine .bind ?_ λp w' _=>?_
 ·cases x with
  |int=>exact .pure _ _
  |pointer a=>cases a with
   |none=>exact .stuck _ _
   |some a=>exact .aw (an (by simp)) _
  |_=>exact .stuck _ _
 ·obtain⟨k,i⟩:=p;simp only;split
  ·exact .pure _ _
  ·exact .aw (dT _ _ _ _) _
theorem arv(n m:Nat)(p hi:Option am)(w:ap):HF P (Instr.sliceBounds true n m p hi none) w:=by
 unfold Instr.sliceBounds;cases hi with
 |none=>cases p with
  |none=>exact .bind (.pure _ _) λ_ _ _=>.bind (.pure _ _) λ_ _ _=>.bind (.pure _ _) λ_ _ _=>.pure _ _
  |some v=>exact .bind (.pure _ _) λ_ _ _=>.bind (.pure _ _) λ_ _ _=>.bind (aqx _ _ _ _) λ_ _ _=>.pure _ _
 |some u=>cases p with
  |none=>exact .bind (.pure _ _) λ_ _ _=>.bind (aqx _ _ _ _) λ_ _ _=>.bind (.pure _ _) λ_ _ _=>.pure _ _
  |some v=>exact .bind (.pure _ _) λ_ _ _=>.bind (aqx _ _ _ _) λ_ _ _=>.bind (aqx _ _ _ _) λ_ _ _=>.pure _ _
theorem asY{x:am}(p hi:Option am)(w:ap):HF P (Instr.sliceAt 28 x p hi none) w:=by
 unfold Instr.sliceAt;refine .bind (.ok (bT aqs w)) λd w' e=>?_
 rw[bT aqs] at e;cases e;simp only;unfold Instr.slice;refine .bind (.ok (bT aqs _)) λd w' e=>?_
 rw[bT aqs] at e;cases e;cases x <;>first|exact .stuck _ _|skip
 exact .bind (arv _ _ _ _ _) λq w' _=>.bind (.ok (si3 w')) λ_ _ _=>.pure _ _
theorem asZ{x ix:am}(w:ap):HF P (Instr.indexAt 28 x ix) w:=by
 unfold Instr.indexAt;refine .bind ?_ λp w' _=>?_
 ·cases ix with
  |int=>exact .pure _ _
  |pointer a=>cases a with
   |none=>exact .stuck _ _
   |some a=>exact .aw (an (by simp)) _
  |_=>exact .stuck _ _
 obtain⟨k,i⟩:=p;simp only;refine .bind (.ok (bT aqs w')) λd w2 e=>?_
 rw[bT aqs] at e;cases e;cases x with
 |slice p n m=>
  simp only;refine .bind (.pure _ _) λq w3 e=>?_
  cases e;simp only;refine .bind (.ok (bT aqs _)) λd w4 e=>?_
  rw[bT aqs] at e;cases e;cases p with
  |none=>exact .aw (dT _ _ _ _) _
  |some a=>
   simp only;split
   ·exact .bind (.ok (si3 _)) λ_ _ _=>.pure _ _
   ·split
    ·simp_all
    ·exact .aw (dT _ _ _ _) _
 |_=>exact .bind (.stuck _ _) λq w3 e=>by rw[run_stuck] at e;cases e
theorem aun(hW:MW b N e e' fr w0 wa wb)(H:EM b w0.heap.size f ea eb)(hF:∀g,ea (.func g)=.func (.func g) #[] #[]/\eb (.func g)=.func (.func g) #[] #[])(hC:∀v,ea (.const v)=v/\eb (.const v)=v)
  (hk:aqj f o=true):HF P (execOp eb (cv f o)) wb:=by
 obtain⟨d,op,ty,p,af,gd⟩:=o;have EN:=hk;unfold aqj at hk;cases op with
 |load t a=>
  simp only at hk;refine HF.val (s:=Instr.loadAt (mt f t) (eb a)) (atI λq hq=>?_);split at hk
  ·rename_i E;simp only[aaZ,Bool.not_eq_true',ac6] at E hk;obtain⟨E,rfl⟩:=E;rw[show mt f 5=3 by grind [mt]];exact aqW (w:=wb) un3 (arp hW (.inl rfl) (H 1 a hk.1) hq)
  ·simp only[aaZ,adr,ac6] at hk;obtain⟨⟨ht,V⟩,_⟩:=hk;have hm:mt f t=t:=by
    unfold mt
    grind
   rw[hm];have:=arp hW (.inr rfl) (H 3 a V) hq;rcases ht with rfl|rfl
   ·exact aqW (w:=wb) un3 this
   ·exact aqW (w:=wb) aty this
 |store t a x=>
  simp only[aaZ] at hk;refine HF.unit (s:=Instr.storeAt (mt f t) (eb a) (eb x)) (atI λq hq=>?_);obtain⟨_,hk⟩:=hk;split at hk
  ·rename_i E;simp only[aaZ,Bool.not_eq_true',ac6] at E hk;obtain⟨E,rfl⟩:=E;rw[show mt f 5=3 by grind [mt]];refine ark si3 ?_ (arp hW (.inl rfl) (H 1 a hk.1) hq);intro q hq;rcases H 2 x hk.2 with h|⟨n,_,_,h⟩ <;>(rw[h] at hq;cases hq)
  ·simp only[aaZ,adr,ac6] at hk;obtain⟨⟨ht,V⟩,hk2⟩:=hk;have hm:mt f t=t:=by
    unfold mt
    grind
   rw[hm];have hx:∀q,eb x≠.agg q:=by
    intro q hq;obtain⟨e2,hx⟩:=H 0 x hk2;rw[e2] at hq;rw[hq] at hx;exact hx
   have:=arp hW (.inr rfl) (H 3 a V) hq
   grind [ark,si3,atA]
 |indexAddr t x ix=>
  simp only[aaZ,Bool.not_eq_true',ac6] at hk;obtain⟨⟨⟨⟨E,rfl⟩,_⟩,_⟩,_⟩:=hk;refine HF.val (s:=Instr.indexAt (mt f 91) (eb x) (eb ix)) ?_
  grind [asZ,mt]
 |slice t x lo hi Z=>
  cases Z with
  |some _=>cases hk
  |none=>
   simp only[aaZ,Bool.not_eq_true',ac6] at hk;obtain⟨⟨⟨⟨⟨E,rfl⟩,_⟩,_⟩,_⟩,_⟩:=hk;refine HF.val (s:=Instr.sliceAt (mt f 91) (eb x) (lo.map eb) (hi.map eb) none) ?_
   grind [asY,mt]
 |binOp op t x y t'=>
  have hg:∀(t:b8) (u v:am),(∀q,u≠.agg q)->u≠.nilIface->(eqGuard op t x y u v).run P wb=.ok () wb:=by
   intro t u v h1 h2;cases u <;>first|exact absurd rfl (h1 _)|exact absurd rfl h2|(cases op <;>first|rfl|(cases v <;>rfl))
  have J:∀ {u:am},Pl u->(∀q,u≠.agg q)/\u≠.nilIface:=λh=>⟨λq hq=>by rw[hq] at h;exact h,λhq=>by rw[hq] at h;exact h⟩
  simp only at hk;refine HF.val (s:=do eqGuard op (mt f t) x y (eb x) (eb y);binOp op (mt f t) (eb x) (eb y)) ?_;have pl2:∀x,opc f 2 x=true->Pl (eb x):=by
   intro x hx;rcases H 2 x hx with h|⟨n,_,_,h⟩ <;>rw[h]
   ·rfl
   ·trivial
  split at hk
  ·rename_i E;simp only[aaZ,Bool.not_eq_true',ac6] at E hk;obtain⟨E,rfl⟩:=E;obtain⟨⟨⟨k1,k2⟩,_⟩,_⟩:=hk;rw[show mt f 5=3 by grind [mt]];exact .bind (.ok (hg _ _ _ (J (pl2 x k1)).1 (J (pl2 x k1)).2)) λ_ w' e=>by
    rw[hg _ _ _ (J (pl2 x k1)).1 (J (pl2 x k1)).2] at e;cases e;exact ar7 rfl (pl2 x k1) (pl2 y k2) _
  ·simp only[aaZ,ac6] at hk;obtain⟨⟨⟨⟨⟨k1,k2⟩,O⟩,_⟩,k5⟩,_⟩:=hk;have M:Pl (eb x):=by obtain⟨I,h⟩:=H 0 x k2;simp_all
   have p2:Pl (eb y):=by obtain⟨I,h⟩:=H 0 y O;simp_all
   rw[k5];exact .bind (.ok (hg _ _ _ (J M).1 (J M).2)) λ_ w' e=>by
    grind [ar7]
 |alloc t=>
  simp only[aaZ,adr,ac6] at hk;refine HF.val (s:=Instr.alloc t true (.tuple #[])) ?_;unfold Instr.alloc;rcases hk.1 with rfl|rfl
  ·exact .bind (.ok (zv3 _)) λ_ _ _=>.bind (.bind (.ok rfl) λ_ _ _=>.pure _ _) λ_ _ _=>.pure _ _
  ·exact .bind (.ok (atx _)) λ_ _ _=>.bind (.bind (.ok rfl) λ_ _ _=>.pure _ _) λ_ _ _=>.pure _ _
 |move x=>exact .pure _ _
 |assign x=>exact .pure _ _
 |pick c x y=>
  refine HF.bind (s:=asBool (eb c)) ?_ λ_ _ _=>.pure _ _
  cases eb c <;>first|exact .pure _ _|exact .stuck _ _
 |unOp op t x=>
  cases op <;>first|cases hk|skip
  simp only[aaZ] at hk;refine HF.val (s:=Op.unary .not (eb x)) ?_;obtain⟨I,h⟩:=H 0 x hk.1;rw[I];cases ea x <;>first|exact .pure _ _|exact .stuck _ _
 |extract x i=>
  refine HF.val (s:=Instr.extract (eb x) i) ?_;unfold Instr.extract;split
  ·split
   ·exact .pure _ _
   ·exact .stuck _ _
  ·exact .stuck _ _
 |convert s d x=>
  simp only[aaZ,adr,ac6] at hk;obtain⟨⟨⟨k1,k2⟩,O⟩,_⟩:=hk;obtain⟨I,h⟩:=H 0 x O;have hs:∃k,P.underlying s=some (.int k):=by
   rcases k1 with k1|⟨_,rfl⟩
   ·exact aqD k1
   simp_all [un5]
  have hd:∃k,P.underlying d=some (.int k):=by
   grind [aqD,un5]
  obtain⟨ks,hs⟩:=hs;obtain⟨kd,hd⟩:=hd;refine HF.val (s:=Go.convert s d (eb x)) ?_;rw[I];intro h' u e;unfold Go.convert at e;simp only[aaw,aas,bT hs,bT hd] at e;cases hx:ea x with
  |int=>rw[hx] at e;cases e
  |bool=>rw[hx] at e;cases e;trivial
  |tuple=>rw[hx] at e;cases e;trivial
  |_=>rw[hx] at h;exact h.elim
 |index t x ix=>
  split at hk <;>first|cases hk|skip
  all_goals simp only[Op.index.injEq,reduceCtorEq] at *
  rename_i _ Y _ heq;obtain⟨rfl,rfl,rfl⟩:=heq;simp only[aaZ,ac6] at hk;obtain⟨⟨rfl,k2⟩,_⟩:=hk;refine HF.val (s:=Instr.index 9 (eb (.const (.string Y))) (eb ix)) ?_;rw[(hC _).2];unfold Instr.index;refine .bind ?_ λq w' _=>?_
  ·cases eb ix with
   |int=>exact .pure _ _
   |pointer a=>cases a with
    |none=>exact .stuck _ _
    |some a=>exact .aw (an (by simp)) _
   |_=>exact .stuck _ _
  have W:P.underlying 9=some .string:=by simp_all [aX]
  obtain⟨k,i⟩:=q;refine .bind (.ok (bT W w')) λd w2 e=>?_
  rw[bT W] at e;cases e;simp only;split
  ·exact .pure _ _
  ·exact .aw (dT _ _ _ _) _
 |nilCheck x=>
  simp only[aaZ] at hk;obtain⟨I,M⟩:=H 3 x hk.1;intro h u e;have:(execOp eb ({ dst:=d,op:=.nilCheck x,type:=mt f ty,pos:=p,after:=af,guard:=gd } :Oper)).run P wb=.halt h u:=e;rcases M with h|⟨c,_,h⟩ <;>(simp_all [execOp,undef])
 |call c=>
  obtain⟨U,args,L⟩:=c;cases U with
  |value v=>
   cases v with
   |func g=>
    simp only[aaZ,bne_iff_ne] at hk;obtain⟨⟨⟨h1,_⟩,_⟩,_⟩:=hk;intro h u e;have hr:(execOp eb ({ dst:=d,op:=.call ⟨.value (.func (mf g)),args,L.map (mt f)⟩,type:=mt f ty,pos:=p,after:=af,guard:=gd } :Oper)).run P wb=.halt h u:=e
    grind [ast,execOp,resolve,Deferred.ofValue,invoke]
   |_=>cases hk
  |builtin bi=>
   cases bi with
   |len=>
    obtain⟨args⟩:=args;obtain⟨L⟩:=L;simp only[aaZ,Bool.not_eq_true',ac6] at hk;obtain⟨⟨⟨E,rfl⟩,k1⟩,_⟩:=hk;obtain⟨x,rfl⟩:∃x,args= [x]:=by
     cases args with
     |nil=>cases k1
     |cons x r=>grind [ara]
    refine HF.val (s:=Builtin.len_ ((⟨[91]⟩:Array b8).map (mt f)) (mt f ty) ((⟨[x]⟩:Array ct).map eb)) ?_;rw[show(⟨[91]⟩:Array b8).map (mt f)= #[28] by grind [mt],show(⟨[x]⟩:Array ct).map eb= #[eb x] by simp];unfold Builtin.len_;simp only[aek,abe];refine .bind (.ok (bT aqs _)) λd w' e=>?_
    rw[bT aqs] at e;cases e;cases eb x <;>first|exact .pure _ _|exact .stuck _ _
   |clear=>
    obtain⟨args⟩:=args;obtain⟨L⟩:=L;simp only[aaZ,Bool.not_eq_true',ac6] at hk;obtain⟨⟨⟨E,rfl⟩,k1⟩,_⟩:=hk;obtain⟨x,rfl⟩:∃x,args= [x]:=by
     cases args with
     |nil=>cases k1
     |cons x r=>grind [ara]
    simp only[ara,Bool.and_true] at k1;refine HF.val (s:=Builtin.clear_ ((⟨[91]⟩:Array b8).map (mt f)) (mt f ty) ((⟨[x]⟩:Array ct).map eb)) ?_;rw[show(⟨[91]⟩:Array b8).map (mt f)= #[28] by grind [mt],show(⟨[x]⟩:Array ct).map eb= #[eb x] by simp];unfold Builtin.clear_;simp only[aek,abe];refine .bind (.ok (bT aqs _)) λd w' e=>?_
    rw[bT aqs] at e;cases e;obtain⟨I,hp⟩:=H 1 x k1;rw[I];rcases hp with hp|⟨n,m,hp⟩|⟨of,n,m,hp⟩|⟨of,hp⟩ <;>rw[hp]
    ·exact .stuck _ _
    ·exact .pure _ _
    ·cases n with
     |zero=>exact .pure _ _
     |succ n=>
      refine .bind (.ok (zv3 _)) λz w2 e=>?_
      rw[zv3] at e;cases e;exact .bind (as0 (a:=⟨b,of,none⟩) _ 0 (asK hW) rfl) λ_ _ _=>.pure _ _
    ·exact .stuck _ _
   |_=>cases hk
  |invoke=>cases hk
 |_=>cases hk
end
structure FM(b n0:Nat)(fa fb:bn):Prop where
 fn:fb.fn=mf fa.fn
 dm:dom fa.fn=true
 size:fb.tmps.size=fa.tmps.size
 tm:∀t,VM b n0 (cl fa.fn t) (fa.tmps.getD t undef) (fb.tmps.getD t undef)
 todo:fb.todo=fa.todo.map (er fa.fn)
 ok:∀i∈fa.todo,mik fa.fn i=true
 da:fa.defers= []
 db:fb.defers= []
 mode:fb.mode=fa.mode
 going:fa.mode=.run\/fa.mode=.returning
 ka:fa.kind=.normal
 kb:fb.kind=.normal
 ra:fa.roundOf=none
 rb:fb.roundOf=none
inductive Stk(b n0:Nat):bn->List bn->bn->List bn->Prop
 |bot {fa fb:bn} (h:FM b n0 fa fb):Stk b n0 fa [] fb []
 |cons {fa fb ga gb:bn} {gas gbs:List bn} (h:FM b n0 fa fb) (hd:∀ops i r k d,ga.todo=.inRegion ops (i::r)::k->(ops[i]?).bind (·.dst)=some d->cl ga.fn d=rc fa.fn) (t:Stk b n0 ga gas gb gbs):Stk b n0 fa (ga::gas) fb (gb::gbs)
theorem Stk.top{b n0:Nat}{fa fb:bn}{gas gbs:List bn}(h:Stk b n0 fa gas fb gbs):FM b n0 fa fb:=by cases h <;>assumption
theorem Stk.put{b n0:Nat}{fa fb p E:bn}{gas gbs:List bn}(h:Stk b n0 fa gas fb gbs)(k:FM b n0 p E)(e:p.fn=fa.fn):Stk b n0 p gas E gbs:=by
 cases h with
 |bot=>exact .bot k
 |cons h hd t=>exact .cons k (by grind) t
section
variable{P:aC}[l:cL P]{b N n0:Nat}{e e':b8}{fr:Nat×Nat}{w0 wa wb wb1:ap}{fa fb:bn}
theorem FM.em(h:FM b n0 fa fb):EM b n0 fa.fn fa.eval fb.eval:=by
 intro c x hx;cases x with
 |tmp t=>
  simp only[opc,ac6] at hx;have:=h.tm t;rw[hx] at this;exact this
 |const v=>
  show VM b n0 c v v;cases v with
  |slice p n m=>
   cases p with
   |none=>
    simp only[opc,ac6] at hx;subst hx;exact⟨rfl,.inr (.inl ⟨_,_,rfl⟩)⟩
   |some=>simp[opc,ath] at hx
  |int|bool=>
   simp[opc,ath] at hx;subst hx;exact⟨rfl,trivial⟩
  |_=>simp[opc,ath] at hx
 |_=>cases hx
theorem FM.next(h:FM b n0 fa fb){ta:List Item}(ht:∀i∈ta,mik fa.fn i=true):FM b n0 { fa with todo:=ta } { fb with todo:=ta.map (er fa.fn) } :=
 { h with todo:=rfl,ok:=ht }
theorem FM.ret(h:FM b n0 fa fb):FM b n0 { fa with mode:=.returning } { fb with mode:=.returning } :=
 { h with mode:=rfl,going:=.inr rfl }
theorem FM.fin(h:FM b n0 fa fb){ops:Array Oper}{i:Nat}{r:List Nat}{k:List Item}(ht:fa.todo=.inRegion ops (i::r)::k){x y:am}(hv:∀d,(ops[i]?).bind (·.dst)=some d->VM b n0 (cl fa.fn d) x y):FM b n0 (fa.finish x) (fb.finish y):=by
 have E:fb.todo=.inRegion (ops.map (cv fa.fn)) (i::r)::k.map (er fa.fn):=by rw[h.todo,ht];rfl
 have L:((ops.map (cv fa.fn))[i]?).bind (·.dst)=(ops[i]?).bind (·.dst):=by
  rw[ad_];cases ops[i]? <;>rfl
 have ea:fa.finish x= { fa with tmps:=match(ops[i]?).bind (·.dst) with|some d=>fa.tmps.setIfInBounds d x|none=>fa.tmps,todo:=.inRegion ops r::k } :=by unfold Frame.finish;grind
 have eb:fb.finish y= { fb with tmps:=match(ops[i]?).bind (·.dst) with|some d=>fb.tmps.setIfInBounds d y|none=>fb.tmps,todo:=.inRegion (ops.map (cv fa.fn)) r::k.map (er fa.fn) } :=by unfold Frame.finish;rw[E];grind
 rw[ea,eb];have J:∀j∈(Item.inRegion ops r::k),mik fa.fn j=true:=by
  intro j H;rcases abZ.1 H with rfl|H
  ·exact h.ok (.inRegion ops (i::r)) (by simp_all)
  ·exact h.ok j (by simp_all)
 refine { h with size:=?_,tm:=λt=>?_,todo:=rfl,ok:=J }
 ·cases(ops[i]?).bind (·.dst) <;>simp[h.size]
 ·cases hd:(ops[i]?).bind (·.dst) with
  |none=>exact h.tm t
  |some d=>
   simp only[aba,ac3,h.size];by_cases p:d=t
   ·subst p;simp only[acC];by_cases I:d<fa.tmps.size
    ·simp_all
    ·rw[aat I,aat I];exact VM.und _ _ _
   ·rw[aat p,aat p];have:=h.tm t
    simp_all
theorem atk(f:Nat)(m:Region.Mode)(ops:Array Oper):∀(n t:Nat) (ls:Array Bool) (acc:List Nat),Region.linearise.go m (ops.map (cv f)) n t ls acc=Region.linearise.go m ops n t ls acc:=by
 intro n
 induction n with
 |zero=>intro t ls acc;rfl
 |succ n p=>
  intro t ls acc;have hq:∀i:Nat,(((ops.map (cv f))[i]?).map (·.after.all λe=> !Region.binds m e||ls.getD e.on false))=((ops[i]?).map (·.after.all λe=> !Region.binds m e||ls.getD e.on false)):=by
   intro i;rw[ad_,Option.map_map];rfl
  simp only[Region.linearise.go,Array.size_map,hq,p]
theorem asx(f:Nat)(ops:Array Oper)(t:Nat):Region.schedule true (ops.map (cv f)) t=Region.schedule true ops t:=by
 simp only[Region.schedule,Bool.true_or,acC,Region.linearise,Array.size_map];exact atk f _ ops _ _ _ _
theorem as3(f id:Nat):∀k:List Item,exitTo id (k.map (er f))=(exitTo id k).map (List.map (er f)):=by
 intro k
 induction k with
 |nil=>rfl
 |cons i k E=>
  cases i with
  |inBlock p=>
   show exitTo id (.inBlock p::k.map (er f))=_;simp only[exitTo]
   grind
  |_=>simp only[List.map_cons,er,exitTo];exact E
theorem as2(id:Nat):∀ {k t:List Item},exitTo id k=some t->∀i∈t,i∈k:=by
 intro k
 induction k with
 |nil=>intro t h;cases h
 |cons j k p=>
  intro t h i hi;have:(t=k)\/exitTo id k=some t:=by
   cases j <;>simp only[exitTo] at h <;>first|exact .inr h|grind
  grind
theorem ar9{fr:bn}(hm:fr.mode=.run)(cs:List bn)(u:ap):stepG P true (LG fr cs) u=stepG.exec P true true fr cs none u:=by
 obtain⟨fn,tmps,todo,defers,mode,kind,ro⟩:=fr;simp only at hm;subst hm;rfl
def aq6:bn->List bn->FuncId
 |fr,[]=>fr.fn
 |_,g::gs=>aq6 g gs
theorem aqt{fr dL:bn}{fs:List bn}(h:dL.fn=fr.fn):aq6 dL fs=aq6 fr fs:=by cases fs <;>first|exact h|rfl
def On(P:aC)(b N:Nat)(e e':b8)(fr:Nat×Nat)(w0:ap)(n:FuncId)(cs:List bn)(X:GStep)(fb1:bn)(gs:List bn)(wb1:ap):Prop:=
 ∃fa1 p wa1 es,X=.go (LG fa1 (p++cs)) wa1 es/\Stk b w0.heap.size fa1 p fb1 gs/\MW b N e e' fr w0 wa1 wb1/\aq6 fa1 p=n
variable{fas fbs:List bn}{cs:List bn}
def Tri(P:aC)(b N:Nat)(e e':b8)(fr:Nat×Nat)(w0:ap)(n:FuncId)(cs:List bn)(fb:bn)(fbs:List bn)(H E:GStep):Prop:=
 (∃o u es,E=.ended o u es)\/(∃p u es ch,E=.go (LG p (fbs++ [bz P])) u es/\p.mode=.panicking ch/\p.defers= []/\p.fn=fb.fn)\/
 ∃fb1 gs wb1 es,E=.go (LG fb1 (gs++ [bz P])) wb1 es/\On P b N e e' fr w0 n cs H fb1 gs wb1
theorem xd(E:Stk b w0.heap.size fa fas fb fbs)(hW:MW b N e e' fr w0 wa wb){ta:List Item}(ht:∀i∈ta,mik fa.fn i=true){I H:GStep}{es1 es2:Array Event}
  (ha:I=.go (LG { fa with todo:=ta } (fas++cs)) wa es1) (p:H=.go (LG { fb with todo:=ta.map (er fa.fn) } (fbs++ [bz P])) wb es2):Tri P b N e e' fr w0 (aq6 fa fas) cs fb fbs I H:=
 .inr (.inr ⟨_,_,_,_,p,_,_,_,_,ha,E.put (E.top.next ht) rfl,hW,aqt rfl⟩)
theorem asU(E:Stk b w0.heap.size fa fas fb fbs)(hW:MW b N e e' fr w0 wa wb){I H:GStep}{es1 es2:Array Event}
  (ha:I=.go (LG { fa with mode:=.returning } (fas++cs)) wa es1) (p:H=.go (LG { fb with mode:=.returning } (fbs++ [bz P])) wb es2):Tri P b N e e' fr w0 (aq6 fa fas) cs fb fbs I H:=
 .inr (.inr ⟨_,_,_,_,p,_,_,_,_,ha,E.put E.top.ret rfl,hW,aqt rfl⟩)
theorem aqX{E p:GStep}{n:FuncId}(o:Outcome)(u:ap)(es:Array Event)(h:p=.ended o u es):Tri P b N e e' fr w0 n cs fb fbs E p:=.inl ⟨o,u,es,h⟩
theorem VM.eq0{n0:Nat}{x y:am}(h:VM b n0 0 x y):y=x:=h.1
theorem asw(h:FM b n0 fa fb){ops:Array Oper}(hk:arf fa.fn ops=true){o:Oper}(i:Nat)(ho:ops[i]?=some o):Region.wanted (cv fa.fn o) (yielded (ops.map (cv fa.fn)) fb.tmps)=Region.wanted o (yielded ops fa.tmps):=by
 have hg:gdk fa.fn ops o=true:=by
  unfold arf at hk
  grind
 unfold Region.wanted;show(match o.guard with|none=>true|some (j,want)=>yielded (ops.map (cv fa.fn)) fb.tmps j==some want)=_;cases p:o.guard with
 |none=>rfl
 |some x=>
  obtain⟨j,want⟩:=x;simp only;have H:((ops.map (cv fa.fn))[j]?).bind (·.dst)=(ops[j]?).bind (·.dst):=by
   rw[ad_];cases ops[j]? <;>rfl
  unfold yielded;rw[H];unfold gdk at hg;rw[p] at hg;simp only at hg;cases hd:(ops[j]?).bind (·.dst) with
  |none=>rfl
  |some d=>
   rw[hd] at hg;simp only[ac6] at hg;have ht:=h.tm d;rw[hg] at ht;have ht:=ht.eq0;simp only[abN];rw[aba,aba] at ht;by_cases E:d<fa.tmps.size
   ·have I:d<fb.tmps.size:=by rw[h.size];exact E
    simp_all
   ·rw[abU (xs:=fb.tmps) (by rw[h.size];grind),abU (xs:=fa.tmps) (af2 E)]
def ava(g h:Nat):Prop:=∃a d c,Tryz.prog.funcs[g]?=some a/\Tryz.prog.funcs[h]?=some d/\a.body=some c/\d.body=some (n6 g c)/\d.results=a.results/\a.ntmps=d.ntmps
theorem at3:∀x∈aqP,ava x.1 x.2:=by
 unfold aqP;simp only[List.forall_mem_cons,adz,false_imp_iff,implies_true,abQ];refine⟨⟨_,_,_,Tryz.func150,Tryz.func131,rfl,by kernel_rfl,by kernel_rfl,by kernel_rfl⟩,⟨_,_,_,Tryz.func151,Tryz.func132,rfl,by kernel_rfl,by kernel_rfl,by kernel_rfl⟩,⟨_,_,_,Tryz.func163,Tryz.func163,rfl,by kernel_rfl,by kernel_rfl,by kernel_rfl⟩,⟨_,_,_,Tryz.func176,Tryz.func162,rfl,by kernel_rfl,by kernel_rfl,by kernel_rfl⟩,⟨_,_,_,Tryz.func192,Tryz.func192,rfl,by kernel_rfl,by kernel_rfl,by kernel_rfl⟩,⟨_,_,_,Tryz.func193,Tryz.func193,rfl,by kernel_rfl,by kernel_rfl,by kernel_rfl⟩,⟨_,_,_,Tryz.func196,Tryz.func183,rfl,by kernel_rfl,by kernel_rfl,by kernel_rfl⟩,⟨_,_,_,Tryz.func197,Tryz.func184,rfl,by kernel_rfl,by kernel_rfl,by kernel_rfl⟩,⟨_,_,_,Tryz.func198,Tryz.func185,rfl,by kernel_rfl,by kernel_rfl,by kernel_rfl⟩,⟨_,_,_,Tryz.func199,Tryz.func186,rfl,by kernel_rfl,by kernel_rfl,by kernel_rfl⟩,⟨_,_,_,Tryz.func200,Tryz.func187,rfl,by kernel_rfl,by kernel_rfl,by kernel_rfl⟩,⟨_,_,_,Tryz.func201,Tryz.func188,rfl,by kernel_rfl,by kernel_rfl,by kernel_rfl⟩,⟨_,_,_,Tryz.func202,Tryz.func189,rfl,by kernel_rfl,by kernel_rfl,by kernel_rfl⟩,⟨_,_,_,Tryz.func203,Tryz.func190,rfl,by kernel_rfl,by kernel_rfl,by kernel_rfl⟩,⟨_,_,_,Tryz.func204,Tryz.func191,rfl,by kernel_rfl,by kernel_rfl,by kernel_rfl⟩,⟨_,_,_,Tryz.func212,Tryz.func212,rfl,by kernel_rfl,by kernel_rfl,by kernel_rfl⟩,⟨_,_,_,Tryz.func213,Tryz.func213,rfl,by kernel_rfl,by kernel_rfl,by kernel_rfl⟩,⟨_,_,_,Tryz.func225,Tryz.func211,rfl,by kernel_rfl,by kernel_rfl,by kernel_rfl⟩,⟨_,_,_,Tryz.func226,Tryz.func214,rfl,by kernel_rfl,by kernel_rfl,by kernel_rfl⟩,⟨_,_,_,Tryz.func227,Tryz.func215,rfl,by kernel_rfl,by kernel_rfl,by kernel_rfl⟩,⟨_,_,_,Tryz.func228,Tryz.func175,rfl,by kernel_rfl,by kernel_rfl,by kernel_rfl⟩,⟨_,_,_,Tryz.func236,Tryz.func231,rfl,by kernel_rfl,by kernel_rfl,by kernel_rfl⟩⟩
theorem aqU{g:Nat}(hg:dom g=true):∃a d c,P.funcs[g]?=some a/\P.funcs[mf g]?=some d/\a.body=some c/\d.body=some (n6 g c)/\mck g c=true/\atf g a.results.toList=true/\d.results=a.results/\a.ntmps=d.ntmps/\(aqz g).2.2.2.length<=a.ntmps:=by
 unfold dom at hg;rw[afl] at hg;obtain⟨x,hx,hg⟩:=hg;have h1:=at3 x hx;have h2:=acp.1 asO x hx;have M:=acp.1 ass x hx;simp only[ac6,aaZ] at hg M;obtain⟨⟨p,E⟩,I⟩:=M;obtain⟨a,d,c,H,L,J,q4,q5,q6⟩:=h1;unfold asP at h2;rw[I,H,L] at h2;simp only[J,q4,aaZ] at h2;unfold as4 at p E;simp only[aaZ,bne_iff_ne] at p E;rw[hg] at H q4 h2 p I;rw[I];exact⟨a,d,c,lf H p.1.1 p.1.2,lf L E.1.1 E.1.2,J,q4,h2.1.1.1,h2.1.1.2,q5,q6,Nat.le_of_ble_eq_true h2.2⟩
theorem asC:(aqP.all λx=>(List.range (aqz x.1).2.2.2.length).all λt=>(aqz x.1).2.2.2.getD t 9==cl x.1 t)=true:=by kernel_rfl
theorem asD{g t:Nat}(hg:dom g=true)(ht:t<(aqz g).2.2.2.length):cl g t=(aqz g).2.2.2[t]:=by
 unfold dom at hg;rw[afl] at hg;obtain⟨x,hx,hg⟩:=hg;simp only[ac6] at hg;have:=acp.1 (acp.1 asC x hx) t (aeh.2 (by simp_all))
 simp_all
theorem FM.enter{g:Nat}{xs ys:Array am}{n0:Nat}{a d:Func}{c:Code}(hg:dom g=true)(hs:ys.size=xs.size)(hl:xs.size=(aqz g).2.2.2.length)(hv:∀(i c:Nat) (x y:am),(aqz g).2.2.2[i]?=some c->xs[i]?=some x->ys[i]?=some y->VM b n0 c x y)
  (g1:P.funcs[g]?=some a) (g2:P.funcs[mf g]?=some d) (g3:a.body=some c) (g4:d.body=some (n6 g c)) (g5:mck g c=true) (g8:a.ntmps=d.ntmps) (g9:(aqz g).2.2.2.length<=a.ntmps):FM b n0 (Frame.enter P g xs .normal) (Frame.enter P (mf g) ys .normal):=by
 have H:Frame.enter P g xs .normal= { fn:=g,tmps:=xs++Array.replicate (a.ntmps-xs.size) undef,todo:= [.code c],defers:= [],mode:=.run,kind:=.normal } :=by
  unfold Frame.enter;simp_all
 have E:Frame.enter P (mf g) ys .normal= { fn:=mf g,tmps:=ys++Array.replicate (d.ntmps-ys.size) undef,todo:= [.code (n6 g c)],defers:= [],mode:=.run,kind:=.normal } :=by
  unfold Frame.enter;simp_all
 rw[H,E];refine⟨rfl,hg,by simp_all,λt=>?_,rfl,λi hi=>?_,rfl,rfl,rfl,.inl rfl,rfl,rfl,rfl,rfl⟩
 ·simp only[aba,aev,hs,g8];by_cases ht:t<xs.size
  ·rw[aay ht,aay ht,aa_ ht,aa_ (by omega)];have p:t<(aqz g).2.2.2.length:=by omega
   have:=hv t _ _ _ (aaf p) (aa_ ht) (aa_ (by omega));rwa[<-asD hg p] at this
  ·rw[aat ht,aat ht];have:∀n m:Nat,((Array.replicate n undef)[m]?).getD undef=undef:=by
    grind
   rw[this];exact VM.und _ _ _
 ·rw[acE] at hi;subst hi;exact g5
theorem asM(h:FM b n0 fa fb){c:Nat} :∀ {rs:List ResultVar},(∀r∈rs,∃t,r=.tmp t/\cl fa.fn t=c)->∃xs ys:List am,xs.length=rs.length/\ys.length=rs.length/\(∀w,(rs.mapM (m:=Sem) λx=>match x with| .tmp t=>Pure.pure (fa.tmps.getD t undef)| .cell a t=>do loadVar t (<-asAddr (fa.tmps.getD a undef))).run P w=.ok xs w)/\(∀w,(rs.mapM (m:=Sem) λx=>match x with| .tmp t=>Pure.pure (fb.tmps.getD t undef)| .cell a t=>do loadVar t (<-asAddr (fb.tmps.getD a undef))).run P w=.ok ys w)/\∀(i:Nat) (x y:am),xs[i]?=some x->ys[i]?=some y->VM b n0 c x y:=by
 intro rs
 induction rs with
 |nil=>simp_all
 |cons r rs I=>
  intro hr;obtain⟨t,rfl,ht⟩:=hr r (by simp);obtain⟨xs,ys,h1,h2,M,L,J⟩:=I λr H=>hr r (aed _ H)
  refine⟨fa.tmps.getD t undef::xs,fb.tmps.getD t undef::ys,by grind,by grind,λw=>?_,λw=>?_,λi=>?_⟩
  ·simp_all
  ·simp_all
  ·cases i with
   |zero=>
    intro x y E p;simp only[abe,Option.some.injEq] at E p;subst E p;rw[<-ht];exact h.tm t
   |succ i=>grind
theorem asL(h:FM b n0 fa fb){a E:Func}{wb2:ap}{y:am}(g6:atf fa.fn a.results.toList=true)(g7:E.results=a.results)(hr:(results E fb.tmps).run P wb=.ok y wb2):
  ∃x,(∀w,(results a fa.tmps).run P w=.ok x w)/\VM b n0 (rc fa.fn) x y/\wb2=wb:=by
 unfold atf at g6;rw[aaZ,acp] at g6;obtain⟨k1,k2⟩:=g6;obtain⟨xs,ys,h1,h2,M,L,p⟩:=asM (P:=P) h (c:=bif fa.fn==151 then 1 else 0) (rs:=a.results.toList) (λr hr=>by
  grind)
 have O:∀w,(results a fa.tmps).run P w=.ok (if h:xs.toArray.size=1 then xs.toArray[0] else .tuple xs.toArray) w:=by
  intro w;unfold results;rw[abC,aaw,Sem.run_map]
  erw [M w]
  rfl
 have N:∀w,(results E fb.tmps).run P w=.ok (if h:ys.toArray.size=1 then ys.toArray[0] else .tuple ys.toArray) w:=by
  intro w;unfold results;rw[g7,abC,aaw,Sem.run_map]
  erw [L w]
  rfl
 rw[N] at hr;cases hr;refine⟨_,O,?_,rfl⟩;by_cases hl:xs.length=1
 ·have hr4:rc fa.fn=bif fa.fn==151 then 1 else 0:=by
   have:rc fa.fn≠4:=by
    cases I:a.results.toList with
    |nil=>simp_all
    |cons r l=>simp_all
   unfold rc at this ⊢
   grind
  rw[agp (by omega),agp (by grind),hr4];exact p 0 _ _ (aaf (by omega)) (aaf (by omega))
 ·rw[dif_neg (by omega),dif_neg (by grind)];have U:(fa.fn==151)=false\/xs= []:=by
   cases I:a.results.toList with
   |nil=>simp_all
   |cons r l=>cases l with
    |nil=>simp_all
    |cons=>
     rw[I] at k2;simp only[ac6] at k2;refine .inl ?_;cases hq:fa.fn==151 with
     |false=>rfl
     |true=>rw[ac6] at hq;rw[hq] at k2;cases k2
  by_cases H:xs= []
  ·subst H;have:ys= []:=abA (by simp_all);subst this;exact VM.und _ _ _
  ·have hn:=U.resolve_right H;rw[hn] at p;have V:ys=xs:=by
    refine List.ext_getElem (by omega) λi J p2=>?_
    exact(p i _ _ (aaf p2) (aaf J)).1
   have W:rc fa.fn=4:=by
    grind
   rw[W];refine⟨by rw[V],_,rfl,λz hz=>?_⟩;obtain⟨i,hi⟩:=List.getElem?_of_mem (ahf.1 hz);exact(p i z z hi (by simp_all)).2
theorem auo(E:Stk b w0.heap.size fa fas fb fbs)(hW:MW b N e e' fr w0 wa wb)(hn:¬uW fb fbs)(cs:List bn):
  Tri P b N e e' fr w0 (aq6 fa fas) cs fb fbs (stepG P true (LG fa (fas++cs)) wa) (stepG P true (LG fb (fbs++ [bz P])) wb):=by
 have h:=E.top;rcases h.going with hm|hm
 ·have I:fb.mode=.run:=h.mode.trans hm;rw[ar9 hm,ar9 I];have O:=h.ok;have p:=h.todo;have ra:=h.ra;have rb:=h.rb;cases ht:fa.todo with
  |nil=>
   rw[ht] at p;refine asU E hW (es1:= #[]) (es2:= #[]) ?_ ?_
   ·simp only[stepG.exec,ht,ra];rfl
   ·simp only[stepG.exec,p,List.map_nil,rb];rfl
  |cons i k=>
   rw[ht] at p O;simp only[List.map_cons] at p;have hi:=O i (by simp);have hk:∀j∈k,mik fa.fn j=true:=λj hj=>O j (aed _ hj)
   have two:∀ {x y:Item},mik fa.fn x=true->mik fa.fn y=true->∀j∈x::y::k,mik fa.fn j=true:=by
    simp_all
   have one:∀ {x:Item},mik fa.fn x=true->∀j∈x::k,mik fa.fn j=true:=by
    simp_all
   cases i with
   |inBlock id=>
    refine xd E hW hk (es1:= #[]) (es2:= #[]) ?_ ?_
    ·simp only[stepG.exec,ht];rfl
    ·simp only[stepG.exec,p,er];rfl
   |inScope c=>
    refine xd E hW hk (es1:= #[]) (es2:= #[]) ?_ ?_
    ·simp only[stepG.exec,ht];rfl
    ·simp only[stepG.exec,p,er];rfl
   |inLoop c=>
    refine xd E hW (two (x:=.code c) (y:=.inLoop c) hi hi) (es1:= #[]) (es2:= #[]) ?_ ?_
    ·simp only[stepG.exec,ht];rfl
    ·simp only[stepG.exec,p,er];rfl
   |inRegion ops H=>
    cases H with
    |nil=>
     refine xd E hW hk (es1:= #[]) (es2:= #[]) ?_ ?_
     ·simp only[stepG.exec,ht];rfl
     ·simp only[stepG.exec,p,er];rfl
    |cons j H=>
     have Rt:arf fa.fn ops=true:=hi;have bH:=λ(u:bn) (l:List bn) (w:ap)=>show stepG.exec P true true { u with todo:=.inRegion ops (j::H)::k } l none w=(if((ops[j]?).map (Region.wanted · (yielded ops u.tmps))).getD false then stepG.oper P true { u with todo:=.inRegion ops (j::H)::k } l none w else .go (LG (Frame.finish { u with todo:=.inRegion ops (j::H)::k } undef) l) w #[]) from rfl
     have eA:fa= { fa with todo:=.inRegion ops (j::H)::k } :=by rw[<-ht]
     have eB:fb= { fb with todo:=.inRegion (ops.map (cv fa.fn)) (j::H)::k.map (er fa.fn) } :=by
      have:fb.todo=.inRegion (ops.map (cv fa.fn)) (j::H)::k.map (er fa.fn):=p;rw[<-this]
     have Y:stepG.exec P true true fa (fas++cs) none wa=(if((ops[j]?).map (Region.wanted · (yielded ops fa.tmps))).getD false then stepG.oper P true fa (fas++cs) none wa else .go (LG (fa.finish undef) (fas++cs)) wa #[]):=by grind
     have M:stepG.exec P true true fb (fbs++ [bz P]) none wb=(if(((ops.map (cv fa.fn))[j]?).map (Region.wanted · (yielded (ops.map (cv fa.fn)) fb.tmps))).getD false then stepG.oper P true fb (fbs++ [bz P]) none wb else .go (LG (fb.finish undef) (fbs++ [bz P])) wb #[]):=by rw[eB];rfl
     have fin:∀ {x y:am} {wa1 wb2:ap},(∀d,(ops[j]?).bind (·.dst)=some d->VM b w0.heap.size (cl fa.fn d) x y)->FM b w0.heap.size (fa.finish x) (fb.finish y):=λhv=>h.fin ht hv
     have L:∀x,(fa.finish x).fn=fa.fn:=by intro x;unfold Frame.finish;rw[ht]
     have skip:∀ {XA XB:GStep} {es2:Array Event},XA=.go (LG (fa.finish undef) (fas++cs)) wa #[]->XB=.go (LG (fb.finish undef) (fbs++ [bz P])) wb es2->Tri P b N e e' fr w0 (aq6 fa fas) cs fb fbs XA XB:=λha yx=>
      .inr (.inr ⟨_,_,_,_,yx,_,_,_,_,ha,E.put (h.fin ht λd _=>VM.und _ _ _) (L _),hW,aqt (L _)⟩)
     cases ho:ops[j]? with
     |none=>
      grind
     |some o=>
      have hw:=asw h Rt j ho;simp only[ho,ad_,acz,aem] at Y M;simp only[hw] at M;cases hwt:Region.wanted o (yielded ops fa.tmps) with
      |false=>
       grind
      |true=>
       simp only[hwt,acC] at Y M;have U:aqj fa.fn o=true:=by
        have h9:arf fa.fn ops=true:=Rt;unfold arf at h9
        grind
       have hnd:∀c,o.op≠.defer c:=λc hc=>by unfold aqj at U;grind
       have aw2:∀c,(cv fa.fn o).op≠.defer c:=λc hc=>by
        have:mop fa.fn o.op=.defer c:=hc;cases hop:o.op <;>rw[hop] at this <;>first|exact absurd hop (hnd _)|cases this
       have hoA:fa.oper?=some o:=by unfold Frame.oper?;grind
       have hoB:fb.oper?=some (cv fa.fn o):=by unfold Frame.oper?;grind
       rw[AH hoA hnd] at Y;rw[AH hoB aw2] at M;rw[Y,M];have tB:X3 fb.todo:=by rw[p];trivial
       have tA:X3 fa.todo:=by rw[ht];trivial
       cases hr:(execOp fb.eval (cv fa.fn o)).run P wb with
       |halt x u=>
        have atH:=aun hW h.em (λg=>⟨rfl,rfl⟩) (λv=>⟨rfl,rfl⟩) U _ _ hr;simp only[stepG.apply,ada,acC,Fw h.kb,abX,ab3,hr];cases x with
        |panic v=>
         have:∃ch,(fb.raise [{ v:=v,recovered:=false }]).mode=.panicking ch:=by unfold Frame.raise;split <;>exact⟨_,rfl⟩
         obtain⟨ch,pg⟩:=this;exact .inr (.inl ⟨fb.raise [{ v:=v,recovered:=false }],u,_,ch,rfl,pg,by unfold Frame.raise;split <;>exact h.db,by unfold Frame.raise;grind⟩)
        |unsupported u=>cases u <;>first|exact atH.elim|exact aqX _ _ _ rfl
        |stuck=>exact aqX _ _ _ rfl
        |_=>exact atH.elim
       |ok nb wb2=>
        obtain⟨na,wa1,q1,q2,q3⟩:=aum hW h.em (λg=>⟨rfl,rfl⟩) (λv=>⟨rfl,rfl⟩) U hr;have okA:NOk na/\NOk nb:=by cases q3 <;>exact⟨trivial,trivial⟩
        rw[aq8 h.ka tA q1 okA.1,aq8 h.kb tB hr okA.2];cases q3 with
        |value x y hv=>
         exact .inr (.inr ⟨_,_,_,_,rfl,_,_,_,_,rfl,E.put (h.fin ht λd hd=>hv d (by grind)) (L _),q2,aqt (L _)⟩)
        |skip hd=>
         exact .inr (.inr ⟨_,_,_,_,rfl,_,_,_,_,rfl,E.put (h.fin ht λd _=>VM.und _ _ _) (L _),q2,aqt (L _)⟩)
        |enter g xs ys hg h1 hs hl hv hd=>
         obtain⟨a,dd,c,g1,g2,g3,g4,g5,g6,g7,g8,g9⟩:=aqU (P:=P) hg;refine .inr (.inr ⟨Frame.enter P (mf g) ys .normal,fb::fbs,wb2,_,rfl,Frame.enter P g xs .normal,fa::fas,wa1,_,rfl,.cons ?_ (λaAv i' r' k' d' Z e2=>?_) E,q2,rfl⟩)
         ·exact FM.enter hg hs hl hv g1 g2 g3 g4 g5 g8 g9
         ·rw[ht] at Z;cases Z;rw[ho] at e2;exact hd d' e2
   |code c=>
    cases c with
    |ret=>
     refine asU E hW (es1:= #[]) (es2:= #[]) ?_ ?_
     ·simp only[stepG.exec,ht,ra];rfl
     ·simp only[stepG.exec,p,er,n6,rb];rfl
    |skip=>
     refine xd E hW hk (es1:= #[]) (es2:= #[]) ?_ ?_
     ·simp only[stepG.exec,ht];rfl
     ·simp only[stepG.exec,p,er,n6];rfl
    |seq x y=>
     have cZ:mck fa.fn x=true/\mck fa.fn y=true:=by simpa[mik,mck] using hi
     refine xd E hW (two (x:=.code x) (y:=.code y) cZ.1 cZ.2) (es1:= #[]) (es2:= #[]) ?_ ?_
     ·simp only[stepG.exec,ht];rfl
     ·simp only[stepG.exec,p,er,n6];rfl
    |block id x=>
     refine xd E hW (two (x:=.code x) (y:=.inBlock id) hi rfl) (es1:= #[]) (es2:= #[]) ?_ ?_
     ·simp only[stepG.exec,ht];rfl
     ·simp only[stepG.exec,p,er,n6];rfl
    |loop x=>
     refine xd E hW (two (x:=.code x) (y:=.inLoop x) hi hi) (es1:= #[]) (es2:= #[]) ?_ ?_
     ·simp only[stepG.exec,ht];rfl
     ·simp only[stepG.exec,p,er,n6];rfl
    |scope x=>
     refine xd E hW (two (x:=.code x) (y:=.inScope x) hi hi) (es1:= #[]) (es2:= #[]) ?_ ?_
     ·simp only[stepG.exec,ht];rfl
     ·simp only[stepG.exec,p,er,n6];rfl
    |cond c x y=>
     have cZ:(opc fa.fn 0 c=true/\mck fa.fn x=true)/\mck fa.fn y=true:=by simpa[mik,mck] using hi
     have hc:=(h.em 0 c cZ.1.1).eq0;cases hv:fa.eval c with
     |bool t=>
      rw[hv] at hc;refine xd E hW (one (x:=.code (if t then x else y)) (by cases t;exact cZ.2;exact cZ.1.2)) (es1:= #[]) (es2:= #[]) ?_ ?_
      ·simp only[stepG.exec,ht,hv];rfl
      ·simp only[stepG.exec,p,er,n6,hc];cases t <;>rfl
     |_=>
      rw[hv] at hc;refine aqX ?_ wb ?_ ?_
      rotate_left 2
      ·simp only[stepG.exec,p,er,n6,hc];rfl
    |exit id=>
     have hex:=as3 fa.fn id k;cases hx:exitTo id k with
     |some t=>
      rw[hx] at hex;refine xd E hW (λj hj=>hk j (as2 id hx j hj)) (ta:=t) (es1:= #[]) (es2:= #[]) ?_ ?_
      ·simp only[stepG.exec,ht,hx];rfl
      ·simp only[stepG.exec,p,er,n6,hex];rfl
     |none=>
      rw[hx] at hex;refine aqX ?_ wb ?_ ?_
      rotate_left 2
      ·simp only[stepG.exec,p,er,n6,hex,aez,Option.elim,rb];rfl
    |region id ops draw=>
     have Rt:arf fa.fn ops=true:=by simpa[mik,mck] using hi
     cases draw with
     |false=>
      refine xd E hW (one (x:=.inRegion ops (List.range ops.size)) Rt) (es1:= #[]) (es2:= #[]) ?_ ?_
      ·simp only[stepG.exec,ht];rfl
      ·simp only[stepG.exec,p,er,n6,Array.size_map,List.map_cons];rfl
     |true=>
      have hmx:P.follows .mixedOrders=true:=(Ek (P:=P) .mixedOrders).trans rfl;have Y:(choose (.order fa.fn id)).run P wa=.ok (wa.tape wa.drawn (.order fa.fn id)) { wa with drawn:=wa.drawn+1 } :=rfl;have M:(choose (.order fb.fn id)).run P wb=.ok (wb.tape wb.drawn (.order fb.fn id)) { wb with drawn:=wb.drawn+1 } :=rfl;have heq:wb.tape wb.drawn (.order fb.fn id)=wa.tape wa.drawn (.order fa.fn id):=by
       rw[h.fn,hW.tp _ _ _ h.dm,hW.drawn,hW.tape]
      rw[heq] at M;have Xa:MW b N e e' fr w0 { wa with drawn:=wa.drawn+1 } { wb with drawn:=wb.drawn+1 } := { hW with drawn:=by simp[hW.drawn] }
      refine xd E Xa (one (x:=.inRegion ops (Region.schedule true ops (wa.tape wa.drawn (.order fa.fn id)))) Rt) (es1:= #[]) (es2:= #[]) ?_ ?_
      ·simp only[stepG.exec,ht,aeF,abX,ab3,Y,hmx];rfl
      ·simp only[stepG.exec,p,er,n6,aeF,abX,ab3,M,hmx,asx,List.map_cons];rfl
    |_=>exact absurd hi (by simp[mik,mck])
   |_=>exact absurd hi (by simp[mik])
 ·have I:fb.mode=.returning:=h.mode.trans hm;cases E with
  |bot h=>exact absurd ⟨rfl,I,h.db⟩ hn
  |cons h hd t=>
   rename_i ga gb gas gbs;obtain⟨a,dd,c,g1,g2,g3,g4,g5,g6,g7,g8,g9⟩:=aqU (P:=P) h.dm;have gB:P.funcs[fb.fn]?=some dd:=by rw[h.fn];exact g2
   cases hr:(results dd fb.tmps).run P wb with
   |halt x u=>
    have Z:stepG P true (LG fb (gb::gbs++ [bz P])) wb=unwind P true fb (gb::gbs++ [bz P]) none wb:=by
     obtain⟨fn,tmps,todo,defers,mode,kind,ro⟩:=fb;simp only at I;subst I;rfl
    rw[Z];simp only[unwind,h.db,I,gB,ada,hr];cases x <;>exact aqX _ _ _ rfl
   |ok y wb2=>
    obtain⟨x,q1,q2,rfl⟩:=asL (P:=P) h g6 g7 hr;rw[aaT,aaT,my I h.db h.kb gB hr,my hm h.da h.ka g1 (q1 wa)];have tt:=t.top;have key:FM b w0.heap.size (ga.finish x) (gb.finish y)/\(ga.finish x).fn=ga.fn:=by
     cases J:ga.todo with
     |nil=>
      have W:gb.todo= []:=by rw[tt.todo,J];rfl
      have Z:ga.finish x=ga:=by unfold Frame.finish;rw[J]
      have e2:gb.finish y=gb:=by unfold Frame.finish;rw[W]
      simp_all
     |cons i k=>
      by_cases hi:∃ops j r,i=.inRegion ops (j::r)
      ·obtain⟨ops,j,r,rfl⟩:=hi;refine⟨tt.fin J λd Cj=>?_,by unfold Frame.finish;rw[J]⟩
       simp_all
      ·have Z:ga.finish x=ga:=by
        have V:=tt.ok i (by simp_all);unfold Frame.finish;rw[J];cases i with
        |inRegion ops l=>
         simp_all
        |code c=>rfl
        |inBlock=>rfl
        |inLoop=>rfl
        |inScope=>rfl
        |_=>cases V
       have e2:gb.finish y=gb:=by
        have V:=tt.ok i (by simp_all);have W:gb.todo=er ga.fn i::k.map (er ga.fn):=by rw[tt.todo,J];rfl
        unfold Frame.finish;rw[W];cases i with
        |inRegion ops l=>
         cases l with
         |nil=>rfl
         |cons j r=>simp_all
        |code c=>rfl
        |inBlock=>rfl
        |inLoop=>rfl
        |inScope=>rfl
        |_=>cases V
       simp_all
    exact .inr (.inr ⟨_,_,_,_,rfl,_,_,_,_,rfl,t.put key.1 key.2,hW,aqt key.2⟩)
theorem awn:∀(n:Nat) (fr:bn) (fs:List bn) (ch:List PanicEntry) (v:ap),fr.mode=.panicking ch->(∀f∈fr::fs,f.defers= []/\∃fn,P.funcs[f.fn]?=some fn)->
  ∀(g:bn) (gs:List bn) (u:ap),g.mode=.returning->runN P n (lone fr (fs++ [bz P]) v)≠.next (lone g (gs++ [bz P]) u):=by
 intro n
 induction n with
 |zero=>
  intro fr fs ch v hm _ g gs u hg h;simp only[runN,adW] at h;rw[(gn h).1,hg] at hm;cases hm
 |succ n I=>
  intro fr fs ch v hm hp g gs u hg h;obtain⟨hd,fn,H⟩:=hp fr (by simp);have E:∀cs,stepG P true (LG fr cs) v=unwind P true fr cs none v:=by
   intro cs;obtain⟨fn,tmps,todo,defers,mode,kind,ro⟩:=fr;simp only at hm;subst hm;rfl
  have hc:fr.catches P=false:=by unfold Frame.catches;rw[H]
  cases fs with
  |nil=>
   have p:stepG P true (LG fr ([]++ [bz P])) v=.go (LG ((bz P).raise ch) []) v #[]:=by
    rw[E];simp only[unwind,hd,hm,hc,aaV];rfl
   rw[ff (jQ p)] at h;exact Gm ch v n g gs u h
  |cons f1 fs=>
   have p:stepG P true (LG fr (f1::fs++ [bz P])) v=.go (LG (f1.raise ch) (fs++ [bz P])) v #[]:=by
    rw[E];simp only[unwind,hd,hm,hc,aaT];rfl
   rw[ff (jQ p)] at h;have hr:(∃c,(f1.raise ch).mode=.panicking c)/\(f1.raise ch).defers=f1.defers/\(f1.raise ch).fn=f1.fn:=by unfold Frame.raise;grind
   grind
theorem Stk.axV{fa fb:bn}(h:Stk b n0 fa fas fb fbs):∀f∈fb::fbs,f.defers= []/\∃fn,P.funcs[f.fn]?=some fn:=by
 have one:∀ {fa fb:bn},FM b n0 fa fb->fb.defers= []/\∃fn,P.funcs[fb.fn]?=some fn:=by
  intro fa fb h;obtain⟨a,p,c,g1,g2,_⟩:=aqU (P:=P) h.dm;exact⟨h.db,p,by rw[h.fn];exact g2⟩
 induction h with
 |bot h=>grind
 |cons h hd t E=>
  grind
theorem mir{f0:FuncId}{y:am}{H:bn}{p:ap}(cT:H.leaving P p (.returned y)):∀(n:Nat) {fa fb:bn} {fas fbs:List bn} {wa wb:ap},Stk b w0.heap.size fa fas fb fbs->MW b N e e' fr w0 wa wb->aq6 fa fas=f0->
  runN P n (lone fb (fbs++ [bz P]) wb)=.next (lone H [bz P] p)->
  ∃x w' fr',MW b N e e' fr w0 w' p/\VM b w0.heap.size (rc f0) x y/\Comes P (lone fa (fas++cs) wa) (lone fr' cs w') (.returned x)/\fr'.fn=f0/\fr'.leaving P w' (.returned x):=by
 obtain⟨lm,ld,lk,lfn,lf,lr⟩:=cT;intro n
 induction n with
 |zero=>
  intro fa fb fas fbs wa wb J hW I hr;simp only[runN,adW] at hr;obtain⟨rfl,M,rfl⟩:=gn hr;cases J with
  |cons=>simp at M
  |bot E=>
   obtain⟨a,O,c,g1,g2,g3,g4,g5,g6,g7,g8,g9⟩:=aqU (P:=P) E.dm;have L:P.funcs[fb.fn]?=some O:=by rw[E.fn];exact g2
   rw[lf] at L;cases L;obtain⟨x,q1,W,_⟩:=asL (P:=P) (wb:=wb) E g6 g7 lr;have V:fa.fn=f0:=I;rw[V] at W;exact⟨x,wa,fa,hW,W,Steps.refl _ _,V,E.mode▸lm,E.da,E.ka,a,g1,q1 wa⟩
 |succ n ih=>
  intro fa fb fas fbs wa wb J hW I hr;by_cases hn:uW fb fbs
  ·exfalso;obtain⟨rfl,hm,hd⟩:=hn;cases J with
   |bot E=>
    obtain⟨a,O,c,g1,g2,g3,g4,g5,g6,g7,g8,g9⟩:=aqU (P:=P) E.dm;have L:P.funcs[fb.fn]?=some O:=by rw[E.fn];exact g2
    cases hq:(results O fb.tmps).run P wb with
    |ok z w2=>
     have:=my (P:=P) (m:=true) (c0:=bz P) (cs:= []) hm hd E.kb L hq;rw[aaV,ff (jQ this)] at hr;exact ud w2 z n H [] p hr
    |halt x u=>
     have e1:stepG P true (LG fb ([]++ [bz P])) wb=unwind P true fb ([]++ [bz P]) none wb:=by
      obtain⟨fn,tmps,todo,defers,mode,kind,ro⟩:=fb;simp only at hm;subst hm;rfl
     have M:∃o es,stepG P true (LG fb ([]++ [bz P])) wb=.ended o u es:=by
      rw[e1];simp only[unwind,hd,hm,L,ada,hq];cases x <;>exact⟨_,_,rfl⟩
     obtain⟨o,es,M⟩:=M;rw[ky (step_end M)] at hr;cases hr
  ·rcases auo (P:=P) J hW hn cs with ⟨o,u,es,h1⟩|⟨U,u,es,ch,h1,h2,h3,h4⟩|⟨fb1,gs,wb1,es,h1,fa1,atw,wa1,es1,a1,a2,a3,a4⟩
   ·rw[ky (step_end h1)] at hr;cases hr
   ·exfalso;rw[ff (jQ h1)] at hr;refine awn (P:=P) n U fbs ch u h2 (λf hf=>?_) H [] p lm hr;have hg:=J.axV (P:=P);rcases abZ.1 hf with rfl|hf
    ·simp_all
    simp_all
   ·rw[ff (jQ h1)] at hr;obtain⟨x,w',fr',r1,r2,Z,Y⟩:=ih a2 a3 (a4.trans I) hr;exact⟨x,w',fr',r1,r2,.of_steps (Steps.one (jQ a1)) Z,Y⟩
end
end Go.Proofs.YtjagmhagphbfcaaGreatDoor.Mi
namespace Go.Proofs.YtjagmhagphbfcaaGreatDoor
open Go renaming Value→am,World→ap,Program→aC,TypeId→b8,Frame→bn,Operand→ct
def afD:=@List.map_append
end Go.Proofs.YtjagmhagphbfcaaGreatDoor
namespace Go.Proofs.YtjagmhagphbfcaaGreatDoor.Mi
open Go renaming Value→am,World→ap,Program→aC,TypeId→b8,Frame→bn,Operand→ct
open Go Go.Proofs
abbrev evB(c:UInt8):am:=.int .u8 c.toNat
abbrev aqV(c:UInt8):Int:=(c.toNat:Int)
def inv(g:Nat):Nat:=match aqP.find? λx=>x.2==g with|some x=>x.1|none=>g
theorem atS:(aqP.all λx=>inv (mf x.1)==x.1)=true:=by kernel_rfl
theorem atT{g:Nat}(h:dom g=true):inv (mf g)=g:=by
 grind [atS,dom]
def aqC(l:List UInt8)(cap:Nat):Array am:=((l.map λc=>Value.int .i64 c.toNat)++List.replicate (cap-l.length) undef).toArray
def wI(w:ap)(b:Nat)(l:List UInt8)(cap:Nat):ap:=
 { w with heap:=w.heap.setIfInBounds b (.cells (aqC l cap) 3 (0,0)),tape:=λn q=>match q with| .order g id=>w.tape n (.order (inv g) id)|q=>w.tape n q }
theorem asV{a b:UInt8}(h:aqV a=aqV b):a=b:=by
 grind [UInt8.toNat.inj]
theorem asH(l:List UInt8):(l.map aqV).mergeSort (λx y=>decide (x<=y))=(l.mergeSort λx y=>decide (x<=y)).map aqV:=
 (List.map_mergeSort (f:=aqV) (r:=λx y=>decide (x<=y)) (s:=λx y=>decide (x<=y)) λa _ b _=>by
  grind [UInt8.le_iff_toNat_le]).symm
theorem as7(l:List UInt8):Lib.compact (l.map aqV)=(Lib.compact l).map aqV:=by
 induction l using wF with
 |h0=>rfl
 |h1 l x p=>
  rw[afD,List.map_singleton,j3,j3,p,afD];congr 1;rw[List.getLast?_map];cases hl:l.getLast? with
  |none=>simp
  |some y=>
   simp only[acz,Option.some.injEq];by_cases h:y=x
   ·simp[h]
   ·rw[aat (λe=>h (asV e)),aat h];rfl
section
variable{P:aC}[l:cL P]{g:Gh}{w:ap}{B b cap:Nat}
theorem start(hW:WI g w){xs:List UInt8}(I:Row B 5 g w (.slice (some ⟨b,0,none⟩) xs.length cap) (xs.map evB)):MW b cap 5 3 (0,0) w w (wI w b xs cap)/\Sort.Holds (Value.int .i64) (wI w b xs cap) b 0 (xs.map aqV).toArray/\b<(wI w b xs cap).heap.size/\xs.length<=cap:=by
 rcases I.own.2 with ⟨p,_⟩|⟨b',V,cur,p,O,hg,h1,h2,U,E⟩
 ·cases p
 rw[abz] at p h1 E;cases p;have hb:=(aah.1 hg).1;have L:(aqC xs cap).size=cap:=by grind [aqC]
 have M:(wI w b xs cap).heap[b]?=some (.cells (aqC xs cap) 3 (0,0)):=by
  grind [wI]
 have J:∀(i:Nat) (hi:i<xs.length),(aqC xs cap)[i]?=some (.int .i64 xs[i].toNat):=by
  grind [aqC]
 refine⟨⟨by simp[wI],aax _,hb,λc hc=>?_,λc o hc ho=>?_,⟨cur,aqC xs cap,hg,M,by omega,L,λi x y hx hy=>?_⟩,λ_ _ _=>rfl,rfl,rfl,rfl,rfl,λn f id hd=>?_⟩,λj N=>?_,by grind,h1⟩
 ·grind [wI]
 ·simp_all
 ·by_cases hi:i<xs.length
  ·right;rw[J i hi] at hy;cases hy;have:cur.toList.take (xs.length*1)=xs.map evB:=E;have H:(cur.toList.take (xs.length*1))[i]?=some x:=by
    grind
   rw[this,aeq,aaf hi] at H;cases H;exact⟨xs[i].toNat,xs[i].toNat_lt,rfl,rfl⟩
  ·left
   grind [aqC]
 ·show w.tape n (.order (inv (mf f)) id)=_;rw[atT hd]
 grind [World.cell?,World.frozen?]
omit l in
theorem finish(hW:WI g w){xs r:List UInt8}{w' wb:ap}{ys:Array am}(L:Row B 5 g w (.slice (some ⟨b,0,none⟩) xs.length cap) (xs.map evB))(p:MW b cap 5 3 (0,0) w w' wb)(hk:r.length<=xs.length)
  (hb:wb.heap[b]?=some (.cells ys 3 (0,0))) (hy:∀(i:Nat) (hi:i<r.length),ys[i]?=some (.int .i64 r[i].toNat)):
  Lw g g w w'/\WI g w'/\Row B 5 g w' (.slice (some ⟨b,0,none⟩) r.length cap) (r.map evB)/\∀c,c<w.heap.size->(Value.slice (some ⟨b,0,none⟩) xs.length cap).ownBlock≠some c->w'.heap[c]?=w.heap[c]?:=by
 rcases L.own.2 with ⟨H,_⟩|⟨b',Pf,cur,H,W,hg,h1,h2,h3,h4⟩
 ·cases H
 rw[abz] at H h1;cases H;obtain⟨cs,ds,r1,J,r3,Z,O⟩:=p.row;rw[hb] at J;cases J;have M:cs.toList.take (r.length*1)=r.map evB:=by
  refine aer λi=>?_
  rw[acF,Nat.mul_one,aeq];by_cases hi:i<r.length
  ·rw[aay hi,ae2,aaf hi];have E:i<cs.size:=by omega
   rw[aa_ E];rcases O i _ _ (aa_ E) (hy i hi) with h|⟨n,hn,ha,V⟩
   ·cases h
   simp_all
  grind
 have N:w.grownBy w' (some b):=⟨p.os,p.tape,p.out,p.n0,λc hc I=>p.mo c hc (λe=>I (by rw[e]))⟩
 have Y:w'.ownsRow B 5 1 (.slice (some ⟨b,0,none⟩) r.length cap) (r.map evB).length (r.map evB):=by
  rw[abz];exact⟨by simp,.inr ⟨b,cap,cs,rfl,W,r1,by omega,h2,by omega,M⟩⟩
 obtain⟨k1,k2,U⟩:=L.Mb hW Y (λc hc=>.inl hc) N (λh=>by cases h);exact⟨k1,k2,U,λc hc I=>p.mo c hc (λe=>I (by rw[e];rfl))⟩
theorem Dq{f0 f1:Nat}(hd:dom f0=true)(hf:mf f0=f1)(hp:(aqz f0).2.2.2= [1]){xs:List UInt8}{R:am->ap->Prop}(hW:WI g w)(I:Row B 5 g w (.slice (some ⟨b,0,none⟩) xs.length cap) (xs.map evB))
  (hc:Calls P f1 #[.slice (some ⟨b,0,none⟩) xs.length cap] (wI w b xs cap) λe v=>∃y,e=.returned y/\R y v):
  Calls P f0 #[.slice (some ⟨b,0,none⟩) xs.length cap] w λe w'=>∃x y v,e=.returned x/\R y v/\MW b cap 5 3 (0,0) w w' v/\VM b w.heap.size (rc f0) x y:=by
 intro cs;obtain⟨U,v,H,⟨y,rfl,O⟩,⟨n,hn⟩,_,hl⟩:=hc [bz P];obtain⟨a,V,c,g1,g2,g3,g4,g5,g6,g7,g8,g9⟩:=aqU (P:=P) hd;have p:FM b w.heap.size (Frame.enter P f0 #[.slice (some ⟨b,0,none⟩) xs.length cap] .normal) (Frame.enter P (mf f0) #[.slice (some ⟨b,0,none⟩) xs.length cap] .normal):=by
  refine FM.enter hd rfl (by grind) (λi c x y h1 h2 E=>?_) g1 g2 g3 g4 g5 g8 g9;rw[hp] at h1;cases i with
  |zero=>
   simp at h1 h2 E;subst h1 h2 E;exact⟨rfl,.inr (.inr (.inl ⟨_,_,_,rfl⟩))⟩
  |succ i=>grind
 rw[hf] at p;obtain⟨x,w',fr',r1,N,M,L,J⟩:=mir (P:=P) (f0:=f0) (cs:=cs) hl n (.bot p) (start hW I).1 (by rfl) hn
 grind
theorem asI(l:List UInt8)(hl:l.length<4611686018427387904):kK P 150 5 evB l (l.mergeSort λx y=>decide (x<=y)):=by
 intro B g w x hW p;rcases lV p with ⟨rfl,rfl⟩|⟨b,cap,rfl,hb,h1,h2⟩
 ·rw[List.mergeSort_nil];exact J1 [] (by simp) B g w _ hW p
 ·obtain⟨s1,s2,s3,J⟩:=start hW p;have hc:=Any.slices_Sort_int (P:=P) Nq b 0 cap (l.map aqV) (wI w b l cap) s2 s3 (by grind);rw[abz,asH] at hc;refine(Dq (P:=P) (f0:=150) (f1:=131) (R:=λy v=>y=.tuple #[]/\∃n os,v=Sort.grow (Sort.putRow (Value.int .i64) (Sort.ahead (wI w b l cap) n) b 0 ((l.mergeSort λx y=>decide (x<=y)).map aqV).toArray) os) rfl rfl rfl hW p (hc.mono λe v ⟨h1,h2⟩=>⟨_,h1,rfl,h2⟩)).mono ?_;rintro M w' ⟨x,y,v,rfl,⟨rfl,n,os,rfl⟩,H,hx⟩;have I:x=.tuple #[]:=hx.1.symm;subst I;refine⟨rfl,?_⟩;have E:(Sort.grow (Sort.putRow (Value.int .i64) (Sort.ahead (wI w b l cap) n) b 0 ((l.mergeSort λx y=>decide (x<=y)).map aqV).toArray) os).heap[b]?=some (.cells (Sort.putCells (Value.int .i64) 0 ((l.mergeSort λx y=>decide (x<=y)).map aqV).toArray (aqC l cap)) 3 (0,0)):=by
   rw[Sort.heap_grow_old _ _ (by simp_all)];show((wI w b l cap).heap.modify b (Sort.onCells _))[b]?=_;rw[acD,aay rfl]
   grind [wI,Sort.onCells]
  have hf:=finish hW (r:=l.mergeSort λx y=>decide (x<=y)) p H (by simp) E (λi hi=>by
   have L:i<l.length:=by simpa using hi
   grind [aqC,Sort.putCells])
  simp_all
theorem as8(l:List UInt8)(hl:l.length<4611686018427387904):CY P 151 5 evB l (Lib.compact l):=by
 intro B g w x hW p;rcases lV p with ⟨rfl,rfl⟩|⟨b,cap,rfl,hb,h1,h2⟩
 ·exact Ld [] (by simp) B g w _ hW p
 ·obtain⟨s1,s2,s3,J⟩:=start hW p;have hc:=Any.slices_Compact_int (P:=P) TD b 0 cap (l.map aqV) (wI w b l cap) s2 (by grind) (by simp_all);rw[abz,as7,abz] at hc;have hle:=iv l;obtain⟨r,hr⟩:∃r,r=Lib.compact l:=⟨_,rfl⟩
  rw[<-hr] at hc hle ⊢;refine(Dq (P:=P) (f0:=151) (f1:=132) (R:=λy v=>y=.slice (some ⟨b,0,none⟩) r.length cap/\∃n,v=Sort.putRow (Value.int .i64) (Sort.ahead (wI w b l cap) n) b 0 (r.map aqV++List.replicate (l.length-r.length) 0).toArray) (by decide) (by decide) rfl hW p (hc.mono λe v h=>⟨_,h.1,rfl,h.2⟩)).mono ?_;rintro L w' ⟨x,y,v,rfl,⟨rfl,n,rfl⟩,H,hx⟩;have I:x=.slice (some ⟨b,0,none⟩) (r).length cap:=hx.1.symm;subst I;have E:(Sort.putRow (Value.int .i64) (Sort.ahead (wI w b l cap) n) b 0 ((r).map aqV++List.replicate (l.length-(r).length) 0).toArray).heap[b]?=some (.cells (Sort.putCells (Value.int .i64) 0 ((r).map aqV++List.replicate (l.length-(r).length) 0).toArray (aqC l cap)) 3 (0,0)):=by
   show((wI w b l cap).heap.modify b (Sort.onCells _))[b]?=_;rw[acD,aay rfl]
   grind [wI,Sort.onCells]
  have hf:=finish hW (r:=r) p H hle E (λi hi=>by
   grind [aqC,Sort.putCells])
  exact⟨_,rfl,hf.1,hf.2.1,hf.2.2.1,λc hc=>hc,hf.2.2.2⟩
end
end Go.Proofs.YtjagmhagphbfcaaGreatDoor.Mi
namespace Go.Proofs.YtjagmhagphbfcaaGreatDoor
open Go renaming Value→am,World→ap,Program→aC,TypeId→b8,Frame→bn,Operand→ct
open Go Go.Proofs
section
variable{P:aC}[l:cL P]
theorem ar8(ws:List (List UInt8))(hw:∀w∈ws,w.length=10)(hn:ws.length<100000000)(Y:List UInt8->List UInt8)(p:FuncId)(l1 l2:List AV)(E:Enters P p)(hl1:l1.map AV.strip=l1)(hl2:l2.map AV.strip=l2)
  (H:∀w∈ws,aq P p (l1++ [.ag (ao w)]++l2) (.sq none 1 (ao (Y w)))) (hb:(ws.flatMap Y).length<=4000000000000):aq P 105 [.sq none 10 (amE ws),.fn p l1 l2] (.sq none 1 (ao (uB (ws.flatMap Y)))):=
 qE (R:=λn w y=>∃g2,Row n 5 g2 w y _) (mP (.inr (.inl ⟨rfl,rfl,rfl,rfl,rfl,rfl⟩)) (λh=>absurd h (by decide)) CB ⟨⟩ ⟨⟩ ⟨⟩ ⟨⟩ ⟨⟩ ws hw hn Y p l1 l2 E hl1 hl2 H hb (Mi.asI _ (by omega)) (Mi.as8 _ (by rw[af0];omega)))
def aqH(h:ay)(d:Int):List UInt8:=uB ((aB h).flatMap λw=> [nX w d])
theorem ar2(h:ay)(hm:j9 h)(d:Int):aq P 46 [.ag (o6 h),.i .i64 d] (.tu [.s (bK h [mT d] (aqH h d) []),.i .i64 (bJ h [mT d])]):=by
 obtain⟨A,J,p⟩:=kA (P:=P) h hm [mT d] (by simp);obtain⟨B,I,H⟩:=ca (HY (P:=P) d);simp only[o6,List.map_cons,List.map_nil] at p;by_cases ho:bJ h [mT d]=0
 ·have hr:bZ h [mT d]=opened h:=by simp[bZ,ho]
  rw[hr] at p;simp only[opened,aj,o6,aaT,aaV] at p;obtain⟨hc,fM,_⟩:=ij ho;have hd:0<=d/\d<=9:=by
   refine aaO λhn=>?_
   have:mT d=1:=by unfold mT;rw[aat hn]
   rw[this] at fM;simp[bN] at fM
  have M:aq P 105 [.sq none 10 (amE (aB h)),.fn 106 [] [.sp [.i .i64 d]]] (.sq none 1 (ao (aqH h d))):=by
   unfold aqH;refine ar8 (aB h) (cI hc) (jc hc) (λw=> [nX w d]) 106 [] [.sp [.i .i64 d]] (aR Tryz.func106) rfl (by simp) (λw hw=>?_) ?_
   ·exact BV w d (cI hc w hw) hd.1 hd.2
   ·rw[rT,abz];have:=jc hc;omega
  obtain⟨C,O,hC⟩:=ca M;have N:=mZ (aqH h d);refine fi (ak (aR Tryz.func74) J (ak (aR Tryz.func104) I (ak (aR Tryz.func105) O (au P)))) (lf Tryz.func46) ?_
  repeat' first|apply nI|(refine eI aqJ λK E=>?_;simp[o6,ab,az,p,H,hC,bne,N];apply E)
  simp[Dn,dc,aH,Tryz.f46,bK,ho]
 ·have hr:bZ h [mT d]=cG (bJ h [mT d]):=by simp[bZ,ho]
  rw[hr] at p;simp only[cG,dQ] at p;have L:(bJ h [mT d]==0)=false:=by simp[ho]
  refine fi (ak (aR Tryz.func74) J (ak (aR Tryz.func104) I (au P))) (lf Tryz.func46) ?_
  repeat' first|apply nI|(refine eI aqJ λK E=>?_;simp[o6,ab,az,p,H,bne,L];apply E)
  simp[Dn,dc,aH,Tryz.f46,bK,ho]
end
@[simp] abbrev aih:List Nat:=[0,1,2,3,4,32,37,46,51,61]
section
variable{P:aC}[l:cL P]
def gC(h:ay):Bool:=decide (40<h.L.length)||decide (40<h.S.length)||decide (40<h.R.length)||decide (20<h.alike.length)||decide (20<h.tags.length)||h.alike.any (λs=>decide (40<s.length))||h.tags.any (λt=>decide (40<t.reads.length))
theorem Jp{h:ay}(hg:gC h=false):Fair h:=by
 simp only[gC,Bool.or_eq_false_iff,aac,ag8,aan] at hg;obtain⟨⟨⟨⟨⟨⟨h1,h2⟩,J⟩,I⟩,H⟩,E⟩,p⟩:=hg;exact⟨by omega,by omega,by omega,by omega,λs hs=>by have:=E s hs;omega,by omega,λt ht=>by have:=p t ht;omega⟩
theorem E_{h:ay}(hg:40<h.L.length\/40<h.S.length\/40<h.R.length\/20<h.alike.length\/20<h.tags.length):gC h=true:=by
 simp only[gC,adr,aan];rcases hg with g|g|g|g|g <;>simp[g]
theorem KY(h:ay):aq P 16 [.ag (o6 h)] (.b (gC h)):=by
 have N:(o6 h).map AV.strip=o6 h:=by simp[o6]
 refine fi (au P) (lf Tryz.func16) ?_;have J:=cV h.tags
 repeat' first|apply nI|(refine eI aih λK p=>?_;simp[o6,J];first|apply p|(refine aE (λhc=>?_) (λhc=>?_) <;>(try simp only[aan,aac] at hc) <;>simp[hc,o6,J] <;>repeat' (first|apply p|(refine aE (λhc=>?_) (λhc=>?_) <;>(try simp only[aan,aac] at hc) <;>simp[hc,o6,J])|fail))|fail)
 all_goals try (have H:gC h=true:=E_ (by omega);simp[Dn,aH,Tryz.f16,H];done)
 by_cases g5:20<(h.tags.length:Int)
 ·have H:gC h=true:=E_ (by omega);have I:=g5
  repeat' first|apply nI|(refine eI aih λK p=>?_;simp[o6,I];apply p)
  simp[Dn,aH,Tryz.f16,H]
 ·have I:=g5
  repeat' first|apply nI|(refine eI aih λK p=>?_;simp[o6,I];apply p)
  have na:h.alike.length<=20:=by omega
  have nt:h.tags.length<=20:=by omega
  refine amF (λd T B lv nx=>∃k,k+d=h.alike.length/\T 1=.sp (o6 h)/\T 3=.i .i64 k/\∀s∈h.alike.take k,¬40<s.length) h.alike.length ?_ ?_
  ·exact⟨0,by simp,by simp[o6],by simp,by simp⟩
  rintro d T B lv nx ⟨k,hk,t1,t3,hp⟩;have w1:=aS ((k:Int)+1);by_cases E:k<h.alike.length
  ·have da:(h.alike.map AV.s).drop k=.s h.alike[k]::(h.alike.map AV.s).drop (k+1):=by rw[aa4 (by simpa using E)];simp
   have ga:h.alike[k]?=some h.alike[k]:=aaf E;have ta:h.alike.take (k+1)=h.alike.take k++ [h.alike[k]]:=aaN E;have hm:h.alike[k]∈h.alike:=abG E;generalize h.alike[k]=s at da ga ta hm;by_cases h40:40<(s.length:Int)
   ·have H:gC h=true:=by
     have:h.alike.any (λs=>decide (40<s.length))=true:=afl.2 ⟨s,hm,by simp;omega⟩;simp[gC,this]
    repeat' first|apply nI|(refine eI aih λK p=>?_;simp[t1,t3,o6,E,da,ga,h40,w1];apply p)
    simp[Dn,aH,Tryz.f16,H]
   ·repeat' first|apply nI|(refine eI aih λK p=>?_;simp[t1,t3,o6,E,da,ga,h40,w1];apply p)
    refine aN (d-1) ⟨k+1,by omega,by simp[t1,o6],by simp,λx hx=>?_⟩;rw[ta,abH] at hx;rcases hx with hx|hx
    ·exact hp x hx
    ·simp only[abZ,adz,aeP] at hx;subst hx;omega
  ·have L:k=h.alike.length:=by omega
   subst L;rw[aeo] at hp
   repeat' first|apply nI|(refine eI aih λK p=>?_;simp[t1,t3,o6];apply p)
   refine amF (λd T B lv nx=>∃k,k+d=h.tags.length/\T 1=.sp (o6 h)/\T 4=.i .i64 k/\∀t∈h.tags.take k,¬40<t.reads.length) h.tags.length ?_ ?_
   ·exact⟨0,by simp,by simp[o6],by simp,by simp⟩
   rintro d T B lv nx ⟨k,hk,t1,t4,M⟩;have w1:=aS ((k:Int)+1);by_cases E:k<h.tags.length
   ·have da:=fA h.tags k h.tags[k] (aaf E);have hle:(k+1)*3<=h.tags.length*3:=by omega
    have ta:h.tags.take (k+1)=h.tags.take k++ [h.tags[k]]:=aaN E;have hm:h.tags[k]∈h.tags:=abG E;generalize h.tags[k]=t at da ta hm;by_cases h40:40<(t.reads.length:Int)
    ·have H:gC h=true:=by
      have:h.tags.any (λt=>decide (40<t.reads.length))=true:=afl.2 ⟨t,hm,by simp;omega⟩;simp[gC,this]
     repeat' first|apply nI|(refine eI aih λK p=>?_;simp[t1,t4,o6,E,J,hle,da,h40,w1];apply p)
     simp[Dn,aH,Tryz.f16,H]
    ·repeat' first|apply nI|(refine eI aih λK p=>?_;simp[t1,t4,o6,E,J,hle,da,h40,w1];apply p)
     refine aN (d-1) ⟨k+1,by omega,by simp[t1,o6],by simp,λx hx=>?_⟩;rw[ta,abH] at hx;rcases hx with hx|hx
     ·exact M x hx
     ·simp only[abZ,adz,aeP] at hx;subst hx;omega
   ·have L:k=h.tags.length:=by omega
    subst L;rw[aeo] at M;have H:gC h=false:=by
     simp only[gC,Bool.or_eq_false_iff,aac,ag8,aan];exact⟨⟨⟨⟨⟨⟨by omega,by omega⟩,by omega⟩,by omega⟩,by omega⟩,hp⟩,M⟩
    repeat' first|apply nI|(refine eI aih λK p=>?_;simp[t1,t4,o6,J];apply p)
    simp[Dn,aH,Tryz.f16,H]
end
section
variable{P:aC}[l:cL P]
theorem BE(s:List UInt8)(hs:s.length<1000000):aq P 83 [.s s] (.i .i64 (aM s)):=by
 obtain⟨A,N,H⟩:=ca (VL (P:=P) s.length 1 5);obtain⟨B,M,E⟩:=ca (uA (P:=P) s 63 hs);obtain⟨C,L,hC⟩:=ca (Eg (P:=P) s 63 hs);have O:(((63:UInt8).toNat:Nat):Int)=63:=rfl;rw[O] at E hC;refine fi (ak (aR Tryz.func42) N (ak (aR Tryz.func138) M (ak (aR Tryz.func124) L (au P)))) (lf Tryz.func83) ?_;by_cases h1:(1:Int)<=s.length/\(s.length:Int)<=5
 ·have hb:¬(s.length<1\/5<s.length):=by omega
  have hd:(decide ((1:Int)<=s.length)&&decide ((s.length:Int)<=5))=true:=by simp;omega
  rw[hd] at H;cases h2:bA s 63 with
  |false=>
   rw[h2] at E
   repeat' first|apply nI|(refine eI [0,2,6,9,12] λK p=>?_;simp[ab,az,H,E];apply p)
   have hv:aM s=3:=by unfold aM;rw[aat hb,aay h2]
   simp[Dn,aH,Tryz.f83,hv]
  |true=>
   rw[h2] at E;by_cases J:(2:Int)<s.count 63
   ·have I:2<s.count 63:=by omega
    repeat' first|apply nI|(refine eI [0,2,6,9,12] λK p=>?_;simp[ab,az,H,E,hC,J];apply p)
    have hv:aM s=2:=by unfold aM;rw[aat hb,aat (by rw[h2];decide),aay I]
    simp[Dn,aH,Tryz.f83,hv]
   ·have I:¬2<s.count 63:=by omega
    repeat' first|apply nI|(refine eI [0,2,6,9,12] λK p=>?_;simp[ab,az,H,E,hC,J];apply p)
    have hv:aM s=0:=by unfold aM;rw[aat hb,aat (by rw[h2];decide),aat I]
    simp[Dn,aH,Tryz.f83,hv]
 ·have hb:s.length<1\/5<s.length:=by omega
  have hd:(decide ((1:Int)<=s.length)&&decide ((s.length:Int)<=5))=false:=by
   cases hx:(decide ((1:Int)<=s.length)&&decide ((s.length:Int)<=5)) with
   |false=>rfl
   |true=>simp at hx;omega
  rw[hd] at H
  repeat' first|apply nI|(refine eI [0,2,6,9,12] λK p=>?_;simp[ab,az,H];apply p)
  have hv:aM s=2:=by unfold aM;rw[aay hb]
  simp[Dn,aH,Tryz.f83,hv]
theorem Gi(a b H hi:Int):aq P 152 [.ag [.i .i64 a,.i .i64 b],.i .i64 H,.i .i64 hi] (.b (decide (H<=a/\a<=b/\b<=hi))):=by
 refine fi (au P) (lf Tryz.func152) ?_;by_cases h1:H<=a
 ·by_cases h2:a<=b
  ·by_cases E:b<=hi
   ·repeat' first|apply nI|(refine eI [0,1,2,3,6] λK p=>?_;simp[h1,h2,E];apply p)
    simp[Dn,aH,Tryz.f152,h1,h2,E]
   ·repeat' first|apply nI|(refine eI [0,1,2,3,6] λK p=>?_;simp[h1,h2,E];apply p)
    simp[Dn,aH,Tryz.f152,h1,h2,E]
  ·repeat' first|apply nI|(refine eI [0,1,2,3,6] λK p=>?_;simp[h1,h2];apply p)
   simp[Dn,aH,Tryz.f152,h1,h2]
 ·repeat' first|apply nI|(refine eI [0,1,2,3,6] λK p=>?_;simp[h1];apply p)
  simp[Dn,aH,Tryz.f152,h1]
theorem BG(a b:Int):aq P 110 [.ag [.i .i64 a,.i .i64 b]] (.b (dR a b)):=by
 obtain⟨A,H,E⟩:=ca (Gi (P:=P) a b 0 99999);refine fi (ak (aR Tryz.func152) H (au P)) (lf Tryz.func110) ?_
 repeat' first|apply nI|(refine eI [0,1,2] λK p=>?_;simp[ab,E];apply p)
 simp[Dn,aH,Tryz.f110,dR]
end
@[simp] abbrev aia:List Nat:=[0,1,2,3,4,32,45,57,71]
section
variable{P:aC}[l:cL P]
theorem L9{c d:UInt8}(h:(c.toNat:Int)=d.toNat):c=d:=UInt8.toNat_inj.1 (by omega)
theorem arj:∃F:List AV->Option AV,Den P 138 F/\∀(s:List UInt8) (c:UInt8),s.length<1000000->F [.s s,.i .u8 c.toNat]=some (.b (bA s c)):=by
 obtain⟨F,h1,h2⟩:=cC (P:=P) (f:=138) (ι:=List UInt8×UInt8) (λx=> [.s x.1,.i .u8 x.2.toNat]) (λx=>.b (bA x.1 x.2)) (λx=>x.1.length<1000000) (λx y _ _ e=>by
  simp only[abg,AV.s.injEq,AV.i.injEq,adM,abQ] at e;rw[e.1,L9 e.2]) (λx hx=>uA x.1 x.2 hx)
 exact⟨F,h1,λs c hs=>h2 (s,c) hs⟩
theorem Ng:∃F:List AV->Option AV,Den P 124 F/\∀(s:List UInt8) (c:UInt8),s.length<1000000->F [.s s,.i .u8 c.toNat]=some (.i .i64 (s.count c)):=by
 obtain⟨F,h1,h2⟩:=cC (P:=P) (f:=124) (ι:=List UInt8×UInt8) (λx=> [.s x.1,.i .u8 x.2.toNat]) (λx=>.i .i64 (x.1.count x.2)) (λx=>x.1.length<1000000) (λx y _ _ e=>by
  simp only[abg,AV.s.injEq,AV.i.injEq,adM,abQ] at e;rw[e.1,L9 e.2]) (λx hx=>Eg x.1 x.2 hx)
 exact⟨F,h1,λs c hs=>h2 (s,c) hs⟩
theorem apq(h:ay)(hL:h.L.length<1000)(hS:h.S.length<1000)(hR:h.R.length<1000):aq P 108 [.ag (o6 h)] (.i .i64 (bB h)):=by
 obtain⟨A,ad,W⟩:=arj (P:=P);obtain⟨C,cd,hC⟩:=Ng (P:=P);have a1:=W h.L 63 (by omega);have a2:=W h.S 65 (by omega);have a3:=W h.R 65 (by omega);have c1:=hC h.L 63 (by omega);have Gb:(((63:UInt8).toNat:Nat):Int)=63:=rfl;have e65:(((65:UInt8).toNat:Nat):Int)=65:=rfl;rw[Gb] at a1 c1;rw[e65] at a2 a3;have i10:((h.L.length:Int)==10)=(h.L.length==10):=by
  rw[adX];simp only[ac6];omega
 have V:((h.S.length:Int)==(h.L.count 63:Int))=(h.S.length==h.L.count 63):=by
  rw[adX];simp only[ac6];omega
 refine fi (ak (aR Tryz.func138) ad (ak (aR Tryz.func124) cd (au P))) (lf Tryz.func108) ?_;by_cases b1:h.L.length=10
 ·have E:(h.L.length==10)=true:=by simp[b1]
  cases b2:bA h.L 63 with
  |false=>
   rw[b2] at a1
   repeat' first|apply nI|(refine eI aia λK p=>?_;simp[o6,i10,E,bne,ab,a1];apply p)
   simp[Dn,aH,Tryz.f108,bB,b1,b2]
  |true=>
   rw[b2] at a1;cases H:bA h.S 65 with
   |false=>
    rw[H] at a2
    repeat' first|apply nI|(refine eI aia λK p=>?_;simp[o6,i10,E,bne,ab,a1,a2];apply p)
    simp[Dn,aH,Tryz.f108,bB,b1,b2,H]
   |true=>
    rw[H] at a2;by_cases b4:1<h.R.length
    ·have J:(1:Int)<h.R.length:=by omega
     repeat' first|apply nI|(refine eI aia λK p=>?_;simp[o6,i10,E,bne,ab,a1,a2,J];apply p)
     simp[Dn,aH,Tryz.f108,bB,b1,b2,H,b4]
    ·have J:¬(1:Int)<h.R.length:=by omega
     cases I:bA h.R 65 with
     |false=>
      rw[I] at a3
      repeat' first|apply nI|(refine eI aia λK p=>?_;simp[o6,i10,E,bne,ab,a1,a2,J,a3];apply p)
      simp[Dn,aH,Tryz.f108,bB,b1,b2,H,b4,I]
     |true=>
      rw[I] at a3;by_cases b6:h.S.length=h.L.count 63
      ·have O:(h.S.length==h.L.count 63)=true:=by simp[b6]
       by_cases b7:4<h.S.length
       ·have Y:(4:Int)<h.S.length:=by omega
        repeat' first|apply nI|(refine eI aia λK p=>?_;simp[o6,i10,E,bne,ab,az,a1,a2,J,a3,c1,V,O,Y];apply p)
        have hv:bB h=2:=by
         unfold bB;rw[aat (by rw[b2,H,I];simp;omega),aay (by omega)]
        simp[Dn,aH,Tryz.f108,hv]
       ·have Y:¬(4:Int)<h.S.length:=by omega
        have hv:bB h=if dup (h.L++h.S++h.R)=true then 5 else 0:=by
         unfold bB;rw[aat (by rw[b2,H,I];simp;omega),aat (by omega)]
        have n1:¬(9223372036854775807:Int)<(h.L.length:Int)+h.S.length:=by omega
        have n2:¬(9223372036854775807:Int)<(h.L.length:Int)+h.S.length+h.R.length:=by omega
        repeat' first|apply nI|(refine eI aia λK p=>?_;simp[o6,i10,E,bne,ab,az,a1,a2,J,a3,c1,V,O,Y,n1,n2];apply p)
        have F3:(h.L++h.S++h.R).length<3000:=by simp only[abj];omega
        refine amF (λd T B lv nx=>∃k,k+d=(h.L++h.S++h.R).length/\T 3=.s (h.L++h.S++h.R)/\T 4=.i .i64 k/\((h.L++h.S++h.R).take k).any (λc=>c !=63&&decide (1<(h.L++h.S++h.R).count c))=false) (h.L++h.S++h.R).length ?_ ?_
        ·exact⟨0,by simp,by simp,by simp,by simp⟩
        rintro d T B lv nx ⟨k,hk,t3,t4,hp⟩;have w1:=aS ((k:Int)+1);generalize h.L++h.S++h.R=w at *;by_cases N:k<w.length
        ·have LW:=hC w w[k] (by omega);have U:((w[k].toNat:Int)==63)=(w[k]==63):=kn w[k] 63 (by omega);have jF:(w.take (k+1)).any (λc=>c !=63&&decide (1<w.count c))=(w[k] !=63&&decide (1<w.count w[k])):=by
          rw[aaN N,aeC,hp];simp
         cases M:(w[k]==63) with
         |true=>
          repeat' first|apply nI|(refine eI aia λK p=>?_;simp[t3,t4,N,bne,U,M,w1];apply p)
          refine aN (d-1) ⟨k+1,by omega,by simp[t3],by simp,by rw[jF];simp[bne,M]⟩
         |false=>
          by_cases WX:(1:Int)<(w.count w[k]:Int)
          ·have Z:1<w.count w[k]:=by omega
           have hd:dup w=true:=by
            unfold dup;rw[afl];exact⟨w[k],abG N,by simp[bne,M,Z]⟩
           rw[hd] at hv
           repeat' first|apply nI|(refine eI aia λK p=>?_;simp[t3,t4,N,bne,U,M,w1,ab,az,LW,WX];apply p)
           simp[Dn,aH,Tryz.f108,hv]
          ·have Z:¬1<w.count w[k]:=by omega
           repeat' first|apply nI|(refine eI aia λK p=>?_;simp[t3,t4,N,bne,U,M,w1,ab,az,LW,WX];apply p)
           refine aN (d-1) ⟨k+1,by omega,by simp[t3],by simp,by rw[jF];simp[Z]⟩
        ·have gg:k=w.length:=by omega
         subst gg;have hd:dup w=false:=by simpa[dup] using hp
         rw[hd] at hv
         repeat' first|apply nI|(refine eI aia λK p=>?_;simp[t3,t4];apply p)
         simp[Dn,aH,Tryz.f108,hv]
      ·have O:(h.S.length==h.L.count 63)=false:=by simp[b6]
       repeat' first|apply nI|(refine eI aia λK p=>?_;simp[o6,i10,E,bne,ab,az,a1,a2,J,a3,c1,V,O];apply p)
       have hv:bB h=2:=by
        unfold bB;rw[aat (by rw[b2,H,I];simp;omega),aay (by omega)]
       simp[Dn,aH,Tryz.f108,hv]
 ·have E:(h.L.length==10)=false:=by simp[b1]
  repeat' first|apply nI|(refine eI aia λK p=>?_;simp[o6,i10,E,bne];apply p)
  simp[Dn,aH,Tryz.f108,bB,b1]
end
@[simp] abbrev ah1:List Nat:=[0,2,3,4,7,11,27,38,41,78]
section
variable{P:aC}[l:cL P]
theorem BJ(a:List (List UInt8))(ht:∀s∈a,s.length<1000000):aq P 109 [strs a] (.i .i64 (bj a)):=by
 obtain⟨A,ad,hA⟩:=arj (P:=P);have e65:(((65:UInt8).toNat:Nat):Int)=65:=rfl;refine fi (ak (aR Tryz.func138) ad (au P)) (lf Tryz.func109) ?_;by_cases h5:4<a.length
 ·have E8:(4:Int)<a.length:=by omega
  repeat' first|apply nI|(refine eI ah1 λK E=>?_;simp[strs,E8];apply E)
  simp[Dn,aH,Tryz.f109,bj,h5]
 ·have E8:¬(4:Int)<a.length:=by omega
  repeat' first|apply nI|(refine eI ah1 λK E=>?_;simp[strs,E8];apply E)
  refine amF (λd' T B lv nx=>∃k,k+d'=a.length/\T 0=strs a/\T 3=.i .i64 k/\bj a=cb (a.take k) (a.drop k)/\∀s∈a.take k,s.length=2) a.length ?_ ?_
  ·exact⟨0,by simp,by simp[strs],by simp,by simp[bj,h5],by simp⟩
  ·rintro d' T B lv nx ⟨k,hk,t0,t3,hp,h2⟩;have w1:=aS ((k:Int)+1);by_cases H:k<a.length
   ·have rM:a.drop k=a[k]::a.drop (k+1):=aa4 H;have jF:a.take (k+1)=a.take k++ [a[k]]:=aaN H;rw[rM] at hp;have M:=hA a[k] 65 (ht _ (abG H));rw[e65] at M;have da:(a.map AV.s).drop k=.s a[k]::(a.map AV.s).drop (k+1):=by rw[aa4 (by simpa using H)];simp
    have ga:a[k]?=some a[k]:=aaf H;by_cases hl2:a[k].length=2
    ·obtain⟨y,z,hs⟩:∃y z,a[k]= [y,z]:=by
      match a[k],hl2 with
      | [y,z],_=>exact⟨y,z,rfl⟩
     rw[hs] at M hp da ga;have Jc:=dV y z;have Cp:∀s∈a.take (k+1),s.length=2:=by
      intro s O;rw[jF] at O;rcases abH.1 O with O|O
      ·exact h2 s O
      ·rw[acE.1 O];exact hl2
     cases U:bA [y,z] 65 with
     |false=>
      rw[U] at M;have hv:bj a=3:=by rw[hp];simp[cb,eR,U]
      repeat' first|apply nI|(refine eI ah1 λK E=>?_;simp[t0,t3,strs,H,da,ga,ab,M,w1,bne];apply E)
      simp[Dn,aH,Tryz.f109,hv]
     |true=>
      rw[U] at M;cases Hj:(y==z) with
      |true=>
       have Y:y=z:=by simpa using Hj
       have hv:bj a=5:=by rw[hp];subst Y;simp[cb,eR,U]
       repeat' first|apply nI|(refine eI ah1 λK E=>?_;simp[t0,t3,strs,H,da,ga,ab,M,Jc,Hj,w1,bne];apply E)
       simp[Dn,aH,Tryz.f109,hv]
      |false=>
       have Y:¬y=z:=by simpa using Hj
       repeat' first|apply nI|(refine eI ah1 λK E=>?_;simp[t0,t3,strs,H,da,ga,ab,M,Jc,Hj,w1,bne];apply E)
       refine amF (λd2 T B lv nx=>∃j,j+d2=k/\T 0=strs a/\T 3=.i .i64 k/\T 4=.i .i64 j/\(a.take j).any (cP · [y,z])=false) k ?_ ?_
       ·exact⟨0,by simp,by simp[t0,strs],by simp[t3],by simp,by simp⟩
       rintro d2 T B lv nx ⟨j,hj,t0,t3,t4,hq⟩;have w2:=aS ((j:Int)+1);by_cases Hx:j<k
       ·have L:j<a.length:=by omega
        have J:a[j]∈a.take k:=agD.2 ⟨j,by omega,rfl⟩;have htj:a.take (j+1)=a.take j++ [a[j]]:=aaN L;have W:(a.map AV.s).drop j=.s a[j]::(a.map AV.s).drop (j+1):=by rw[aa4 (by simpa using L)];simp
        have V:a[j]?=some a[j]:=aaf L;have h2j:=h2 _ J;obtain⟨p,q,iJ⟩:∃p q,a[j]= [p,q]:=by
         match a[j],h2j with
         | [p,q],_=>exact⟨p,q,rfl⟩
        rw[iJ] at W V J;have pj:(a.take (j+1)).any (cP · [y,z])=cP [p,q] [y,z]:=by
         rw[htj,aeC,hq,iJ];simp
        have gT:cP [p,q] [y,z]=true->bj a=5:=λhb=>by
         have hx:(a.take k).any (cP · [y,z])=true:=afl.2 ⟨_,J,hb⟩;rw[hp];simp[cb,eR,U,Y,hx]
        have b1:=dV p z;have b2:=dV q y;cases I:([p,q]== [y,z]) with
        |true=>
         have hv:=gT (by simp[cP,I])
         repeat' first|apply nI|(refine eI ah1 λK E=>?_;simp[t0,t3,t4,strs,H,L,Hx,da,ga,W,V,I,w2];apply E)
         simp[Dn,aH,Tryz.f109,hv]
        |false=>
         cases N:(p==z) with
         |false=>
          have hn:cP [p,q] [y,z]=false:=by simp[cP,I,N]
          repeat' first|apply nI|(refine eI ah1 λK E=>?_;simp[t0,t3,t4,strs,H,L,Hx,da,ga,W,V,I,b1,N,w2];apply E)
          refine aN (d2-1) ⟨j+1,by omega,by simp[t0,strs],by simp[t3],by simp,by rw[pj];exact hn⟩
         |true=>
          cases Z:(q==y) with
          |true=>
           have hv:=gT (by simp[cP,I,N,Z])
           repeat' first|apply nI|(refine eI ah1 λK E=>?_;simp[t0,t3,t4,strs,H,L,Hx,da,ga,W,V,I,b1,N,b2,Z,w2];apply E)
           simp[Dn,aH,Tryz.f109,hv]
          |false=>
           have hn:cP [p,q] [y,z]=false:=by simp[cP,I,N,Z]
           repeat' first|apply nI|(refine eI ah1 λK E=>?_;simp[t0,t3,t4,strs,H,L,Hx,da,ga,W,V,I,b1,N,b2,Z,w2];apply E)
           refine aN (d2-1) ⟨j+1,by omega,by simp[t0,strs],by simp[t3],by simp,by rw[pj];exact hn⟩
       ·have hjj:j=k:=by omega
        subst hjj;have hv:bj a=cb (a.take (j+1)) (a.drop (j+1)):=by
         rw[hp,jF,hs];simp[cb,eR,U,Y,hq]
        repeat' first|apply nI|(refine eI ah1 λK E=>?_;simp[t0,t3,t4,strs,w1];apply E)
        refine aN (d'-1) ⟨j+1,by omega,by simp[t0,strs],by simp,hv,Cp⟩
    ·have Wz:((a[k].length:Int)==2)=false:=by simp;omega
     have hv:bj a=3:=by rw[hp];simp[cb,eR,hl2]
     repeat' first|apply nI|(refine eI ah1 λK E=>?_;simp[t0,t3,strs,H,da,ga,Wz,w1,bne];apply E)
     simp[Dn,aH,Tryz.f109,hv]
   ·have gg:k=a.length:=by omega
    subst gg
    repeat' first|apply nI|(refine eI ah1 λK E=>?_;simp[t0,t3,strs];apply E)
    have:bj a=0:=by rw[hp];simp[cb]
    simp[Dn,aH,Tryz.f109,this]
end
@[simp] abbrev aic:List Nat:=[0,1,2,3,4,5,6,10,16,21,26,37,46]
section
variable{P:aC}[l:cL P]
theorem BF:∃F:List AV->Option AV,Den P 83 F/\∀(s:List UInt8),s.length<1000000->F [.s s]=some (.i .i64 (aM s)):=by
 obtain⟨F,h1,h2⟩:=cC (P:=P) (f:=83) (ι:=List UInt8) (λx=> [.s x]) (λx=>.i .i64 (aM x)) (λx=>x.length<1000000) (λx y _ _ e=>by
  simp only[abg,AV.s.injEq,abQ] at e;rw[e]) (λx hx=>BE x hx)
 exact⟨F,h1,h2⟩
theorem BH:∃F:List AV->Option AV,Den P 110 F/\∀a b:Int,F [.ag [.i .i64 a,.i .i64 b]]=some (.b (dR a b)):=by
 obtain⟨F,h1,h2⟩:=cC (P:=P) (f:=110) (ι:=Int×Int) (λx=> [.ag [.i .i64 x.1,.i .i64 x.2]]) (λx=>.b (dR x.1 x.2)) (λ_=>True) (λx y _ _ e=>by
  simp only[abg,AV.ag.injEq,AV.i.injEq,adM,abQ] at e;rw[e.1,e.2]) (λx _=>BG x.1 x.2)
 exact⟨F,h1,λa b=>h2 (a,b) trivial⟩
theorem BI(h:ay)(hf:Fair h):aq P 49 [.ag (o6 h)] (.i .i64 (aO h)):=by
 obtain⟨A,ad,W⟩:=ca (apq (P:=P) h (by have:=hf.L;omega) (by have:=hf.S;omega) (by have:=hf.R;omega));obtain⟨B,bd,hB⟩:=ca (BJ (P:=P) h.alike (λs hs=>by have:=hf.a s hs;omega));obtain⟨C,cd,hC⟩:=BF (P:=P);obtain⟨D,dd,hD⟩:=BH (P:=P);simp only[o6,strs] at W hB;have O:=cV h.tags;refine fi (ak (aR Tryz.func108) ad (ak (aR Tryz.func109) bd (ak (aR Tryz.func83) cd (ak (aR Tryz.func110) dd (au P))))) (lf Tryz.func49) ?_;by_cases N:bB h=0
 ·have Y:(bB h==0)=true:=by simp[N]
  by_cases V:bj h.alike=0
  ·have H:(bj h.alike==0)=true:=by simp[V]
   by_cases q3:5<h.tags.length
   ·have J:(5:Int)<h.tags.length:=by omega
    repeat' first|apply nI|(refine eI aic λK p=>?_;simp[o6,O,ab,az,W,hB,Y,H,J,bne];apply p)
    simp[Dn,aH,Tryz.f49,aO,N,V,q3]
   ·have J:¬(5:Int)<h.tags.length:=by omega
    repeat' first|apply nI|(refine eI aic λK p=>?_;simp[o6,O,ab,az,W,hB,Y,H,J,bne];apply p)
    have hh:aO h=cR h.tags:=by simp[aO,N,V,q3]
    refine amF (λd T B lv nx=>∃k,k+d=h.tags.length/\T 1=.sp (o6 h)/\T 5=.i .i64 k/\cR h.tags=cR (h.tags.drop k)) h.tags.length ?_ ?_
    ·exact⟨0,by simp,by simp[o6],by simp,by simp⟩
    rintro d T B lv nx ⟨k,hk,t1,t5,hp⟩;have w1:=aS ((k:Int)+1);by_cases U:k<h.tags.length
    ·have da:=fA h.tags k h.tags[k] (aaf U);have hle:(k+1)*3<=h.tags.length*3:=by omega
     have rM:h.tags.drop k=h.tags[k]::h.tags.drop (k+1):=aa4 U;have hm:h.tags[k]∈h.tags:=abG U;rw[rM] at hp;generalize h.tags[k]=t at da hp hm;have M:=hC t.reads (by have:=hf.t t hm;omega);have I:=hD t.low t.high;by_cases r1:aM t.reads=0
     ·have E:(aM t.reads==0)=true:=by simp[r1]
      cases Z:dR t.low t.high with
      |true=>
       rw[Z] at I
       repeat' first|apply nI|(refine eI aic λK p=>?_;simp[t1,t5,o6,U,O,hle,da,ab,az,M,I,E,bne,w1];apply p)
       refine aN (d-1) ⟨k+1,by omega,by simp[t1,o6],by simp,by rw[hp];simp[cR,r1,Z]⟩
      |false=>
       rw[Z] at I;have hv:aO h=1:=by rw[hh,hp];simp[cR,r1,Z]
       repeat' first|apply nI|(refine eI aic λK p=>?_;simp[t1,t5,o6,U,O,hle,da,ab,az,M,I,E,bne,w1];apply p)
       simp[Dn,aH,Tryz.f49,hv]
     ·have E:(aM t.reads==0)=false:=by simp[r1]
      have hv:aO h=aM t.reads:=by rw[hh,hp];simp[cR,r1]
      repeat' first|apply nI|(refine eI aic λK p=>?_;simp[t1,t5,o6,U,O,hle,da,ab,az,M,E,bne,w1];apply p)
      simp[Dn,aH,Tryz.f49,hv]
    ·have gg:k=h.tags.length:=by omega
     subst gg;have hv:aO h=0:=by rw[hh,hp];simp[cR]
     repeat' first|apply nI|(refine eI aic λK p=>?_;simp[t1,t5,o6,O];apply p)
     simp[Dn,aH,Tryz.f49,hv]
  ·have H:(bj h.alike==0)=false:=by simp[V]
   repeat' first|apply nI|(refine eI aic λK p=>?_;simp[o6,ab,az,W,hB,Y,H,bne];apply p)
   simp[Dn,aH,Tryz.f49,aO,N,V]
 ·have Y:(bB h==0)=false:=by simp[N]
  repeat' first|apply nI|(refine eI aic λK p=>?_;simp[o6,ab,az,W,Y,bne];apply p)
  simp[Dn,aH,Tryz.f49,aO,N]
end
structure Tc(h:ay)(w:List UInt8):Prop where
 len:w.length=10
 lets:∀c∈w,isLet c=true
 nod:w.Nodup
 rep:∀q∈h.R,isLet q=true/\q∉w
theorem lZ{c:UInt8}(h:isLet c=true):c≠63:=by
 rintro rfl;exact absurd h (by decide)
theorem En{s:List UInt8}(h:bA s 65=true):∀c∈s,isLet c=true:=λc hc=>by
 have:=acp.1 h c hc;rcases afn.1 this with h|h
 ·exact h
 ·rw[ac6] at h;subst h;decide
theorem Nl{s:List UInt8}(h:bA s 63=true):∀c∈s,c≠63->isLet c=true:=λc hc hn=>by
 have:=acp.1 h c hc;rcases afn.1 this with h|h
 ·exact h
 ·rw[ac6] at h;exact absurd h hn
theorem nH:∀(S:List UInt8) (k:Nat),k<S.length->(S.getD k 0::(S.take k++S.drop (k+1))).Perm S
 | [],k,h=>by simp at h
 |a::S,0,h=>by simp
 |a::S,k+1,h=>by
  have p:=nH S k (by simpa using h);simp only[List.getD_cons_succ,List.take_succ_cons,afs,aaT];exact(List.Perm.swap _ _ _).trans (p.cons a)
theorem qh:∀(L S w:List UInt8),S.length=L.count 63->w∈e_ L S->w.Perm (L.filter (· !=63)++S)
 | [],S,w,hl,hw=>by
  have:S= []:=abA hl;subst this;simp[e_] at hw;subst hw;exact List.Perm.refl _
 |c::L,S,w,hl,hw=>by
  unfold e_ at hw;split at hw
  ·rename_i hc;subst hc;simp only[aeQ,ac4,aeh] at hw;obtain⟨k,hk,v,hv,rfl⟩:=hw;have hp:=nH S k hk;have p:(S.take k++S.drop (k+1)).length=L.count 63:=by
    have:=hp.length_eq;rw[List.count_cons_self] at hl;simp only[ab0] at this;omega
   have E:=qh L _ v p hv;have e:(63::L:List UInt8).filter (· !=63)=L.filter (· !=63):=by simp
   rw[e];refine(E.cons _).trans ?_;refine List.perm_middle.symm.trans ?_;exact List.Perm.append_left _ hp
  ·rename_i hc;simp only[ac4] at hw;obtain⟨v,hv,rfl⟩:=hw;rw[List.count_cons_of_ne (λe=>hc e)] at hl;have e:(c::L:List UInt8).filter (· !=63)=c::L.filter (· !=63):=by simp[hc]
   rw[e];exact(qh L S v hl hv).cons c
theorem La{a:List UInt8}(h:dup a=false):(a.filter (· !=63)).Nodup:=by
 rw[List.nodup_iff_count];intro c;by_cases hm:c∈a.filter (· !=63)
 ·obtain⟨h1,h2⟩:=afJ.1 hm;have:=ag8.1 h c h1;rw[h2,Bool.true_and,aan] at this;have p:(a.filter (· !=63)).count c<=a.count c:=List.filter_sublist.count_le c;omega
 ·rw[List.count_eq_zero_of_not_mem hm];omega
theorem aiZ{h:ay}(hc:aO h=0){w:List UInt8}(hw:w∈e_ h.L h.S):Tc h w:=by
 obtain⟨⟨h1,h2,N,W,M,J,V,I⟩,_⟩:=checked h hc;have hp:=qh h.L h.S w J hw;have p:=En N;have E:=En M;have hn:=La I;have O:h.S.filter (· !=63)=h.S:=List.filter_eq_self.2 λc hc=>by simpa using lZ (p c hc)
 have U:h.R.filter (· !=63)=h.R:=List.filter_eq_self.2 λc hc=>by simpa using lZ (E c hc)
 rw[ag2,ag2,O,U,List.nodup_append] at hn;obtain⟨n1,_,H⟩:=hn;refine⟨(th _ _ _ hw).trans h1,λc hc=>?_,hp.nodup_iff.2 n1,λq hq=>⟨E q hq,λhm=>H q (hp.mem_iff.1 hm) q hq rfl⟩⟩;rcases abH.1 (hp.mem_iff.1 hc) with hm|hm
 ·obtain⟨m1,m2⟩:=afJ.1 hm;exact Nl h2 c m1 (by simpa using m2)
 ·exact p c hm
theorem MX{h:ay}(hc:aO h=0){w:List UInt8}(hw:w∈aB h):Tc h w:=aiZ hc (afJ.1 hw).1
theorem getD_inj{w:List UInt8}(hn:w.Nodup){j k:Nat}(p:j<w.length)(hk:k<w.length)(h:w.getD j 0=w.getD k 0):j=k:=by
 rw[abM,abM,aaf p,aaf hk] at h;exact(List.getElem_inj hn).1 h
theorem K4{h:ay}(hf:Fair h):j9 h:=by
 have h1:=hf.L;have h2:=hf.S;have H:=hf.R;have E:=hf.na;have p:=hf.nt;exact⟨by omega,by omega,by omega,by omega,λs hs=>by have:=hf.a s hs;omega,by omega,λt ht=>by have:=hf.t t ht;omega⟩
section
variable{P:aC}[l:cL P]
end
@[simp] abbrev apU:List Nat:=[0,1,2,6,7,8,10,15,27]
def an0(p L S:List UInt8):List (List UInt8):=(e_ L S).map (p++ ·)
theorem an_:∀(L S:List UInt8),S.length<=10->(e_ L S).length<=10^L.length
 | [],_,_=>by simp[e_]
 |c::L,S,p=>by
  unfold e_;split
  ·rw[List.length_flatMap,ab0,Nat.pow_succ];have:∀k∈List.range S.length,((e_ L (S.take k++S.drop (k+1))).map (S.getD k 0:: ·)).length<=10^L.length:=λk hk=>by
    rw[abz];exact an_ L _ (by grind)
   have h2:((List.range S.length).map λk=>((e_ L (S.take k++S.drop (k+1))).map (S.getD k 0:: ·)).length).sum<=S.length*10^L.length:=by
    have key:∀l:List Nat,(∀k∈l,((e_ L (S.take k++S.drop (k+1))).map (S.getD k 0:: ·)).length<=10^L.length)->(l.map λk=>((e_ L (S.take k++S.drop (k+1))).map (S.getD k 0:: ·)).length).sum<=l.length*10^L.length:=by
     intro l
     induction l with
     |nil=>simp
     |cons a l E=>
      grind [Nat.succ_mul]
    grind
   refine aaY h2 ?_;rw[Nat.mul_comm];exact Nat.mul_le_mul_left _ p
  ·rw[abz,ab0,Nat.pow_succ];have:=an_ L S p;omega
def an5(p L S:List UInt8)(k:Nat):List (List UInt8):=(List.range k).flatMap λj=>an0 (p++ [S.getD j 0]) L (S.take j++S.drop (j+1))
theorem apE(p L S:List UInt8):an5 p L S S.length=an0 p (63::L) S:=by
 simp_all [List.map_flatMap,Function.comp_def,an5,an0,e_]
theorem aoN(p L S:List UInt8)(k:Nat):an5 p L S (k+1)=an5 p L S k++an0 (p++ [S.getD k 0]) L (S.take k++S.drop (k+1)):=by
 grind [List.range_succ,an5]
theorem aoW(p L S:List UInt8)(E:S.length<=10):∀k≤S.length,(an5 p L S k).length<=k*10^L.length
 |0,_=>by simp[an5]
 |k+1,hk=>by
  have H:=aoW p L S E k (by omega);rw[aoN,abj,Nat.succ_mul];have:(an0 (p++ [S.getD k 0]) L (S.take k++S.drop (k+1))).length<=10^L.length:=by
   unfold an0;rw[abz];exact an_ L _ (by grind)
  omega
section
variable{P:aC}[l:cL P]
theorem aoV:∀(n:Nat) (p L S:List UInt8),L.length=n->n<=10->S.length<=10->p.length+n<=1000->aq P 182 [.s p,.s L,.s S] (strs (an0 p L S))
 |0,p,L,S,I,_,_,_=>by
  have:L= []:=abA I;subst this;refine fi (au P) (lf Tryz.func182) ?_
  repeat' first|apply nI|(refine eI apU λK E=>?_;simp;apply E)
  simp[Dn,aH,Tryz.f182,strs,an0,e_]
 |n+1,p,L,S,I,hn,Y,hp=>by
  match L,I with
  |c::L,I=>
  have I:L.length=n:=by grind
  obtain⟨F,fd,V⟩:∃F:List AV->Option AV,Den P 182 F/\∀J U,J.length+n<=1000->U.length<=10->F [.s J,.s L,.s U]=some (strs (an0 J L U)):=by
   obtain⟨F,h1,h2⟩:=cC (P:=P) (f:=182) (ι:=List UInt8×List UInt8) (λx=> [.s x.1,.s L,.s x.2]) (λx=>strs (an0 x.1 L x.2)) (λx=>x.1.length+n<=1000/\x.2.length<=10) (λx y _ _ e=>by
    simp_all) (λx hx=>aoV n x.1 L x.2 I (by omega) hx.2 hx.1)
   exact⟨F,h1,λJ U a b=>h2 (J,U) ⟨a,b⟩⟩
  simp only[strs] at V;refine fi (ak (aR Tryz.func182) fd (au P)) (lf Tryz.func182) ?_;have W:((c.toNat:Int)==63)=(c==63):=kn c 63 (by omega);have z1:(1:Int)<=(L.length:Int)+1:=by omega
  cases hc:(c==63) with
  |false=>
   have Z:c≠63:=by grind
   have OD:=V (p++ [c]) S (by grind) Y;have n1:¬(9223372036854775807:Int)<(p.length:Int)+1:=by omega
   repeat' first|apply nI|(refine eI apU λK E=>?_;simp[W,hc,bne,n1,z1,ab,OD];apply E)
   simp_all [Dn,aH,strs,an0,e_]
  |true=>
   have Z:c=63:=by grind
   subst Z
   repeat' first|apply nI|(refine eI apU λK E=>?_;simp[W,hc,bne];apply E)
   refine amF (λd T B lv nx=>∃k τ,k+d=S.length/\T 0=.s p/\T 1=.s (63::L)/\T 2=.s S/\T 8=.i .i64 k/\T 7=.sq (some τ) 1 ((an5 p L S k).map .s)/\lv τ=some 9/\τ<nx) S.length ?_ ?_
   ·exact⟨0,6,by simp,by simp,by simp,by simp,by simp,by rfl,by simp,by simp⟩
   rintro d T B lv nx ⟨k,τ,hk,t0,t1,t2,t8,t7,l7,hτ⟩;have w1:=aS ((k:Int)+1);by_cases aK:k<S.length
   ·have N:(S.take (k+1)).drop k= [S[k]]:=by
     grind [List.take_succ_eq_append_getElem]
    have hx:S.getD k 0=S[k]:=by simp_all
    have H:=aoN p L S k;have kN:=aoW p L S Y k (by omega);have M:(an0 (p++ [S.getD k 0]) L (S.take k++S.drop (k+1))).length<=10^L.length:=by
     grind [an_,an0]
    rw[hx] at H M;generalize S[k]=x at N H M;have O:=V (p++ [x]) (S.take k++S.drop (k+1)) (by grind) (by grind);have h9:10^L.length<=1000000000:=aef (n:=10) (show 10>0 by decide) (show L.length<=9 by omega);have YD:k*10^L.length<=10*1000000000:=Nat.mul_le_mul (by omega) h9;have hlen:((an5 p L S k).length+(an0 (p++ [x]) L (S.take k++S.drop (k+1))).length)*17<=70368744177664:=by omega
    have s2:(0:Int)<=(k:Int)+1:=by omega
    have s3:(k:Int)<=(k:Int)+1:=by omega
    have s4:(k:Int)+1<=S.length:=by omega
    have s5:(k:Int)<=S.length:=by omega
    have n1:¬(9223372036854775807:Int)<(p.length:Int)+1:=by omega
    have n2:¬(9223372036854775807:Int)<((min k S.length:Nat):Int)+((S.length-(k+1):Nat):Int):=by omega
    have ZO:τ<nx+4:=by omega
    generalize an0 (p++ [x]) L (S.take k++S.drop (k+1))=ls at H O hlen
    repeat' first|apply nI|(refine eI apU λK E=>?_;simp[t0,t1,t2,t8,t7,l7,ZO,aK,N,s2,s3,s4,s5,z1,n1,n2,w1,ab,O,hlen];apply E)
    refine aN (d-1) ⟨k+1,nx+4+19,by omega,by rfl,by rfl,by rfl,by simp,by simp[H],by simp,by simp⟩
   ·have gg:k=S.length:=by omega
    subst gg;rw[apE] at t7
    repeat' first|apply nI|(refine eI apU λK E=>?_;simp[t0,t1,t2,t8,t7];apply E)
    simp[Dn,aH,Tryz.f182,strs]
theorem apC(h:ay)(H:h.L.length<=10)(E:h.S.length<=10):aq P 160 [.ag (o6 h)] (strs (e_ h.L h.S)):=by
 obtain⟨A,J,p⟩:=ca (aoV (P:=P) h.L.length [] h.L h.S rfl H E (by grind));have e:an0 [] h.L h.S=e_ h.L h.S:=by simp[an0]
 rw[e] at p;simp only[strs] at p;refine fi (ak (aR Tryz.func182) J (au P)) (lf Tryz.func160) ?_
 repeat' first|apply nI|(refine eI [0,1,2] λK I=>?_;simp[o6,ab,p];apply I)
 simp[Dn,aH,Tryz.f160,strs]
end
def afk:=@List.length_take
@[simp] abbrev apc:List Nat:=[0,2,3,4,5,9,27,44]
theorem aoD(l:List Int):(uI l).Pairwise (· < ·):=(ua M0 l).imp λh=>by omega
theorem apV{l m:List Int}(hm:m.Pairwise (· < ·))(h:∀x,x∈m↔x∈l):uI l=m:=
 nP M0 (ua M0 l) (hm.imp λh=>by omega) λx=>(lW l x).trans (h x).symm
theorem ap_(m:List Int)(x:Int)(k:Nat)(h1:∀j,(p:j<(uI m).length)->j<k->(uI m)[j]<x)(h2:∀j,(p:j<(uI m).length)->k<=j->x<=(uI m)[j]):
  uI (m++ [x])=if(uI m)[k]?=some x then uI m else(uI m).take k++ [x]++(uI m).drop k:=by
 have hs:=aoD m;have H:∀y,y∈uI m↔y∈m:=λy=>lW m y
 by_cases hx:(uI m)[k]?=some x
 ·rw[aay hx]
  grind [apV]
 ·rw[aat hx];refine apV ?_ λy=>?_
  ·rw[ae9,List.pairwise_append];refine⟨hs.sublist (List.take_sublist _ _),?_,λy hy z hz=>?_⟩
   ·rw[List.singleton_append,List.pairwise_cons];refine⟨λz hz=>?_,hs.sublist (List.drop_sublist _ _)⟩;obtain⟨j,p,rfl⟩:=List.getElem_of_mem hz;rw[List.getElem_drop];have E:k+j<(uI m).length:=by grind
    have J:=h2 (k+j) E (by omega);have hk:k<(uI m).length:=by omega
    have I:(uI m)[k]≠x:=λe=>hx (by simp_all)
    have L:=h2 k hk (aax _)
    grind [List.pairwise_iff_getElem]
   ·obtain⟨j,p,rfl⟩:=List.getElem_of_mem hy;rw[afk] at p;rw[List.getElem_take];have J:=h1 j (by omega) (by omega);rcases abH.1 hz with hz|hz
    ·simp_all
    ·obtain⟨i,hi,rfl⟩:=List.getElem_of_mem hz
     grind
  ·rw[abH,abH,abH,acE,<-H y]
   conv=>rhs;rw[<-List.take_append_drop k (uI m),abH]
   grind
section
variable{P:aC}[l:cL P]
theorem aoS(a:List Int)(ha:a.length<=1000000000000):aq P 116 [ints a] (ints (uI a)):=by
 refine fi (au P) (lf Tryz.func116) ?_
 repeat' first|apply nI|(refine eI apc λK E=>?_;simp[ints];apply E)
 refine amF (λd T B lv nx=>∃i τ,i+d=a.length/\T 0=ints a/\T 4=.i .i64 i/\T 3=.sq (some τ) 1 ((uI (a.take i)).map (.i .i64))/\lv τ=some 3/\τ<nx) a.length ?_ ?_
 ·exact⟨0,1,by simp,by rfl,by simp,by simp_all [akN,uI],by simp,by simp⟩
 rintro d T B lv nx ⟨i,τ,hi,t0,t4,t3,l3,O⟩;have w1:=aS ((i:Int)+1);by_cases I:i<a.length
 ·have ga:a[i]?=some a[i]:=aaf I;have da:(a.map (AV.i .i64)).drop i=.i .i64 a[i]::(a.map (AV.i .i64)).drop (i+1):=by grind [List.drop_eq_getElem_cons]
  have ta:a.take (i+1)=a.take i++ [a[i]]:=aaN I;generalize a[i]=x at ga da ta;have hul:(uI (a.take i)).length<=1000000000000:=by
   grind [kX,uI]
  have V6:=λk h1 h2=>ap_ (a.take i) x k h1 h2
  have U:=aoD (a.take i);rw[<-ta] at V6;generalize uI (a.take i)=u at *
  repeat' first|apply nI|(refine eI apc λK E=>?_;simp[t0,t4,t3,ints,I];apply E)
  refine amF (λk T B lv nx=>T 0=ints a/\T 4=.i .i64 i/\T 3=.sq (some τ) 1 (u.map (.i .i64))/\lv τ=some 3/\τ<nx/\T 5=.i .i64 k/\k<=u.length/\∀j,(M:j<u.length)->k<=j->x<=u[j]) u.length ?_ ?_
  ·exact⟨by rfl,by simp,by simp,by omega,by omega,by simp,aax _,λj M hk=>by omega⟩
  rintro k T B lv nx ⟨t0,t4,t3,l3,O,t5,hk,RJ⟩;by_cases hgo:∃j,k=j+1/\∃M:j<u.length,x<=u[j]
  ·obtain⟨j,hkj,M,hc⟩:=hgo;have h0:0<k:=by omega
   have w2:IntKind.i64.wrap ((k:Int)-1)=j:=by grind [aS]
   have dj:(u.map (AV.i .i64)).drop j=.i .i64 u[j]::(u.map (AV.i .i64)).drop (j+1):=by grind [List.drop_eq_getElem_cons]
   have W:∀q,(hq:q<u.length)->j<=q->x<=u[q]:=λq hq hjq=>by
    grind
   generalize u[j]=y at hc dj
   repeat' first|apply nI|(refine eI apc λK E=>?_;simp[t0,t4,t3,t5,ints,h0,w2,dj,M,I,da,hc];apply E)
   exact aN j ⟨by rfl,by rfl,by rfl,by omega,by grind,by simp,by omega,W⟩
  ·have hs:u.Pairwise (· < ·):=U;have Ak:∀q,(hq:q<u.length)->q<k->u[q]<x:=λq hq hqk=>by
    have I7:k-1<u.length:=by omega
    grind [List.pairwise_iff_getElem]
   have p:=V6 k Ak RJ;obtain⟨j,y,yw⟩:∃(j:Nat) (y:Int),(¬0<k/\True/\True/\True/\True)\/(0<k/\IntKind.i64.wrap ((k:Int)-1)=j/\j<u.length/\(u.map (AV.i .i64)).drop j=.i .i64 y::(u.map (AV.i .i64)).drop (j+1)/\¬x<=y):=by
    by_cases h0:0<k
    ·have I7:k-1<u.length:=by omega
     refine⟨k-1,u[k-1],.inr ⟨h0,?_,I7,?_,?_⟩⟩
     ·grind [aS]
     ·grind [List.drop_eq_getElem_cons]
     grind
    simp_all
   have m1:min k u.length*9<=70368744177664:=by omega
   have m2:(min k u.length+1)*9<=70368744177664:=by omega
   have m3:(min k u.length+1+(u.length-k))*9<=70368744177664:=by omega
   have m4:k<u.length->(min k u.length+1+(u.length-(k+1)+1))*9<=70368744177664:=λ_=>by omega
   have Y:(u.map (AV.i .i64)).take u.length=u.map (AV.i .i64):=aa1 (by simp);have Z:(k:Int)<=u.length:=by omega
   rcases yw with ⟨f1,f2,f3,f4,f5⟩|⟨f1,f2,f3,f4,f5⟩
   all_goals
    by_cases L:k<u.length
    ·have N:(u.map (AV.i .i64)).drop k=.i .i64 u[k]::(u.map (AV.i .i64)).drop (k+1):=by grind [List.drop_eq_getElem_cons]
     have V:u[k]?=some u[k]:=aaf L;rw[V] at p;generalize u[k]=z at p N;cases J:(z==x) with
     |true=>
      have H:z=x:=by grind
      rw[aay (by rw[H])] at p
      repeat' first|apply nI|(refine eI apc λK E=>?_;simp[t0,t4,t3,t5,ints,f1,f2,f3,f4,f5,N,L,J,I,da,w1];apply E)
      refine aN (d-1) ⟨i+1,τ,by omega,by rfl,by simp,by simp[t3,p],by omega,by grind⟩
     |false=>
      have H:z≠x:=by grind
      rw[aat (λe=>H (adw e))] at p;have m4:=m4 L
      repeat' first|apply nI|(refine eI apc λK E=>?_;simp[t0,t4,t3,t5,ints,f1,f2,f3,f4,f5,N,L,J,I,da,w1,m1,m2,m4,Y,Z];apply E)
      refine aN (d-1) ⟨i+1,nx+14+15+14,by omega,by rfl,by simp,by simp[p,N],by simp,by simp⟩
    ·have V:u[k]?=none:=aby (by omega);rw[V,aat (by simp)] at p
     repeat' first|apply nI|(refine eI apc λK E=>?_;simp[t0,t4,t3,t5,ints,f1,f2,f3,f4,f5,L,I,da,w1,m1,m2,m3,Y,Z];apply E)
     refine aN (d-1) ⟨i+1,nx+14+15+14,by omega,by rfl,by simp,by simp[p],by simp,by simp⟩
 ·have I8:i=a.length:=by omega
  subst I8;rw[aeo] at t3
  repeat' first|apply nI|(refine eI apc λK E=>?_;simp[t0,t4,t3,ints];apply E)
  simp[Dn,aH,Tryz.f116,ints]
end
end Go.Proofs.YtjagmhagphbfcaaGreatDoor
