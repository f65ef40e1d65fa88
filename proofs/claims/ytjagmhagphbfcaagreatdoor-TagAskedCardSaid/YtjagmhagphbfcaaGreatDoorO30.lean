/- Lemmas, part 30. -/
import Derived.Conc.LeavingOf
import Derived.Carry
import Derived.LaidMore
import Derived.LaidHandle
import Derived.ChangeSame
import Derived.LaidLaws
import Derived.Test.YtjagmhagphbfcaaGreatDoorCards
import Derived.Test.YtjagmhagphbfcaaGreatDoorTie
import Derived.Test.YtjagmhagphbfcaaGreatDoorO29
set_option maxRecDepth 100000
set_option linter.all false
namespace Go.Proofs.YtjagmhagphbfcaaGreatDoor
def af7:=@Go.Proofs.Tryz.underlying4
open Go Go.Proofs Go.Conc Go.ChangeShapes Go.WideShapes Go.ChangeAt Go.RowKit
def xi:List (String×DataW Unit):= [("nosale/tag.checks",Rows.laid_nosale_tag_checks)]
def nm0:List UInt8:= [40,110,111,115,97,108,101,47,116,97,103,46,104,111,117,115,101,41,46,108,101,116,116,101,114,115]
def nm1:List UInt8:= [40,110,111,115,97,108,101,47,116,97,103,46,104,111,117,115,101,41,46,112,97,105,114,115]
def nm2:List UInt8:= [40,110,111,115,97,108,101,47,116,97,103,46,104,111,117,115,101,41,46,116,97,103,115]
theorem MY:ownKnob Tryz.prog.godebug=none:=by kernel_rfl
theorem Nu:laidOutB Tryz.prog=true:=by kernel_rfl
theorem z0:(((begin Tryz.prog (λ_ _=>0) default).world.heap[0]?).bind Obj.row?).map (λx=>(x.1.size,x.2))=some (3,140):=by kernel_rfl
theorem z1:(((begin Tryz.prog (λ_ _=>0) default).world.heap[1]?).bind Obj.row?).map (λx=>(x.1.size,x.2))=some (1,3):=by kernel_rfl
theorem z2:(((begin Tryz.prog (λ_ _=>0) default).world.heap[2]?).bind Obj.row?).map (λx=>(x.1.size,x.2))=some (256,226):=by kernel_rfl
theorem z3:(((begin Tryz.prog (λ_ _=>0) default).world.heap[3]?).bind Obj.row?).map (λx=>(x.1.size,x.2))=some (32,229):=by kernel_rfl
theorem UT:Tryz.prog.cellTypes Tryz.prog.depth 3=some [3]:=by kernel_rfl
theorem oW{W:World}(h:W.ShapedOpen Tryz.prog){g n t:Nat}(hg:g<4)(hz:(((begin Tryz.prog (λ_ _=>0) default).world.heap[g]?).bind Obj.row?).map (λx=>(x.1.size,x.2))=some (n,t)):
  ∃cs,W.heap[g]?=some (.cells cs t)/\cs.size=n/\(Tryz.prog.buildable t=true->Row.ok Tryz.prog W .any 0 t cs):=by
 rw[aeb] at hz;obtain⟨⟨zero,t'⟩,h1,h2⟩:=hz;cases h2;obtain⟨cs,H,E,p⟩:=h.1 g zero t' (by simp_all) h1
 simp_all
theorem rj{W:World}{b n t:Nat}{cs:Array Value}(h:W.heap[b]?=some (.cells cs t))(hn:cs.size=n):W.shape? b=some (t,n):=by
 unfold World.shape?
 grind
theorem OG{W:World}(h:W.ShapedOpen Tryz.prog):AU W/\(∃k n e fr,W.heap[1]?=some (.cells #[.int k n] e fr))/\4<=W.heap.size:=by
 obtain⟨c0,a0,b0,_⟩:=oW h (g:=0) (by decide) z0;obtain⟨c1,a1,b1,d1⟩:=oW h (g:=1) (by decide) z1;obtain⟨c2,a2,b2,_⟩:=oW h (g:=2) (by decide) z2;obtain⟨c3,a3,H,_⟩:=oW h (g:=3) (by decide) z3;refine⟨⟨rj a0 b0,rj a1 b1,rj a2 b2,rj a3 H⟩,?_,(aah.1 a3).1⟩;obtain⟨ts,p,_,E⟩:=d1 (by kernel_rfl);rw[UT] at p;cases p;obtain⟨v,rfl⟩:∃v,c1= #[v]:=⟨c1[0],by grind⟩
 obtain⟨u,hu,hv⟩:=E 0 v rfl;cases hu;unfold Cell.ok at hv
 grind [Tryz.underlying3]
theorem QZ:((List.range Tryz.prog.funcs.size).filter λf=>(Tryz.prog.funcs[f]?).any (·.name.toUTF8.data.toList==nm0))= [255]:=by kernel_rfl
theorem QY:((List.range Tryz.prog.funcs.size).filter λf=>(Tryz.prog.funcs[f]?).any (·.name.toUTF8.data.toList==nm1))= [256]:=by kernel_rfl
theorem QX:((List.range Tryz.prog.funcs.size).filter λf=>(Tryz.prog.funcs[f]?).any (·.name.toUTF8.data.toList==nm2))= [257]:=by kernel_rfl
theorem Pe:Tryz.prog.cellsOf 139=1:=by kernel_rfl
theorem Pd:Tryz.prog.cellsOf 140=3:=by kernel_rfl
theorem Jl:Tryz.prog.globalNamed "nosale/tag.checks" =some 0:=by kernel_rfl
theorem Qx:(Tryz.prog.globals[0]?).map (·.type)=some 140:=by kernel_rfl
theorem UY{W:World}(h:laidMetH Tryz.prog xi W):∃e fr,W.heap[0]?=some (.cells F0 e fr):=by
 have hf:=laidMetH.funcs h (n:= "nosale/tag.checks") (d:=.agg [.iface "func" (.lit (.string nm0)),.iface "func" (.lit (.string nm1)),.iface "func" (.lit (.string nm2))]) (by exact acE.2 rfl);obtain⟨g,t,cs,fuel,p,hg,ht,hv,hd⟩:=hf;obtain rfl:=adw (Jl.symm.trans hg);obtain rfl:=adw (Qx.symm.trans ht);obtain⟨xs,m,_,hx,hlen,hn,E⟩:=DataW.trod_array Tryz.underlying140 hd;rw[Pd] at hlen;obtain⟨H,x1,x2,rfl⟩:=Ri hn;obtain⟨c0,c1,c2,I⟩:=Ri hlen;simp only[Prod.mk.injEq] at hx;have hx1:(DataW.agg [.held nm0,.held nm1,.held nm2]:DataW (List UInt8))=.agg [H.1,x1.1,x2.1]:=hx.1;simp only[DataW.agg.injEq,abg,abQ] at hx1;obtain⟨M,L,J⟩:=hx1;rw[Pe,I] at E;have h0:DataW.trod (funcToken Tryz.prog) Tryz.prog W 0 (λ_=>true) true m 139 [c0]=some H:=E 0 (by decide);have h1:DataW.trod (funcToken Tryz.prog) Tryz.prog W 0 (λ_=>true) true m 139 [c1]=some x1:=E 1 (by decide);have h2:DataW.trod (funcToken Tryz.prog) Tryz.prog W 0 (λ_=>true) true m 139 [c2]=some x2:=E 2 (by decide);obtain⟨U,Z⟩:=H;obtain⟨y1,Y⟩:=x1;obtain⟨y2,p2⟩:=x2;simp only at M L J;subst M L J;have r0:=func_of_trod Tryz.underlying139 QZ h0;have r1:=func_of_trod Tryz.underlying139 QY h1;have N:=func_of_trod Tryz.underlying139 QX h2;subst r0 r1 N;have O:cs=F0:=by
  rw[<-Array.toList_inj,I];rfl
 grind [World.var?]
section
variable{H:Type}{enc:TypeId×Value->H}
theorem AN{W J:World}(hb:Below W.heap.size W J):∀ {ts:List TypeId} {vs:List Value} {E:List (DataW H)} {ps:List MemPlace},(∀t∈ts,Tryz.prog.readableRec t=true/\t<Tryz.prog.types.size)->DataW.TrodAll enc Tryz.prog W 0 (λ_=>true) true ts vs E ps->
  (∀x∈ps,x.block<W.heap.size)->DataW.TrodAll enc Tryz.prog J 0 (λb=>decide (b<W.heap.size)) true ts vs E ps
 | [],vs,E,ps,_,h,_=>by
  obtain⟨rfl,rfl,rfl⟩:=trodAll_nil h;exact rfl
 |t::ts,vs,E,ps,ht,h,I=>by
  obtain⟨v,L,d,N,p,q,rfl,rfl,rfl,h1,h2⟩:=trodAll_cons h;obtain⟨r1,M⟩:=ht t (by simp);exact⟨p,q,Below.trod Nu r1 M h1 hb (λx hx=>I x (by grind)),AN hb (λt O=>ht t (by grind)) h2 (λx hx=>I x (by grind)),rfl⟩
theorem ar5{f:FuncId}{fn:Func}{s:ChangeSpec}{os:Os}(started:os.Started)(vk:Tryz.prog.funcs[f]?=some fn)(I:fn.resultTypes= #[4])
  (agB:∀t∈fn.params.toList,Tryz.prog.readableRec t=true/\t<Tryz.prog.types.size) (TJ:s.vars= []) (Z5:∀E:List (DataW H),E.length=fn.params.size->s.fn H E= { results:= [.lit (.bool true)],args:=E })
  (witness:∃(w:World) (tape:Tape) (i:Input),w.os=os/\(w.forCall tape i).Shaped Tryz.prog/\i.vars= []/\Input.okWide Tryz.prog (w.forCall tape i) .any w.heap.size f i/\
   ((s.pre enc Tryz.prog fn [] false (w.forCall tape i).memory i.args/\laidMetH Tryz.prog xi (w.forCall tape i).memory)/\sizedMet enc Tryz.prog fn (OpenSpec.ofChange s) false (w.forCall tape i).memory i.args)/\
    ({} :Assume).holds Tryz.prog (lone (Frame.enter Tryz.prog f i.args .normal) [] (w.forCall tape i)))
  (J:∀(W:World) (base:Nat) (args:Array Value) (E:List (DataW H)) (ps:List MemPlace),sF W->4<=W.heap.size->AU W->(∀(j:Nat) t v,fn.params[j]?=some t->args[j]?=some v->Value.okWide Tryz.prog W .any base t v)->
   DataW.TrodAll enc Tryz.prog W 0 (λ_=>true) true fn.params.toList args.toList E ps->∃N last o w' t',runNT Tryz.prog (N+1) (solo (G (Frame.enter Tryz.prog f args .normal) []) W) #[]=(.ended o w',t')/\runN Tryz.prog N (solo (G (Frame.enter Tryz.prog f args .normal) []) W)=.next last/\
    step Tryz.prog last=.ended o w'/\Conc.Good Tryz.prog (λv w'=>v=.bool true/\RowKit.Below W.heap.size W w') last o w' t'):
  ReturnsInLeavingWide {} Tryz.checked os f .any (λw args=>(s.pre enc Tryz.prog fn [] false w args/\laidMetH Tryz.prog xi w)/\sizedMet enc Tryz.prog fn (OpenSpec.ofChange s) false w args)
   (s.post enc Tryz.prog fn false true false false):=by
 refine returnsInLeavingWide_of_good (C:=Tryz.checked) MY started witness ?_;intro w tape i _ qp _ iD Ce _;obtain⟨_,_,_,fh,O,_,_,_,_,Kz⟩:=iD;have e:fh=fn:=adw (O.symm.trans vk);subst e;obtain⟨⟨⟨E,gs,before,hw,_⟩,hl⟩,_⟩:=Ce;have Z:=DataW.Whole.of_heap (w':=w.forCall tape i) (by rfl) hw;have sM:laidMetH Tryz.prog xi (w.forCall tape i):=hl.of_heap (by rfl);generalize w.forCall tape i=W at *;obtain⟨hG,L,h4⟩:=OG qp;have hT:sF W:=⟨UY sM,L⟩
 have Xa:=Z;obtain⟨p,q,Y,hV,hbf,_,_⟩:=Z;rw[TJ] at hV;obtain⟨rfl,rfl⟩:=trodVars_none hV;have aK:∀x∈p,x.block<W.heap.size:=λx hx=>Xa.lt x (by simp_all)
 have hlen:E.length=fh.params.size:=by have:=(trodAll_length Y).2;omega
 obtain⟨M,last,o,w',t',h1,h2,h3,Ap⟩:=J W _ i.args E p hT h4 hG Kz Y;refine⟨M,last,o,w',t',h1,h2,h3,Ap.mono λv hF=>?_⟩;refine ChangeSpec.post_blind ?_;obtain⟨rfl,E1⟩:=hF;have U:=Z5 E hlen;refine⟨E,[],before,[],p,[],Xa,?_,?_,?_,E1.frame _,λh=>by cases h⟩
 ·rw[acO,U,I];exact trodAll_mk1 (shut_bool af7 _)
 ·grind [AN]
 ·rw[TJ,acO,U];exact rfl
end
theorem O8(os:Os)(args:Array Value):laidMetH Tryz.prog xi ((World.doorLaid Tryz.prog 40 os).forCall (λ_ _=>0) ⟨#[],args,[]⟩).memory:=
 laidMetH_of_parts3 (fuel:=8) (laidMet_of_run' 8 (by kernel_rfl) (by kernel_rfl)) (by kernel_rfl) (by kernel_rfl)
def Xv:Value:=.agg #[.string ⟨#[]⟩,.string ⟨#[]⟩,.string ⟨#[]⟩,.slice none 0 0,.slice none 0 0]
theorem Lf{s:OpenSpec}{c:OpenClaim}(hc:c.holds Tryz.pinned s)(hw:c.wfByText s=true)(p:c.laidByTextAt .later Tryz.pinned [.funcs] true)
  (I:c.start=.entering) (hnb:c.noBlocks=false/\c.again=false) (hm:Tryz.pinned.checked.prog.mainIs=some (true, "f07a5fa70ed6775463b7a086f57573263f2086de7ec9f9dbb2d285f1a5080804".toList))
  (hl:∀f fn,Tryz.pinned.checked.prog.funcNamed c.func=some f->Tryz.pinned.checked.prog.funcs[f]?=some fn->false=Tryz.pinned.checked.prog.looks []/\∀(j:Nat) t,fn.params[j]?=some t->Tryz.pinned.checked.prog.wantsStandIn t=false)
  (hg:true=c.goesBy Tryz.pinned.checked.prog):
  Claim7.holds Tryz.pinned (.plain s) { stood:= { row:=c,standIns:= [],harness:=(true, "f07a5fa70ed6775463b7a086f57573263f2086de7ec9f9dbb2d285f1a5080804"),looks:=false },kinds:= [],alts:= [],goes:=true,laidByText:=true,laidKinds:= [.funcs],laidTests:=true,laidLooks:=.later } :=by
 have H:∀r:OpenClaim,Claim7.isSixth { stood:= { row:=r,standIns:= [],harness:=(true, "f07a5fa70ed6775463b7a086f57573263f2086de7ec9f9dbb2d285f1a5080804"),looks:=false },kinds:= [] } =false:=λr=>by rfl
 exact⟨Claim7.tied_new_at .later [.funcs] true (Claim7.new_of_sixth hc (true, "f07a5fa70ed6775463b7a086f57573263f2086de7ec9f9dbb2d285f1a5080804") false I hnb hm (H c) hl) hw,(λD E=>by cases E),p,(λh=>by cases h),hg⟩
end Go.Proofs.YtjagmhagphbfcaaGreatDoor
namespace Go.Proofs.YtjagmhagphbfcaaGreatDoor
open Go Go.Proofs
noncomputable def PA:Program:= { Tryz.prog with funcs:=(Tryz.prog.funcs.setIfInBounds 17 AZ).setIfInBounds 41 A_ }
instance axF:cL PA:=⟨⟨_,rfl,λ_ h h'=>(qg h').trans (qg h)⟩⟩
theorem a41:PA.funcs[41]?=some A_:=aaz (by rw[Array.size_setIfInBounds,Ty];decide)
theorem a17:PA.funcs[17]?=some AZ:=(qg (by decide)).trans l17
theorem a7:PA.funcs[7]?=some Tryz.f7:=(lf Tryz.func7)
@[reducible] noncomputable instance axm:Twin PA Tryz.prog where
 B f:=f=17\/f=41
 eq:=rfl
 fn f h:=((qg λe=>h (.inr e)).trans (qg λe=>h (.inl e))).symm
 j4 f h:=by
  rcases h with rfl|rfl
  ·exact⟨⟨_,_,a17,rfl,by decide⟩,⟨_,_,q17,rfl,by decide⟩⟩
  ·exact⟨⟨_,_,a41,rfl,by decide⟩,⟨_,_,q41,rfl,by decide⟩⟩
def aqN:Nat:=mask|||1<<<7|||1<<<43|||1<<<44
def KA:fO:= { s:=λf=>aqN.testBit f,g:=λg=>Nat.blt g 2,j4:=λf=>f==17||f==41,ar:=λf=>if f==41 then 1 else 0 }
def KA0:fO:= { s:=λf=>aqN.testBit f||(f==17||f==41),g:=λg=>Nat.blt g 2 }
theorem at5:o9 PA KA 266=true:=by kernel_rfl
theorem asV:o9 PA KA0 266=true:=by kernel_rfl
theorem ar3:aqN>>>266=0:=by kernel_rfl
theorem aqF{f:Nat}(h:aqN.testBit f=true):f<266:=by
 refine Nat.lt_of_not_le λhle=>?_
 have p:=Nat.testBit_shiftRight (i:=266) (j:=f-266) aqN;rw[ar3,Nat.zero_testBit,Nat.add_sub_cancel' hle,h] at p;cases p
theorem asE:PA.globals=Tryz.prog.globals:=by unfold PA;rfl
theorem asz(f:Nat)(h:f≠17)(h':f≠41):PA.funcs[f]?=Tryz.prog.funcs[f]?:=(qg h').trans (qg h)
theorem atg(f:Nat)(h:KA0.s f=true):f<266:=by
 rcases afn.1 h with h|h
 ·exact aqF h
 ·rcases afn.1 h with h|h <;>(simp only[ac6] at h;subst h;decide)
theorem avE:KA.s 17=false:=by decide
theorem ath:KA.s 41=false:=by decide
theorem nbA(f:Nat)(h:KA.s f=true):¬Twin.B PA Tryz.prog f:=by
 rintro p;rcases(show f=17\/f=41 from p) with rfl|rfl
 ·rw[avE] at h;cases h
 ·rw[ath] at h;cases h
theorem arI: @Env PA PA (Twin.self _) KA0.S (KA0.CO PA) KA0.g KA0.H:=
 @Cz PA PA (Twin.self _) asz asE KA0 asV atg rfl (λ_ _ h=>h) (λ_=>rfl)
theorem asX:Env PA Tryz.prog KA.S (KA.CO PA) KA.g KA.H:=Cz asz asE at5 (λf h=>aqF h) (by unfold KA;rfl) nbA (by intro f;unfold KA;rfl)
theorem asL:(Tryz.prog.inits.all λf=> !aqN.testBit f)=true:=by kernel_rfl
theorem arF(f:FuncId)(h:KA.S f\/KA.H f):Tryz.prog.inits.idxOf? f=none:=by
 have hf:aqN.testBit f=true:=by
  rcases h with h|h
  ·exact h
  ·cases h
 grind [Array.all_eq_true_iff_forall_mem,asL]
theorem aqt(xs:Array Value)(v:World)(hx:xs.size=KA.ar 17):Calls PA 17 xs v fun| .returned x,w=>x=.bool true/\w=v|_,_=>False:=by
 have hx:xs= #[]:=Array.eq_empty_of_size_eq_zero hx;subst hx;have hn:AZ.ntmps=224:=rfl;go_enter a17,hn;go_wp2;refine⟨rfl,.bool true,?_,rfl,rfl⟩;have hr:AZ.results= #[.tmp 0]:=rfl;rw[cX,hr];simp[abC,ey]
theorem aq9:aq PA 17 [] (.b true):=by
 intro g w ys hW hr;cases hr.nE;refine(aqt #[] w rfl).mono λe w' h=>?_
 cases e with
 |returned x=>
  obtain⟨rfl,rfl⟩:=h;exact⟨_,g,rfl,.refl g w',hW,.refl g w',.b true,trivial⟩
 |_=>exact h.elim
theorem aqx:Enters PA 17:=enters_of a17 rfl (by decide)
theorem arc:Enters PA 41:=enters_of a41 rfl (by decide)
theorem aqD(xs:Array Value)(cs:List Frame)(v:World):∃o w' es,stepG PA true (LG (Frame.enter PA 41 xs .normal) cs) v=.ended o w' es:=by
 have e:Frame.enter PA 41 xs .normal= { (default:Frame) with fn:=41,kind:=.normal,tmps:=xs++Array.replicate (A_.ntmps-xs.size) undef,todo:= [.code (.exit 0)] } :=by
  rfl
 rw[e];exact⟨_,_,_,rfl⟩
theorem arz(xs:Array Value)(cs:List Frame)(v:World)(d:Nat)(m':Machine):runN PA (d+1) (lone (Frame.enter PA 41 xs .normal) cs v)≠.next m':=by
 obtain⟨o,w',es,e⟩:=aqD xs cs v;intro h;rw[ky (step_end e)] at h;cases h
theorem aqE{St:Frame->List Frame->World->Prop}{R:Value->World->Prop}{xs:Array Value}{fs:List Frame}{v:World}(h:gu PA St R (Frame.enter PA 41 xs .normal) fs v):UK St (Frame.enter PA 41 xs .normal) fs v:=by
 generalize hf:Frame.enter PA 41 xs .normal=fr at h;cases h with
 |stop h=>exact h
 |leave hm=>
  have:(Frame.enter PA 41 xs .normal).mode=.run:=by rfl
  rw[hf] at this;rw[this] at hm;cases hm
 |step hn F G V h k=>
  obtain⟨⟨es,e⟩,_⟩:=h (λ_ _=>0);rw[<-hf] at e;obtain⟨o,w',es',e'⟩:=aqD xs (fs++ [bz PA]) { v with tape:=λ_ _=>0 }
  simp_all
def Flat(l:List AV):Prop:=∀a∈l,(∃s,a=.s s)\/∃k n,a=.i k n
theorem arT(l:List (List UInt8)):Flat (l.map .s):=λa ha=>by
 obtain⟨s,_,rfl⟩:=ac4.1 ha;exact .inl ⟨s,rfl⟩
theorem aqV:∀l:List Tag,Flat (bI l)
 | []=>λa ha=>by cases ha
 |t::l=>λa ha=>by
  rcases abH.1 (show a∈fP t++bI l from ha) with h|h
  ·simp only[fP,abZ,adz,aeP] at h;rcases h with rfl|rfl|rfl
   ·exact .inl ⟨_,rfl⟩
   ·exact .inr ⟨_,_,rfl⟩
   ·exact .inr ⟨_,_,rfl⟩
  ·exact aqV l a h
def aql(y:Value):Prop:=(∃s,y=.string s)\/∃k n,y=.int k n
theorem aql.cl{y:Value}(h:aql y):Closed y:=by
 rcases h with ⟨s,rfl⟩|⟨k,n,rfl⟩
 ·exact xQ s
 ·exact xR k n
theorem aql.one{y:Value}(h:aql y):y.oneCell'=true:=by rcases h with ⟨s,rfl⟩|⟨k,n,rfl⟩ <;>rfl
theorem aql.eq{y z:Value}{S:FuncId->Prop}{ρ:Ren}(h:aql y)(hz:aI S ρ y z):z=y:=by
 rcases h with ⟨s,rfl⟩|⟨k,n,rfl⟩
 ·exact hz.fB
 ·exact hz.rC
theorem asr{g:Gh}{w:World}{a:AV}{y:Value}(h:(∃s,a=.s s)\/∃k n,a=.i k n)(hr:Rd g w a y):aql y/\∀g' w',Rd g' w' a y:=by
 rcases h with ⟨s,rfl⟩|⟨k,n,rfl⟩
 ·cases hr with
  |s=>exact⟨.inl ⟨_,rfl⟩,λ_ _=>.s s⟩
 ·cases hr with
  |i=>exact⟨.inr ⟨_,_,rfl⟩,λ_ _=>.i k n⟩
theorem asa{g:Gh}{w:World}{l:List AV}{ys:List Value}(hf:Flat l)(hr:cS g w l ys):(∀y∈ys,aql y)/\∀g' w',cS g' w' l ys:=by
 have h:∀j a y,l[j]?=some a->ys[j]?=some y->aql y/\∀g' w',Rd g' w' a y:=λj a y h1 h2=>asr (hf a (List.mem_of_getElem? h1)) (hr.2 j a y h1 h2)
 refine⟨λy hy=>?_,λg' w'=>⟨hr.1,λj a y h1 h2=>(h j a y h1 h2).2 g' w'⟩⟩;obtain⟨j,p⟩:=List.mem_iff_getElem?.1 hy;have hl:=(abi.1 p).1;have ha:=aaf (l:=l) (i:=j) (by have:=hr.1;omega);exact(h j _ y ha p).1
def aqC(k:Nat)(l:List AV)(y:Value):Prop:=(∀S V D,V 0=none->V 1=none->D 0=true->D 1=true->aI S (B6 V D) y y)/\∀g w,Rd g w (.sq none k l) y
def D5(w:World)(k:Nat)(l:List AV)(c o n m:Nat)(ys:List Value):Prop:=4<=c/\0<k/\ys.length=l.length/\l.length=n*k/\n<=m/\(∀y∈ys,aql y)/\(∀g w,cS g w l ys)/\
 ∃xs e fr,w.heap[c]?=some (.cells xs e fr)/\∀(i:Nat) (v:Value),ys[i]?=some v->xs[o+i]?=some v
section
variable{ws:List Gd}{W:World}
theorem arE{S:FuncId->Prop}{CO:Code->Prop}{ρ:Ren}{v1 w:World}(L:cp PA S CO (ShW ws) ρ v1 w)(ZU:∀b,b<(iq ws W).heap.size->v1.heap[b]?=(iq ws W).heap[b]?)(hT:sF W){k:Nat}{l:List AV}(hf:Flat l){v a y:Value}
  (ha:aI S (rk ws) v a) (hr:Rd (gW ws) (iq ws W) (.sq none k l) v) (hy:aI S ρ v y):aqC k l y\/∃c o n m ys,y=.slice (some ⟨c,o,none⟩) n m/\D5 w k l c o n m ys/\∃b d,ρ b=some (c,d)/\ShW ws b:=by
 have yW:PA.globals.size=4:=rfl;cases hr with
 |nil=>
  cases hy with
  |cE=>exact .inl ⟨λS V D _ _ _ _=>.cE 0 0,λg w=>.nil none k⟩
 |sq c' k' cells b o n m ys h1 h2 Z h4 h5 Y U=>
  obtain⟨M,gf⟩:=asa hf ⟨h2,U⟩;obtain⟨c,d,p,rfl⟩:=wc hy;obtain⟨c0,d0,H,_⟩:=wc ha;rcases iP H with ⟨hb,_,_⟩|⟨i,x,rfl,hx,_,_⟩
  ·
   have hl:l= []:=by
    refine aaO λhl=>?_
    have hlen:0<ys.length:=by
     have:0<l.length:=agz.2 hl;omega
    obtain⟨q1,q2⟩:=Y 0 ys[0] (aaf hlen);have C6:b=0:=by
     refine aaO λcr=>?_
     have:(gW ws).hw b=0:=by simp[gW,cr];omega
     omega
    subst C6;obtain⟨e,fr,h0⟩:=hT.t;have E9:(iq ws W).heap[0]?=some (.cells F0 e (0,F0.size)):=by grind [nV,uz,shown]
    have Oe:=hf l[0] (abG (by omega));have H:=U 0 l[0] ys[0] (aaf (by omega)) (aaf hlen);have ht:F0[o+0]?=some ys[0]:=by grind [World.cell?]
    have E:∃f,ys[0]=.func (.func f) #[] #[]:=by
     unfold F0 at ht
     match o,ht with
     |0,ht=>exact⟨_,by simpa using ht.symm⟩
     |1,ht=>exact⟨_,by simpa using ht.symm⟩
     |2,ht=>exact⟨_,by simpa using ht.symm⟩
     |o+3,ht=>simp at ht
    obtain⟨f,E⟩:=E;rw[E] at H;rcases Oe with ⟨s,e⟩|⟨k,n,e⟩ <;>rw[e] at H <;>cases H
   subst hl;have hn:n=0:=by
    rcases Nat.mul_eq_zero.1 (show n*k=0 by simpa using Z.symm) with h|h <;>omega
   subst hn;obtain⟨rfl,rfl,_⟩:=L.cz b c d p (.inl (by omega));refine .inl ⟨λS V D v0 v1 d0 d1=>?_,λg w=>.sq none k [] b o 0 m [] h1 rfl (by simp) (aet _) (by simp) (λj y e=>by simp at e) (λj a y e=>by simp at e)⟩;rw[aeS];have J:B6 V D b=some (b,0):=by
    match b,hb with
    |0,_=>exact mL d0 v0
    |1,_=>exact mL d1 v1
   have:=aI.slice (S:=S) b b 0 o none 0 m J;simpa using this
  ·
   have hi:i<ws.length:=(abi.1 hx).1;have N:ShW ws (4+i):=by show 4+i<4+ws.length;omega
   have HC:=ZU (4+i) (by rw[ajD];omega);rw[xc hx] at HC;obtain⟨xs,e,iL,zs,e',fr,g1,_,g2,g3⟩:=L.sh _ _ _ p N;rw[HC] at g1;cases g1;have W3:4<=c:=by
    refine af2 λaK=>?_
    have:=(L.cz _ _ _ p (.inr (by omega))).1;omega
   refine .inr ⟨c,o+d,n,m,ys,rfl,⟨W3,h1,h2,Z,h4,M,gf,zs,e',fr,g2,λj v O=>?_⟩,_,_,p,N⟩;obtain⟨_,q2⟩:=Y j v O;have I:x.xs[o+j]?=some v:=by
    have:=xc (w:=W) hx
    grind [World.cell?]
   obtain⟨z,r1,r2⟩:=g3 _ _ I;have hz:z=v:=(M v (List.mem_of_getElem? O)).eq r2;subst hz;rw[<-r1];congr 1;omega
end
open Go.Conc
section
variable{P:Program}[Twin P Tryz.prog]{K:fO}{V:D1}{D:Nat->Bool}{F:World->Prop}{s1 s2 s3:ByteArray}{av av':Value}{pt pt':Option Addr}{n mt:Nat}{e:Int}
set_option maxHeartbeats 4000000 in
theorem asb(hS:Setup P Tryz.prog K K)(hnb:∀f,K.j4 f=false)(f74:K.s 74=true)(b74:∃fn c,P.funcs[74]?=some fn/\fn.body=some c)(yW:∀g,K.g g=true->D g=true/\V g=none)(J:Vw P V D)
  (bH:∀w w':World,w.heap.size<=w'.heap.size->(∀b,D b=true->w'.heap[b]?=w.heap[b]?)->F w->F w') (qp:∀w,F w->mh K.S V D w)
  (hv:aI K.S (B6 V D) (.agg #[.string s1,.string s2,.string s3,av',.slice pt' n mt]) (.agg #[.string s1,.string s2,.string s3,av,.slice pt n mt])) (he:e≠0)
  (M:∀w,F w->∀t:Nat->Question->Nat,Calls P 74 #[.agg #[.string s1,.string s2,.string s3,av',.slice pt' n mt],.slice none 0 0] { cK V D w with tape:=t } fun
  | .returned x,_=>∃a1 a2 a3 p4 n4 m4 p5 n5 m5 p6 pl lw ml,x=.tuple #[.agg #[.string a1,.string a2,.string a3,.slice p4 n4 m4,.slice p5 n5 m5,.map p6],.slice pl lw ml,.int .i64 e]
  |_,_=>False) {Sd:aG} {w:World} (iC:∀b,D b=true->Sd b) (hg:P.globals.size<=w.heap.size) (hF:F w) (EB:∀b,Sd b->b<w.heap.size) (c0:Frame) (cs:List Frame):
  WT Tryz.prog true Sd (λs=>s.g=LG (c0.finish (.tuple #[.int .i64 0,.int .i64 0,.int .i64 e])) cs) ⟨LG (Frame.enter Tryz.prog 41 #[.agg #[.string s1,.string s2,.string s3,av,.slice pt n mt]] .normal) (c0::cs),w,λ_=>False⟩:=by
 have hk:(Go.Conc.base 41).kind≠.early:=by simp[Go.Conc.base]
 have Y:LG (Frame.enter Tryz.prog 41 #[.agg #[.string s1,.string s2,.string s3,av,.slice pt n mt]] .normal) (c0::cs)=G ((Go.Conc.base 41).at (aF 73 (λk=>(#[.agg #[.string s1,.string s2,.string s3,av,.slice pt n mt]]:Array Value).getD k undef)) [.code PF]) (c0::cs):=by
  rw[enter_at _ Tryz.func41 OR];rw[<-um _ 73 (by simp)];rfl
 rw[Y];generalize hT:(λk=>(#[.agg #[.string s1,.string s2,.string s3,av,.slice pt n mt]]:Array Value).getD k undef)=T;have t0:T 0=.agg #[.string s1,.string s2,.string s3,av,.slice pt n mt]:=by rw[<-hT];rfl
 clear hT Y;have L:eo (λ_=>False) Sd w.heap.size:=⟨λ_ h=>h.elim,EB,λ_ h=>h.elim⟩
 refine .seq (.region ?_);refine WT.new (o:=XT[0]) rfl (by rfl) hk rfl L (λw'=>(UA (o:=XT[0]) rfl (by rw[ae (by decide)];exact t0)).1) (λw'=>(UA (o:=XT[0]) rfl (by rw[ae (by decide)];exact t0)).2) (λw1 B0 fN jy rR KG O H=>?_);refine WT.Pz (o:=XT[1]) rfl rfl hk rfl rfl ?_;refine WT.Pz (o:=XT[2]) rfl rfl hk rfl rfl ?_;refine WT.Pz (o:=XT[3]) rfl rfl hk rfl rfl ?_;refine .bu (.seq (.region ?_));have I:fN B0:=(rR B0).2 (.inr rfl);generalize W:up (up (up (up T 1 (.pointer (some ⟨B0,0,none⟩))) 2 (.int .i64 0)) 3 (.int .i64 0)) 4 (.int .i64 0)=T1;have t1:T1 1=.pointer (some ⟨B0,0,none⟩):=by rw[<-W];rfl
 clear W;refine WT.load (o:=AP[0]) rfl (by rfl) hk rfl (.inl I) jy (λw' p=>(Rj (o:=AP[0]) rfl (by grind [ae]) p).1) (λw' p=>(Rj (o:=AP[0]) rfl (by grind [ae]) p).2) ?_;refine WT.enter (o:=AP[1]) (f:=74) (args:= #[.agg #[.string s1,.string s2,.string s3,av,.slice pt n mt],.slice none 0 0]) rfl (by rfl) hk (λw'=>?_) (λw'=>?_) ?_
 ·rw[(lU (o:=AP[1]) (w:=w') rfl rfl Tryz.func74 rfl (by decide)).1];simp only[adt,List.map_cons,List.map_nil,DO,ae (show 15<73 by decide)];rfl
 ·rfl
 have OD:F w1:=bH w w1 H.size (λb hb=>H.oV b (iC b hb)) hF;refine AM hS hnb f74 b74 (w:=w1) J (qp w1 OD) (aaY hg H.size) yW iC O (Kp:=λb=>b=B0) (λc hc=>by simp_all) ?_ ?_ (M w1 OD) (λρ1 x x' v1 w2 PW k1 k2 Z k4 k5 k6 k7 k8 k9 Yt k11=>?_)
 ·refine⟨rfl,λi x y hx hy=>?_⟩;rcases i with _|_|i
  ·cases hx;cases hy;exact hv
  ·cases hx;cases hy;exact .cE 0 0
  ·simp at hx
 ·exact λ_ _ _ h=>h
 obtain⟨a1,a2,a3,p4,n4,m4,p5,n5,m5,p6,pl,lw,ml,rfl⟩:=k8;obtain⟨y0,y1,y2,rfl,r0,r1,r2⟩:=JR k7;cases r2.rC;cases r0 with
 |agg _ ys hs hr=>
 obtain⟨q4,q5,q6,rfl⟩:=QF ⟨hs,hr⟩;rw[j0 (o:=AP[1]) (d:=16) rfl rfl];have Hm:eo PW Sd w2.heap.size:=⟨Z.vc,λc hc=>abD (O.sd c hc) k6,Z.yz⟩
 refine WT.Eb (o:=AP[2]) rfl rfl hk rfl rfl (by decide) ?_;refine WT.ext (o:=AP[3]) rfl rfl hk rfl rfl (ae (by decide)) rfl ?_;refine WT.ext (o:=AP[4]) rfl rfl hk rfl rfl (ae (by decide)) rfl ?_;refine WT.ext (o:=AP[5]) rfl rfl hk rfl rfl (ae (by decide)) rfl ?_;refine WT.new (o:=AP[6]) rfl (by rfl) hk rfl Hm (λw'=>(acM (o:=AP[6]) rfl).1) (λw'=>(acM (o:=AP[6]) rfl).2) (λw3 B5 Td F_ Xc eu NJ HF=>?_);have N:Td B5:=(Xc B5).2 (.inr rfl);refine WT.store (o:=AP[7]) (ys:= #[.string a1,.string a2,.string a3,.slice q4 n4 m4,.slice q5 n5 m5,.map q6]) rfl (by rfl) hk rfl N F_ (λw' p=>(Zg (o:=AP[7]) rfl (by rw[ae (by decide)];rfl) (by rw[ae (by decide)];rfl) p).1)
  (λw' p=>(Zg (o:=AP[7]) rfl (by rw[ae (by decide)];rfl) (by rw[ae (by decide)];rfl) p).2) (λw4 R_ y_=>?_) (NJ.yz B5 N)
 refine WT.zi (o:=AP[8]) rfl rfl hk rfl rfl (by decide) ?_;refine WT.zi (o:=AP[9]) rfl rfl hk rfl rfl (by decide) ?_;refine .bu (.seq (.seq (.region ?_)));generalize U:up (up (up (up (up (up (up (up (up _ _ _) _ _) _ _) _ _) _ _) _ _) _ _) _ _) _ _=T2;have E:T2 4=.int .i64 e:=by rw[<-U];rfl
 clear U;have hd:decide (e≠0)=true:=by simpa using he
 refine WT.Eb (o:=ak2[0]) rfl rfl hk rfl rfl (by decide) ?_;refine WT.pure (o:=ak2[1]) (v:=.bool true) rfl (by rfl) hk rfl (λw'=>?_) (λw'=>(IZ (o:=ak2[1]) (x:=e) rfl (by rw[ae (by decide)];exact E) rfl).2) ?_
 ·rw[(IZ (o:=ak2[1]) (x:=e) rfl (by rw[ae (by decide)];exact E) rfl).1];simp[he]
 refine .bu (WT.cond (t:=true) (by rw[ae (by decide)];rfl) (.seq (.region ?_)));refine WT.Eb (o:=ak3[0]) rfl rfl hk rfl rfl (by decide) ?_;refine WT.Pz (o:=ak3[1]) rfl rfl hk rfl rfl ?_;refine WT.Pz (o:=ak3[2]) rfl rfl hk rfl rfl ?_;refine WT.zi (o:=ak3[3]) rfl rfl hk rfl rfl (by decide) (.bu ?_);refine WT.ret (fn:=Tryz.f41) (v:=.tuple #[.int .i64 0,.int .i64 0,.int .i64 e]) rfl rfl Tryz.func41 (λw'=>?_) (λw'=>?_) (.stop rfl λ_ _=>rfl)
 ·have h:Tryz.f41.results= #[.tmp 2,.tmp 3,.tmp 4]:=rfl;rw[afi h];simp only[aov (show 2<73 by decide),aov (show 3<73 by decide),aov (show 4<73 by decide)];rw[<-E];rfl
 simp_all [results]
theorem ari(hS:Setup P Tryz.prog K K)(hnb:∀f,K.j4 f=false)(f74:K.s 74=true)(b74:∃fn c,P.funcs[74]?=some fn/\fn.body=some c)(Y:∀g,K.g g=true->D g=true/\V g=none)(I:Vw P V D)
  (bH:∀w w':World,w.heap.size<=w'.heap.size->(∀b,D b=true->w'.heap[b]?=w.heap[b]?)->F w->F w') (J:∀w,F w->mh K.S V D w)
  (hv:aI K.S (B6 V D) (.agg #[.string s1,.string s2,.string s3,av',.slice pt' n mt]) (.agg #[.string s1,.string s2,.string s3,av,.slice pt n mt])) (he:e≠0)
  (E:∀w,F w->∀t:Nat->Question->Nat,Calls P 74 #[.agg #[.string s1,.string s2,.string s3,av',.slice pt' n mt],.slice none 0 0] { cK V D w with tape:=t } fun
  | .returned x,_=>∃a1 a2 a3 p4 n4 m4 p5 n5 m5 p6 pl lw ml,x=.tuple #[.agg #[.string a1,.string a2,.string a3,.slice p4 n4 m4,.slice p5 n5 m5,.map p6],.slice pl lw ml,.int .i64 e]
  |_,_=>False) (Qp:Machine->Outcome->World->Trace->Prop):
  Phase Tryz.prog Qp 41 #[.agg #[.string s1,.string s2,.string s3,av,.slice pt n mt]] (.tuple #[.int .i64 0,.int .i64 0,.int .i64 e]) (λ_ w=>F w/\P.globals.size<=w.heap.size):=by
 intro pr O Rd w gs t rs sl c0 cs L h0 ⟨N,hz⟩ H;have R7:∀b,D b=true->b<w.heap.size:=(J w N).lt;have hOn:∀b,O b=.shared->b<w.heap.size:=λb hb=>L.lt b (by grind)
 have U:Co Tryz.prog none pr (xZ D O) Rd (λ_=>False) w gs t rs:=L.free (λb _=>by
   grind [CQ])
  (λb hb=>by
   grind [CQ]) (λc k e=>by cases e)
 have R6:∀b,b<w.heap.size->xZ D O b=.kept\/xZ D O b=.shared:=λb _=>(CQ D O b).imp id (·.1)
 have nj:=asb hS hnb f74 b74 Y I bH J hv he E (Sd:=λb=>xZ D O b=.shared) (w:=w) (λb hb=>Iq hb) hz N (λb hb=>U.lt b (by grind)) c0 cs;refine U.phase nj h0 (aU.refl _ _ _) (λ_ h=>h.elim) (λb hb=>hb) (λs' O2 Cr t2 BB W Z M Cq hrun p C3 pd ov hup vG=>?_) sl;have eg:=Z s'.w (aU.refl _ _ _);simp only at eg;refine H (Jt O O2 w.heap.size) Rd s'.w Cr t2 BB W (M.free (λb _=>?_) (λb hb=>?_) (λc k e=>by cases e)) (by grind) ⟨λb hb=>?_,λb hb=>p.heap b (R6 b hb) hb,p.size,p.os,p.out,p.tape⟩
 ·unfold Jt;split
  ·cases O b with
   |of i=>
    grind
   |shared=>simp_all
   |kept=>simp_all
  grind
 ·unfold Jt at hb;split at hb
  ·have:=p.size;clear E;omega
  ·exact M.lt b hb
 ·unfold Jt;rw[aay hb];cases O b with
  |of i=>
   grind
  |shared=>grind
  |kept=>grind
end
@[simp] abbrev aih:List Nat:=[0,1,2,3,4,32,37,46,51,61]
end Go.Proofs.YtjagmhagphbfcaaGreatDoor
namespace Go.Proofs.YtjagmhagphbfcaaGreatDoor
open Go Go.Proofs
section
variable{P:Program}[l:cL P]
def gC(h:ay):Bool:=decide (40<h.L.length)||decide (40<h.S.length)||decide (40<h.R.length)||decide (20<h.alike.length)||decide (20<h.tags.length)||h.alike.any (λs=>decide (40<s.length))||h.tags.any (λt=>decide (40<t.reads.length))
theorem Jp{h:ay}(hg:gC h=false):Fair h:=by
 simp only[gC,Bool.or_eq_false_iff,aac,ag8,aan] at hg;obtain⟨⟨⟨⟨⟨⟨h1,h2⟩,J⟩,I⟩,H⟩,E⟩,p⟩:=hg;exact⟨by omega,by omega,by omega,by omega,λs hs=>by simp_all,by omega,λt ht=>by simp_all⟩
theorem E_{h:ay}(hg:40<h.L.length\/40<h.S.length\/40<h.R.length\/20<h.alike.length\/20<h.tags.length):gC h=true:=by
 simp only[gC,adr,aan];omega
theorem KY(h:ay):aq P 16 [.ag (o6 h)] (.b (gC h)):=by
 have W:(o6 h).map AV.strip=o6 h:=by rfl
 refine fi (au P) (lf Tryz.func16) ?_;have L:=cV h.tags
 repeat' first|apply nI|(refine eI aih λK p=>?_;simp[o6,L];first|apply p|(refine aE (λhc=>?_) (λhc=>?_) <;>(try simp only[aan,aac] at hc) <;>simp[hc,o6,L] <;>repeat' (first|apply p|(refine aE (λhc=>?_) (λhc=>?_) <;>(try simp only[aan,aac] at hc) <;>simp[hc,o6,L])|fail))|fail)
 all_goals try (have H:gC h=true:=E_ (by omega);simp[Dn,aH,Tryz.f16,H];done)
 by_cases g5:20<(h.tags.length:Int)
 ·have H:gC h=true:=E_ (by omega);have I:=g5
  repeat' first|apply nI|(refine eI aih λK p=>?_;simp[o6,I];apply p)
  simp_all [Dn,aH]
 ·have I:=g5
  repeat' first|apply nI|(refine eI aih λK p=>?_;simp[o6,I];apply p)
  have na:h.alike.length<=20:=by omega
  have nt:h.tags.length<=20:=by omega
  refine amF (λd T B lv nx=>∃k,k+d=h.alike.length/\T 1=.sp (o6 h)/\T 3=.i .i64 k/\∀s∈h.alike.take k,¬40<s.length) h.alike.length ?_ ?_
  ·exact⟨0,by simp,by rfl,by simp,by simp⟩
  rintro d T B lv nx ⟨k,hk,t1,t3,hp⟩;have w1:=aS ((k:Int)+1);by_cases E:k<h.alike.length
  ·have J:(h.alike.map AV.s).drop k=.s h.alike[k]::(h.alike.map AV.s).drop (k+1):=by grind [List.drop_eq_getElem_cons]
   have O:h.alike[k]?=some h.alike[k]:=aaf E;have M:h.alike.take (k+1)=h.alike.take k++ [h.alike[k]]:=aaN E;have hm:h.alike[k]∈h.alike:=abG E;generalize h.alike[k]=s at J O M hm;by_cases h40:40<(s.length:Int)
   ·have H:gC h=true:=by
     grind [gC]
    repeat' first|apply nI|(refine eI aih λK p=>?_;simp[t1,t3,o6,E,J,O,h40,w1];apply p)
    simp[Dn,aH,Tryz.f16,H]
   ·repeat' first|apply nI|(refine eI aih λK p=>?_;simp[t1,t3,o6,E,J,O,h40,w1];apply p)
    refine aN (d-1) ⟨k+1,by omega,by rfl,by simp,λx hx=>?_⟩
    grind
  ·have N:k=h.alike.length:=by omega
   subst N;rw[aeo] at hp
   repeat' first|apply nI|(refine eI aih λK p=>?_;simp[t1,t3,o6];apply p)
   refine amF (λd T B lv nx=>∃k,k+d=h.tags.length/\T 1=.sp (o6 h)/\T 4=.i .i64 k/\∀t∈h.tags.take k,¬40<t.reads.length) h.tags.length ?_ ?_
   ·exact⟨0,by simp,by rfl,by simp,by simp⟩
   rintro d T B lv nx ⟨k,hk,t1,t4,U⟩;have w1:=aS ((k:Int)+1);by_cases E:k<h.tags.length
   ·have J:=fA h.tags k h.tags[k] (aaf E);have hle:(k+1)*3<=h.tags.length*3:=by omega
    have M:h.tags.take (k+1)=h.tags.take k++ [h.tags[k]]:=aaN E;have hm:h.tags[k]∈h.tags:=abG E;generalize h.tags[k]=t at J M hm;by_cases h40:40<(t.reads.length:Int)
    ·have H:gC h=true:=by
      grind [gC]
     repeat' first|apply nI|(refine eI aih λK p=>?_;simp[t1,t4,o6,E,L,hle,J,h40,w1];apply p)
     simp[Dn,aH,Tryz.f16,H]
    ·repeat' first|apply nI|(refine eI aih λK p=>?_;simp[t1,t4,o6,E,L,hle,J,h40,w1];apply p)
     refine aN (d-1) ⟨k+1,by omega,by rfl,by simp,λx hx=>?_⟩
     grind
   ·have N:k=h.tags.length:=by omega
    subst N;rw[aeo] at U;have H:gC h=false:=by
     simp only[gC,Bool.or_eq_false_iff,aac,ag8,aan]
     grind
    repeat' first|apply nI|(refine eI aih λK p=>?_;simp[t1,t4,o6,L];apply p)
    simp[Dn,aH,Tryz.f16,H]
end
section
variable{P:Program}[l:cL P]
theorem BE(s:List UInt8)(hs:s.length<1000000):aq P 83 [.s s] (.i .i64 (aM s)):=by
 obtain⟨A,M,H⟩:=ca (VL (P:=P) s.length 1 5);obtain⟨B,L,E⟩:=ca (uA (P:=P) s 63 hs);obtain⟨C,J,hC⟩:=ca (Eg (P:=P) s 63 hs);have N:(((63:UInt8).toNat:Nat):Int)=63:=rfl;rw[N] at E hC;refine fi (ak (aR Tryz.func42) M (ak (aR Tryz.func138) L (ak (aR Tryz.func124) J (au P)))) (lf Tryz.func83) ?_;by_cases h1:(1:Int)<=s.length/\(s.length:Int)<=5
 ·have hb:¬(s.length<1\/5<s.length):=by omega
  have hd:(decide ((1:Int)<=s.length)&&decide ((s.length:Int)<=5))=true:=by grind
  rw[hd] at H;cases h2:bA s 63 with
  |false=>
   rw[h2] at E
   repeat' first|apply nI|(refine eI [0,2,6,9,12] λK p=>?_;simp[ab,az,H,E];apply p)
   simp_all [aM,Dn,aH]
  |true=>
   rw[h2] at E;by_cases I:(2:Int)<s.count 63
   ·have O:2<s.count 63:=by omega
    repeat' first|apply nI|(refine eI [0,2,6,9,12] λK p=>?_;simp[ab,az,H,E,hC,I];apply p)
    simp_all [aM,Dn,aH]
   ·have O:¬2<s.count 63:=by omega
    repeat' first|apply nI|(refine eI [0,2,6,9,12] λK p=>?_;simp[ab,az,H,E,hC,I];apply p)
    have hv:aM s=0:=by unfold aM;grind
    simp_all [Dn,aH]
 ·have hb:s.length<1\/5<s.length:=by omega
  have hd:(decide ((1:Int)<=s.length)&&decide ((s.length:Int)<=5))=false:=by
   simp_all
  rw[hd] at H
  repeat' first|apply nI|(refine eI [0,2,6,9,12] λK p=>?_;simp[ab,az,H];apply p)
  simp_all [aM,Dn,aH]
theorem Gi(a b E hi:Int):aq P 152 [.ag [.i .i64 a,.i .i64 b],.i .i64 E,.i .i64 hi] (.b (decide (E<=a/\a<=b/\b<=hi))):=by
 refine fi (au P) (lf Tryz.func152) ?_;by_cases h1:E<=a
 ·by_cases h2:a<=b
  ·by_cases H:b<=hi
   ·repeat' first|apply nI|(refine eI [0,1,2,3,6] λK p=>?_;simp[h1,h2,H];apply p)
    simp_all [Dn,aH]
   ·repeat' first|apply nI|(refine eI [0,1,2,3,6] λK p=>?_;simp[h1,h2,H];apply p)
    simp_all [Dn,aH]
  ·repeat' first|apply nI|(refine eI [0,1,2,3,6] λK p=>?_;simp[h1,h2];apply p)
   simp[Dn,aH,Tryz.f152,h1,h2]
 ·repeat' first|apply nI|(refine eI [0,1,2,3,6] λK p=>?_;simp[h1];apply p)
  simp[Dn,aH,Tryz.f152,h1]
theorem BG(a b:Int):aq P 110 [.ag [.i .i64 a,.i .i64 b]] (.b (dR a b)):=by
 obtain⟨A,H,E⟩:=ca (Gi (P:=P) a b 0 99999);refine fi (ak (aR Tryz.func152) H (au P)) (lf Tryz.func110) ?_
 repeat' first|apply nI|(refine eI [0,1,2] λK p=>?_;simp[ab,E];apply p)
 simp[Dn,aH,Tryz.f110,dR]
end
@[simp] abbrev aia:List Nat:=[0,1,2,3,4,32,45,57,71]
section
variable{P:Program}[l:cL P]
theorem L9{c d:UInt8}(h:(c.toNat:Int)=d.toNat):c=d:=UInt8.toNat_inj.1 (by omega)
theorem uB:∃F:List AV->Option AV,Den P 138 F/\∀(s:List UInt8) (c:UInt8),s.length<1000000->F [.s s,.i .u8 c.toNat]=some (.b (bA s c)):=by
 obtain⟨F,h1,h2⟩:=cC (P:=P) (f:=138) (ι:=List UInt8×UInt8) (λx=> [.s x.1,.i .u8 x.2.toNat]) (λx=>.b (bA x.1 x.2)) (λx=>x.1.length<1000000) (λx y _ _ e=>by
  simp only[abg,AV.s.injEq,AV.i.injEq,adM,abQ] at e
  grind [L9]) (λx hx=>uA x.1 x.2 hx)
 exact⟨F,h1,λs c hs=>h2 (s,c) hs⟩
theorem Ng:∃F:List AV->Option AV,Den P 124 F/\∀(s:List UInt8) (c:UInt8),s.length<1000000->F [.s s,.i .u8 c.toNat]=some (.i .i64 (s.count c)):=by
 obtain⟨F,h1,h2⟩:=cC (P:=P) (f:=124) (ι:=List UInt8×UInt8) (λx=> [.s x.1,.i .u8 x.2.toNat]) (λx=>.i .i64 (x.1.count x.2)) (λx=>x.1.length<1000000) (λx y _ _ e=>by
  simp only[abg,AV.s.injEq,AV.i.injEq,adM,abQ] at e
  grind [L9]) (λx hx=>Eg x.1 x.2 hx)
 exact⟨F,h1,λs c hs=>h2 (s,c) hs⟩
theorem apq(h:ay)(hL:h.L.length<1000)(hS:h.S.length<1000)(hR:h.R.length<1000):aq P 108 [.ag (o6 h)] (.i .i64 (bB h)):=by
 obtain⟨A,ad,N⟩:=uB (P:=P);obtain⟨C,cd,hC⟩:=Ng (P:=P);have a1:=N h.L 63 (by omega);have a2:=N h.S 65 (by omega);have a3:=N h.R 65 (by omega);have c1:=hC h.L 63 (by omega);have Gb:(((63:UInt8).toNat:Nat):Int)=63:=rfl;have e65:(((65:UInt8).toNat:Nat):Int)=65:=rfl;rw[Gb] at a1 c1;rw[e65] at a2 a3;have i10:((h.L.length:Int)==10)=(h.L.length==10):=by
  grind
 have M:((h.S.length:Int)==(h.L.count 63:Int))=(h.S.length==h.L.count 63):=by
  grind
 refine fi (ak (aR Tryz.func138) ad (ak (aR Tryz.func124) cd (au P))) (lf Tryz.func108) ?_;by_cases b1:h.L.length=10
 ·have E:(h.L.length==10)=true:=by grind
  cases b2:bA h.L 63 with
  |false=>
   rw[b2] at a1
   repeat' first|apply nI|(refine eI aia λK p=>?_;simp[o6,i10,E,bne,ab,a1];apply p)
   simp_all [Dn,aH,bB]
  |true=>
   rw[b2] at a1;cases Z:bA h.S 65 with
   |false=>
    rw[Z] at a2
    repeat' first|apply nI|(refine eI aia λK p=>?_;simp[o6,i10,E,bne,ab,a1,a2];apply p)
    simp_all [Dn,aH,bB]
   |true=>
    rw[Z] at a2;by_cases b4:1<h.R.length
    ·have H:(1:Int)<h.R.length:=by omega
     repeat' first|apply nI|(refine eI aia λK p=>?_;simp[o6,i10,E,bne,ab,a1,a2,H];apply p)
     simp_all [Dn,aH,bB]
    ·have H:¬(1:Int)<h.R.length:=by omega
     cases Y:bA h.R 65 with
     |false=>
      rw[Y] at a3
      repeat' first|apply nI|(refine eI aia λK p=>?_;simp[o6,i10,E,bne,ab,a1,a2,H,a3];apply p)
      simp_all [Dn,aH,bB]
     |true=>
      rw[Y] at a3;by_cases b6:h.S.length=h.L.count 63
      ·have I:(h.S.length==h.L.count 63)=true:=by grind
       by_cases b7:4<h.S.length
       ·have W:(4:Int)<h.S.length:=by omega
        repeat' first|apply nI|(refine eI aia λK p=>?_;simp[o6,i10,E,bne,ab,az,a1,a2,H,a3,c1,M,I,W];apply p)
        have hv:bB h=2:=by
         unfold bB;simp_all
        simp_all [Dn,aH]
       ·have W:¬(4:Int)<h.S.length:=by omega
        have hv:bB h=if dup (h.L++h.S++h.R)=true then 5 else 0:=by
         unfold bB;grind
        have n1:¬(9223372036854775807:Int)<(h.L.length:Int)+h.S.length:=by omega
        have n2:¬(9223372036854775807:Int)<(h.L.length:Int)+h.S.length+h.R.length:=by omega
        repeat' first|apply nI|(refine eI aia λK p=>?_;simp[o6,i10,E,bne,ab,az,a1,a2,H,a3,c1,M,I,W,n1,n2];apply p)
        have F3:(h.L++h.S++h.R).length<3000:=by grind
        refine amF (λd T B lv nx=>∃k,k+d=(h.L++h.S++h.R).length/\T 3=.s (h.L++h.S++h.R)/\T 4=.i .i64 k/\((h.L++h.S++h.R).take k).any (λc=>c !=63&&decide (1<(h.L++h.S++h.R).count c))=false) (h.L++h.S++h.R).length ?_ ?_
        ·simp_all
        rintro d T B lv nx ⟨k,hk,t3,t4,hp⟩;have w1:=aS ((k:Int)+1);generalize h.L++h.S++h.R=w at *;by_cases U:k<w.length
        ·have LW:=hC w w[k] (by omega);have J:((w[k].toNat:Int)==63)=(w[k]==63):=kn w[k] 63 (by omega);have jF:(w.take (k+1)).any (λc=>c !=63&&decide (1<w.count c))=(w[k] !=63&&decide (1<w.count w[k])):=by
          grind [List.take_succ_eq_append_getElem]
         cases O:(w[k]==63) with
         |true=>
          repeat' first|apply nI|(refine eI aia λK p=>?_;simp[t3,t4,U,bne,J,O,w1];apply p)
          refine aN (d-1) ⟨k+1,by omega,by rfl,by simp,by grind⟩
         |false=>
          by_cases WX:(1:Int)<(w.count w[k]:Int)
          ·have Hz:1<w.count w[k]:=by omega
           have hd:dup w=true:=by
            unfold dup
            grind
           rw[hd] at hv
           repeat' first|apply nI|(refine eI aia λK p=>?_;simp[t3,t4,U,bne,J,O,w1,ab,az,LW,WX];apply p)
           simp[Dn,aH,Tryz.f108,hv]
          ·have Hz:¬1<w.count w[k]:=by omega
           repeat' first|apply nI|(refine eI aia λK p=>?_;simp[t3,t4,U,bne,J,O,w1,ab,az,LW,WX];apply p)
           refine aN (d-1) ⟨k+1,by omega,by rfl,by simp,by grind⟩
        ·have gg:k=w.length:=by omega
         subst gg;have hd:dup w=false:=by grind [dup]
         rw[hd] at hv
         repeat' first|apply nI|(refine eI aia λK p=>?_;simp[t3,t4];apply p)
         simp[Dn,aH,Tryz.f108,hv]
      ·have I:(h.S.length==h.L.count 63)=false:=by grind
       repeat' first|apply nI|(refine eI aia λK p=>?_;simp[o6,i10,E,bne,ab,az,a1,a2,H,a3,c1,M,I];apply p)
       have hv:bB h=2:=by
        unfold bB;simp_all
       simp_all [Dn,aH]
 ·have E:(h.L.length==10)=false:=by grind
  repeat' first|apply nI|(refine eI aia λK p=>?_;simp[o6,i10,E,bne];apply p)
  simp_all [Dn,aH,bB]
end
@[simp] abbrev ah1:List Nat:=[0,2,3,4,7,11,27,38,41,78]
section
variable{P:Program}[l:cL P]
theorem BJ(a:List (List UInt8))(ht:∀s∈a,s.length<1000000):aq P 109 [strs a] (.i .i64 (bj a)):=by
 obtain⟨A,ad,hA⟩:=uB (P:=P);have e65:(((65:UInt8).toNat:Nat):Int)=65:=rfl;refine fi (ak (aR Tryz.func138) ad (au P)) (lf Tryz.func109) ?_;by_cases h5:4<a.length
 ·have E8:(4:Int)<a.length:=by omega
  repeat' first|apply nI|(refine eI ah1 λK E=>?_;simp[strs,E8];apply E)
  simp_all [Dn,aH,bj]
 ·have E8:¬(4:Int)<a.length:=by omega
  repeat' first|apply nI|(refine eI ah1 λK E=>?_;simp[strs,E8];apply E)
  refine amF (λd' T B lv nx=>∃k,k+d'=a.length/\T 0=strs a/\T 3=.i .i64 k/\bj a=cb (a.take k) (a.drop k)/\∀s∈a.take k,s.length=2) a.length ?_ ?_
  ·exact⟨0,by simp,by rfl,by simp,by grind [bj],by simp⟩
  ·rintro d' T B lv nx ⟨k,hk,t0,t3,hp,h2⟩;have w1:=aS ((k:Int)+1);by_cases H:k<a.length
   ·have rM:a.drop k=a[k]::a.drop (k+1):=aa4 H;have jF:a.take (k+1)=a.take k++ [a[k]]:=aaN H;rw[rM] at hp;have M:=hA a[k] 65 (ht _ (abG H));rw[e65] at M;have J:(a.map AV.s).drop k=.s a[k]::(a.map AV.s).drop (k+1):=by grind [List.drop_eq_getElem_cons]
    have I:a[k]?=some a[k]:=aaf H;by_cases hl2:a[k].length=2
    ·obtain⟨y,z,hs⟩:∃y z,a[k]= [y,z]:=by
      match a[k],hl2 with
      | [y,z],_=>grind
     rw[hs] at M hp J I;have Jc:=dV y z;have Cp:∀s∈a.take (k+1),s.length=2:=by
      grind
     cases Ak:bA [y,z] 65 with
     |false=>
      rw[Ak] at M;have hv:bj a=3:=by grind [cb,eR]
      repeat' first|apply nI|(refine eI ah1 λK E=>?_;simp[t0,t3,strs,H,J,I,ab,M,w1,bne];apply E)
      simp[Dn,aH,Tryz.f109,hv]
     |true=>
      rw[Ak] at M;cases Hj:(y==z) with
      |true=>
       have yR:y=z:=by grind
       have hv:bj a=5:=by grind [cb,eR]
       repeat' first|apply nI|(refine eI ah1 λK E=>?_;simp[t0,t3,strs,H,J,I,ab,M,Jc,Hj,w1,bne];apply E)
       simp[Dn,aH,Tryz.f109,hv]
      |false=>
       have yR:¬y=z:=by grind
       repeat' first|apply nI|(refine eI ah1 λK E=>?_;simp[t0,t3,strs,H,J,I,ab,M,Jc,Hj,w1,bne];apply E)
       refine amF (λd2 T B lv nx=>∃j,j+d2=k/\T 0=strs a/\T 3=.i .i64 k/\T 4=.i .i64 j/\(a.take j).any (cP · [y,z])=false) k ?_ ?_
       ·exact⟨0,by simp,by rfl,by rfl,by simp,by simp⟩
       rintro d2 T B lv nx ⟨j,hj,t0,t3,t4,hq⟩;have w2:=aS ((j:Int)+1);by_cases Y:j<k
       ·have N:j<a.length:=by omega
        have L:a[j]∈a.take k:=agD.2 ⟨j,by omega,rfl⟩;have htj:a.take (j+1)=a.take j++ [a[j]]:=aaN N;have U:(a.map AV.s).drop j=.s a[j]::(a.map AV.s).drop (j+1):=by grind [List.drop_eq_getElem_cons]
        have O:a[j]?=some a[j]:=aaf N;have h2j:=h2 _ L;obtain⟨p,q,iJ⟩:∃p q,a[j]= [p,q]:=by
         match a[j],h2j with
         | [p,q],_=>grind
        rw[iJ] at U O L;have pj:(a.take (j+1)).any (cP · [y,z])=cP [p,q] [y,z]:=by
         grind
        have gT:cP [p,q] [y,z]=true->bj a=5:=λhb=>by
         have hx:(a.take k).any (cP · [y,z])=true:=afl.2 ⟨_,L,hb⟩;rw[hp];simp[cb,eR,Ak,yR,hx]
        have b1:=dV p z;have b2:=dV q y;cases W:([p,q]== [y,z]) with
        |true=>
         have hv:=gT (by grind [cP])
         repeat' first|apply nI|(refine eI ah1 λK E=>?_;simp[t0,t3,t4,strs,H,N,Y,J,I,U,O,W,w2];apply E)
         simp[Dn,aH,Tryz.f109,hv]
        |false=>
         cases e2:(p==z) with
         |false=>
          have hn:cP [p,q] [y,z]=false:=by grind [cP]
          repeat' first|apply nI|(refine eI ah1 λK E=>?_;simp[t0,t3,t4,strs,H,N,Y,J,I,U,O,W,b1,e2,w2];apply E)
          refine aN (d2-1) ⟨j+1,by omega,by rfl,by rfl,by simp,by rw[pj];exact hn⟩
         |true=>
          cases e3:(q==y) with
          |true=>
           have hv:=gT (by grind [cP])
           repeat' first|apply nI|(refine eI ah1 λK E=>?_;simp[t0,t3,t4,strs,H,N,Y,J,I,U,O,W,b1,e2,b2,e3,w2];apply E)
           simp[Dn,aH,Tryz.f109,hv]
          |false=>
           have hn:cP [p,q] [y,z]=false:=by grind [cP]
           repeat' first|apply nI|(refine eI ah1 λK E=>?_;simp[t0,t3,t4,strs,H,N,Y,J,I,U,O,W,b1,e2,b2,e3,w2];apply E)
           refine aN (d2-1) ⟨j+1,by omega,by rfl,by rfl,by simp,by rw[pj];exact hn⟩
       ·have Z:j=k:=by omega
        subst Z;have hv:bj a=cb (a.take (j+1)) (a.drop (j+1)):=by
         grind [cb,eR]
        repeat' first|apply nI|(refine eI ah1 λK E=>?_;simp[t0,t3,t4,strs,w1];apply E)
        refine aN (d'-1) ⟨j+1,by omega,by rfl,by simp,hv,Cp⟩
    ·have Wz:((a[k].length:Int)==2)=false:=by grind
     have hv:bj a=3:=by grind [cb,eR]
     repeat' first|apply nI|(refine eI ah1 λK E=>?_;simp[t0,t3,strs,H,J,I,Wz,w1,bne];apply E)
     simp[Dn,aH,Tryz.f109,hv]
   ·have gg:k=a.length:=by omega
    subst gg
    repeat' first|apply nI|(refine eI ah1 λK E=>?_;simp[t0,t3,strs];apply E)
    have:bj a=0:=by grind [cb]
    simp[Dn,aH,Tryz.f109,this]
end
@[simp] abbrev aic:List Nat:=[0,1,2,3,4,5,6,10,16,21,26,37,46]
section
variable{P:Program}[l:cL P]
theorem BF:∃F:List AV->Option AV,Den P 83 F/\∀(s:List UInt8),s.length<1000000->F [.s s]=some (.i .i64 (aM s)):=by
 obtain⟨F,h1,h2⟩:=cC (P:=P) (f:=83) (ι:=List UInt8) (λx=> [.s x]) (λx=>.i .i64 (aM x)) (λx=>x.length<1000000) (λx y _ _ e=>by
  simp_all) (λx hx=>BE x hx)
 grind
theorem BH:∃F:List AV->Option AV,Den P 110 F/\∀a b:Int,F [.ag [.i .i64 a,.i .i64 b]]=some (.b (dR a b)):=by
 obtain⟨F,h1,h2⟩:=cC (P:=P) (f:=110) (ι:=Int×Int) (λx=> [.ag [.i .i64 x.1,.i .i64 x.2]]) (λx=>.b (dR x.1 x.2)) (λ_=>True) (λx y _ _ e=>by
  simp_all) (λx _=>BG x.1 x.2)
 exact⟨F,h1,λa b=>h2 (a,b) trivial⟩
theorem BI(h:ay)(hf:Fair h):aq P 49 [.ag (o6 h)] (.i .i64 (aO h)):=by
 obtain⟨A,ad,U⟩:=ca (apq (P:=P) h (by have:=hf.L;omega) (by have:=hf.S;omega) (by have:=hf.R;omega));obtain⟨B,bd,Y⟩:=ca (BJ (P:=P) h.alike (λs hs=>by have:=hf.a s hs;omega));obtain⟨C,cd,hC⟩:=BF (P:=P);obtain⟨D,dd,hD⟩:=BH (P:=P);simp only[o6,strs] at U Y;have N:=cV h.tags;refine fi (ak (aR Tryz.func108) ad (ak (aR Tryz.func109) bd (ak (aR Tryz.func83) cd (ak (aR Tryz.func110) dd (au P))))) (lf Tryz.func49) ?_;by_cases q1:bB h=0
 ·have W:(bB h==0)=true:=by grind
  by_cases q2:bj h.alike=0
  ·have H:(bj h.alike==0)=true:=by grind
   by_cases q3:5<h.tags.length
   ·have J:(5:Int)<h.tags.length:=by omega
    repeat' first|apply nI|(refine eI aic λK p=>?_;simp[o6,N,ab,az,U,Y,W,H,J,bne];apply p)
    simp_all [Dn,aH,aO]
   ·have J:¬(5:Int)<h.tags.length:=by omega
    repeat' first|apply nI|(refine eI aic λK p=>?_;simp[o6,N,ab,az,U,Y,W,H,J,bne];apply p)
    have hh:aO h=cR h.tags:=by grind [aO]
    refine amF (λd T B lv nx=>∃k,k+d=h.tags.length/\T 1=.sp (o6 h)/\T 5=.i .i64 k/\cR h.tags=cR (h.tags.drop k)) h.tags.length ?_ ?_
    ·exact⟨0,by simp,by rfl,by simp,by simp⟩
    rintro d T B lv nx ⟨k,hk,t1,t5,hp⟩;have w1:=aS ((k:Int)+1);by_cases O:k<h.tags.length
    ·have Z:=fA h.tags k h.tags[k] (aaf O);have hle:(k+1)*3<=h.tags.length*3:=by omega
     have rM:h.tags.drop k=h.tags[k]::h.tags.drop (k+1):=aa4 O;have hm:h.tags[k]∈h.tags:=abG O;rw[rM] at hp;generalize h.tags[k]=t at Z hp hm;have M:=hC t.reads (by have:=hf.t t hm;omega);have I:=hD t.low t.high;by_cases r1:aM t.reads=0
     ·have E:(aM t.reads==0)=true:=by grind
      cases r2:dR t.low t.high with
      |true=>
       rw[r2] at I
       repeat' first|apply nI|(refine eI aic λK p=>?_;simp[t1,t5,o6,O,N,hle,Z,ab,az,M,I,E,bne,w1];apply p)
       refine aN (d-1) ⟨k+1,by omega,by rfl,by simp,by grind [cR]⟩
      |false=>
       rw[r2] at I;have hv:aO h=1:=by grind [cR]
       repeat' first|apply nI|(refine eI aic λK p=>?_;simp[t1,t5,o6,O,N,hle,Z,ab,az,M,I,E,bne,w1];apply p)
       simp[Dn,aH,Tryz.f49,hv]
     ·have E:(aM t.reads==0)=false:=by grind
      have hv:aO h=aM t.reads:=by grind [cR]
      repeat' first|apply nI|(refine eI aic λK p=>?_;simp[t1,t5,o6,O,N,hle,Z,ab,az,M,E,bne,w1];apply p)
      simp[Dn,aH,Tryz.f49,hv]
    ·have gg:k=h.tags.length:=by omega
     subst gg;have hv:aO h=0:=by grind [cR]
     repeat' first|apply nI|(refine eI aic λK p=>?_;simp[t1,t5,o6,N];apply p)
     simp[Dn,aH,Tryz.f49,hv]
  ·have H:(bj h.alike==0)=false:=by grind
   repeat' first|apply nI|(refine eI aic λK p=>?_;simp[o6,ab,az,U,Y,W,H,bne];apply p)
   simp_all [Dn,aH,aO]
 ·have W:(bB h==0)=false:=by grind
  repeat' first|apply nI|(refine eI aic λK p=>?_;simp[o6,ab,az,U,W,bne];apply p)
  simp_all [Dn,aH,aO]
def Fo(h:ay):Bool:= !gC h&&(aO h==0)
theorem Si(h:ay):aq P 30 [.ag (o6 h)] (.b (Fo h)):=by
 obtain⟨A,I,p⟩:=ca (KY (P:=P) h);simp only[o6] at p;cases hg:gC h with
 |true=>
  rw[hg] at p;refine fi (ak (aR Tryz.func16) I (au P)) (lf Tryz.func30) ?_
  repeat' first|apply nI|(refine eI [0,1,2] λK E=>?_;simp[o6,ab,az,p];apply E)
  simp_all [Dn,aH,Fo]
 |false=>
  rw[hg] at p;obtain⟨B,J,H⟩:=ca (BI (P:=P) h (Jp hg));simp only[o6] at H;refine fi (ak (aR Tryz.func16) I (ak (aR Tryz.func49) J (au P))) (lf Tryz.func30) ?_
  repeat' first|apply nI|(refine eI [0,1,2] λK E=>?_;simp[o6,ab,az,p,H];apply E)
  simp_all [Dn,aH,Fo]
end
def ag2:=@List.filter_append
structure Tc(h:ay)(w:List UInt8):Prop where
 len:w.length=10
 lets:∀c∈w,isLet c=true
 nod:w.Nodup
 rep:∀q∈h.R,isLet q=true/\q∉w
theorem lZ{c:UInt8}(h:isLet c=true):c≠63:=by
 rintro rfl;exact absurd h (by decide)
theorem En{s:List UInt8}(h:bA s 65=true):∀c∈s,isLet c=true:=λc hc=>by
 have:=acp.1 h c hc;rcases afn.1 this with h|h
 ·exact h
 ·rw[ac6] at h;subst h;decide
theorem Nl{s:List UInt8}(h:bA s 63=true):∀c∈s,c≠63->isLet c=true:=λc hc hn=>by
 have:=acp.1 h c hc
 simp_all
theorem nH:∀(S:List UInt8) (k:Nat),k<S.length->(S.getD k 0::(S.take k++S.drop (k+1))).Perm S
 | [],k,h=>by simp at h
 |a::S,0,h=>by simp
 |a::S,k+1,h=>by
  have p:=nH S k (by simpa using h)
  grind
theorem qh:∀(L S w:List UInt8),S.length=L.count 63->w∈e_ L S->w.Perm (L.filter (· !=63)++S)
 | [],S,w,hl,hw=>by
  grind [e_]
 |c::L,S,w,hl,hw=>by
  unfold e_ at hw;split at hw
  ·rename_i hc;subst hc;simp only[aeQ,ac4,aeh] at hw;obtain⟨k,hk,v,hv,rfl⟩:=hw;have hp:=nH S k hk;have p:(S.take k++S.drop (k+1)).length=L.count 63:=by
    grind
   have E:=qh L _ v p hv
   grind
  ·rename_i hc;simp only[ac4] at hw;obtain⟨v,hv,rfl⟩:=hw;rw[List.count_cons_of_ne (λe=>hc e)] at hl;have e:(c::L:List UInt8).filter (· !=63)=c::L.filter (· !=63):=by grind
   rw[e];exact(qh L S v hl hv).cons c
theorem La{a:List UInt8}(h:dup a=false):(a.filter (· !=63)).Nodup:=by
 rw[List.nodup_iff_count];intro c;by_cases hm:c∈a.filter (· !=63)
 ·obtain⟨h1,h2⟩:=afJ.1 hm;have:=ag8.1 h c h1
  simp_all
 grind
theorem aiZ{h:ay}(hc:aO h=0){w:List UInt8}(hw:w∈e_ h.L h.S):Tc h w:=by
 obtain⟨⟨h1,h2,M,Y,J,I,W,H⟩,_⟩:=checked h hc;have hp:=qh h.L h.S w I hw;have U:=En M;have E:=En J;have hn:=La H;have N:h.S.filter (· !=63)=h.S:=List.filter_eq_self.2 λc hc=>by grind [lZ]
 have O:h.R.filter (· !=63)=h.R:=List.filter_eq_self.2 λc hc=>by grind [lZ]
 rw[ag2,ag2,N,O,List.nodup_append] at hn;obtain⟨n1,_,p⟩:=hn;refine⟨(th _ _ _ hw).trans h1,λc hc=>?_,hp.nodup_iff.2 n1,λq hq=>⟨E q hq,λhm=>p q (hp.mem_iff.1 hm) q hq rfl⟩⟩
 grind [Nl]
theorem MX{h:ay}(hc:aO h=0){w:List UInt8}(hw:w∈aB h):Tc h w:=aiZ hc (afJ.1 hw).1
theorem Vm{h:ay}{bs:List Int}(hc:aO h=0)(hb:bN bs=0)(hw:aB h≠ []):bJ h bs=0:=by
 unfold bJ
 simp_all
theorem fq(h:ay)(ts:List Tag)(w:List UInt8):∀(s:List UInt8) (last n:Int) (b:Bool),bf { h with tags:=ts } w s last n b=bf h w s last n b
 | [],_,_,_=>rfl
 |r::s,last,n,b=>by
  have p:=fq h ts w s;unfold bf;simp only[p];rfl
theorem aky(h:ay)(ts:List Tag)(w:List UInt8)(t:Tag):cF { h with tags:=ts } w t=cF h w t:=by
 unfold cF;rw[fq]
theorem K4{h:ay}(hf:Fair h):j9 h:=by
 have h1:=hf.L;have h2:=hf.S;have H:=hf.R;have E:=hf.na;have p:=hf.nt;exact⟨by omega,by omega,by omega,by omega,λs hs=>by have:=hf.a s hs;omega,by omega,λt ht=>by have:=hf.t t ht;omega⟩
theorem OO{h:ay}(hf:Fo h=true):Fair h:=by
 simp_all [Jp,Fo]
theorem Sj{h:ay}(hf:Fo h=true):aO h=0:=by
 grind [Fo]
section
variable{P:Program}[l:cL P]
end
section
variable{P:Program}[l:cL P]
end
section
variable{P:Program}[l:cL P]
theorem ant(n:Int):aq P 61 [.i .i64 n] (.ag [.i .i64 n,.i .i64 n]):=by
 refine fi (au P) (lf Tryz.func61) ?_
 repeat' first|apply nI|(refine eI [0,2] λK p=>?_;simp;apply p)
 simp[Dn,aH,Tryz.f61]
end
section
variable{P:Program}[l:cL P]{g0:Gh}{w0:World}{fr:Nat->Prop}{g:Gh}{w:World}{m:Mem}{a:Act}{T:Nat->AV}{nx N:Nat}{o:Oper}{K:Act->World->Prop}{Q:Exit->Act->World->Prop}
theorem anl{d:Nat}(h:SR P g0 w0 fr (VS T nx N) g w m a.tmps)(J:a.defers= [])(hd:o.dst=some d)(hn:d<N)(hop:o.op=.buildSlice 23 0 #[])
  (I:∀b w' a',SR P g0 w0 fr (VS (Lo T d (.v (.slice (some ⟨b,0,none⟩) 0 0))) nx N) g w' m a'.tmps->a'.defers= []->anw g g w w'->w.heap.size<=b->ny w0.heap.size g w' b 51 []->K a' w'):o.wp P a w K Q:=by
 obtain⟨vs,h1,h2,M,L⟩:=MH (P:=P) (w:=w) (t:=23) (e:=51) (by simp) (by simp) (fr:=fr) (s:=VS T nx N) (g:=g) (m:=m) (ps:= []) (qs:= #[]) (l:= []) (by first|trivial|exact .nil|exact⟨rfl,by simp⟩) rfl (by simp);have p:vs= []:=h2.nE;subst p;unfold Oper.wp;rw[show(execOp a.eval o).run P w=.ok (.value (.slice (some ⟨w.heap.size,0,none⟩) 0 0)) (w.alloc (.cells #[] 51)) from by
  grind [Sem.run_bind,Result.andThen_ok,Sem.run_pure,execOp]]
 have E:Lw g g w (w.alloc (.cells #[] 51)):=iU h.wi _ _ rfl rfl rfl rfl (λ_=>aax _) rfl;have hW:WI g (w.alloc (.cells #[] 51)):=ko h.wi _ _ rfl E (λb hb=>(h.wi.out b (by omega)).1) rfl;have H:anw g g w (w.alloc (.cells #[] 51)):=⟨λb hb _=>adx w _ hb,λ_ _=>rfl,λ_ _=>rfl⟩
 have ho:=h.wi.out w.heap.size (aax _);have h2:=(h.keep E hW H).GV hn (.slice (some ⟨w.heap.size,0,none⟩) 0 0);show K (a.put o.dst _) _;rw[hd];exact I w.heap.size _ _ h2 (put_defers _ _ _ J) H (aax _) ⟨h.ext.size,aep w _,ho.1,ho.2⟩
theorem anj{d t1 t2 b:Nat}{y:Value}{ts:List Tag}(h:SR P g0 w0 fr (VS T nx N) g w m a.tmps)(ba:a.defers= [])(hd:o.dst=some d)(hn:d<N)(hop:o.op=.call { callee:=.builtin .append,args:= #[.tmp t1,.tmp t2],argTypes:= #[23,23] })
  (hx:a.eval (.tmp t1)=.slice (some ⟨b,0,none⟩) 0 0) (hy:a.eval (.tmp t2)=y) (hb:ny w0.heap.size g w b 51 []) (hr:Rd g w (.sq none 3 (bI ts)) y) (cr:ts≠ []) (hlen:ts.length<1000000)
  (hK:∀c cap cur w' a',SR P g0 w0 fr (VS (Lo T d (.v (.slice (some ⟨c,0,none⟩) ts.length cap))) nx N) g w' m a'.tmps->a'.defers= []->(∀q,q<w.heap.size->q≠b->w'.heap[q]?=w.heap[q]?)->w0.heap.size<=c->(c=b\/w.heap.size<=c)->w'.heap[c]?=some (.cells cur 51 (0,0))->g.hw c=0->g.aD c=none->
   ts.length<=cap->ts.length*3<=cur.size->(∀v∈cur.toList.take (ts.length*3),v.oneCell'=true)->cS g w' (bI ts) (cur.toList.take (ts.length*3))->K a' w'):o.wp P a w K Q:=by
 have RA:=cV ts;have mM:0<ts.length:=agz.2 cr;obtain⟨v',w',g',n',ys,r1,O,r3,p,r5,M,r7,r8,r9⟩:=oH (P:=P) h.wi (t:=23) (e:=51) (ty:=o.type) (by simp) (by simp) (B:=w0.heap.size) (v:=.slice (some ⟨b,0,none⟩) 0 0) (n:=0) (xs:= []) ⟨by simp,.inr ⟨b,0,_,rfl,hb.low,hb.cells,aax _,by decide,by simp,by simp⟩⟩ h.ext.size (λc hc=>by
  have:b=c:=by grind [Value.ownBlock]
  subst this;simpa using hb.hw) (l:= []) (.sq none _ [] b 0 0 0 [] (by simp) rfl (by simp) (aax _) (by simp) (by simp) (by simp)) hr (.inl (by simp)) (by simp[RA];omega)
 have fF:∀q,(Value.slice (some ⟨b,0,none⟩) 0 0).ownBlock≠some q↔q≠b:=λq=>by
  simp only[Value.ownBlock,ne_eq,Option.some.injEq];omega
 have EC:∀q,q<w.heap.size->q≠b->w'.heap[q]?=w.heap[q]?/\g'.hw q=g.hw q:=λq h1 h2=>r7 q h1 ((fF q).2 h2)
 have I:Lw g g w w':=⟨p.size,λ_=>aax _,p.cell,λ_ _ h=>h,p.os,p.tape,p.output,p.obj⟩
 have hW:WI g w':=⟨λq hq=>h.wi.out q (aaY p.size hq),λq dd hq=>by
  obtain⟨es,ck,k1,k2⟩:=h.wi.aD q dd hq;have hqb:q≠b:=λe=>by subst e;rw[hb.aD] at hq;cases hq
  exact⟨es,ck,by grind,λe he=>by obtain⟨aa,ha,Cd⟩:=k2 e he;exact⟨aa,ha,Cd.mono I⟩⟩,h.wi.cz.mono I⟩
 have YK:anw g0 g w0 w':=by
  have cq:=h.ext.size;have Ht:=hb.low;exact⟨λq hq hm=>by rw[(EC q (by omega) (by omega)).1];exact h.keeps.block q hq hm,λq hq=>h.keeps.hw q hq,λq hq=>h.keeps.aD q hq⟩
 have h2:=h.grow I hW YK (λid hb=>absurd rfl hb) (λσ c H _=>absurd rfl H);unfold Oper.wp;rw[show(execOp a.eval o).run P w=.ok (.value v') w' from by
  unfold execOp;simp only[hop,resolve,invoke,builtin,aaw,aaS,aas,adt,List.map_cons,List.map_nil]
  simp_all]
 show K (a.put o.dst v') _;rw[hd];have s3:aQ P 51=3:=by simp
 rw[aaV,s3] at M;rw[s3] at O;have Z:∀x∈bI ts,Jn x=true:=pS _;generalize L:bI ts=cells at *;cases M with
 |nil=>grind
 |sq _ _ _ b' o' n mm ys' q0 U q2 q3 q4 q5 q6=>
  rcases O.2 with ⟨h',_⟩|⟨c,cap,cur,h',C5,hg,LS,_,cq,jF⟩
  ·cases h'
  ·cases h';have yU:n'=ts.length:=by omega
   subst yU;have Af:ys'=cur.toList.take (ts.length*3):=by
    have aK:(cur.toList.take (ts.length*3)).length=ts.length*3:=by
     grind
    apply aer;intro j;rcases adv j (ts.length*3) with W|W
    ·have yr:j<ys'.length:=by omega
     have E:ys'[j]?=some ys'[j]:=aaf yr;have hc:=(q5 j _ E).2;rw[E,<-hc,abY,aeg w' b' j cur 51 _ hg,aeB W,ae2]
    simp_all
   have Y:b'=b\/w.heap.size<=b':=by
    rcases r9 b' rfl with J|J
    ·grind
    omega
   have hz:g.hw b'=0/\g.aD b'=none:=by
    rcases Y with rfl|J
    ·exact⟨hb.hw,hb.aD⟩
    ·exact h.wi.out b' J
   refine hK b' mm cur w' _ (h2.GV hn _) (put_defers _ _ _ ba) (λq h1 h2=>(EC q h1 h2).1) C5 Y hg hz.1 hz.2 LS ?_ ?_ ?_
   ·omega
   ·simp_all
   ·rw[<-Af,<-L];rw[<-L] at U q6 Z;exact⟨U,λj a y ha hy=>(q6 j a y ha hy).flat (Z a (List.mem_of_getElem? ha))⟩
end
section
variable{P:Program}[l:cL P]
set_option maxHeartbeats 4000000 in
theorem am2(h:ay)(hm:j9 h)(i:Nat)(hi:i<h.tags.length)(p E:Int):aq P 62 [.ag (o6 h),.i .i64 i,.ag [.i .i64 p,.i .i64 E]] (.ag (o6 (ia h i p E))):=by
 have cr:h.tags≠ []:=λe=>by simp_all
 intro g w0 ys hW hr;refine aey (lf (P:=P) Tryz.func62) rfl ?_;have ve:=uV (P:=P) (n:=21) hW hr (by simp);have cq:ys.toArray.size=ys.length:=by simp
 rw[cq];generalize Ar:({ g with ex:=λ_ _ _=>True,iF:=λ_=>none } :Gh)=g0 at ve;have As:∀ {g2 w2},Lw g0 g2 w0 w2->Lw g g2 w0 w2:=by rw[<-Ar];exact λh=>⟨h.1,h.2,h.3,h.4,h.5,h.6,h.7,h.8⟩
 have N4:∀ {g2 w2},anw g0 g2 w0 w2->anw g g2 w0 w2:=by rw[<-Ar];exact λh=>⟨h.1,h.2,h.3⟩
 clear Ar;change Code.wp P _ _ { tmps:=ys.toArray++Array.replicate (21-ys.length) undef,defers:= [] } w0;have q0:Rd g w0 (.ag (o6 h)) (({ tmps:=ys.toArray++Array.replicate (21-ys.length) undef,defers:= [] } :Act).eval (.tmp 0)):=by
  obtain⟨y0,vW,rfl,k0,_⟩:=hr.dX;show Rd g w0 _ (((y0::vW).toArray++Array.replicate (21-(y0::vW).length) undef).getD 0 undef)
  simp_all [Array.getElem?_append_left]
 generalize ({ tmps:=ys.toArray++Array.replicate (21-ys.length) undef,defers:= [] } :Act)=a at ve q0;obtain⟨g1,m,Y,ba⟩:=ve;have q1:a.eval (.tmp 1)=.int .i64 i:=Y.Xs (by simp);have q2:a.eval (.tmp 2)=.agg #[.int .i64 p,.int .i64 E]:=by
  have h2:Rd g1 w0 (.ag [.i .i64 p,.i .i64 E]) (a.eval (.tmp 2)):=aqs Y (by simp) (by simp);generalize a.eval (.tmp 2)=y2 at h2;cases h2 with
  |ag _ Z h1 h4 h6=>
   obtain⟨y,Tj,rfl,k1,k2⟩:=cS.dX (⟨h1,h6⟩:cS g1 w0 [.i .i64 p,.i .i64 E] Z);obtain⟨y',amf,rfl,k3,k4⟩:=k2.dX;cases k4.nE;cases k1;cases k3;rfl
 obtain⟨v0,v1,v2,v3,v4,hv,hvr,ZT⟩:∃v0 v1 v2 v3 v4,a.eval (.tmp 0)=.agg #[v0,v1,v2,v3,v4]/\cS g w0 (o6 h) [v0,v1,v2,v3,v4]/\∀y∈ [v0,v1,v2,v3,v4],y.oneCell'=true:=by
  generalize a.eval (.tmp 0)=y0 at q0;cases q0 with
  |ag _ Z h1 h4 h6=>
   have hl:Z.length=5:=by simp_all [o6]
   match Z,hl with
   | [v0,v1,v2,v3,v4],_=>exact⟨v0,v1,v2,v3,v4,rfl,⟨h1,h6⟩,h4⟩
 have hr4:Rd g w0 (.sq none 3 (bI h.tags)) v4:=hvr.2 4 _ _ rfl rfl;have aar:v4.oneCell'=true:=ZT v4 (by simp);have r0:a.tmps.getD 0 undef=.agg #[v0,v1,v2,v3,v4]:=hv;have r1:a.tmps.getD 1 undef=.int .i64 i:=q1;have r2:a.tmps.getD 2 undef=.agg #[.int .i64 p,.int .i64 E]:=q2;have Y:=((Y.wM (d:=0) (z:=.v (.agg #[v0,v1,v2,v3,v4])) (by rw[r0];exact .v _) rfl).wM (d:=1) (z:=.v (.int .i64 i)) (by rw[r1];exact .v _) rfl).wM (d:=2) (z:=.v (.agg #[.int .i64 p,.int .i64 E])) (by rw[r2];exact .v _) rfl;change SR P g0 w0 _ (VS _ 0 21) g1 w0 m a.tmps at Y;generalize Um:(Lo (Lo (Lo (a0 [.ag (o6 h),.i .i64 i,.ag [.i .i64 p,.i .i64 E]] 21).T 0 _) 1 _) 2 _:Nat->AV)=T at Y;have T0:T 0=.v (.agg #[v0,v1,v2,v3,v4]):=by rw[<-Um];simp
 have T1:T 1=.v (.int .i64 i):=by rw[<-Um];simp
 have T2:T 2=.v (.agg #[.int .i64 p,.int .i64 E]):=by rw[<-Um];simp
 clear Um r0 r1 r2 q1 q2 hv;refine wp_seq (wp_region ?_);show wpOps P _ _ [0,1,2] a w0;rw[wpOps_cons];refine aW rfl rfl (Mt (ys:= [v0,v1,v2,v3,v4]) Y ba rfl (by decide) rfl (by rw[Y.r_ T0];rfl) (λW w1 a1 dJ jY J hK1 an7=>?_));rw[wpOps_cons];refine aW rfl rfl (Mt (ys:= [.int .i64 p,.int .i64 E]) dJ jY rfl (by decide) rfl (by rw[dJ.r_ (x:=.agg #[.int .i64 p,.int .i64 E]) (by simp[T2])];rfl) (λU w2 a2 fE jq I hK2 agU=>?_));have n35:W≠U:=by have:=J.lt;omega
 have J:=J.keep hK2;rw[wpOps_cons];refine aW rfl rfl (Dy (l:=po) fE jq rfl (by decide) rfl (by simp[po]) (λM w3 a3 Z VP cU jG H Un agT=>?_));have n36:W≠M:=by have:=J.lt;omega
 have n56:U≠M:=by have:=I.lt;omega
 have J:=J.keep Un;have I:=I.keep Un;refine dv ?_;refine wp_seq (wp_region ?_);show wpOps P _ _ [0,1,2] a3 w3;rw[wpOps_cons];refine aW rfl rfl (Mu (b:=W) (ys:= [v0,v1,v2,v3,v4]) cU jG rfl (by decide) rfl (cU.r_ (by simp)) (by simp) (by simp) J ZT (λa4 aoa EX=>?_));rw[wpOps_cons];refine aW rfl rfl (Dy (l:=po) aoa EX rfl (by decide) rfl (by simp[po]) (λL w5 a5 zs7 anI d_ rK hb7 hK5 avM=>?_));have n73:L≠W:=by have:=J.lt;omega
 have n75:L≠U:=by have:=I.lt;omega
 have n76:L≠M:=by have:=H.lt;omega
 have J:=J.keep hK5;have I:=I.keep hK5;have H:=H.keep hK5;rw[wpOps_cons];refine aW rfl rfl (Ba (b:=L) (off:=0) (xs:= [v0,v1,v2,v3,v4]) d_ rK rfl rfl (d_.r_ (by simp)) hb7 (by rw[d_.r_ (x:=.agg #[v0,v1,v2,v3,v4]) (by simp)];rfl) ZT (by simp) (by simp) (by grind [po]) (λw6 jm hb7 ho6=>?_));have J:=J.same (ho6 W J.lt n73);have I:=I.same (ho6 U I.lt n75);have H:=H.same (ho6 M H.lt n76);have e7:zs7.take 0++ [v0,v1,v2,v3,v4]++zs7.drop (0+ [v0,v1,v2,v3,v4].length)= [v0,v1,v2,v3,v4]:=by
  grind [po]
 rw[e7] at hb7;refine dv ?_;refine wp_seq (wp_region ?_);show wpOps P _ _ [0,1,2,3,4,5] a5 w6;rw[wpOps_cons];refine aW rfl rfl (anl jm rK rfl (by decide) rfl (λbE w7 a7 gR yX O avL hbE=>?_));have nE3:W≠bE:=by have:=J.lt;omega
 have nE5:U≠bE:=by have:=I.lt;omega
 have nE6:M≠bE:=by have:=H.lt;omega
 have nE7:L≠bE:=by have:=hb7.lt;omega
 have J:=J.keep O;have I:=I.keep O;have H:=H.keep O;have hb7:=hb7.keep O;rw[wpOps_cons];refine aW rfl rfl (qZ (b:=W) (o':=0) (off:=4) (ft:=23) gR yX rfl (by decide) rfl (gR.r_ (by simp)) (by simp) (λa8 iB Ci=>?_));rw[wpOps_cons];refine aW rfl rfl (IM (b:=W) (off:=4) (y:=v4) iB Ci rfl (by decide) rfl (iB.r_ (by simp)) (by simp) J rfl aar (λa9 rF EU=>?_));have hx4:Rd g1 w7 (.sq none 3 (bI h.tags)) v4:=hr4.mono (As rF.ext);rw[wpOps_cons];refine aW rfl rfl (anj (t1:=9) (t2:=11) (b:=bE) (y:=v4) (ts:=h.tags) rF EU rfl (by decide) rfl (rF.r_ (by simp)) (rF.r_ (by simp)) hbE hx4 cr hm.m (λc cap cur Qo JD iI rL anz aoo dm arC hcz hcm ahx aho Ug WW=>?_));have n7c:L≠c:=by have:=hb7.lt;omega
 have n5c:U≠c:=by have:=I.lt;omega
 have n6c:M≠c:=by have:=H.lt;omega
 have I:=I.same (anz U I.lt nE5);have H:=H.same (anz M H.lt nE6);have hb7:=hb7.same (anz L hb7.lt nE7);have N:ny w0.heap.size g1 Qo c 51 cur.toList:=⟨aoo,by omega,hcz,hcm⟩
 rw[wpOps_cons];refine aW rfl rfl (qZ (b:=L) (o':=0) (off:=4) (ft:=23) iI rL rfl (by decide) rfl (iI.r_ (by simp)) (by simp) (λaP anx aoj=>?_));rw[wpOps_cons];refine aW rfl rfl (Ba (b:=L) (off:=4) (xs:= [.slice (some ⟨c,0,none⟩) h.tags.length cap]) anx aoj rfl rfl (anx.r_ (by simp)) hb7 (by rw[anx.r_ (x:=.slice (some ⟨c,0,none⟩) h.tags.length cap) (by simp)];rfl) (by simp[Value.oneCell']) (by simp) (by simp) (by simp) (λwP anO hb7 hoP=>?_));have I:=I.same (hoP U I.lt n75);have H:=H.same (hoP M H.lt n76);have N:=N.same (hoP c N.lt n7c);simp only[List.take_succ_cons,List.take_zero,aaT,aaV,ab0,aeA,afs,List.drop_zero,List.drop_nil,acO] at hb7;refine dv ?_;have I5:∀y∈ [v0,v1,v2,v3,Value.slice (some ⟨c,0,none⟩) h.tags.length cap],y.oneCell'=true:=by
  intro y hy;simp only[abZ,adz,aeP] at hy;rcases hy with rfl|rfl|rfl|rfl|rfl
  ·simp_all
  ·simp_all
  ·simp_all
  ·simp_all
  ·rfl
 refine wp_seq (wp_region ?_);show wpOps P _ _ [0,1,2,3,4,5,6] aP wP;rw[wpOps_cons];refine aW rfl rfl (qZ (b:=L) (o':=0) (off:=4) (ft:=23) anO aoj rfl (by decide) rfl (anO.r_ (by simp)) (by simp) (λa9 rF EU=>?_));rw[wpOps_cons];refine aW rfl rfl (IM (b:=L) (off:=4) (y:=.slice (some ⟨c,0,none⟩) h.tags.length cap) rF EU rfl (by decide) rfl (rF.r_ (by simp)) (by simp) hb7 rfl rfl (λJD iI rL=>?_));rw[wpOps_cons];refine aW rfl rfl (QA (y:=.int .i64 i) iI rL rfl (by decide) rfl (iI.r_ (by simp[T1])) (λa11 uF EZ=>?_));rw[wpOps_cons];refine aW rfl rfl (Mu (b:=U) (ys:= [.int .i64 p,.int .i64 E]) uF EZ rfl (by decide) rfl (uF.r_ (by simp)) (by simp) (by simp) I (by simp[Value.oneCell']) (λa12 jo Av=>?_));rw[wpOps_cons];refine aW rfl rfl (QB (b:=c) (n:=h.tags.length) (cap:=cap) (j:=i) (k:=.i64) (e:=51) jo Av rfl (by decide) rfl (jo.r_ (by simp)) (jo.r_ (by simp)) (by simp) (by simp) hi (λa13 uE Oj=>?_));rw[wpOps_cons];refine aW rfl rfl (qZ (b:=c) (o':=i*3) (off:=1) (ft:=49) uE Oj rfl (by decide) rfl (uE.r_ (by simp)) (by simp) (λa14 uD EY=>?_));rw[wpOps_cons];refine aW rfl rfl (Ba (b:=c) (off:=i*3+1) (xs:= [.int .i64 p,.int .i64 E]) uD EY rfl rfl (uD.r_ (by simp)) N (by rw[uD.r_ (x:=.agg #[.int .i64 p,.int .i64 E]) (by simp)];rfl) (by simp[Value.oneCell']) (by simp) (by simp) (by grind) (λw15 nZ N aau=>?_));have hb7:=hb7.same (aau L hb7.lt (Ne.symm n7c));have H:=H.same (aau M H.lt (Ne.symm n6c));refine dv ?_;refine wp_seq (wp_region ?_);show wpOps P _ _ [0,1] a14 w15;rw[wpOps_cons];refine aW rfl rfl (Mu (b:=L) (ys:= [v0,v1,v2,v3,.slice (some ⟨c,0,none⟩) h.tags.length cap]) nZ EY rfl (by decide) rfl (nZ.r_ (by simp)) (by simp) (by simp) hb7 I5 (λa16 rG Ja=>?_));rw[wpOps_cons];refine aW rfl rfl (Ba (b:=M) (off:=0) (xs:= [v0,v1,v2,v3,.slice (some ⟨c,0,none⟩) h.tags.length cap]) rG Ja rfl rfl (rG.r_ (by simp)) H (by rw[rG.r_ (x:=.agg #[v0,v1,v2,v3,.slice (some ⟨c,0,none⟩) h.tags.length cap]) (by simp)];rfl) I5 (by simp) (by simp) (by simp_all [po]) (λTl pJ H agH=>?_));have N:=N.same (agH c N.lt n6c);refine dv (wp_ret ?_);have hlen:=cV h.tags;have e6:Z.take 0++ [v0,v1,v2,v3,.slice (some ⟨c,0,none⟩) h.tags.length cap]++Z.drop (0+ [v0,v1,v2,v3,Value.slice (some ⟨c,0,none⟩) h.tags.length cap].length)= [v0,v1,v2,v3,.slice (some ⟨c,0,none⟩) h.tags.length cap]:=by
  simp_all
 rw[e6] at H;have q6:a16.tmps.getD 6 undef=.pointer (some ⟨M,0,none⟩):=pJ.r_ (t:=6) (by simp);have xv:=Ej (P:=P) (t:=25) (by simp) (by simp) H I5;obtain⟨hEF,hWF,hwF,agq⟩:=N.freeze pJ.wi;have aa9:=(As pJ.ext).trans hEF;have hR:cS ({ g1 with hw:=Lo g1.hw c (cur.toList.take (i*3+1)++ [Value.int .i64 p,.int .i64 E]++cur.toList.drop (i*3+1+ [Value.int .i64 p,Value.int .i64 E].length)).length } :Gh) Tl (bI h.tags) (cur.toList.take (h.tags.length*3)):=⟨WW.1,λj a y ha hy=>(WW.2 j a y ha hy).flat (pS _ a (List.mem_of_getElem? ha))⟩
 have vK:h.tags.length*3<=cur.toList.length:=by omega
 have xn:=Mh cur.toList (i*3+1) (h.tags.length*3) [Value.int .i64 p,.int .i64 E] (by grind) vK;have agr:=agq 3 h.tags.length cap (bI (ia h i p E).tags) (by omega) (by grind [cV,ia]) ahx (λy hy=>by
  rw[xn] at hy;rcases abH.1 hy with hy|hy
  ·rcases abH.1 hy with hy|hy
   ·grind
   ·simp only[abZ,adz,aeP] at hy;rcases hy with rfl|rfl <;>rfl
  grind) (by simp;omega) (by
  rw[xn];show cS _ _ (bI (h.tags.modify i λt=> { t with low:=p,high:=E })) _;rw[<-zy h.tags i p E hi];unfold lay;exact((hR.take _).append (.cons (.i _ _) (.cons (.i _ _) (.nil _ _)))).append (hR.drop _))
 refine⟨Ja,.agg #[v0,v1,v2,v3,.slice (some ⟨c,0,none⟩) h.tags.length cap],?_,_,_,rfl,aa9,hWF,?_,?_,trivial⟩
 ·rw[cX];show(do let vs<-(#[ResultVar.cell 6 25]).mapM (ey a16.tmps);pure (if h:vs.size=1 then vs[0] else .tuple vs):Sem Value).run P Tl=_;simp only[abC];simp[ey,q6,asAddr,xv]
 ·have hk:=N4 pJ.keeps;refine⟨hk.1,λb hb=>?_,hk.3⟩;have:=N.low;rw[hwF b (by omega)];exact hk.2 b hb
 ·have hh:∀(j:Nat) (a:AV) (y:Value),j<4->(o6 h)[j]?=some a-> [v0,v1,v2,v3,v4][j]?=some y->Rd ({ g1 with hw:=Lo g1.hw c (cur.toList.take (i*3+1)++ [Value.int .i64 p,.int .i64 E]++cur.toList.drop (i*3+1+ [Value.int .i64 p,Value.int .i64 E].length)).length } :Gh) Tl a y:=λj a y _ ha hy=>(hvr.2 j a y ha hy).mono aa9
  exact Rd.vC (l:=o6 (ia h i p E)) (.cons (hh 0 _ _ (by decide) rfl rfl) (.cons (hh 1 _ _ (by decide) rfl rfl) (.cons (hh 2 _ _ (by decide) rfl rfl) (.cons (hh 3 _ _ (by decide) rfl rfl) (.cons agr (.nil _ _)))))) I5
end
section
variable{P:Program}[l:cL P]
end
section
variable{P:Program}[l:cL P]
end
section
variable{h:ay}{w:List UInt8}(hc:aO h=0)(ho:Tc h w)
include ho
include hc
variable{n g:Int}(hb:aV n g=0)
include hb
end
theorem alh:∀l:List Tag,cR l=0->∀t∈l,aM t.reads=0/\dR t.low t.high=true
 | [],_,t,ht=>by grind
 |a::l,h,t,ht=>by
  unfold cR at h;split at h
  ·omega
  ·rename_i h1;split at h
   ·cases h
   ·rename_i h2;rcases abZ.1 ht with rfl|ht
    ·simp_all
    ·exact alh l h t ht
theorem alm:∀l:List Tag,(∀t∈l,aM t.reads=0/\dR t.low t.high=true)->cR l=0
 | [],_=>rfl
 |a::l,h=>by
  obtain⟨h1,h2⟩:=h a (by simp);unfold cR;rw[aat (by omega),aat (by grind)];exact alm l λt ht=>h t (by grind)
theorem alN{h:ay}(hc:aO h=0):bJ h []=if aB h= [] then 9 else 0:=by
 unfold bJ;rw[aat (by omega)];rfl
section
variable{h:ay}(hc:aO h=0)
include hc
end
section
variable{h:ay}{i:Nat}{t:Tag}(ht:h.tags[i]?=some t){n:Int}
theorem amH{h:ay}{w:List UInt8}{t:Tag}{n:Int} :n∈(cF h w t).map (·.1)↔n∈(bf h w t.reads (-1) 0 false).map (·.1)/\t.low<=n/\n<=t.high:=by
 simp_all [cF,jU]
theorem amL{h:ay}{w:List UInt8}{t:Tag} :(!(cF h w t).isEmpty)=true↔∃n,n∈(cF h w t).map (·.1):=by
 cases cF h w t with
 |nil=>simp
 |cons a l=>simp_all
include ht
theorem amG(j:Nat):(ia h i n n).tags[j]?=if i=j then some { t with low:=n,high:=n } else h.tags[j]?:=by
 unfold ia
 grind
theorem am_(hl:t.low<=n)(hh:n<=t.high)(w:List UInt8):Az (ia h i n n) w=true↔Az h w=true/\n∈(bf h w t.reads (-1) 0 false).map (·.1):=by
 have hr:∀u,cF (ia h i n n) w u=cF h w u:=λu=>aky h _ w u
 have H:n∈(cF h w { t with low:=n,high:=n }).map (·.1)↔n∈(bf h w t.reads (-1) 0 false).map (·.1):=by
  grind [amH]
 unfold Az;rw[acp,acp];constructor
 ·intro hg;have hi:=hg { t with low:=n,high:=n } (List.mem_of_getElem? (i:=i) (by grind [amG]));rw[hr,amL] at hi;obtain⟨m,hm⟩:=hi;have p:=amH.1 hm;have:m=n:=by grind
  subst this;refine⟨λu hu=>?_,H.1 hm⟩;obtain⟨j,E⟩:=List.mem_iff_getElem?.1 hu;by_cases e:i=j
  ·subst e;rw[ht] at E;cases E;exact amL.2 ⟨m,amH.2 ⟨p.1,hl,hh⟩⟩
  ·have:=hg u (List.mem_of_getElem? (i:=j) (by grind [amG]))
   simp_all
 grind [List.mem_iff_getElem?,amG]
theorem amK(hl:t.low<=n)(hh:n<=t.high):aB (ia h i n n)=(aB h).filter λw=>decide (n∈(bf h w t.reads (-1) 0 false).map (·.1)):=by
 unfold aB;rw[List.filter_filter];refine List.filter_congr λw _=>?_
 rw[adX,am_ ht hl hh,aaZ,aan,and_comm]
theorem amM:dP h i=uI ((aB h).flatMap λw=>(cF h w t).map (·.1)):=by
 unfold dP
 grind
theorem amI:n∈dP h i↔∃w∈aB h,n∈(bf h w t.reads (-1) 0 false).map (·.1)/\t.low<=n/\n<=t.high:=by
 rw[amM ht];refine(lW _ n).trans ?_
 grind [amH]
theorem amJ(hl:t.low<=n)(hh:n<=t.high):n∈dP h i↔aB (ia h i n n)≠ []:=by
 rw[amI ht,amK ht hl hh,ne_eq,List.filter_eq_nil_iff]
 grind
theorem amR(hc:aO h=0)(h0:0<=n)(H:n<=99999):aO (ia h i n n)=0:=by
 obtain⟨_,_,I,J⟩:=checked h hc;have hlen:(ia h i n n).tags.length=h.tags.length:=by simp[ia]
 have E:cR (ia h i n n).tags=0:=alm _ λu hu=>by
  obtain⟨j,p⟩:=List.mem_iff_getElem?.1 hu;rw[amG ht] at p
  grind [alh,dR]
 simp_all [aO,bB,ia]
end
theorem amU{x y:ay}(e:o6 x=o6 y):x=y:=by
 obtain⟨a,b,c,d,f⟩:=x;obtain⟨a',b',c',d',p⟩:=y;simp only[o6,abg,AV.s.injEq,AV.sq.injEq,adM,abQ] at e
 grind [Tu,oS]
section
variable{P:Program}[l:cL P]
end
@[simp] abbrev apU:List Nat:=[0,1,2,6,7,8,10,15,27]
def an0(p L S:List UInt8):List (List UInt8):=(e_ L S).map (p++ ·)
theorem an_:∀(L S:List UInt8),S.length<=10->(e_ L S).length<=10^L.length
 | [],_,_=>by simp[e_]
 |c::L,S,p=>by
  unfold e_;split
  ·rw[List.length_flatMap,ab0,Nat.pow_succ];have:∀k∈List.range S.length,((e_ L (S.take k++S.drop (k+1))).map (S.getD k 0:: ·)).length<=10^L.length:=λk hk=>by
    rw[abz];exact an_ L _ (by grind)
   have h2:((List.range S.length).map λk=>((e_ L (S.take k++S.drop (k+1))).map (S.getD k 0:: ·)).length).sum<=S.length*10^L.length:=by
    have key:∀l:List Nat,(∀k∈l,((e_ L (S.take k++S.drop (k+1))).map (S.getD k 0:: ·)).length<=10^L.length)->(l.map λk=>((e_ L (S.take k++S.drop (k+1))).map (S.getD k 0:: ·)).length).sum<=l.length*10^L.length:=by
     intro l
     induction l with
     |nil=>simp
     |cons a l E=>
      grind [Nat.succ_mul]
    grind
   refine aaY h2 ?_;rw[Nat.mul_comm];exact Nat.mul_le_mul_left _ p
  ·rw[abz,ab0,Nat.pow_succ];have:=an_ L S p;omega
def an5(p L S:List UInt8)(k:Nat):List (List UInt8):=(List.range k).flatMap λj=>an0 (p++ [S.getD j 0]) L (S.take j++S.drop (j+1))
theorem apE(p L S:List UInt8):an5 p L S S.length=an0 p (63::L) S:=by
 simp_all [List.map_flatMap,Function.comp_def,an5,an0,e_]
theorem aoN(p L S:List UInt8)(k:Nat):an5 p L S (k+1)=an5 p L S k++an0 (p++ [S.getD k 0]) L (S.take k++S.drop (k+1)):=by
 grind [List.range_succ,an5]
theorem aoW(p L S:List UInt8)(E:S.length<=10):∀k≤S.length,(an5 p L S k).length<=k*10^L.length
 |0,_=>by simp[an5]
 |k+1,hk=>by
  have H:=aoW p L S E k (by omega);rw[aoN,abj,Nat.succ_mul];have:(an0 (p++ [S.getD k 0]) L (S.take k++S.drop (k+1))).length<=10^L.length:=by
   unfold an0;rw[abz];exact an_ L _ (by grind)
  omega
section
variable{P:Program}[l:cL P]
theorem aoV:∀(n:Nat) (p L S:List UInt8),L.length=n->n<=10->S.length<=10->p.length+n<=1000->aq P 182 [.s p,.s L,.s S] (strs (an0 p L S))
 |0,p,L,S,I,_,_,_=>by
  have:L= []:=abA I;subst this;refine fi (au P) (lf Tryz.func182) ?_
  repeat' first|apply nI|(refine eI apU λK E=>?_;simp;apply E)
  simp[Dn,aH,Tryz.f182,strs,an0,e_]
 |n+1,p,L,S,I,hn,Z,hp=>by
  match L,I with
  |c::L,I=>
  have I:L.length=n:=by grind
  obtain⟨F,fd,W⟩:∃F:List AV->Option AV,Den P 182 F/\∀J U,J.length+n<=1000->U.length<=10->F [.s J,.s L,.s U]=some (strs (an0 J L U)):=by
   obtain⟨F,h1,h2⟩:=cC (P:=P) (f:=182) (ι:=List UInt8×List UInt8) (λx=> [.s x.1,.s L,.s x.2]) (λx=>strs (an0 x.1 L x.2)) (λx=>x.1.length+n<=1000/\x.2.length<=10) (λx y _ _ e=>by
    simp_all) (λx hx=>aoV n x.1 L x.2 I (by omega) hx.2 hx.1)
   exact⟨F,h1,λJ U a b=>h2 (J,U) ⟨a,b⟩⟩
  simp only[strs] at W;refine fi (ak (aR Tryz.func182) fd (au P)) (lf Tryz.func182) ?_;have Y:((c.toNat:Int)==63)=(c==63):=kn c 63 (by omega);have z1:(1:Int)<=(L.length:Int)+1:=by omega
  cases hc:(c==63) with
  |false=>
   have cr:c≠63:=by grind
   have OD:=W (p++ [c]) S (by grind) Z;have n1:¬(9223372036854775807:Int)<(p.length:Int)+1:=by omega
   repeat' first|apply nI|(refine eI apU λK E=>?_;simp[Y,hc,bne,n1,z1,ab,OD];apply E)
   simp_all [Dn,aH,strs,an0,e_]
  |true=>
   have cr:c=63:=by grind
   subst cr
   repeat' first|apply nI|(refine eI apU λK E=>?_;simp[Y,hc,bne];apply E)
   refine amF (λd T B lv nx=>∃k τ,k+d=S.length/\T 0=.s p/\T 1=.s (63::L)/\T 2=.s S/\T 8=.i .i64 k/\T 7=.sq (some τ) 1 ((an5 p L S k).map .s)/\lv τ=some 9/\τ<nx) S.length ?_ ?_
   ·exact⟨0,6,by simp,by simp,by simp,by simp,by simp,by rfl,by simp,by simp⟩
   rintro d T B lv nx ⟨k,τ,hk,t0,t1,t2,t8,t7,l7,hτ⟩;have w1:=aS ((k:Int)+1);by_cases aK:k<S.length
   ·have N:(S.take (k+1)).drop k= [S[k]]:=by
     grind [List.take_succ_eq_append_getElem]
    have hx:S.getD k 0=S[k]:=by simp_all
    have H:=aoN p L S k;have kN:=aoW p L S Z k (by omega);have M:(an0 (p++ [S.getD k 0]) L (S.take k++S.drop (k+1))).length<=10^L.length:=by
     grind [an_,an0]
    rw[hx] at H M;generalize S[k]=x at N H M;have O:=W (p++ [x]) (S.take k++S.drop (k+1)) (by grind) (by grind);have h9:10^L.length<=1000000000:=aef (n:=10) (show 10>0 by decide) (show L.length<=9 by omega);have YD:k*10^L.length<=10*1000000000:=Nat.mul_le_mul (by omega) h9;have hlen:((an5 p L S k).length+(an0 (p++ [x]) L (S.take k++S.drop (k+1))).length)*17<=70368744177664:=by omega
    have s2:(0:Int)<=(k:Int)+1:=by omega
    have s3:(k:Int)<=(k:Int)+1:=by omega
    have s4:(k:Int)+1<=S.length:=by omega
    have s5:(k:Int)<=S.length:=by omega
    have n1:¬(9223372036854775807:Int)<(p.length:Int)+1:=by omega
    have n2:¬(9223372036854775807:Int)<((min k S.length:Nat):Int)+((S.length-(k+1):Nat):Int):=by omega
    have ZO:τ<nx+4:=by omega
    generalize an0 (p++ [x]) L (S.take k++S.drop (k+1))=ls at H O hlen
    repeat' first|apply nI|(refine eI apU λK E=>?_;simp[t0,t1,t2,t8,t7,l7,ZO,aK,N,s2,s3,s4,s5,z1,n1,n2,w1,ab,O,hlen];apply E)
    refine aN (d-1) ⟨k+1,nx+4+19,by omega,by rfl,by rfl,by rfl,by simp,by simp[H],by simp,by simp⟩
   ·have gg:k=S.length:=by omega
    subst gg;rw[apE] at t7
    repeat' first|apply nI|(refine eI apU λK E=>?_;simp[t0,t1,t2,t8,t7];apply E)
    simp[Dn,aH,Tryz.f182,strs]
theorem apC(h:ay)(H:h.L.length<=10)(E:h.S.length<=10):aq P 160 [.ag (o6 h)] (strs (e_ h.L h.S)):=by
 obtain⟨A,J,p⟩:=ca (aoV (P:=P) h.L.length [] h.L h.S rfl H E (by grind));have e:an0 [] h.L h.S=e_ h.L h.S:=by simp[an0]
 rw[e] at p;simp only[strs] at p;refine fi (ak (aR Tryz.func182) J (au P)) (lf Tryz.func160) ?_
 repeat' first|apply nI|(refine eI [0,1,2] λK I=>?_;simp[o6,ab,p];apply I)
 simp[Dn,aH,Tryz.f160,strs]
end
def afk:=@List.length_take
@[simp] abbrev apc:List Nat:=[0,2,3,4,5,9,27,44]
theorem aoD(l:List Int):(uI l).Pairwise (· < ·):=(ua M0 l).imp λh=>by omega
theorem apV{l m:List Int}(hm:m.Pairwise (· < ·))(h:∀x,x∈m↔x∈l):uI l=m:=
 nP M0 (ua M0 l) (hm.imp λh=>by omega) λx=>(lW l x).trans (h x).symm
theorem ap_(m:List Int)(x:Int)(k:Nat)(h1:∀j,(p:j<(uI m).length)->j<k->(uI m)[j]<x)(h2:∀j,(p:j<(uI m).length)->k<=j->x<=(uI m)[j]):
  uI (m++ [x])=if(uI m)[k]?=some x then uI m else(uI m).take k++ [x]++(uI m).drop k:=by
 have hs:=aoD m;have H:∀y,y∈uI m↔y∈m:=λy=>lW m y
 by_cases hx:(uI m)[k]?=some x
 ·rw[aay hx]
  grind [apV]
 ·rw[aat hx];refine apV ?_ λy=>?_
  ·rw[ae9,List.pairwise_append];refine⟨hs.sublist (List.take_sublist _ _),?_,λy hy z hz=>?_⟩
   ·rw[List.singleton_append,List.pairwise_cons];refine⟨λz hz=>?_,hs.sublist (List.drop_sublist _ _)⟩;obtain⟨j,p,rfl⟩:=List.getElem_of_mem hz;rw[List.getElem_drop];have E:k+j<(uI m).length:=by grind
    have J:=h2 (k+j) E (by omega);have hk:k<(uI m).length:=by omega
    have I:(uI m)[k]≠x:=λe=>hx (by simp_all)
    have L:=h2 k hk (aax _)
    grind [List.pairwise_iff_getElem]
   ·obtain⟨j,p,rfl⟩:=List.getElem_of_mem hy;rw[afk] at p;rw[List.getElem_take];have J:=h1 j (by omega) (by omega);rcases abH.1 hz with hz|hz
    ·simp_all
    ·obtain⟨i,hi,rfl⟩:=List.getElem_of_mem hz
     grind
  ·rw[abH,abH,abH,acE,<-H y]
   conv=>rhs;rw[<-List.take_append_drop k (uI m),abH]
   grind
section
variable{P:Program}[l:cL P]
theorem aoS(a:List Int)(ha:a.length<=1000000000000):aq P 116 [ints a] (ints (uI a)):=by
 refine fi (au P) (lf Tryz.func116) ?_
 repeat' first|apply nI|(refine eI apc λK E=>?_;simp[ints];apply E)
 refine amF (λd T B lv nx=>∃i τ,i+d=a.length/\T 0=ints a/\T 4=.i .i64 i/\T 3=.sq (some τ) 1 ((uI (a.take i)).map (.i .i64))/\lv τ=some 3/\τ<nx) a.length ?_ ?_
 ·exact⟨0,1,by simp,by rfl,by simp,by simp_all [akN,uI],by simp,by simp⟩
 rintro d T B lv nx ⟨i,τ,hi,t0,t4,t3,l3,U⟩;have w1:=aS ((i:Int)+1);by_cases I:i<a.length
 ·have ga:a[i]?=some a[i]:=aaf I;have M:(a.map (AV.i .i64)).drop i=.i .i64 a[i]::(a.map (AV.i .i64)).drop (i+1):=by grind [List.drop_eq_getElem_cons]
  have ta:a.take (i+1)=a.take i++ [a[i]]:=aaN I;generalize a[i]=x at ga M ta;have hul:(uI (a.take i)).length<=1000000000000:=by
   grind [kX,uI]
  have V6:=λk h1 h2=>ap_ (a.take i) x k h1 h2
  have W:=aoD (a.take i);rw[<-ta] at V6;generalize uI (a.take i)=u at *
  repeat' first|apply nI|(refine eI apc λK E=>?_;simp[t0,t4,t3,ints,I];apply E)
  refine amF (λk T B lv nx=>T 0=ints a/\T 4=.i .i64 i/\T 3=.sq (some τ) 1 (u.map (.i .i64))/\lv τ=some 3/\τ<nx/\T 5=.i .i64 k/\k<=u.length/\∀j,(N:j<u.length)->k<=j->x<=u[j]) u.length ?_ ?_
  ·exact⟨by rfl,by simp,by simp,by omega,by omega,by simp,aax _,λj N hk=>by omega⟩
  rintro k T B lv nx ⟨t0,t4,t3,l3,U,t5,hk,RJ⟩;by_cases hgo:∃j,k=j+1/\∃N:j<u.length,x<=u[j]
  ·obtain⟨j,hkj,N,hc⟩:=hgo;have h0:0<k:=by omega
   have w2:IntKind.i64.wrap ((k:Int)-1)=j:=by grind [aS]
   have dj:(u.map (AV.i .i64)).drop j=.i .i64 u[j]::(u.map (AV.i .i64)).drop (j+1):=by grind [List.drop_eq_getElem_cons]
   have Z:∀q,(hq:q<u.length)->j<=q->x<=u[q]:=λq hq hjq=>by
    grind
   generalize u[j]=y at hc dj
   repeat' first|apply nI|(refine eI apc λK E=>?_;simp[t0,t4,t3,t5,ints,h0,w2,dj,N,I,M,hc];apply E)
   exact aN j ⟨by rfl,by rfl,by rfl,by omega,by grind,by simp,by omega,Z⟩
  ·have hs:u.Pairwise (· < ·):=W;have Ak:∀q,(hq:q<u.length)->q<k->u[q]<x:=λq hq hqk=>by
    have I7:k-1<u.length:=by omega
    grind [List.pairwise_iff_getElem]
   have p:=V6 k Ak RJ;obtain⟨j,y,yw⟩:∃(j:Nat) (y:Int),(¬0<k/\True/\True/\True/\True)\/(0<k/\IntKind.i64.wrap ((k:Int)-1)=j/\j<u.length/\(u.map (AV.i .i64)).drop j=.i .i64 y::(u.map (AV.i .i64)).drop (j+1)/\¬x<=y):=by
    by_cases h0:0<k
    ·have I7:k-1<u.length:=by omega
     refine⟨k-1,u[k-1],.inr ⟨h0,?_,I7,?_,?_⟩⟩
     ·grind [aS]
     ·grind [List.drop_eq_getElem_cons]
     grind
    simp_all
   have m1:min k u.length*9<=70368744177664:=by omega
   have m2:(min k u.length+1)*9<=70368744177664:=by omega
   have m3:(min k u.length+1+(u.length-k))*9<=70368744177664:=by omega
   have m4:k<u.length->(min k u.length+1+(u.length-(k+1)+1))*9<=70368744177664:=λ_=>by omega
   have tl:(u.map (AV.i .i64)).take u.length=u.map (AV.i .i64):=aa1 (by simp);have e1:(k:Int)<=u.length:=by omega
   rcases yw with ⟨f1,f2,f3,f4,f5⟩|⟨f1,f2,f3,f4,f5⟩
   all_goals
    by_cases L:k<u.length
    ·have O:(u.map (AV.i .i64)).drop k=.i .i64 u[k]::(u.map (AV.i .i64)).drop (k+1):=by grind [List.drop_eq_getElem_cons]
     have Y:u[k]?=some u[k]:=aaf L;rw[Y] at p;generalize u[k]=z at p O;cases J:(z==x) with
     |true=>
      have H:z=x:=by grind
      rw[aay (by rw[H])] at p
      repeat' first|apply nI|(refine eI apc λK E=>?_;simp[t0,t4,t3,t5,ints,f1,f2,f3,f4,f5,O,L,J,I,M,w1];apply E)
      refine aN (d-1) ⟨i+1,τ,by omega,by rfl,by simp,by simp[t3,p],by omega,by grind⟩
     |false=>
      have H:z≠x:=by grind
      rw[aat (λe=>H (adw e))] at p;have m4:=m4 L
      repeat' first|apply nI|(refine eI apc λK E=>?_;simp[t0,t4,t3,t5,ints,f1,f2,f3,f4,f5,O,L,J,I,M,w1,m1,m2,m4,tl,e1];apply E)
      refine aN (d-1) ⟨i+1,nx+14+15+14,by omega,by rfl,by simp,by simp[p,O],by simp,by simp⟩
    ·have Y:u[k]?=none:=aby (by omega);rw[Y,aat (by simp)] at p
     repeat' first|apply nI|(refine eI apc λK E=>?_;simp[t0,t4,t3,t5,ints,f1,f2,f3,f4,f5,L,I,M,w1,m1,m2,m3,tl,e1];apply E)
     refine aN (d-1) ⟨i+1,nx+14+15+14,by omega,by rfl,by simp,by simp[p],by simp,by simp⟩
 ·have I8:i=a.length:=by omega
  subst I8;rw[aeo] at t3
  repeat' first|apply nI|(refine eI apc λK E=>?_;simp[t0,t4,t3,ints];apply E)
  simp[Dn,aH,Tryz.f116,ints]
end
@[simp] abbrev an3:List Nat:=[0,1,2,3,6,7,8,9,10,11,12,13,15,24,30,36,67]
def anN(h:ay)(w s:List UInt8)(r c:UInt8):Bool:=(numOf w h.R (s++ [c])).isSome&&an1 h.alike r c
def aof(h:ay)(w:List UInt8)(r:UInt8)(s:List UInt8):List (List UInt8):=((w++h.R).filter (anN h w s r)).map λc=>s++ [c]
def er(h:ay)(w:List UInt8):List UInt8->List (List UInt8):=λrs=>rs.foldl (λout r=>out.flatMap (aof h w r)) [[]]
theorem aob(h:ay)(w rs:List UInt8)(r:UInt8):er h w (rs++ [r])=(er h w rs).flatMap (aof h w r):=by
 unfold er;simp_all
theorem anS{α β:Type}(f:α->List β)(n:Nat):∀l:List α,(∀a∈l,(f a).length<=n)->(l.flatMap f).length<=l.length*n
 | [],_=>by simp
 |a::l,h=>by
  have h1:=h a (by simp);have h2:=anS f n l λb hb=>h b (by grind)
  rw[aco,abj,ab0,Nat.succ_mul];omega
theorem ao2(h:ay)(w s:List UInt8)(r:UInt8)(hw:w.length<=10)(p:h.R.length<=1):(aof h w r s).length<=11:=by
 unfold aof;grind
theorem anR(h:ay)(w:List UInt8)(hw:w.length<=10)(p:h.R.length<=1)(rs:List UInt8):∀i≤rs.length,(er h w (rs.take i)).length<=11^i/\∀s∈er h w (rs.take i),s.length=i
 |0,_=>by simp[er]
 |i+1,hi=>by
  obtain⟨h1,h2⟩:=anR h w hw p rs i (by omega);rw[aaN (by omega),aob];refine⟨?_,λs hs=>?_⟩
  ·refine aaY (anS _ 11 _ λs _=>ao2 h w s _ hw p) ?_;omega
  ·obtain⟨t,ht,hs⟩:=aeQ.1 hs;obtain⟨c,_,rfl⟩:=ac4.1 hs
   simp_all
section
variable{P:Program}[l:cL P]
theorem apT(h:ay)(hv:sH h):∃F:List AV->Option AV,Den P 171 F/\∀c x:UInt8,F [eG h,.i .u8 c.toNat,.i .u8 x.toNat]=some (.b (an1 h.alike c x)):=by
 obtain⟨F,h1,h2⟩:=cC (P:=P) (f:=171) (ι:=UInt8×UInt8) (λx=> [eG h,.i .u8 x.1.toNat,.i .u8 x.2.toNat]) (λx=>.b (an1 h.alike x.1 x.2)) (λ_=>True) (λx y _ _ e=>by
  simp only[abg,AV.i.injEq,adM,abQ] at e
  grind [L9]) (λx _=>apS h x.1 x.2 hv)
 exact⟨F,h1,λc x=>h2 (c,x) trivial⟩
set_option maxHeartbeats 400000 in
theorem aoR(h:ay)(w r:List UInt8)(hv:sH h)(hw:w.length<=10)(hR:h.R.length<=1)(hr:r.length<=5):aq P 139 [.ag (o6 h),.s w,.s r] (strs (er h w r)):=by
 obtain⟨C,cd,hC⟩:=apT (P:=P) h hv;simp only[eG,o6] at hC;have hH:(w++h.R).length<=11:=by grind
 have n0:¬(9223372036854775807:Int)<(w.length:Int)+h.R.length:=by omega
 refine fi (ak (aR Tryz.func144) aow (ak (aR Tryz.func171) cd (au P))) (lf Tryz.func139) ?_
 repeat' first|apply nI|(refine eI an3 λK p=>?_;simp[o6,n0];apply p)
 generalize hHd:w++h.R=H at *;refine amF (λd T B lv nx=>∃i c7,i+d=r.length/\T 1=.s w/\T 2=.s r/\T 3=.sp (o6 h)/\T 8=.s H/\T 9=.i .i64 i/\T 7=.sq c7 1 ((er h w (r.take i)).map .s)) r.length ?_ ?_
 ·exact⟨0,_,by simp,by simp,by simp,by rfl,by simp,by simp,by simp[er];rfl⟩
 rintro d T B lv nx ⟨i,c7,hi,t1,t2,t3,t8,t9,t7⟩;have w1:=aS ((i:Int)+1);by_cases U:i<r.length
 ·obtain⟨hol,LQ⟩:=anR h w hw hR r i (by omega);have aqv:er h w (r.take (i+1))=(er h w (r.take i)).flatMap (aof h w r[i]):=by rw[aaN U,aob]
  have h11:11^i<=161051:=aef (n:=11) (show 11>0 by decide) (show i<=5 by omega);have gr:r[i]?=some r[i]:=aaf U;generalize er h w (r.take i)=out at *
  repeat' first|apply nI|(refine eI an3 λK p=>?_;simp[t1,t2,t3,t8,t9,t7,U];apply p)
  generalize M:r[i]=rc at *;refine amF (λd T B lv nx=>∃k τ,k+d=out.length/\T 1=.s w/\T 2=.s r/\T 3=.sp (o6 h)/\T 8=.s H/\T 9=.i .i64 i/\T 7=.sq c7 1 (out.map .s)/\T 11=.i .i64 k/\T 10=.sq (some τ) 1 (((out.take k).flatMap (aof h w rc)).map .s)/\lv τ=some 9/\τ<nx) out.length ?_ ?_
  ·simp_all
  rintro d1 T B lv nx ⟨k,τ,hk,t1,t2,t3,t8,t9,t7,t11,t10,l10,hτ⟩;have w2:=aS ((k:Int)+1);by_cases L:k<out.length
  ·have W:out[k]?=some out[k]:=aaf L;have Y:(out.map AV.s).drop k=.s out[k]::(out.map AV.s).drop (k+1):=by grind [List.drop_eq_getElem_cons]
   have tk:out.take (k+1)=out.take k++ [out[k]]:=aaN L;have Yw:=LQ _ (abG L);generalize out[k]=s at W Y tk Yw;have Oe:((out.take k).flatMap (aof h w rc)).length<=161051*11:=by
    refine aaY (anS _ 11 _ λs _=>ao2 h w s rc hw hR) ?_
    grind
   have hnx:(out.take (k+1)).flatMap (aof h w rc)=(out.take k).flatMap (aof h w rc)++aof h w rc s:=by simp_all
   generalize (out.take k).flatMap (aof h w rc)=pre at *
   repeat' first|apply nI|(refine eI an3 λK p=>?_;simp[t1,t2,t3,t8,t9,t7,t11,t10,L];apply p)
   refine amF (λd T B lv nx=>∃j τ,j+d=H.length/\T 1=.s w/\T 2=.s r/\T 3=.sp (o6 h)/\T 8=.s H/\T 9=.i .i64 i/\T 7=.sq c7 1 (out.map .s)/\T 11=.i .i64 k/\T 12=.i .i64 j/\T 10=.sq (some τ) 1 ((pre++((H.take j).filter (anN h w s rc)).map λc=>s++ [c]).map .s)/\lv τ=some 9/\τ<nx) H.length ?_ ?_
   ·exact⟨0,τ,by simp,by simp,by simp,by simp,by simp,by simp,by simp,by simp,by simp,by simp,by omega,by omega⟩
   rintro d2 T B lv nx ⟨j,τ,hj,t1,t2,t3,t8,t9,t7,t11,t12,t10,l10,hτ⟩;have w3:=aS ((j:Int)+1);by_cases Z:j<H.length
   ·have J:(H.take (j+1)).drop j= [H[j]]:=by
     grind [List.take_succ_eq_append_getElem]
    have tj:H.take (j+1)=H.take j++ [H[j]]:=aaN Z;have I:=hC rc H[j];have O:aoq [.s w,.s h.R,.s (s++ [H[j]])]=some (.tu [.i .i64 ((numOf w h.R (s++ [H[j]])).getD 0),.b (numOf w h.R (s++ [H[j]])).isSome]):=by
     show(if w.length<1000000/\(s++ [H[j]]).length<=15 then _ else none)=_;rw[aay ⟨by omega,by grind⟩]
    have sL:(pre++((H.take j).filter (anN h w s rc)).map λc=>s++ [c]).length<=161051*11+11:=by
     grind
    have Ap:anN h w s rc H[j]=((numOf w h.R (s++ [H[j]])).isSome&&an1 h.alike rc H[j]):=rfl;have xn:((H.take (j+1)).filter (anN h w s rc)).map (λc=>s++ [c])=((H.take j).filter (anN h w s rc)).map (λc=>s++ [c])++(if anN h w s rc H[j] then[s++ [H[j]]] else[]):=by
     grind
    have s2:(0:Int)<=(j:Int)+1:=by omega
    have s3:(j:Int)<=(j:Int)+1:=by omega
    have s4:(j:Int)+1<=H.length:=by omega
    have n1:¬(9223372036854775807:Int)<(s.length:Int)+1:=by omega
    have ati:((pre++((H.take j).filter (anN h w s rc)).map λc=>s++ [c]).length+1)*17<=70368744177664:=by omega
    generalize gS:(pre++((H.take j).filter (anN h w s rc)).map λc=>s++ [c])=cur at *;have E:(pre++((H.take (j+1)).filter (anN h w s rc)).map λc=>s++ [c])=cur++(if anN h w s rc H[j] then[s++ [H[j]]] else[]):=by grind
    rw[Ap] at E;clear xn Ap gS;generalize nv:H[j]=c at *;cases C4:(numOf w h.R (s++ [c])).isSome with
    |false=>
     rw[C4] at O E;simp only[Bool.false_and,abX,ab3,acO] at E
     repeat' first|apply nI|(refine eI an3 λK p=>?_;simp[t1,t2,t3,t8,t9,t7,t11,t12,t10,Z,Y,W,L,J,s2,s3,s4,n1,w3,o6,ab,az,O];apply p)
     refine aN (d2-1) ⟨j+1,τ,by omega,by rfl,by rfl,by rfl,by rfl,by rfl,by rfl,by rfl,by simp,by simp[t10,E],by omega,by simp <;>omega⟩
    |true=>
     rw[C4] at O E;cases N:an1 h.alike rc c with
     |false=>
      rw[N] at I E;simp only[Bool.true_and,abX,ab3,acO] at E
      repeat' first|apply nI|(refine eI an3 λK p=>?_;simp[t1,t2,t3,t8,t9,t7,t11,t12,t10,Z,Y,W,L,J,s2,s3,s4,n1,w3,o6,ab,az,O,U,M,nv,I];apply p)
      refine aN (d2-1) ⟨j+1,τ,by omega,by rfl,by rfl,by rfl,by rfl,by rfl,by rfl,by rfl,by simp,by simp[t10,E],by omega,by simp <;>omega⟩
     |true=>
      rw[N] at I E;simp only[Bool.true_and,acC] at E;have ZO:τ<nx+4+11+10+11:=by omega
      have n9:¬τ=nx+4+11+10+11+2:=by omega
      repeat' first|apply nI|(refine eI an3 λK p=>?_;simp[t1,t2,t3,t8,t9,t7,t11,t12,t10,l10,ZO,n9,Z,Y,W,L,J,s2,s3,s4,n1,w3,o6,ab,az,O,U,M,nv,I,ati];apply p)
      refine aN (d2-1) ⟨j+1,nx+4+11+10+11+3,by omega,by rfl,by rfl,by rfl,by rfl,by rfl,by rfl,by rfl,by simp,by simp[E],by simp,by simp⟩
   ·have ag5:j=H.length:=by omega
    subst ag5;rw[aeo] at t10
    repeat' first|apply nI|(refine eI an3 λK p=>?_;simp[t1,t2,t3,t8,t9,t7,t11,t12,t10,w2];apply p)
    refine aN (d1-1) ⟨k+1,τ,by omega,by rfl,by rfl,by rfl,by rfl,by rfl,by rfl,by simp,by simp[t10,hnx,aof,hHd],by omega,by grind⟩
  ·have aaP:k=out.length:=by omega
   subst aaP;rw[aeo,<-aqv] at t10
   repeat' first|apply nI|(refine eI an3 λK p=>?_;simp[t1,t2,t3,t8,t9,t7,t11,t10,w1];apply p)
   refine aN (d-1) ⟨i+1,some τ,by omega,by rfl,by rfl,by rfl,by rfl,by simp,by rfl⟩
 ·have I8:i=r.length:=by omega
  subst I8;rw[aeo] at t7
  repeat' first|apply nI|(refine eI an3 λK p=>?_;simp[t1,t2,t3,t8,t9,t7];apply p)
  simp[Dn,aH,Tryz.f139,strs]
end
@[simp] abbrev aqh:List Nat:=[0,1,2,3,6,7,8,9,14]
@[simp] abbrev apR:List Nat:=[0,1,2,3,5,6,7,8,9,10,20,41]
def anP(h:ay)(w s:List UInt8):Int:=(numOf w h.R s).getD 0
theorem apX{h:ay}{w s:List UInt8}(hw:w.length<=10)(hs:s.length<=15):aoq [.s w,.s h.R,.s s]=some (.tu [.i .i64 (anP h w s),.b (numOf w h.R s).isSome]):=by
 show(if w.length<1000000/\s.length<=15 then _ else none)=_;rw[aay ⟨by omega,hs⟩];rfl
def anX(h:ay)(w:List UInt8)(t:Tag)(s:List UInt8):Bool:=decide (t.low<=anP h w s)&&decide (anP h w s<=t.high)
def cv(h:ay)(w:List UInt8)(t:Tag):List (List UInt8):=(er h w t.reads).filter (anX h w t)
section
variable{P:Program}[l:cL P]
theorem ao8(h:ay)(w:List UInt8)(p:List (List UInt8))(hw:w.length<=10)(hs:∀s∈p,s.length<=15)(hl:p.length<=1000000):aq P 134 [.ag (o6 h),.s w,strs p] (ints (p.map (anP h w))):=by
 refine fi (ak (aR Tryz.func144) aow (au P)) (lf Tryz.func134) ?_
 repeat' first|apply nI|(refine eI aqh λK E=>?_;simp[o6,strs];apply E)
 refine amF (λd T B lv nx=>∃k τ,k+d=p.length/\T 1=.s w/\T 2=strs p/\T 3=.sp (o6 h)/\T 8=.i .i64 k/\T 7=.sq (some τ) 1 (((p.take k).map (anP h w)).map (.i .i64))/\lv τ=some 3/\τ<nx) p.length ?_ ?_
 ·exact⟨0,2,by simp,by simp,by simp[strs],by simp[o6],by simp,by simp,by simp,by simp⟩
 rintro d T B lv nx ⟨k,τ,hk,t1,t2,t3,t8,t7,N,O⟩;have w1:=aS ((k:Int)+1);by_cases H:k<p.length
 ·have L:(p.map AV.s).drop k=.s p[k]::(p.map AV.s).drop (k+1):=by rw[aa4 (by simpa using H)];simp
  have I:p.take (k+1)=p.take k++ [p[k]]:=aaN H;have J:=apX (h:=h) hw (hs _ (abG H));have hlen:(min k p.length+1)*9<=70368744177664:=by omega
  generalize p[k]=s at L I J;have W:τ<nx+4+13:=by omega
  have M:¬τ=nx+4+13+2:=by omega
  repeat' first|apply nI|(refine eI aqh λK E=>?_;simp[t1,t2,t3,t8,t7,N,W,M,o6,strs,H,L,ab,J,hlen,w1];apply E)
  refine aN (d-1) ⟨k+1,nx+4+13+3,by omega,by simp[t1],by simp[t2,strs],by simp[t3,o6],by simp,by simp[I],by simp,by simp⟩
 ·have U:k=p.length:=by omega
  subst U;rw[aeo] at t7
  repeat' first|apply nI|(refine eI aqh λK E=>?_;simp[t1,t2,t3,t8,t7,o6,strs];apply E)
  simp[Dn,aH,Tryz.f134,ints]
theorem apo(h:ay)(w:List UInt8)(t:Tag)(hv:sH h)(hw:w.length<=10)(Z:h.R.length<=1)(hr:t.reads.length<=5):aq P 90 [.ag (o6 h),.s w,.ag (fP t)] (strs (cv h w t)):=by
 obtain⟨S,sd,Y⟩:=ca (aoR (P:=P) h w t.reads hv hw Z hr);obtain⟨L,LQ⟩:=anR h w hw Z t.reads t.reads.length (aax _);rw[aeo] at L LQ;have h11:11^t.reads.length<=161051:=aef (n:=11) (show 11>0 by decide) hr;unfold cv;generalize er h w t.reads=p at *;simp only[o6,strs] at Y;refine fi (ak (aR Tryz.func139) sd (ak (aR Tryz.func144) aow (ak (aR Tryz.func42) anp (au P)))) (lf Tryz.func90) ?_
 repeat' first|apply nI|(refine eI apR λK H=>?_;simp[o6,fP,ab,az,Y];apply H)
 refine amF (λd T B lv nx=>∃k τ,k+d=p.length/\T 1=.s w/\T 3=.sp (o6 h)/\T 5=.sp (fP t)/\T 8=strs p/\T 9=.i .i64 k/\T 7=.sq (some τ) 1 (((p.take k).filter (anX h w t)).map .s)/\lv τ=some 9/\τ<nx) p.length ?_ ?_
 ·exact⟨0,3,by simp,by simp,by simp[o6],by simp[fP],by simp[strs],by simp,by simp,by simp,by simp⟩
 rintro d T B lv nx ⟨k,τ,hk,t1,t3,t5,t8,t9,t7,W,hτ⟩;have w1:=aS ((k:Int)+1);by_cases J:k<p.length
 ·have N:(p.map AV.s).drop k=.s p[k]::(p.map AV.s).drop (k+1):=by rw[aa4 (by simpa using J)];simp
  have U:p.take (k+1)=p.take k++ [p[k]]:=aaN J;have M:=apX (h:=h) hw (show p[k].length<=15 by rw[LQ _ (abG J)];omega);have Oe:=ael (anX h w t) (p.take k);rw[afk] at Oe;have hlen:(((p.take k).filter (anX h w t)).length+1)*17<=70368744177664:=by omega
  generalize p[k]=s at N U M;have E:(p.take (k+1)).filter (anX h w t)=(p.take k).filter (anX h w t)++if anX h w t s then[s] else[]:=by
   rw[U,ag2];cases hp:anX h w t s <;>simp[hp]
  have I:anX h w t s=(decide (t.low<=anP h w s)&&decide (anP h w s<=t.high)):=rfl;by_cases O:t.low<=anP h w s/\anP h w s<=t.high
  ·have f1:=O.1;have f2:=O.2;rw[I] at E;simp only[f1,f2,decide_true,Bool.and_self,acC] at E;have ZO:τ<nx+4+13+8:=by omega
   have n9:¬τ=nx+4+13+8+5:=by omega
   repeat' first|apply nI|(refine eI apR λK H=>?_;simp[t1,t3,t5,t8,t9,t7,W,ZO,n9,o6,fP,strs,J,N,ab,az,M,dIn,f1,f2,hlen,w1];apply H)
   refine aN (d-1) ⟨k+1,nx+4+13+8+6,by omega,by simp[t1],by simp[t3,o6],by simp[t5,fP],by simp[t8,strs],by simp,by simp[E],by simp,by simp⟩
  ·have f0:¬(t.low<=anP h w s/\anP h w s<=t.high):=O;have fb:(decide (t.low<=anP h w s)&&decide (anP h w s<=t.high))=false:=by
    rw[Bool.and_eq_false_iff,aac,aac];omega
   rw[I,fb] at E;simp only[abX,ab3,acO] at E
   repeat' first|apply nI|(refine eI apR λK H=>?_;simp[t1,t3,t5,t8,t9,t7,o6,fP,strs,J,N,ab,az,M,dIn,fb,w1];apply H)
   refine aN (d-1) ⟨k+1,τ,by omega,by simp[t1],by simp[t3,o6],by simp[t5,fP],by simp[t8,strs],by simp,by simp[t7,E],by simp[W],by simp <;>omega⟩
 ·have gg:k=p.length:=by omega
  subst gg;rw[aeo] at t7
  repeat' first|apply nI|(refine eI apR λK H=>?_;simp[t1,t3,t5,t8,t9,t7,o6,fP,strs];apply H)
  simp[Dn,aH,Tryz.f90,strs]
end
def agl:=@List.exists_cons_of_ne_nil
def aqo:List UInt8->List UInt8->Bool
 |c::s,r::rs=>(r !=63&&r !=c)||aqo s rs
 |_,_=>false
def aoh(h:ay)(w:List UInt8):Int×Int->List UInt8->List UInt8->Int×Int->Prop
 |st,[],[],p=>st=p
 |st,r::rs,c::s,p=>c∈w++h.R/\an1 h.alike r c=true/\∃st1,b9 w h.R st c=some st1/\aoh h w st1 rs s p
 |_,_,_,_=>False
section
variable{h:ay}{w:List UInt8}
theorem aoe:∀(rs s:List UInt8) (st p:Int×Int),aoh h w st rs s p->anJ w h.R st s=some p
 | [],[],st,p,e=>by simp only[aoh] at e;rw[e];rfl
 |r::rs,c::s,st,p,⟨_,_,st1,h1,h2⟩=>by
  simp only[anJ,h1,abN];exact aoe rs s st1 p h2
 | [],_::_,_,_,e=>e.elim
 |_::_,[],_,_,e=>e.elim
theorem aod:∀(rs s:List UInt8) (r:UInt8) (st p:Int×Int),aoh h w st (rs++ [r]) s p↔∃s0 c st1,s=s0++ [c]/\aoh h w st rs s0 st1/\c∈w++h.R/\an1 h.alike r c=true/\b9 w h.R st1 c=some p
 | [],s,r,st,p=>by
  constructor
  ·intro hc
   match s,hc with
   | [c],⟨h1,h2,st1,H,E⟩=>
    simp only[aoh] at E;exact⟨[],c,st,rfl,rfl,h1,h2,by grind⟩
   |c::d::s,⟨_,_,_,_,E⟩=>exact E.elim
  ·rintro⟨s0,c,st1,rfl,h1,h2,H,E⟩
   match s0,h1 with
   | [],h1=>
    simp_all [aoh]
 |q::rs,s,r,st,p=>by
  constructor
  ·intro hc
   match s,hc with
   |c::s,⟨h1,h2,st1,H,E⟩=>
    obtain⟨s0,d,st2,rfl,k1,k2,J,I⟩:=(aod rs s r st1 p).1 E;exact⟨c::s0,d,st2,rfl,⟨h1,h2,st1,H,k1⟩,k2,J,I⟩
  ·rintro⟨s0,d,st2,rfl,k1,k2,J,I⟩
   match s0,k1 with
   |c::s0,⟨h1,h2,st1,H,k1⟩=>exact⟨h1,h2,st1,H,(aod rs (s0++ [d]) r st1 p).2 ⟨s0,d,st2,rfl,k1,k2,J,I⟩⟩
theorem aou:∀(n:Nat) (rs:List UInt8),rs.length=n->∀s,s∈er h w rs↔∃p,aoh h w (0,-1) rs s p
 |0,rs,hn,s=>by
  have:rs= []:=abA hn;subst this;simp only[er,List.foldl_nil,acE];constructor
  ·rintro rfl;exact⟨(0,-1),rfl⟩
  ·rintro⟨p,hc⟩
   match s,hc with
   | [],_=>rfl
 |n+1,rs,hn,s=>by
  obtain⟨rs,r,rfl⟩:∃l r,rs=l++ [r]:=⟨rs.dropLast,rs.getLast (by grind),(List.dropLast_concat_getLast _).symm⟩
  have hn:rs.length=n:=by grind
  have H:=aou n rs hn;rw[aob,aeQ];constructor
  ·rintro⟨s0,h1,h2⟩;obtain⟨c,hc,rfl⟩:=ac4.1 h2;obtain⟨J,E⟩:=afJ.1 hc;obtain⟨st1,k1⟩:=(H s0).1 h1;unfold anN at E;rw[aaZ] at E;have hf:=aoe _ _ _ _ k1;have hs:=E.1;unfold numOf at hs;rw[anZ,hf] at hs;simp only[abN,anJ] at hs;cases I:b9 w h.R st1 c with
   |none=>simp_all
   |some p=>exact⟨p,(aod _ _ _ _ _).2 ⟨s0,c,st1,rfl,k1,J,E.2,I⟩⟩
  ·rintro⟨p,hc⟩;obtain⟨s0,c,st1,rfl,k1,k2,M,L⟩:=(aod _ _ _ _ _).1 hc;refine⟨s0,(H s0).2 ⟨st1,k1⟩,ac4.2 ⟨c,afJ.2 ⟨k2,?_⟩,rfl⟩⟩
   grind [aoe,anN,numOf]
theorem aoQ{rs s:List UInt8}{p:Int×Int}(hc:aoh h w (0,-1) rs s p):anP h w s=p.1:=by
 unfold anP numOf;rw[aoe _ _ _ _ hc];rfl
theorem aon(r c:UInt8):an1 h.alike r c=fK h r c:=by
 unfold an1 fK
 grind
theorem apI(ho:Tc h w){j:Nat}(p:j<w.length):placeOf w w[j]=(((j+1)%10:Nat):Int):=by
 rw[aoJ w w[j] j p (λhm=>?_) rfl]
 ·omega
 ·obtain⟨i,hi,e⟩:=agD.1 hm;have:=(List.getElem_inj ho.nod (i:=i) (j:=j) (h₀:=by omega) (h₁:=p)).1 e;omega
theorem aoP(ho:Tc h w)(n last:Int)(c:UInt8)(st:Int×Int):(c∈w++h.R/\b9 w h.R (n,last) c=some st)↔
  (∃j<10,w.getD j 0=c/\((((j+1)%10:Nat):Int) !=last||h.R.isEmpty)=true/\st=(10*n+(((j+1)%10:Nat):Int),(((j+1)%10:Nat):Int)))\/(∃q H,h.R=q::H/\c=q/\0<=last/\st=(10*n+last,last)):=by
 have O:∀j,(p:j<w.length)->w.getD j 0=w[j]:=λj p=>by simp_all
 have L:=ho.len;have U:∀j,(p:j<w.length)->b9 w h.R (n,last) w[j]=if h.R≠ []/\(((j+1)%10:Nat):Int)=last then none else some (10*n+(((j+1)%10:Nat):Int),(((j+1)%10:Nat):Int)):=λj p=>by
  have E:¬(h.R≠ []/\h.R[0]?=some w[j]):=λe=>(ho.rep _ (List.mem_of_getElem? e.2)).2 (abG p)
  unfold b9;rw[aat E,apI ho p];rfl
 constructor
 ·rintro⟨hm,hs⟩;by_cases I:c∈w
  ·obtain⟨j,p,rfl⟩:=List.getElem_of_mem I
   grind
  ·have M:c∈h.R:=(abH.1 hm).resolve_left I;obtain⟨q,H,J⟩:=agl (List.ne_nil_of_mem M)
   simp_all [aoB,b9]
 ·rintro(⟨j,p,rfl,N,rfl⟩|⟨q,H,J,rfl,hl,rfl⟩)
  ·grind
  grind [b9]
theorem aoL(ho:Tc h w):∀(rs:List UInt8) (last n:Int) (b:Bool) (m:Int) (o:Bool),(m,o)∈bf h w rs last n b↔∃s p,aoh h w (n,last) rs s p/\p.1=m/\(b||aqo s rs)=o
 | [],last,n,b,m,o=>by
  simp only[bf,acE,Prod.mk.injEq];constructor
  ·rintro⟨rfl,rfl⟩;exact⟨[],(m,last),rfl,rfl,by simp[aqo]⟩
  ·rintro⟨s,p,hc,rfl,rfl⟩
   grind [aoh,aqo]
 |r::rs,last,n,b,m,o=>by
  have I:=aoL ho rs;have key:(m,o)∈bf h w (r::rs) last n b↔∃c st,(c∈w++h.R/\b9 w h.R (n,last) c=some st)/\an1 h.alike r c=true/\∃s p,aoh h w st rs s p/\p.1=m/\((b||(r !=63&&r !=c))||aqo s rs)=o:=by
   unfold bf;rw[abH];constructor
   ·rintro(hx|hx)
    ·obtain⟨j,E,hx⟩:=aeQ.1 hx;have E:=aeh.1 E;split at hx
     ·rename_i M;split at hx
      ·rename_i H;exact⟨w.getD j 0,_,(aoP ho n last _ _).2 (.inl ⟨j,E,rfl,M,rfl⟩),by grind [aon],(I _ _ _ _ _).1 hx⟩
      ·cases hx
     ·cases hx
    ·split at hx
     ·cases hx
     ·rename_i q W N;split at hx
      ·rename_i hl;split at hx
       ·rename_i H;exact⟨q,_,(aoP ho n last _ _).2 (.inr ⟨q,W,N,rfl,hl,rfl⟩),by grind [aon],(I _ _ _ _ _).1 hx⟩
       ·cases hx
      ·cases hx
   ·rintro⟨c,st,Z,H,Y⟩
    grind [aon,aoP]
  rw[key];constructor
  ·rintro⟨c,st,⟨h1,h2⟩,L,s,p,J,U,O⟩;exact⟨c::s,p,⟨h1,L,st,h2,J⟩,U,by grind [aqo]⟩
  ·rintro⟨s,p,hc,hm,O⟩
   match s,hc with
   |c::s,⟨h1,L,st,h2,J⟩=>grind [aqo]
theorem aoH(ho:Tc h w)(rs:List UInt8)(x:Int×Bool):x∈bf h w rs (-1) 0 false↔∃s∈er h w rs,(anP h w s,aqo s rs)=x:=by
 obtain⟨m,o⟩:=x;rw[aoL ho];constructor
 ·rintro⟨s,p,hc,rfl,rfl⟩;exact⟨s,(aou _ rs rfl s).2 ⟨p,hc⟩,by rw[aoQ hc,ahe]⟩
 ·rintro⟨s,hs,e⟩;obtain⟨p,hc⟩:=(aou _ rs rfl s).1 hs
  grind [aoQ]
theorem anY(ho:Tc h w)(rs:List UInt8)(m:Int):m∈(er h w rs).map (anP h w)↔m∈(bf h w rs (-1) 0 false).map (·.1):=by
 simp only[ac4,aoH ho]
 grind
end
@[simp] abbrev ao9:List Nat:=[0,1,2,3,4,5,6,7,13,20,39]
theorem ao4{h:ay}{w:List UInt8}(ho:Tc h w)(t:Tag):(!(cF h w t).isEmpty)=decide (0<(cv h w t).length):=by
 rw[adX,amL,aan,List.length_pos_iff_exists_mem];constructor
 ·rintro⟨n,hn⟩;obtain⟨h1,h2,p⟩:=amH.1 hn;obtain⟨s,hs,rfl⟩:=ac4.1 ((anY ho t.reads n).2 h1);exact⟨s,afJ.2 ⟨hs,by grind [anX]⟩⟩
 ·rintro⟨s,hs⟩;obtain⟨h1,h2⟩:=afJ.1 hs;simp only[anX,aaZ,aan] at h2;exact⟨anP h w s,amH.2 ⟨(anY ho t.reads _).1 (ac4.2 ⟨s,h1,rfl⟩),h2⟩⟩
section
variable{P:Program}[l:cL P]
theorem aom(h:ay)(hc:aO h=0):∃F:List AV->Option AV,Den P 90 F/\∀w t,w.length=10->t∈h.tags->F [.ag (o6 h),.s w,.ag (fP t)]=some (strs (cv h w t)):=by
 have p:=checked h hc;obtain⟨F,h1,h2⟩:=cC (P:=P) (f:=90) (ι:=List UInt8×Tag) (λx=> [.ag (o6 h),.s x.1,.ag (fP x.2)]) (λx=>strs (cv h x.1 x.2)) (λx=>x.1.length=10/\x.2∈h.tags) (λx y _ _ e=>by
  simp only[fP,abg,AV.s.injEq,AV.ag.injEq,AV.i.injEq,adM,abQ] at e;obtain⟨J,I,H,E⟩:=e;obtain⟨a,⟨b,c,d⟩⟩:=x
  simp_all) (λx hx=>apo h x.1 x.2 (dO h hc).al (by omega) p.1.2.2.2.1 (qW hc hx.2))
 exact⟨F,h1,λw t a b=>h2 (w,t) ⟨a,b⟩⟩
theorem ape(h:ay)(hc:aO h=0):aq P 125 [.ag (o6 h)] (strs (aB h)):=by
 obtain⟨⟨k1,_,_,_,_,k6,k7,_⟩,_,Wp,_⟩:=checked h hc;obtain⟨A,ad,hA⟩:=ca (apC (P:=P) h (by omega) (by omega));obtain⟨F,fd,hF⟩:=aom (P:=P) h hc;have M:=cV h.tags;have fF:∀w∈e_ h.L h.S,Tc h w:=λw hw=>aiZ hc hw
 have aqk:=an_ h.L h.S (by omega);rw[k1] at aqk;unfold aB;generalize e_ h.L h.S=ws at *;simp only[o6,strs] at hA;refine fi (ak (aR Tryz.func160) ad (ak (aR Tryz.func90) fd (au P))) (lf Tryz.func125) ?_
 repeat' first|apply nI|(refine eI ao9 λK p=>?_;simp[o6,ab,hA];apply p)
 refine amF (λd T B lv nx=>∃i τ,i+d=ws.length/\T 1=.sp (o6 h)/\T 3=strs ws/\T 5=.i .i64 i/\T 4=.sq (some τ) 1 (((ws.take i).filter (Az h)).map .s)/\lv τ=some 9/\τ<nx) ws.length ?_ ?_
 ·exact⟨0,5,by simp,by rfl,by rfl,by simp,by simp,by simp,by simp⟩
 rintro d T B lv nx ⟨i,τ,hi,t1,t3,t5,t4,l4,Y⟩;have w1:=aS ((i:Int)+1);by_cases J:i<ws.length
 ·have U:(ws.map AV.s).drop i=.s ws[i]::(ws.map AV.s).drop (i+1):=by grind [List.drop_eq_getElem_cons]
  have ti:ws.take (i+1)=ws.take i++ [ws[i]]:=aaN J;have ho:=fF _ (abG J);have Oe:=ael (Az h) (ws.take i);rw[afk] at Oe;have hlen:(((ws.take i).filter (Az h)).length+1)*17<=70368744177664:=by omega
  generalize ws[i]=w at U ti ho;have E:(ws.take (i+1)).filter (Az h)=(ws.take i).filter (Az h)++if Az h w then[w] else[]:=by
   grind
  repeat' first|apply nI|(refine eI ao9 λK p=>?_;simp[t1,t3,t5,t4,strs,J];apply p)
  refine amF (λd T B lv nx=>∃k,k+d=h.tags.length/\T 1=.sp (o6 h)/\T 3=strs ws/\T 5=.i .i64 i/\T 4=.sq (some τ) 1 (((ws.take i).filter (Az h)).map .s)/\lv τ=some 9/\τ<nx/\T 7=.i .i64 k/\T 6=.b ((h.tags.take k).all λt=> !(cF h w t).isEmpty)) h.tags.length ?_ ?_
  ·exact⟨0,by simp,by rfl,by rfl,by simp,by simp,by omega,by omega,by simp,by simp⟩
  rintro d1 T B lv nx ⟨k,hk,t1,t3,t5,t4,l4,Y,t7,t6⟩;have w2:=aS ((k:Int)+1);by_cases I:k<h.tags.length
  ·have W:=fA h.tags k h.tags[k] (aaf I);have eu:(k+1)*3<=h.tags.length*3:=by omega
   have tk:h.tags.take (k+1)=h.tags.take k++ [h.tags[k]]:=aaN I;have H:=hF w h.tags[k] ho.len (abG I);simp only[o6,fP,strs] at H;generalize h.tags[k]=t at W tk H;have aqu:=ao4 ho t;have N:(h.tags.take (k+1)).all (λt=> !(cF h w t).isEmpty)=((h.tags.take k).all (λt=> !(cF h w t).isEmpty)&&decide (0<(cv h w t).length)):=by
    simp_all
   generalize cv h w t=rl at *;cases hb:(h.tags.take k).all (λt=> !(cF h w t).isEmpty) with
   |false=>
    rw[hb] at t6 N
    repeat' first|apply nI|(refine eI ao9 λK p=>?_;simp[t1,t3,t5,t4,t7,t6,o6,strs,M,I,w2];apply p)
    refine aN (d1-1) ⟨k+1,by omega,by rfl,by rfl,by rfl,by rfl,by omega,by grind,by simp,by simp[N]⟩
   |true=>
    rw[hb] at t6 N;by_cases O:0<rl.length
    ·repeat' first|apply nI|(refine eI ao9 λK p=>?_;simp[t1,t3,t5,t4,t7,t6,o6,strs,M,I,J,U,W,eu,ab,az,H,O,w2];apply p)
     refine aN (d1-1) ⟨k+1,by omega,by rfl,by rfl,by rfl,by rfl,by omega,by grind,by simp,by simp[N,O]⟩
    ·repeat' first|apply nI|(refine eI ao9 λK p=>?_;simp[t1,t3,t5,t4,t7,t6,o6,strs,M,I,J,U,W,eu,ab,az,H,O,w2];apply p)
     refine aN (d1-1) ⟨k+1,by omega,by rfl,by rfl,by rfl,by rfl,by omega,by grind,by simp,by simp[N,O]⟩
  ·have aaP:k=h.tags.length:=by omega
   subst aaP;rw[aeo] at t6;have Z:(h.tags.all λt=> !(cF h w t).isEmpty)=Az h w:=rfl;rw[Z] at t6;cases hg:Az h w with
   |false=>
    rw[hg] at t6 E;simp only[abX,ab3,acO] at E
    repeat' first|apply nI|(refine eI ao9 λK p=>?_;simp[t1,t3,t5,t4,t7,t6,o6,strs,M,w1];apply p)
    refine aN (d-1) ⟨i+1,τ,by omega,by rfl,by rfl,by simp,by simp[t4,E],by omega,by grind⟩
   |true=>
    rw[hg] at t6 E;simp only[acC] at E;have ZO:τ<nx+5+1:=by omega
    have n9:¬τ=nx+5+1+5:=by omega
    repeat' first|apply nI|(refine eI ao9 λK p=>?_;simp[t1,t3,t5,t4,t7,t6,l4,ZO,n9,o6,strs,M,J,U,hlen,w1];apply p)
    refine aN (d-1) ⟨i+1,nx+5+1+6,by omega,by rfl,by rfl,by simp,by simp[E],by simp,by simp⟩
 ·have I8:i=ws.length:=by omega
  subst I8;rw[aeo] at t4
  repeat' first|apply nI|(refine eI ao9 λK p=>?_;simp[t1,t3,t5,t4,o6,strs];apply p)
  simp[Dn,aH,Tryz.f125,strs]
end
@[simp] abbrev ap4:List Nat:=[0,1,2,4,5,6,7,11,14,20]
theorem apf{l m:List Int}(h:∀x,x∈l↔x∈m):uI l=uI m:=apV (aoD m) λx=>(lW m x).trans (h x).symm
section
variable{P:Program}[l:cL P]
theorem aoZ(h:ay)(i:Int)(hn:h.tags.length<1000000):aq P 79 [.ag (o6 h),.i .i64 i] (.i .i64 (iN h i)):=by
 have H:=cV h.tags;have w0:IntKind.i64.wrap ((h.tags.length:Int)-1)=(h.tags.length:Int)-1:=aS _;refine fi (ak (aR Tryz.func42) anp (au P)) (lf Tryz.func79) ?_;by_cases E:0<=i/\i<h.tags.length
 ·have f1:=E.1;have f2:i<=(h.tags.length:Int)-1:=by omega
  repeat' first|apply nI|(refine eI aqg λK p=>?_;simp[o6,H,w0,ab,dIn,f1,f2];apply p)
  simp[Dn,aH,Tryz.f79,iN,E]
 ·have I:(decide (0<=i)&&decide (i<=(h.tags.length:Int)-1))=false:=by
   rw[Bool.and_eq_false_iff,aac,aac];omega
  repeat' first|apply nI|(refine eI aqg λK p=>?_;simp[o6,H,w0,ab,dIn,I];apply p)
  simp[Dn,aH,Tryz.f79,iN,E]
theorem an9(h:ay)(hf:Fair h)(b:Int):aq P 78 [.ag (o6 h),.i .i64 b] (.tu [strs (bK h [b] (aB h) []),.i .i64 (bJ h [b])]):=by
 obtain⟨A,I,H⟩:=ca (BI (P:=P) h hf);simp only[o6] at H;by_cases hc:aO h=0
 ·have p:bJ h [b]=if b≠0 then b else if aB h= [] then 9 else 0:=by
   unfold bJ;rw[aat (by simp[hc])];by_cases e:b=0 <;>simp[bN,e]
  by_cases hb:b=0
  ·subst hb;rw[aat (by simp)] at p;obtain⟨W,wd,hW⟩:=ca (ape (P:=P) h hc);simp only[o6,strs] at hW;rw[hc] at H;refine fi (ak (aR Tryz.func49) I (ak (aR Tryz.func125) wd (au P))) (lf Tryz.func78) ?_;by_cases hw:aB h= []
   ·rw[aay hw] at p;rw[hw] at hW
    repeat' first|apply nI|(refine eI ap4 λK E=>?_;simp[o6,ab,az,H,hW,bne];apply E)
    simp[Dn,dc,aH,Tryz.f78,bK,p,strs]
   ·rw[aat hw] at p;have hl:(((aB h).length:Int)==0)=false:=by
     have:=agz.2 hw;rw[ady];omega
    generalize aB h=ws at *
    repeat' first|apply nI|(refine eI ap4 λK E=>?_;simp[o6,ab,az,H,hW,bne,hl,hw];apply E)
    simp[Dn,dc,aH,Tryz.f78,bK,p,strs]
  ·rw[aay hb] at p;rw[hc] at H;have J:(b==0)=false:=by simp[hb]
   refine fi (ak (aR Tryz.func49) I (au P)) (lf Tryz.func78) ?_
   repeat' first|apply nI|(refine eI ap4 λK E=>?_;simp[o6,ab,H,bne,J];apply E)
   simp[Dn,dc,aH,Tryz.f78,bK,p,hb,strs]
 ·have p:bJ h [b]=aO h:=by unfold bJ;rw[aay hc]
  have L:(aO h==0)=false:=by simp[hc]
  refine fi (ak (aR Tryz.func49) I (au P)) (lf Tryz.func78) ?_
  repeat' first|apply nI|(refine eI ap4 λK E=>?_;simp[o6,ab,H,bne,L];apply E)
  simp[Dn,dc,aH,Tryz.f78,bK,p,hc,strs]
theorem aoK(h:ay):∃F:List AV->Option AV,Den P 134 F/\∀w p,w.length<=10->(∀s∈p,s.length<=15)->p.length<=1000000->F [.ag (o6 h),.s w,strs p]=some (ints (p.map (anP h w))):=by
 obtain⟨F,h1,h2⟩:=cC (P:=P) (f:=134) (ι:=List UInt8×List (List UInt8)) (λx=> [.ag (o6 h),.s x.1,strs x.2]) (λx=>ints (x.2.map (anP h x.1))) (λx=>x.1.length<=10/\(∀s∈x.2,s.length<=15)/\x.2.length<=1000000) (λx y _ _ e=>by
  simp only[strs,abg,AV.s.injEq,AV.sq.injEq,adM,abQ] at e;rw[e.1,Tu e.2]) (λx hx=>ao8 h x.1 x.2 hx.1 hx.2.1 hx.2.2)
 exact⟨F,h1,λw p a b c=>h2 (w,p) ⟨a,b,c⟩⟩
end
@[simp] abbrev ap0:List Nat:=[0,1,2,3,6,7,8,12]
theorem aos{h:ay}{w:List UInt8}(ho:Tc h w)(t:Tag)(x:Int):x∈(cv h w t).map (anP h w)↔x∈(cF h w t).map (·.1):=by
 rw[amH,<-anY ho t.reads x];unfold cv;simp only[ac4,afJ,anX,aaZ,aan]
 grind
theorem an4{h:ay}(hc:aO h=0){w:List UInt8}(hw:w.length=10){t:Tag}(ht:t∈h.tags):(cv h w t).length<=161051/\∀s∈cv h w t,s.length<=5:=by
 have hr:=qW hc ht;obtain⟨a,b⟩:=anR h w (by omega) (checked h hc).1.2.2.2.1 t.reads t.reads.length (aax _);rw[aeo] at a b;refine⟨aaY (ael _ _) (aaY a (aef (n:=11) (show 11>0 by decide) hr)),λs hs=>?_⟩;have:=b s (afJ.1 hs).1;omega
section
variable{P:Program}[l:cL P]
theorem ao7(h:ay)(hc:aO h=0)(i:Nat)(t:Tag)(ht:h.tags[i]?=some t):aq P 80 [.ag (o6 h),strs (aB h),.i .i64 i] (ints (dP h i)):=by
 have hi:i<h.tags.length:=(abi.1 ht).1;have U:=List.mem_of_getElem? ht;have kN:=cV h.tags;have Y:=fA h.tags i t ht;have eu:(i+1)*3<=h.tags.length*3:=by omega
 obtain⟨S,sd,hS⟩:=aom (P:=P) h hc;obtain⟨N,nd,hN⟩:=aoK (P:=P) h;have J:dP h i=uI ((aB h).flatMap λw=>(cv h w t).map (anP h w)):=by
  grind [amM,apf,aos,MX]
 have aoi:(aB h).length<=1000000:=by grind [sP]
 have L:=cI hc;rw[J];clear J;generalize aB h=ws at *;have hbound:∀k,((ws.take k).flatMap λw=>(cv h w t).map (anP h w)).length<=1000000*161051:=λk=>by
  refine aaY (anS _ 161051 _ λw hw=>by grind [an4]) ?_
  grind
 obtain⟨Z,W,M⟩:=ca (aoS (P:=P) (ws.flatMap λw=>(cv h w t).map (anP h w)) (by have:=hbound ws.length;grind));simp only[ints] at M;refine fi (ak (aR Tryz.func90) sd (ak (aR Tryz.func134) nd (ak (aR Tryz.func116) W (au P)))) (lf Tryz.func80) ?_
 repeat' first|apply nI|(refine eI ap0 λK H=>?_;simp[o6,strs];apply H)
 refine amF (λd T B lv nx=>∃k τ,k+d=ws.length/\T 1=strs ws/\T 2=.i .i64 i/\T 3=.sp (o6 h)/\T 8=.i .i64 k/\T 7=.sq (some τ) 1 (((ws.take k).flatMap λw=>(cv h w t).map (anP h w)).map (.i .i64))/\lv τ=some 3/\τ<nx) ws.length ?_ ?_
 ·exact⟨0,2,by simp,by rfl,by simp,by rfl,by simp,by simp,by simp,by simp⟩
 rintro d T B lv nx ⟨k,τ,hk,t1,t2,t3,t8,t7,l7,hτ⟩;have w1:=aS ((k:Int)+1);by_cases I:k<ws.length
 ·have O:(ws.map AV.s).drop k=.s ws[k]::(ws.map AV.s).drop (k+1):=by grind [List.drop_eq_getElem_cons]
  have tk:ws.take (k+1)=ws.take k++ [ws[k]]:=aaN I;have hm:=abG I;have hb:=hbound k;generalize ws[k]=w at O tk hm;obtain⟨q1,q2⟩:=an4 hc (L w hm) U;have p:=hS w t (L w hm) U;have E:=hN w (cv h w t) (by simp_all) (λs hs=>by grind) (by omega);have hnx:(ws.take (k+1)).flatMap (λw=>(cv h w t).map (anP h w))=(ws.take k).flatMap (λw=>(cv h w t).map (anP h w))++(cv h w t).map (anP h w):=by simp_all
  simp only[o6,fP,strs,ints] at p E;generalize (ws.take k).flatMap (λw=>(cv h w t).map (anP h w))=pre at *;generalize cv h w t=ss at *;have hlen:(pre.length+ss.length)*9<=70368744177664:=by omega
  have ZO:τ<nx+4:=by omega
  repeat' first|apply nI|(refine eI ap0 λK H=>?_;simp[t1,t2,t3,t8,t7,l7,ZO,o6,strs,kN,Y,eu,I,O,ab,az,p,E,hlen,w1];apply H)
  refine aN (d-1) ⟨k+1,nx+4+18,by omega,by rfl,by rfl,by rfl,by simp,by simp[hnx],by simp,by simp⟩
 ·have gg:k=ws.length:=by omega
  subst gg;rw[aeo] at t7
  repeat' first|apply nI|(refine eI ap0 λK H=>?_;simp[t1,t2,t3,t8,t7,o6,strs,ab,az,M];apply H)
  simp[Dn,aH,Tryz.f80,ints]
theorem apm(h:ay)(hf:Fair h)(i:Int):aq P 19 [.ag (o6 h),.i .i64 i] (.tu [ints (bK h [iN h i] (dP h i) []),.i .i64 (bJ h [iN h i])]):=by
 obtain⟨A,L,H⟩:=ca (aoZ (P:=P) h i (by have:=hf.nt;omega));obtain⟨O,I,p⟩:=ca (an9 (P:=P) h hf (iN h i));simp only[o6,strs] at H p;by_cases ho:bJ h [iN h i]=0
 ·obtain⟨hc,hb,_⟩:=ij ho;have U:0<=i/\i<h.tags.length:=by
   refine aaO λhn=>?_
   grind [iN,bN]
  obtain⟨j,rfl⟩:∃j:Nat,i=j:=⟨i.toNat,by omega⟩
  have W:j<h.tags.length:=by omega
  obtain⟨M,md,J⟩:=ca (ao7 (P:=P) h hc j _ (aaf W));simp only[o6,strs,ints] at J;rw[bK,ho,aat (by decide)] at p;refine fi (ak (aR Tryz.func79) L (ak (aR Tryz.func78) I (ak (aR Tryz.func80) md (au P)))) (lf Tryz.func19) ?_
  repeat' first|apply nI|(refine eI [0,1,2,4,5,6,7,17] λK E=>?_;simp[o6,ab,az,H,p,J,bne];apply E)
  simp_all [Dn,dc,aH,bK,ints]
 ·have N:(bJ h [iN h i]==0)=false:=by grind
  rw[bK,aay ho] at p;refine fi (ak (aR Tryz.func79) L (ak (aR Tryz.func78) I (au P))) (lf Tryz.func19) ?_
  repeat' first|apply nI|(refine eI [0,1,2,4,5,6,7,17] λK E=>?_;simp[o6,ab,az,H,p,N,bne];apply E)
  simp_all [Dn,dc,aH,bK,ints]
end
def ag9:=@List.foldl_append
@[simp] abbrev aqn:List Nat:=[0,1,2,4,5,6,7,8,9,10,11,24,28,44]
section
variable{h:ay}{i:Nat}{t:Tag}(hc:aO h=0)(hw:aB h≠ [])
include hc hw
theorem aqq(bs:List Int)(hb:bN bs=0):bJ h bs=0:=Vm hc hb hw
theorem aqZ{α:Type}(bs:List Int)(x y:α)(hb:bN bs=0):bK h bs x y=x:=by unfold bK;rw[aat (by simp[aqq hc hw bs hb])]
omit hw in
theorem arD(hi:i<h.tags.length):iN h i=0:=by unfold iN;rw[aay (by omega)]
end
theorem arQ(h:ay)(i:Nat)(l:List Int)(k:Nat)(hk:k<l.length):ry h (l.take (k+1)) i=max (ry h (l.take k) i) ((aB (ia h i l[k] l[k])).length:Int):=by
 unfold ry;rw[aaN hk,ag9];rfl
section
variable{P:Program}[l:cL P]
theorem arH(h:ay)(hf:Fair h)(hc:aO h=0)(hw:aB h≠ [])(i:Nat)(hi:i<h.tags.length):aq P 43 [.ag (o6 h),.i .i64 i] (.b (decide (((dP h i).length:Int)<=200))):=by
 have p:=apm (P:=P) h hf i;rw[arD hc hi,aqZ hc hw _ _ _ rfl,aqq hc hw _ rfl] at p;obtain⟨R,rd,p⟩:=ca p;simp only[o6,ints] at p;refine fi (ak (aR Tryz.func19) rd (au P)) (lf Tryz.func43) ?_;generalize dP h i=pl at *
 repeat' first|apply nI|(refine eI [0,1,2,4,5,6] λK E=>?_;simp[o6,ab,az,p];apply E)
 simp[Dn,aH,Tryz.f43]
set_option maxHeartbeats 1000000 in
theorem aqO(h:ay)(hm:j9 h)(hc:aO h=0)(hw:aB h≠ [])(i:Nat)(hi:i<h.tags.length)(hl:(dP h i).length<=200):aq P 44 [.ag (o6 h),.i .i64 i] (.tu [.i .i64 (ry h (dP h i) i),.b true]):=by
 have ht:h.tags[i]?=some h.tags[i]:=aaf hi;have H:=(alh _ (checked h hc).2.2.2 _ (abG hi)).2;generalize h.tags[i]=t at ht H;simp only[dR,aan] at H;have E:=wR (P:=P) h hm i;rw[arD hc hi,aqZ hc hw _ _ _ rfl,aqq hc hw _ rfl] at E;obtain⟨R,rd,E⟩:=ca E;obtain⟨O,od,hO⟩:=cC (P:=P) (f:=61) (ι:=Int) (λn=> [.i .i64 n]) (λn=>.ag [.i .i64 n,.i .i64 n]) (λ_=>True) (λx y _ _ e=>by
  simp only[abg,AV.i.injEq,adM,abQ] at e;rw[e]) (λn _=>ant n)
 obtain⟨Z,zd,J⟩:=cC (P:=P) (f:=62) (ι:=Int) (λn=> [.ag (o6 h),.i .i64 i,.ag [.i .i64 n,.i .i64 n]]) (λn=>.ag (o6 (ia h i n n))) (λ_=>True) (λx y _ _ e=>by
  simp only[abg,AV.i.injEq,AV.ag.injEq,adM,abQ,and_self] at e;rw[e]) (λn _=>am2 h hm i hi n n)
 obtain⟨W,wd,hW⟩:=cC (P:=P) (f:=36) (ι:=Int) (λn=> [.ag (o6 (ia h i n n))]) (λn=>.tu [.i .i64 (aB (ia h i n n)).length,.i .i64 0]) (λn=>n∈dP h i) (λx y _ _ e=>by
  simp only[abg,AV.ag.injEq,abQ] at e;rw[amU e]) (λn hn=>by
  obtain⟨_,_,_,g1,g2⟩:=(amI ht).1 hn;have h2:=(amJ ht g1 g2).1 hn;have uJ:=amR ht hc (by omega:0<=n) (by omega);have hm2:j9 (ia h i n n):=by
   refine⟨hm.L,hm.S,hm.R,hm.n,hm.a,by simpa[ia] using hm.m,λu hu=>?_⟩;obtain⟨j,U⟩:=List.mem_iff_getElem?.1 hu;rw[amG ht] at U;split at U
   ·cases U;exact hm.t t (List.mem_of_getElem? ht)
   ·exact hm.t u (List.mem_of_getElem? U)
  have:=Gg (P:=P) _ hm2;rwa[aqZ uJ h2 _ _ _ rfl,aqq uJ h2 _ rfl] at this)
 obtain⟨pl,sL⟩:∃pl,dP h i=pl:=⟨_,rfl⟩
 rw[sL] at E hW hl ⊢;have J:=λn=>J n trivial
 have hO:=λn=>hO n trivial
 have e9:∀n,o6 (ia h i n n)= [.s h.L,.s h.S,.s h.R,.sq none 1 (h.alike.map .s),.sq none 3 (bI (ia h i n n).tags)]:=λn=>rfl
 simp only[e9] at J hW;simp only[o6,ints] at E J;have hl2:¬(2000:Int)<pl.length:=by omega
 refine fi (ak (aR Tryz.func18) rd (ak (aR Tryz.func61) od (ak (aR Tryz.func62) zd (ak (aR Tryz.func36) wd (au P))))) (lf Tryz.func44) ?_
 repeat' first|apply nI|(refine eI aqn λK M=>?_;simp[o6,ab,az,E,hl2,bne];apply M)
 refine amF (λd T B lv nx=>∃k,k+d=pl.length/\T 1=.i .i64 i/\T 2=.sp (o6 h)/\T 6=ints pl/\T 9=.i .i64 k/\T 8=.i .i64 (ry h (pl.take k) i)) pl.length ?_ ?_
 ·exact⟨0,by simp,by simp,by simp[o6],by simp[ints],by simp,by simp[ry]⟩
 rintro d T B lv nx ⟨k,hk,t1,t2,t6,t9,t8⟩;have w1:=aS ((k:Int)+1);by_cases N:k<pl.length
 ·have ga:pl[k]?=some pl[k]:=aaf N;have da:(pl.map (AV.i .i64)).drop k=.i .i64 pl[k]::(pl.map (AV.i .i64)).drop (k+1):=by rw[aa4 (by simpa using N)];simp
  have qu:=abG N;have bH:=arQ h i pl k N;have p:=hW _ qu;have I:=J pl[k];have Y:=hO pl[k];generalize pl[k]=x at *;generalize bI (ia h i x x).tags=tc at I p;generalize (aB (ia h i x x)).length=m at p bH
  repeat' first|apply nI|(refine eI aqn λK M=>?_;simp[t1,t2,t6,t9,t8,o6,ints,N,ga,da,ab,az,Y,I,p,w1,bne];apply M)
  refine aN (d-1) ⟨k+1,by omega,by simp[t1],by simp[t2,o6],by simp[t6,ints],by simp,by simp[bH]⟩
 ·have gg:k=pl.length:=by omega
  subst gg;rw[aeo] at t8
  repeat' first|apply nI|(refine eI aqn λK M=>?_;simp[t1,t2,t6,t9,t8,o6,ints];apply M)
  simp[Dn,dc,aH,Tryz.f44]
end
end Go.Proofs.YtjagmhagphbfcaaGreatDoor
namespace Go.Proofs.YtjagmhagphbfcaaGreatDoor
open Go
theorem aqW(r:Nat->Int)(lw:Int):∀n,(bV r lw n=(-1,lw)/\∀j,j<n->lw<=r j)\/∃j:Nat,j<n/\bV r lw n=((j:Int),r j)/\r j<lw/\(∀i,i<n->r j<=r i)/\∀i,i<j->r j<r i
 |0=>.inl ⟨rfl,λ_ h=>by omega⟩
 |n+1=>by
  unfold bV;rcases aqW r lw n with ⟨e,h⟩|⟨j,H,e,h1,h2,E⟩
  ·rw[e];by_cases hr:r n<lw
   ·refine .inr ⟨n,by omega,aay hr,hr,λi hi=>?_,λi hi=>?_⟩
    ·by_cases p:i=n
     ·subst p;omega
     ·have:=h i (by omega);omega
    ·have:=h i hi;omega
   ·refine .inl ⟨aat hr,λi hi=>?_⟩;by_cases p:i=n
    ·subst p;omega
    ·exact h i (by omega)
  ·rw[e];by_cases hr:r n<r j
   ·refine .inr ⟨n,by omega,aay hr,by omega,λi hi=>?_,λi hi=>?_⟩
    ·by_cases p:i=n
     ·subst p;omega
     ·have:=h2 i (by omega);omega
    ·have:=h2 i hi;omega
   ·refine .inr ⟨j,by omega,aat hr,h1,λi hi=>?_,E⟩;by_cases p:i=n
    ·subst p;omega
    ·exact h2 i (by omega)
open Go.Proofs
noncomputable def c7:Code:=Tryz.f7.body.getD .skip
noncomputable def aqI:Array Oper:=afo (hdC (UX 2 c7))
noncomputable def n6:Code:=tlC (UX 2 c7)
structure arB(h:ay)(k:Int)(s:AS):Prop where
 n:s.n=146
 nx:s.nx=13
 lv:s.lv=λ_=>none
 t1:s.T 1=.i .u8 k
 t2:s.T 2=.bx 2 0
 B2:s.B 2=some (true,o6 h)
structure asI(g0:Gh)(b0:Nat)(ys:List Value):Prop where
 iF:g0.iF 2=some b0
 ex:∀hw aD w,g0.ex hw aD w->∀j v,ys[j]?=some v->w.cell? ⟨b0,j,none⟩=some v
section
variable{P:Program}
def TG7(P:Program)(h:ay)(k:Int)(p:World)(b:Frame)(E:List Item)(c1:Frame)(v:World):Prop:=
 ∃(a:Act) (s:AS) (b0:Nat) (g0:Gh) (w0:World) (g:Gh) (m:Mem),
  c1=b.at a (.inRegion aqI [1,2,3,4,5,6,7,8]::.code n6::E)/\(p.heap.size<=b0/\∀b,b<p.heap.size->v.heap[b]?=p.heap[b]?)/\a.tmps.getD 2 undef=.pointer (some ⟨b0,0,none⟩)/\
  arB h k s/\SR P (base g0) w0 (λj=>s.nx+1<=j) s g v m a.tmps/\a.defers= []
def TZ7(P:Program)(h:ay)(k:Int)(H:World)(p:Value)(b:Frame)(E:List Item)(cs:List Frame)(m':Machine):Prop:=∃c1 u,m'=lone (Frame.enter P 41 #[p] .normal) (c1::cs) u/\TG7 P h k H b E c1 u
variable[l:cL P]
theorem ass(Y:Enters P 41){g0:Gh}{w0:World}{b0:Nat}{ys:List Value}(hy:ys.length=5)(E:∀y∈ys,y.oneCell'=true)(J:asI g0 b0 ys)(O:w0.heap.size<=b0)(N:∀b,g0.aD b=none){h:ay}{k:Int}(s:AS)(hs:arB h k s):RQ P g0 w0 (UX 2 c7) (TZ7 P h k w0 (.agg ys.toArray)) s:=by
 intro a w ⟨g,m,p,W⟩ b H cs;obtain⟨hf,h1⟩:=((hs.t2▸p.tmps 2):RV _ _ _ _ _ (.bx 2 0) _).bx;have C6:m.bm 2=b0:=(p.pins 2 b0 J.iF).2;rw[C6] at h1;have L:=Ha (P:=P) (g:=g) (w:=w) (t:=25) (b:=b0) (ys:=ys) (by simp) (by simp[hy]) (J.ex _ _ _ p.fV) E;have Z:(execOp a.eval ⟨some 24,.load 25 (.tmp 2),25, "own.go:371",#[],none⟩).run P w=.ok (.value (.agg ys.toArray)) w:=by
  have e:a.eval (.tmp 2)=.pointer (some ⟨b0,0,none⟩):=h1;simp only[execOp,e,Instr.loadAt,Instr.sureAddr,aaw,aaS,aas,L]
 have M:=Gn (P:=P) (ops:=aqI) (i:=0) (rest:= [1,2,3,4,5,6,7,8]) (o:=⟨some 24,.load 25 (.tmp 2),25, "own.go:371",#[],none⟩) rfl rfl Z b (.code n6::H) cs;have cq:a.tmps.size=146:=p.size.trans hs.n;have U:=p.put (d:=24) (by rw[hs.n];decide) (a:=.v (.agg ys.toArray)) (y:=.agg ys.toArray) (.inl (.of (.v _) rfl));have he:(a.put (some 24) (.agg ys.toArray)).eval (.tmp 24)=.agg ys.toArray:=by
  show(a.tmps.setIfInBounds 24 (.agg ys.toArray)).getD 24 undef=_
  simp_all
 have hr1:(execOp (a.put (some 24) (.agg ys.toArray)).eval ⟨some 25,.call { callee:=.value (.func 41),args:= #[.tmp 24],argTypes:= #[25] },63, "own.go:371",#[{ on:=0,ground:=.data }],none⟩).run P w=.ok (.enter 41 #[.agg ys.toArray]) w:=by
  have hf:(a.put (some 24) (.agg ys.toArray)).eval (.func 41)=.func (.func 41) #[] #[]:=rfl;simp only[execOp,resolve,Deferred.ofValue,hf,aaw,aaS,aas,invoke];rw[Y]
  grind
 have Ez:=Gp (P:=P) (ops:=aqI) (i:=1) (rest:= [2,3,4,5,6,7,8]) (o:=⟨some 25,.call { callee:=.value (.func 41),args:= #[.tmp 24],argTypes:= #[25] },63, "own.go:371",#[{ on:=0,ground:=.data }],none⟩) rfl rfl hr1 b (.code n6::H) cs;have hu:∀j,j≠24->Lo s.T 24 (.v (.agg ys.toArray)) j=s.T j:=λj I=>aL _ _ _ _ I
 refine⟨_,.head (step_seq (x:=.region 3 aqI false) (y:=n6)) (.head step_region (.head M (.one Ez))),_,w,rfl,a.put (some 24) (.agg ys.toArray),{ s with T:=Lo s.T 24 (.v (.agg ys.toArray)) },b0,g0,w0,g,m,rfl,⟨O,λb hb=>p.keeps.block b hb (N b)⟩,?_,⟨hs.n,hs.nx,hs.lv,(hu _ (by decide)).trans hs.t1,(hu _ (by decide)).trans hs.t2,hs.B2⟩,?_,W⟩
 ·show(a.tmps.setIfInBounds 24 _).getD 2 undef=_;have:(a.tmps.setIfInBounds 24 (.agg ys.toArray)).getD 2 undef=a.tmps.getD 2 undef:=by simp[aba,ac3]
  rw[this];exact h1
 ·exact(U.Uv (ex':=λ_ _ _=>True) (pin':=λ_=>none) (λ_ _ _ _ _ _=>trivial) trivial (λ_ _ e=>by cases e)).sub λj I=>by
   grind
theorem ast{g0:Gh}{w0:World}{T:Nat->AV}{Z:Frame->List Item->List Frame->Machine->Prop}{h:ay}{k:Int}(hf:Fo h=true)(hn:h.tags≠ [])(h1:T 1=.i .u8 k)(h2:T 2=.bx 2 0)(J:∀s,arB h k s->RQ P g0 w0 (UX 2 c7) Z s):RQ P g0 w0 (UX 1 c7) Z ⟨T,Lo (λ_=>none) 2 (some (true,o6 h)),λ_=>none,4,146⟩:=by
 have M:∀f F,Den P f F->Enters P f->jb P (bW f F a_) g0:=λf F h1 h2=>.of (ak h2 h1 (au P)) ⟨λ_ _=>rfl,λ_ _ _=>rfl⟩
 obtain⟨A,L,E⟩:=ca (Si (P:=P) h);rw[hf] at E;simp only[o6] at E;have H:=cV h.tags;have N:h.tags.length≠0:=λe=>hn (by simpa using e)
 have p:((h.tags.length:Int)==0)=false:=by simp[hn]
 refine jB (aY (tb:=bW 30 A a_) (mt:=λ_=>false) (M 30 A L (aR Tryz.func30)) mixed ?_)
 repeat' (first|with_reducible refine t_ ?_|with_reducible refine Gj ?_|with_reducible refine Ml ?_|with_reducible refine Pn ?_|with_reducible refine II ?_|with_reducible refine kW ?_|with_reducible refine US ?_|with_reducible refine Mm ?_|with_reducible refine NB ?_|with_reducible refine Po ?_|with_reducible refine L0 ?_|with_reducible refine Y7 ?_|with_reducible refine ZL ?_|with_reducible refine acB ?_|(with_reducible refine Jy ?_ ?_;focus (decide;done))|(with_reducible refine oR [0,1,2,4,5,6,7,8,9,10,11,12,21,36,38,76,96,124,126] ?_ (λK I=>?_);(first|exact(λh=>Bool.noConfusion h)|exact(λ_=>⟨by kernel_rfl,by kernel_rfl⟩));simp[h1,h2,ab,E,o6,H,p,hn];repeat' (first|(with_reducible refine I _ ?_;clear I K)|(with_reducible refine aE (λhc=>?_) (λhc=>?_) <;>(try simp only[aan,aac] at hc) <;>simp[hc,h1,h2,ab,E,o6,H,p,hn])))|(with_reducible refine aqj ?_ ?_;focus (simp[h1,h2,ab,E,o6,H,p,hn];done))|(with_reducible refine xd ?_ ?_;focus (simp[h1,h2,ab,E,o6,H,p,hn];done)))
 refine⟨rfl,J _ ⟨rfl,rfl,rfl,?_,?_,?_⟩⟩
 all_goals simp[h1,h2,o6]
theorem arX(Xj:Enters P 41){g0:Gh}{h:ay}{k:Int}(hf:Fo h=true)(hn:h.tags≠ []){ys:List Value}{a:Act}{w:World}(Y:∀b,g0.aD b=none)(bH:ST P g0 w (a0 [.ag (o6 h),.i .u8 k] 146) a w)(hx:a.eval (.tmp 0)=.agg ys.toArray):
  Reach P (UX 0 c7) (TZ7 P h k w (.agg ys.toArray)) a w:=by
 obtain⟨g,m,I,ba⟩:=bH;have qu:∀b,g.aD b=none:=λb=>by
  by_cases hb:b<w.heap.size
  ·exact(I.keeps.aD b hb).trans (Y b)
  ·exact(I.wi.out b (by omega)).2
 have V_:cS g w (o6 h) ys:=by
  have h0:=I.tmps 0;have:a.tmps.getD 0 undef=.agg ys.toArray:=hx;rw[this] at h0;have h1:Rd g w (.ag (o6 h)) (.agg ys.toArray):=by
   rcases h0 with h0|⟨_,_,e,_⟩
   ·exact h0.1
   ·cases e
  generalize p:Value.agg ys.toArray=yv at h1;cases h1 with
  |ag _ L h1 h4 Z=>
   simp only[Value.agg.injEq] at p;have:ys=L:=by simpa using p
   subst this;exact⟨h1,Z⟩
 have hy:ys.length=5:=V_.1.trans (by simp[o6]);have H:∀y∈ys,y.oneCell'=true:=by
  have h0:=I.tmps 0;have:a.tmps.getD 0 undef=.agg ys.toArray:=hx;rw[this] at h0;have h1:Rd g w (.ag (o6 h)) (.agg ys.toArray):=by
   rcases h0 with h0|⟨_,_,e,_⟩
   ·exact h0.1
   ·cases e
  generalize p:Value.agg ys.toArray=yv at h1;cases h1 with
  |ag _ L h1 h4 Z=>
   simp only[Value.agg.injEq] at p;have:ys=L:=by simpa using p
   subst this;exact h4
 have N:SR P (base g) w (λj=>0<=j) (VS (Lo (λ_=>.any) 1 (.i .u8 k)) 0 146) g w m a.tmps:=(I.mF (λ_=>rfl) (λ_=>rfl)).afc (T:=Lo (λ_=>.any) 1 (.i .u8 k)) (λ_=>rfl) (λt=>by
  by_cases e:t=1
  ·subst e;exact .inl rfl
  ·exact .inr (aL _ _ _ _ e))
 refine zL (wp_region ?_);show wpOps P _ _ [0,1] a w;rw[wpOps_cons];refine aW rfl rfl (Mt (d:=2) (ys:=ys) N ba rfl (by decide) rfl (by rw[hx];rfl) (λb0 w1 a1 dJ jY J hK1 KG=>?_));rw[wpOps_cons];refine aW rfl rfl (wv (d:=4) (y:=.bool false) dJ jY rfl (by decide) rfl (λa2 fE jq=>?_));refine dv ⟨rfl,?_⟩;have W:=fE.Cu (λ_=>rfl) (λ_=>rfl) J;generalize U:({ g with hw:=Lo g.hw b0 ys.length } :Gh)=g6 at W;have hg6:g6.hw b0=5:=by rw[<-U];show Lo _ b0 _ b0=5;rw[bc,hy]
 have E:Lw (base g) g6 w w1:=W.ext;have KD:cS g6 w1 (o6 h) ys:=V_.mono (g:=g) (g':=g6) (w':=w1) ⟨E.size,E.hw,E.cell,E.aD,E.os,E.tape,E.output,E.obj⟩;have M:=(W.sub (fr':=λj=>4<=j) λj O=>by
  show 0<=j;omega).acP (id:=2) (b:=b0) (d:=2) (ty:=25) (ys:=ys) (cells:=o6 h) (by decide) J.low J.cells (by simp[hy,o6]) H KD (by simp[o6]) (by rw[hg6];simp[o6]) (fE.r_ (t:=2) (by simp)) (λt j o ht=>by
   by_cases e4:t=4
   ·subst e4;simp
   ·rw[aL _ _ _ _ e4,aL _ _ _ _ ht];by_cases e1:t=1
    ·subst e1;simp
    ·rw[aL _ _ _ _ e1];simp) (λ_=>rfl)
 have gR:=M.Uv (ex':=lz (base g) g6 w1) (pin':=λid=>if id=2 then some b0 else none) (rZ M.gi g6 w1) (rY M.fV) (λid b e=>by
  simp_all)
 have iB:=gR.UP 4;have hL:asI { base g with ex:=lz (base g) g6 w1,iF:=λid=>if id=2 then some b0 else none } b0 ys:= {
  iF:=rfl
  ex:=λhw aD w' he j v O=>by
   have hj5:j<5:=by have:=(abi.1 O).1;omega
   have hc:=he.2.cell b0 j (by omega);rw[hc];simp[World.cell?,J.cells,O] }
 exact ast hf hn (by simp) (by simp) (λs hs=>ass Xj hy H hL KG qu s hs) a2 w1 ⟨g6,_,iB,jq⟩
end
section
variable{P:Program}[l:cL P]
theorem art(e17:Enters P 17)(M:aq P 17 [] (.b true)){g0:Gh}{w0:World}{T:Nat->AV}{B:Nat->Option (Bool×List AV)}{h:ay}{k:Int}(hf:Fo h=true)(hw:aB h= [])(t1:T 1=.i .u8 k)(t2:T 2=.bx 2 0)(B2:B 2=some (true,o6 h))(t5:T 5=.i .i64 0)(t6:T 6=.i .i64 0)(t7:T 7=.i .i64 9):
  swp P g0 w0 n6 (λe s'=>(e=.normal\/e=.ret)/\s'.T 4=.b true) ⟨T,B,λ_=>none,22,146⟩:=by
 have hm:=K4 (OO hf);have hc:=Sj hf;have hb:=alN hc;rw[aay hw] at hb;have p:=Gg (P:=P) h hm;rw[hb] at p;have L:bK h [] ((aB h).length:Int) 0=0:=by unfold bK;rw[aay (by rw[hb];decide)]
 rw[L] at p;obtain⟨N,nd,p⟩:=ca p;obtain⟨I,J,E⟩:=ca M;simp only[o6] at p B2;have O:jb P (bW 36 N (bW 17 I a_)) g0:=.of (ak (aR Tryz.func36) nd (ak e17 J (au P))) ⟨λ_ _=>rfl,λ_ _ _=>rfl⟩;refine aY (tb:=bW 36 N (bW 17 I a_)) (mt:=λ_=>false) O mixed ?_;show awp _ _ _ n6 _ _;unfold n6;show awp _ _ _ (.seq _ _) _ _
 repeat' (first|with_reducible refine t_ ?_|with_reducible refine Gj ?_|with_reducible refine Ml ?_|with_reducible refine Pn ?_|with_reducible refine II ?_|with_reducible refine kW ?_|with_reducible refine US ?_|with_reducible refine Mm ?_|with_reducible refine NB ?_|with_reducible refine Po ?_|with_reducible refine L0 ?_|with_reducible refine Y7 ?_|with_reducible refine ZL ?_|with_reducible refine acB ?_|(with_reducible refine Jy ?_ ?_;focus (decide;done))|(with_reducible refine oR [0,1,2,4,5,6,7,8,9,10,11,12,21,36,38,76,96,124,126] ?_ (λK H=>?_);(first|exact(λh=>Bool.noConfusion h)|exact(λ_=>⟨by kernel_rfl,by kernel_rfl⟩));simp[t1,t2,B2,t5,t6,t7,ab,az,p,E,bne];repeat' (first|(with_reducible refine H _ ?_;clear H K)|(with_reducible refine aE (λhc=>?_) (λhc=>?_) <;>(try simp only[aan,aac] at hc) <;>simp[hc,t1,t2,B2,t5,t6,t7,ab,az,p,E,bne])))|(with_reducible refine aqj ?_ ?_;focus (simp[t1,t2,B2,t5,t6,t7,ab,az,p,E,bne];done))|(with_reducible refine xd ?_ ?_;focus (simp[t1,t2,B2,t5,t6,t7,ab,az,p,E,bne];done)))
 exact⟨.inr rfl,by simp⟩
theorem arw(e17:Enters P 17)(Xl:aq P 17 [] (.b true)){g0:Gh}{w0:World}{T:Nat->AV}{B:Nat->Option (Bool×List AV)}{h:ay}{k:Int}(vJ:0<=k)(hk:k<=255)(hf:Fo h=true)(hn:h.tags≠ [])(hw:aB h≠ [])(hle:∀i,i<h.tags.length->((aB h).length:Int)<=ry h (dP h i) i)
  (t1:T 1=.i .u8 k) (t2:T 2=.bx 2 0) (B2:B 2=some (true,o6 h)) (t5:T 5=.i .i64 (-1)) (t6:T 6=.i .i64 (aB h).length) (t7:T 7=.i .i64 0):
  swp P g0 w0 n6 (λe s'=>(e=.normal\/e=.ret)/\s'.T 4=.b true) ⟨T,B,λ_=>none,22,146⟩:=by
 have og:=OO hf;have hm:=K4 og;have hc:=Sj hf;have U:h.tags.length≠0:=λe=>hn (by simpa using e)
 have hb:=alN hc;rw[aat hw] at hb;have E:=Gg (P:=P) h hm;rw[hb] at E;have e0:bK h [] ((aB h).length:Int) 0=(aB h).length:=by unfold bK;rw[aat (by rw[hb];decide)]
 rw[e0] at E;obtain⟨i,hi,p⟩:∃i:Nat,i<h.tags.length/\k.tmod h.tags.length=i:=by
  refine⟨k.toNat%h.tags.length,Nat.mod_lt _ (by omega),?_⟩;rw[ae6 vJ,Int.natCast_emod,Int.toNat_of_nonneg vJ]
 have wk:IntKind.i64.wrap k=k:=aS _;have pK:=(checked h hc).2.2.1;have J:=VL (P:=P) (-1) (-1) ((h.tags.length:Int)-1);have hIt:(decide ((-1:Int)<= -1)&&decide ((-1:Int)<=(h.tags.length:Int)-1))=true:=by simp;omega
 rw[hIt] at J;have H:=arH (P:=P) h og hc hw i hi;obtain⟨N,nd,E⟩:=ca E;obtain⟨T',td,O⟩:=ca Xl;obtain⟨I,id',J⟩:=ca J;obtain⟨F,fd,H⟩:=ca H;have M:=cV h.tags;simp only[o6] at E H B2;have av9:=hle i hi;have w1:IntKind.i64.wrap ((h.tags.length:Int)-1)=(h.tags.length:Int)-1:=aS _;by_cases hl:(dP h i).length<=200
 ·have W:=aqO (P:=P) h hm hc hw i hi hl;obtain⟨L,ld,W⟩:=ca W;simp only[o6] at W;have sM:decide (((dP h i).length:Int)<=200)=true:=by simp;omega
  rw[sM] at H;generalize ry h (dP h i) i=r at *;generalize lr:((aB h).length:Int)=lw at *;have Z:decide (r<lw)=false:=by simp;omega
  have KR:jb P (bW 44 L (bW 43 F (bW 42 I (bW 36 N (bW 17 T' a_))))) g0:=.of (ak (aR Tryz.func44) ld (ak (aR Tryz.func43) fd (ak (aR Tryz.func42) id' (ak (aR Tryz.func36) nd (ak e17 td (au P)))))) ⟨λ_ _=>rfl,λ_ _ _=>rfl⟩;refine aY (tb:=bW 44 L (bW 43 F (bW 42 I (bW 36 N (bW 17 T' a_))))) (mt:=λ_=>false) KR mixed ?_;show awp _ _ _ n6 _ _;unfold n6;show awp _ _ _ (.seq _ _) _ _;cases he:(r==lw) with
  |true=>
   repeat' (first|with_reducible refine t_ ?_|with_reducible refine Gj ?_|with_reducible refine Ml ?_|with_reducible refine Pn ?_|with_reducible refine II ?_|with_reducible refine kW ?_|with_reducible refine US ?_|with_reducible refine Mm ?_|with_reducible refine NB ?_|with_reducible refine Po ?_|with_reducible refine L0 ?_|with_reducible refine Y7 ?_|with_reducible refine ZL ?_|with_reducible refine acB ?_|(with_reducible refine Jy ?_ ?_;focus (decide;done))|(with_reducible refine oR [0,1,2,4,5,6,7,8,9,10,11,12,21,36,38,76,96,124,126] ?_ (λK Y=>?_);(first|exact(λh=>Bool.noConfusion h)|exact(λ_=>⟨by kernel_rfl,by kernel_rfl⟩));simp[t1,t2,B2,t5,t6,t7,ab,az,E,O,J,H,W,bne,M,U,hn,w1,wk,p,Z,he];repeat' (first|(with_reducible refine Y _ ?_;clear Y K)|(with_reducible refine aE (λhc=>?_) (λhc=>?_) <;>(try simp only[aan,aac] at hc) <;>simp[hc,t1,t2,B2,t5,t6,t7,ab,az,E,O,J,H,W,bne,M,U,hn,w1,wk,p,Z,he])))|(with_reducible refine aqj ?_ ?_;focus (simp[t1,t2,B2,t5,t6,t7,ab,az,E,O,J,H,W,bne,M,U,hn,w1,wk,p,Z,he];done))|(with_reducible refine xd ?_ ?_;focus (simp[t1,t2,B2,t5,t6,t7,ab,az,E,O,J,H,W,bne,M,U,hn,w1,wk,p,Z,he];done)))
   exact⟨.inr rfl,by simp⟩
  |false=>
   repeat' (first|with_reducible refine t_ ?_|with_reducible refine Gj ?_|with_reducible refine Ml ?_|with_reducible refine Pn ?_|with_reducible refine II ?_|with_reducible refine kW ?_|with_reducible refine US ?_|with_reducible refine Mm ?_|with_reducible refine NB ?_|with_reducible refine Po ?_|with_reducible refine L0 ?_|with_reducible refine Y7 ?_|with_reducible refine ZL ?_|with_reducible refine acB ?_|(with_reducible refine Jy ?_ ?_;focus (decide;done))|(with_reducible refine oR [0,1,2,4,5,6,7,8,9,10,11,12,21,36,38,76,96,124,126] ?_ (λK Y=>?_);(first|exact(λh=>Bool.noConfusion h)|exact(λ_=>⟨by kernel_rfl,by kernel_rfl⟩));simp[t1,t2,B2,t5,t6,t7,ab,az,E,O,J,H,W,bne,M,U,hn,w1,wk,p,Z,he];repeat' (first|(with_reducible refine Y _ ?_;clear Y K)|(with_reducible refine aE (λhc=>?_) (λhc=>?_) <;>(try simp only[aan,aac] at hc) <;>simp[hc,t1,t2,B2,t5,t6,t7,ab,az,E,O,J,H,W,bne,M,U,hn,w1,wk,p,Z,he])))|(with_reducible refine aqj ?_ ?_;focus (simp[t1,t2,B2,t5,t6,t7,ab,az,E,O,J,H,W,bne,M,U,hn,w1,wk,p,Z,he];done))|(with_reducible refine xd ?_ ?_;focus (simp[t1,t2,B2,t5,t6,t7,ab,az,E,O,J,H,W,bne,M,U,hn,w1,wk,p,Z,he];done)))
   exact⟨.inr rfl,by simp⟩
 ·have sM:decide (((dP h i).length:Int)<=200)=false:=by simp;omega
  rw[sM] at H;have KR:jb P (bW 43 F (bW 42 I (bW 36 N (bW 17 T' a_)))) g0:=.of (ak (aR Tryz.func43) fd (ak (aR Tryz.func42) id' (ak (aR Tryz.func36) nd (ak e17 td (au P))))) ⟨λ_ _=>rfl,λ_ _ _=>rfl⟩;refine aY (tb:=bW 43 F (bW 42 I (bW 36 N (bW 17 T' a_)))) (mt:=λ_=>false) KR mixed ?_;show awp _ _ _ n6 _ _;unfold n6;show awp _ _ _ (.seq _ _) _ _
  repeat' (first|with_reducible refine t_ ?_|with_reducible refine Gj ?_|with_reducible refine Ml ?_|with_reducible refine Pn ?_|with_reducible refine II ?_|with_reducible refine kW ?_|with_reducible refine US ?_|with_reducible refine Mm ?_|with_reducible refine NB ?_|with_reducible refine Po ?_|with_reducible refine L0 ?_|with_reducible refine Y7 ?_|with_reducible refine ZL ?_|with_reducible refine acB ?_|(with_reducible refine Jy ?_ ?_;focus (decide;done))|(with_reducible refine oR [0,1,2,4,5,6,7,8,9,10,11,12,21,36,38,76,96,124,126] ?_ (λK Y=>?_);(first|exact(λh=>Bool.noConfusion h)|exact(λ_=>⟨by kernel_rfl,by kernel_rfl⟩));simp[t1,t2,B2,t5,t6,t7,ab,az,E,O,J,H,bne,M,U,hn,w1,wk,p];repeat' (first|(with_reducible refine Y _ ?_;clear Y K)|(with_reducible refine aE (λhc=>?_) (λhc=>?_) <;>(try simp only[aan,aac] at hc) <;>simp[hc,t1,t2,B2,t5,t6,t7,ab,az,E,O,J,H,bne,M,U,hn,w1,wk,p])))|(with_reducible refine aqj ?_ ?_;focus (simp[t1,t2,B2,t5,t6,t7,ab,az,E,O,J,H,bne,M,U,hn,w1,wk,p];done))|(with_reducible refine xd ?_ ?_;focus (simp[t1,t2,B2,t5,t6,t7,ab,az,E,O,J,H,bne,M,U,hn,w1,wk,p];done)))
  exact⟨.inr rfl,by simp⟩
theorem ar0(e17:Enters P 17)(Xl:aq P 17 [] (.b true)){g0:Gh}{w0:World}{T:Nat->AV}{B:Nat->Option (Bool×List AV)}{h:ay}{k:Int}(vJ:0<=k)(hk:k<=255)(hf:Fo h=true)(hn:h.tags≠ [])(hw:aB h≠ []){j:Nat}(hj:j<h.tags.length)(aK:ry h (dP h j) j<(aB h).length)
  (hle:∀i,i<h.tags.length->ry h (dP h j) j<=ry h (dP h i) i) (ahc:∀i,i<j->ry h (dP h j) j<ry h (dP h i) i)
  (t1:T 1=.i .u8 k) (t2:T 2=.bx 2 0) (B2:B 2=some (true,o6 h)) (t5:T 5=.i .i64 j) (t6:T 6=.i .i64 (ry h (dP h j) j)) (t7:T 7=.i .i64 0):
  swp P g0 w0 n6 (λe s'=>(e=.normal\/e=.ret)/\s'.T 4=.b true) ⟨T,B,λ_=>none,22,146⟩:=by
 have og:=OO hf;have hm:=K4 og;have hc:=Sj hf;have NZ:h.tags.length≠0:=λe=>hn (by simpa using e)
 have hb:=alN hc;rw[aat hw] at hb;have J:=Gg (P:=P) h hm;rw[hb] at J;have e0:bK h [] ((aB h).length:Int) 0=(aB h).length:=by unfold bK;rw[aat (by rw[hb];decide)]
 rw[e0] at J;obtain⟨i,hi,H⟩:∃i:Nat,i<h.tags.length/\k.tmod h.tags.length=i:=by
  refine⟨k.toNat%h.tags.length,Nat.mod_lt _ (by omega),?_⟩;rw[ae6 vJ,Int.natCast_emod,Int.toNat_of_nonneg vJ]
 have wk:IntKind.i64.wrap k=k:=aS _;have pK:=(checked h hc).2.2.1;have U:=VL (P:=P) (j:Int) (-1) ((h.tags.length:Int)-1);have hIt:(decide ((-1:Int)<=j)&&decide ((j:Int)<=(h.tags.length:Int)-1))=true:=by simp;omega
 rw[hIt] at U;obtain⟨F,fd,hF⟩:=cC (P:=P) (f:=43) (ι:=Nat) (λi=> [.ag (o6 h),.i .i64 i]) (λi=>.b (decide (((dP h i).length:Int)<=200))) (λi=>i<h.tags.length) (λx y _ _ e=>by
  simp only[abg,AV.i.injEq,abQ,adM] at e;have:x=y:=by omega
  rw[this]) (λi hi=>arH (P:=P) h og hc hw i hi)
 obtain⟨L,ld,hL⟩:=cC (P:=P) (f:=44) (ι:=Nat) (λi=> [.ag (o6 h),.i .i64 i]) (λi=>.tu [.i .i64 (ry h (dP h i) i),.b true]) (λi=>i<h.tags.length/\(dP h i).length<=200) (λx y _ _ e=>by
  simp only[abg,AV.i.injEq,abQ,adM] at e;have:x=y:=by omega
  rw[this]) (λi hi=>aqO (P:=P) h hm hc hw i hi.1 hi.2)
 obtain⟨N,nd,J⟩:=ca J;obtain⟨T',td,hT⟩:=ca Xl;obtain⟨I,id',U⟩:=ca U;have p:=hF i hi;have E:=hF j hj;have Z:=cV h.tags;simp only[o6] at J p E B2;have av9:=hle i hi;have w1:IntKind.i64.wrap ((h.tags.length:Int)-1)=(h.tags.length:Int)-1:=aS _;have T_:decide ((j:Int)<0)=false:=by simp
 have RE:decide ((0:Int)<=j)=true:=by simp
 have hj3:¬((j:Int)<0):=by omega
 have KR:jb P (bW 44 L (bW 43 F (bW 42 I (bW 36 N (bW 17 T' a_))))) g0:=.of (ak (aR Tryz.func44) ld (ak (aR Tryz.func43) fd (ak (aR Tryz.func42) id' (ak (aR Tryz.func36) nd (ak e17 td (au P)))))) ⟨λ_ _=>rfl,λ_ _ _=>rfl⟩;refine aY (tb:=bW 44 L (bW 43 F (bW 42 I (bW 36 N (bW 17 T' a_))))) (mt:=λ_=>false) KR mixed ?_;show awp _ _ _ n6 _ _;unfold n6;show awp _ _ _ (.seq _ _) _ _;by_cases hl:(dP h i).length<=200
 ·by_cases hl2:(dP h j).length<=200
  ·have O:=hL i ⟨hi,hl⟩;have M:=hL j ⟨hj,hl2⟩;simp only[o6] at O M;have sM:decide (((dP h i).length:Int)<=200)=true:=by simp;omega
   have Wz:decide (((dP h j).length:Int)<=200)=true:=by simp;omega
   rw[sM] at p;rw[Wz] at E;have Ao:ry h (dP h i) i=ry h (dP h j) j->¬((i:Int)<j):=λe aK=>by
    have:=ahc i (by omega);omega
   generalize ry h (dP h i) i=r at *;generalize ry h (dP h j) j=q at *;generalize lr:((aB h).length:Int)=lw at *;have h3:decide (r<q)=false:=by simp;omega
   have Y:decide (q>=lw)=false:=by simp;omega
   have W:decide (lw<=q)=false:=by simp;omega
   cases he:(r==q) with
   |true=>
    have asn:=Ao (by simpa using he);have h6:decide ((i:Int)<j)=false:=by simp;omega
    repeat' (first|with_reducible refine t_ ?_|with_reducible refine Gj ?_|with_reducible refine Ml ?_|with_reducible refine Pn ?_|with_reducible refine II ?_|with_reducible refine kW ?_|with_reducible refine US ?_|with_reducible refine Mm ?_|with_reducible refine NB ?_|with_reducible refine Po ?_|with_reducible refine L0 ?_|with_reducible refine Y7 ?_|with_reducible refine ZL ?_|with_reducible refine acB ?_|(with_reducible refine Jy ?_ ?_;focus (decide;done))|(with_reducible refine oR [0,1,2,4,5,6,7,8,9,10,11,12,21,36,38,76,96,124,126] ?_ (λK hK=>?_);(first|exact(λh=>Bool.noConfusion h)|exact(λ_=>⟨by kernel_rfl,by kernel_rfl⟩));simp[t1,t2,B2,t5,t6,t7,ab,az,J,hT,U,p,E,O,M,bne,Z,NZ,hn,w1,wk,H,h3,Y,W,h6,T_,RE,hj3,asn,he];repeat' (first|(with_reducible refine hK _ ?_;clear hK K)|(with_reducible refine aE (λhc=>?_) (λhc=>?_) <;>(try simp only[aan,aac] at hc) <;>simp[hc,t1,t2,B2,t5,t6,t7,ab,az,J,hT,U,p,E,O,M,bne,Z,NZ,hn,w1,wk,H,h3,Y,W,h6,T_,RE,hj3,asn,he])))|(with_reducible refine aqj ?_ ?_;focus (simp[t1,t2,B2,t5,t6,t7,ab,az,J,hT,U,p,E,O,M,bne,Z,NZ,hn,w1,wk,H,h3,Y,W,h6,T_,RE,hj3,asn,he];done))|(with_reducible refine xd ?_ ?_;focus (simp[t1,t2,B2,t5,t6,t7,ab,az,J,hT,U,p,E,O,M,bne,Z,NZ,hn,w1,wk,H,h3,Y,W,h6,T_,RE,hj3,asn,he];done)))
    exact⟨.inr rfl,by simp⟩
   |false=>
    repeat' (first|with_reducible refine t_ ?_|with_reducible refine Gj ?_|with_reducible refine Ml ?_|with_reducible refine Pn ?_|with_reducible refine II ?_|with_reducible refine kW ?_|with_reducible refine US ?_|with_reducible refine Mm ?_|with_reducible refine NB ?_|with_reducible refine Po ?_|with_reducible refine L0 ?_|with_reducible refine Y7 ?_|with_reducible refine ZL ?_|with_reducible refine acB ?_|(with_reducible refine Jy ?_ ?_;focus (decide;done))|(with_reducible refine oR [0,1,2,4,5,6,7,8,9,10,11,12,21,36,38,76,96,124,126] ?_ (λK hK=>?_);(first|exact(λh=>Bool.noConfusion h)|exact(λ_=>⟨by kernel_rfl,by kernel_rfl⟩));simp[t1,t2,B2,t5,t6,t7,ab,az,J,hT,U,p,E,O,M,bne,Z,NZ,hn,w1,wk,H,h3,Y,W,T_,RE,hj3,he];repeat' (first|(with_reducible refine hK _ ?_;clear hK K)|(with_reducible refine aE (λhc=>?_) (λhc=>?_) <;>(try simp only[aan,aac] at hc) <;>simp[hc,t1,t2,B2,t5,t6,t7,ab,az,J,hT,U,p,E,O,M,bne,Z,NZ,hn,w1,wk,H,h3,Y,W,T_,RE,hj3,he])))|(with_reducible refine aqj ?_ ?_;focus (simp[t1,t2,B2,t5,t6,t7,ab,az,J,hT,U,p,E,O,M,bne,Z,NZ,hn,w1,wk,H,h3,Y,W,T_,RE,hj3,he];done))|(with_reducible refine xd ?_ ?_;focus (simp[t1,t2,B2,t5,t6,t7,ab,az,J,hT,U,p,E,O,M,bne,Z,NZ,hn,w1,wk,H,h3,Y,W,T_,RE,hj3,he];done)))
    exact⟨.inr rfl,by simp⟩
  ·have sM:decide (((dP h i).length:Int)<=200)=true:=by simp;omega
   have Wz:decide (((dP h j).length:Int)<=200)=false:=by simp;omega
   rw[sM] at p;rw[Wz] at E;generalize ry h (dP h j) j=q at *;generalize lr:((aB h).length:Int)=lw at *;have Y:decide (q>=lw)=false:=by simp;omega
   have W:decide (lw<=q)=false:=by simp;omega
   repeat' (first|with_reducible refine t_ ?_|with_reducible refine Gj ?_|with_reducible refine Ml ?_|with_reducible refine Pn ?_|with_reducible refine II ?_|with_reducible refine kW ?_|with_reducible refine US ?_|with_reducible refine Mm ?_|with_reducible refine NB ?_|with_reducible refine Po ?_|with_reducible refine L0 ?_|with_reducible refine Y7 ?_|with_reducible refine ZL ?_|with_reducible refine acB ?_|(with_reducible refine Jy ?_ ?_;focus (decide;done))|(with_reducible refine oR [0,1,2,4,5,6,7,8,9,10,11,12,21,36,38,76,96,124,126] ?_ (λK hK=>?_);(first|exact(λh=>Bool.noConfusion h)|exact(λ_=>⟨by kernel_rfl,by kernel_rfl⟩));simp[t1,t2,B2,t5,t6,t7,ab,az,J,hT,U,p,E,bne,Z,NZ,hn,w1,wk,H,Y,W,T_,RE,hj3];repeat' (first|(with_reducible refine hK _ ?_;clear hK K)|(with_reducible refine aE (λhc=>?_) (λhc=>?_) <;>(try simp only[aan,aac] at hc) <;>simp[hc,t1,t2,B2,t5,t6,t7,ab,az,J,hT,U,p,E,bne,Z,NZ,hn,w1,wk,H,Y,W,T_,RE,hj3])))|(with_reducible refine aqj ?_ ?_;focus (simp[t1,t2,B2,t5,t6,t7,ab,az,J,hT,U,p,E,bne,Z,NZ,hn,w1,wk,H,Y,W,T_,RE,hj3];done))|(with_reducible refine xd ?_ ?_;focus (simp[t1,t2,B2,t5,t6,t7,ab,az,J,hT,U,p,E,bne,Z,NZ,hn,w1,wk,H,Y,W,T_,RE,hj3];done)))
   exact⟨.inr rfl,by simp⟩
 ·have sM:decide (((dP h i).length:Int)<=200)=false:=by simp;omega
  rw[sM] at p;generalize ry h (dP h j) j=q at *;generalize lr:((aB h).length:Int)=lw at *;have Y:decide (q>=lw)=false:=by simp;omega
  have W:decide (lw<=q)=false:=by simp;omega
  repeat' (first|with_reducible refine t_ ?_|with_reducible refine Gj ?_|with_reducible refine Ml ?_|with_reducible refine Pn ?_|with_reducible refine II ?_|with_reducible refine kW ?_|with_reducible refine US ?_|with_reducible refine Mm ?_|with_reducible refine NB ?_|with_reducible refine Po ?_|with_reducible refine L0 ?_|with_reducible refine Y7 ?_|with_reducible refine ZL ?_|with_reducible refine acB ?_|(with_reducible refine Jy ?_ ?_;focus (decide;done))|(with_reducible refine oR [0,1,2,4,5,6,7,8,9,10,11,12,21,36,38,76,96,124,126] ?_ (λK hK=>?_);(first|exact(λh=>Bool.noConfusion h)|exact(λ_=>⟨by kernel_rfl,by kernel_rfl⟩));simp[t1,t2,B2,t5,t6,t7,ab,az,J,hT,U,p,E,bne,Z,NZ,hn,w1,wk,H,Y,W,T_,RE,hj3];repeat' (first|(with_reducible refine hK _ ?_;clear hK K)|(with_reducible refine aE (λhc=>?_) (λhc=>?_) <;>(try simp only[aan,aac] at hc) <;>simp[hc,t1,t2,B2,t5,t6,t7,ab,az,J,hT,U,p,E,bne,Z,NZ,hn,w1,wk,H,Y,W,T_,RE,hj3])))|(with_reducible refine aqj ?_ ?_;focus (simp[t1,t2,B2,t5,t6,t7,ab,az,J,hT,U,p,E,bne,Z,NZ,hn,w1,wk,H,Y,W,T_,RE,hj3];done))|(with_reducible refine xd ?_ ?_;focus (simp[t1,t2,B2,t5,t6,t7,ab,az,J,hT,U,p,E,bne,Z,NZ,hn,w1,wk,H,Y,W,T_,RE,hj3];done)))
  exact⟨.inr rfl,by simp⟩
end
end Go.Proofs.YtjagmhagphbfcaaGreatDoor
