/- Lemmas, part 30. -/
import Derived.Conc.LeavingOf
import Derived.Carry
import Derived.LaidMore
import Derived.LaidHandle
import Derived.ChangeSame
import Derived.LaidLaws
import Derived.Test.YtjagmhagphbfcaaGreatDoorCards
import Derived.Test.YtjagmhagphbfcaaGreatDoorTie
import Derived.Test.YtjagmhagphbfcaaGreatDoorP29
set_option maxRecDepth 100000
set_option linter.all false
namespace Go.Proofs.YtjagmhagphbfcaaGreatDoor
open Go renaming Value→aa,World→am,Program→ap,TypeId→aC,Operand→ci
def af7:=@Go.Proofs.Tryz.underlying4
open Go Go.Proofs Go.Conc Go.ChangeShapes Go.WideShapes Go.ChangeAt Go.RowKit
def xi:List (String×DataW Unit):= [("nosale/tag.checks",Rows.laid_nosale_tag_checks)]
def nm0:List UInt8:= [40,110,111,115,97,108,101,47,116,97,103,46,104,111,117,115,101,41,46,108,101,116,116,101,114,115]
def nm1:List UInt8:= [40,110,111,115,97,108,101,47,116,97,103,46,104,111,117,115,101,41,46,112,97,105,114,115]
def nm2:List UInt8:= [40,110,111,115,97,108,101,47,116,97,103,46,104,111,117,115,101,41,46,116,97,103,115]
theorem MY:ownKnob Tryz.prog.godebug=none:=by kernel_rfl
theorem Nu:laidOutB Tryz.prog=true:=by kernel_rfl
theorem z0:(((begin Tryz.prog (λ_ _=>0) default).world.heap[0]?).bind Obj.row?).map (λx=>(x.1.size,x.2))=some (3,140):=by kernel_rfl
theorem z1:(((begin Tryz.prog (λ_ _=>0) default).world.heap[1]?).bind Obj.row?).map (λx=>(x.1.size,x.2))=some (1,3):=by kernel_rfl
theorem z2:(((begin Tryz.prog (λ_ _=>0) default).world.heap[2]?).bind Obj.row?).map (λx=>(x.1.size,x.2))=some (256,226):=by kernel_rfl
theorem z3:(((begin Tryz.prog (λ_ _=>0) default).world.heap[3]?).bind Obj.row?).map (λx=>(x.1.size,x.2))=some (32,229):=by kernel_rfl
theorem UT:Tryz.prog.cellTypes Tryz.prog.depth 3=some [3]:=by kernel_rfl
theorem OH:Tryz.prog.globals.size=4:=rfl
theorem oW{W:am}(h:W.ShapedOpen Tryz.prog){g n t:Nat}(hg:g<4)(hz:(((begin Tryz.prog (λ_ _=>0) default).world.heap[g]?).bind Obj.row?).map (λx=>(x.1.size,x.2))=some (n,t)):
  ∃cs,W.heap[g]?=some (.cells cs t)/\cs.size=n/\(Tryz.prog.buildable t=true->Row.ok Tryz.prog W .any 0 t cs):=by
 rw[aeb] at hz;obtain⟨⟨zero,t'⟩,h1,h2⟩:=hz;cases h2;obtain⟨cs,H,E,p⟩:=h.1 g zero t' (by simp_all) h1
 simp_all
theorem rj{W:am}{b n t:Nat}{cs:Array aa}(h:W.heap[b]?=some (.cells cs t))(hn:cs.size=n):W.shape? b=some (t,n):=by
 unfold World.shape?
 grind
theorem OG{W:am}(h:W.ShapedOpen Tryz.prog):AU W/\(∃k n e fr,W.heap[1]?=some (.cells #[.int k n] e fr))/\4<=W.heap.size:=by
 obtain⟨c0,a0,b0,_⟩:=oW h (g:=0) (by decide) z0;obtain⟨c1,a1,b1,d1⟩:=oW h (g:=1) (by decide) z1;obtain⟨c2,a2,b2,_⟩:=oW h (g:=2) (by decide) z2;obtain⟨c3,a3,H,_⟩:=oW h (g:=3) (by decide) z3;refine⟨⟨rj a0 b0,rj a1 b1,rj a2 b2,rj a3 H⟩,?_,(aah.1 a3).1⟩;obtain⟨ts,p,_,E⟩:=d1 (by kernel_rfl);rw[UT] at p;cases p;obtain⟨v,rfl⟩:∃v,c1= #[v]:=⟨c1[0],by grind⟩
 obtain⟨u,hu,hv⟩:=E 0 v rfl;cases hu;unfold Cell.ok at hv
 grind [Tryz.underlying3]
theorem QZ:((List.range Tryz.prog.funcs.size).filter λf=>(Tryz.prog.funcs[f]?).any (·.name.toUTF8.data.toList==nm0))= [255]:=by kernel_rfl
theorem QY:((List.range Tryz.prog.funcs.size).filter λf=>(Tryz.prog.funcs[f]?).any (·.name.toUTF8.data.toList==nm1))= [256]:=by kernel_rfl
theorem QX:((List.range Tryz.prog.funcs.size).filter λf=>(Tryz.prog.funcs[f]?).any (·.name.toUTF8.data.toList==nm2))= [257]:=by kernel_rfl
theorem Pe:Tryz.prog.cellsOf 139=1:=by kernel_rfl
theorem Pd:Tryz.prog.cellsOf 140=3:=by kernel_rfl
theorem Jl:Tryz.prog.globalNamed "nosale/tag.checks" =some 0:=by kernel_rfl
theorem Qx:(Tryz.prog.globals[0]?).map (·.type)=some 140:=by kernel_rfl
theorem UY{W:am}(h:laidMetH Tryz.prog xi W):∃e fr,W.heap[0]?=some (.cells F0 e fr):=by
 have hf:=laidMetH.funcs h (n:= "nosale/tag.checks") (d:=.agg [.iface "func" (.lit (.string nm0)),.iface "func" (.lit (.string nm1)),.iface "func" (.lit (.string nm2))]) (by exact acE.2 rfl);obtain⟨g,t,cs,fuel,p,hg,ht,hv,hd⟩:=hf;obtain rfl:=adw (Jl.symm.trans hg);obtain rfl:=adw (Qx.symm.trans ht);obtain⟨xs,m,_,hx,hlen,hn,E⟩:=DataW.trod_array Tryz.underlying140 hd;rw[Pd] at hlen;obtain⟨I,x1,H,rfl⟩:=Ri hn;obtain⟨c0,c1,c2,J⟩:=Ri hlen;simp only[Prod.mk.injEq] at hx;have hx1:(DataW.agg [.held nm0,.held nm1,.held nm2]:DataW (List UInt8))=.agg [I.1,x1.1,H.1]:=hx.1;simp only[DataW.agg.injEq,abg,abQ] at hx1;obtain⟨N,M,L⟩:=hx1;rw[Pe,J] at E;have h0:DataW.trod (funcToken Tryz.prog) Tryz.prog W 0 (λ_=>true) true m 139 [c0]=some I:=E 0 (by decide);have h1:DataW.trod (funcToken Tryz.prog) Tryz.prog W 0 (λ_=>true) true m 139 [c1]=some x1:=E 1 (by decide);have h2:DataW.trod (funcToken Tryz.prog) Tryz.prog W 0 (λ_=>true) true m 139 [c2]=some H:=E 2 (by decide);obtain⟨V,Z⟩:=I;obtain⟨y1,Y⟩:=x1;obtain⟨y2,p2⟩:=H;simp only at N M L;subst N M L;have r0:=func_of_trod Tryz.underlying139 QZ h0;have r1:=func_of_trod Tryz.underlying139 QY h1;have O:=func_of_trod Tryz.underlying139 QX h2;subst r0 r1 O;have U:cs=F0:=by
  rw[<-Array.toList_inj,J];rfl
 grind [World.var?]
section
variable{H:Type}{enc:aC×aa->H}
theorem AN{W J:am}(hb:Below W.heap.size W J):∀ {ts:List aC} {vs:List aa} {E:List (DataW H)} {ps:List MemPlace},(∀t∈ts,Tryz.prog.readableRec t=true/\t<Tryz.prog.types.size)->DataW.TrodAll enc Tryz.prog W 0 (λ_=>true) true ts vs E ps->
  (∀x∈ps,x.block<W.heap.size)->DataW.TrodAll enc Tryz.prog J 0 (λb=>decide (b<W.heap.size)) true ts vs E ps
 | [],vs,E,ps,_,h,_=>by
  obtain⟨rfl,rfl,rfl⟩:=trodAll_nil h;exact rfl
 |t::ts,vs,E,ps,ht,h,I=>by
  obtain⟨v,L,d,N,p,q,rfl,rfl,rfl,h1,h2⟩:=trodAll_cons h;obtain⟨r1,M⟩:=ht t (by simp);exact⟨p,q,Below.trod Nu r1 M h1 hb (λx hx=>I x (by grind)),AN hb (λt O=>ht t (by grind)) h2 (λx hx=>I x (by grind)),rfl⟩
theorem Rl{f:FuncId}{fn:Func}{cd:Code}{s:ChangeSpec}{os:Os}(started:os.Started)(V:Tryz.prog.funcs[f]?=some fn)(J:fn.body=some cd)(hK:KL.s f=true)(Xl:f≠17)(Xj:f≠41)(I:fn.resultTypes= #[4])
  (agB:∀t∈fn.params.toList,Tryz.prog.readableRec t=true/\t<Tryz.prog.types.size) (TJ:s.vars= []) (Z5:∀E:List (DataW H),E.length=fn.params.size->s.fn H E= { results:= [.lit (.bool true)],args:=E })
  (witness:∃(w:am) (tape:Tape) (i:Input),w.os=os/\(w.forCall tape i).Shaped Tryz.prog/\i.vars= []/\Input.okWide Tryz.prog (w.forCall tape i) .any w.heap.size f i/\
   ((s.pre enc Tryz.prog fn [] false (w.forCall tape i).memory i.args/\laidMetH Tryz.prog xi (w.forCall tape i).memory)/\sizedMet enc Tryz.prog fn (OpenSpec.ofChange s) false (w.forCall tape i).memory i.args)/\
    ({} :Assume).holds Tryz.prog (lone (Frame.enter Tryz.prog f i.args .normal) [] (w.forCall tape i)))
  (O:∀(W:am) (base:Nat) (args:Array aa) (E:List (DataW H)) (ps:List MemPlace),AU W->(∀(j:Nat) t v,fn.params[j]?=some t->args[j]?=some v->Value.okWide Tryz.prog W .any base t v)->
   DataW.TrodAll enc Tryz.prog W 0 (λ_=>true) true fn.params.toList args.toList E ps->∃la,qL W args.toList la/\aq PL f la (.b true)):
  ReturnsInLeavingWide {} Tryz.checked os f .any (λw args=>(s.pre enc Tryz.prog fn [] false w args/\laidMetH Tryz.prog xi w)/\sizedMet enc Tryz.prog fn (OpenSpec.ofChange s) false w args)
   (s.post enc Tryz.prog fn false true false false):=by
 refine returnsInLeavingWide_of_good (C:=Tryz.checked) MY started witness ?_;intro w tape i _ qp _ iD Ce _;obtain⟨_,_,_,fh,N,_,_,_,_,Kz⟩:=iD;have e:fh=fn:=adw (N.symm.trans V);subst e;obtain⟨⟨⟨E,gs,before,hw,_⟩,hl⟩,_⟩:=Ce;have cO:=DataW.Whole.of_heap (w':=w.forCall tape i) (by rfl) hw;have sM:laidMetH Tryz.prog xi (w.forCall tape i):=hl.of_heap (by rfl);generalize w.forCall tape i=W at *;obtain⟨hG,L,h4⟩:=OG qp;have hT:sF W:=⟨UY sM,L⟩
 have Xa:=cO;obtain⟨p,q,Z,hV,hbf,_,_⟩:=cO;rw[TJ] at hV;obtain⟨rfl,rfl⟩:=trodVars_none hV;have aK:∀x∈p,x.block<W.heap.size:=λx hx=>Xa.lt x (by simp_all)
 obtain⟨la,ho,hc⟩:=O W _ i.args E p hG Kz Z;obtain⟨ws,ys,k1,_,k3⟩:=ho [];obtain⟨q1,Y⟩:=k3 [];simp only[aaV,acO] at q1 Y;have hlen:E.length=fh.params.size:=by have:=(trodAll_length Z).2;omega
 obtain⟨M,last,o,w',t',h1,h2,h3,Ap⟩:=Nr hK ⟨fh,cd,(MM f Xl Xj).trans V,J⟩ hT h4 k1 (args:=i.args) (by omega) hc Y;refine⟨M,last,o,w',t',h1,h2,h3,Ap.mono λv hF=>?_⟩;refine ChangeSpec.post_blind ?_;obtain⟨rfl,E1⟩:=hF;have U:=Z5 E hlen;refine⟨E,[],before,[],p,[],Xa,?_,?_,?_,E1.frame _,λh=>by cases h⟩
 ·rw[acO,U,I];exact trodAll_mk1 (shut_bool af7 _)
 ·grind [AN]
 ·rw[TJ,acO,U];exact rfl
end
theorem O8(os:Os)(args:Array aa):laidMetH Tryz.prog xi ((World.doorLaid Tryz.prog 40 os).forCall (λ_ _=>0) ⟨#[],args,[]⟩).memory:=
 laidMetH_of_parts3 (fuel:=8) (laidMet_of_run' 8 (by kernel_rfl) (by kernel_rfl)) (by kernel_rfl) (by kernel_rfl)
def Xv:aa:=.agg #[.string ⟨#[]⟩,.string ⟨#[]⟩,.string ⟨#[]⟩,.slice none 0 0,.slice none 0 0]
theorem Lf{s:OpenSpec}{c:OpenClaim}(hc:c.holds Tryz.pinned s)(hw:c.wfByText s=true)(p:c.laidByTextAt .later Tryz.pinned [.funcs] true)
  (I:c.start=.entering) (hnb:c.noBlocks=false/\c.again=false) (hm:Tryz.pinned.checked.prog.mainIs=some (true, "f07a5fa70ed6775463b7a086f57573263f2086de7ec9f9dbb2d285f1a5080804".toList))
  (hl:∀f fn,Tryz.pinned.checked.prog.funcNamed c.func=some f->Tryz.pinned.checked.prog.funcs[f]?=some fn->false=Tryz.pinned.checked.prog.looks []/\∀(j:Nat) t,fn.params[j]?=some t->Tryz.pinned.checked.prog.wantsStandIn t=false)
  (hg:true=c.goesBy Tryz.pinned.checked.prog):
  Claim7.holds Tryz.pinned (.plain s) { stood:= { row:=c,standIns:= [],harness:=(true, "f07a5fa70ed6775463b7a086f57573263f2086de7ec9f9dbb2d285f1a5080804"),looks:=false },kinds:= [],alts:= [],goes:=true,laidByText:=true,laidKinds:= [.funcs],laidTests:=true,laidLooks:=.later } :=by
 have H:∀r:OpenClaim,Claim7.isSixth { stood:= { row:=r,standIns:= [],harness:=(true, "f07a5fa70ed6775463b7a086f57573263f2086de7ec9f9dbb2d285f1a5080804"),looks:=false },kinds:= [] } =false:=λr=>by rfl
 exact⟨Claim7.tied_new_at .later [.funcs] true (Claim7.new_of_sixth hc (true, "f07a5fa70ed6775463b7a086f57573263f2086de7ec9f9dbb2d285f1a5080804") false I hnb hm (H c) hl) hw,(λD E=>by cases E),p,(λh=>by cases h),hg⟩
section
variable{H:Type}{enc:aC×aa->H}{W:am}
theorem aka{t u:aC}{k:IntKind}(ht:Tryz.prog.underlying t=some (.slice u))(hu:Tryz.prog.underlying u=some (.int k))(hc:Tryz.prog.cellsOf u=1)(ha:CR Tryz.prog u=true){base:Nat}{sp:Nat->Bool}(M:∀b,sp b=true){held:Bool}
  {v:aa} {d:DataW H} {ps:List MemPlace} (O:AU W) {b0:Nat} (Z:Value.okWide Tryz.prog W .any b0 t v) (h:DataW.Trod enc Tryz.prog W base sp held t v d ps):
  ∃l:List Int,iw W v (.sq none 1 (l.map (.i k)))/\∀n∈l,(Lit.int k n).wf=true:=by
 have aj6:Cell.okWide Tryz.prog W .any b0 t v:=by
  grind [Value.okWide]
 have hv:∃a len cap,v=.slice a len cap:=by
  unfold Cell.okWide at aj6;rw[ht] at aj6;simp only at aj6;unfold Cell.ok at aj6
  grind
 obtain⟨a,len,cap,rfl⟩:=hv;obtain⟨fuel,h⟩:=h;rcases open_ints ht hu hc h with ⟨e,_⟩|⟨a',E,U,I,e,_,hl,_,hlen,_,V,p⟩
 ·have e:Value.slice a len cap=.slice none 0 0:=by grind [Value.cells]
  rw[e];exact⟨[],.nil 1,by simp⟩
 ·have e:Value.slice a len cap=.slice (some a') E U:=by grind [Value.cells]
  cases e;rw[M,aay rfl] at hlen;obtain⟨_,hh⟩:=xU ht aj6;obtain⟨L,hs,J⟩:=Ov O (λm Y=>by simp_all) ha hh;obtain⟨c,o,spot⟩:=a';simp only at hs L J;subst hs;have gf:∀(g:Gh) (w:am) (l:List Int),cS g w (l.map (AV.i k)) (l.map (Value.int k)):=by
   intro g w l
   induction l with
   |nil=>exact .nil g w
   |cons n l N=>exact .cons (.i k n) N
  refine⟨I.take len,iw.sl (ys:=(I.take len).map (Value.int k)) (by decide) L J (by simp_all) hl (λv hv=>?_) (λv hv=>?_) (λg w=>gf g w _) (λi v hi=>?_),λn hn=>p n (aee hn)⟩
  ·grind [xR]
  ·obtain⟨n,_,rfl⟩:=ac4.1 hv;rfl
  grind [c9]
end
@[simp] abbrev aiV:List Nat:=[0,1,4,5,9,17]
@[simp] abbrev aih:List Nat:=[0,1,2,3,4,32,37,46,51,61]
end Go.Proofs.YtjagmhagphbfcaaGreatDoor
namespace Go.Proofs.YtjagmhagphbfcaaGreatDoor
open Go renaming Value→aa,World→am,Program→ap,TypeId→aC,Operand→ci
open Go Go.Proofs
section
variable{P:ap}[l:cL P]
theorem RX(a:List Int)(n:Int)(ha:a.length<100000000000000):aq P 45 [ints a,.i .i64 n] (.b (a.contains n)):=by
 refine fi (au P) (lf Tryz.func45) ?_
 repeat' first|apply nI|(refine eI aiV λK p=>?_;simp[ints];apply p)
 refine amF (λd T B lv nx=>∃k,k+d=a.length/\T 0=ints a/\T 1=.i .i64 n/\T 5=.i .i64 k/\n∉a.take k) a.length ?_ ?_
 ·exact⟨0,by simp,by simp[ints],by simp,by simp,by simp⟩
 ·rintro d T B lv nx ⟨k,hk,t0,t1,t5,hp⟩;have w1:=aS ((k:Int)+1);by_cases E:k<a.length
  ·have ga:a[k]?=some a[k]:=aaf E;have da:(a.map (AV.i .i64)).drop k=.i .i64 a[k]::(a.map (AV.i .i64)).drop (k+1):=by rw[aa4 (by simpa using E)];simp
   have ta:a.take (k+1)=a.take k++ [a[k]]:=aaN E;have I:a[k]∈a:=abG E;generalize a[k]=x at ga da ta I;cases H:(x==n) with
   |true=>
    have M:x=n:=by simpa using H
    have he:n∈a:=by rw[<-M];exact I
    repeat' first|apply nI|(refine eI aiV λK p=>?_;simp[t0,t1,t5,ints,E,ga,da,H,w1];apply p)
    simp[Dn,aH,Tryz.f45,he]
   |false=>
    have L:n≠x:=λe=>by rw[e] at H;simp at H
    repeat' first|apply nI|(refine eI aiV λK p=>?_;simp[t0,t1,t5,ints,E,ga,da,H,w1];apply p)
    refine aN (d-1) ⟨k+1,by omega,by simp[t0,ints],by simp[t1],by simp,by rw[ta];simp[hp,L]⟩
  ·have J:k=a.length:=by omega
   subst J;have he:n∉a:=by rwa[aeo] at hp
   repeat' first|apply nI|(refine eI aiV λK p=>?_;simp[t0,t1,t5,ints];apply p)
   simp[Dn,aH,Tryz.f45,he]
def gC(h:ay):Bool:=decide (40<h.L.length)||decide (40<h.S.length)||decide (40<h.R.length)||decide (20<h.alike.length)||decide (20<h.tags.length)||h.alike.any (λs=>decide (40<s.length))||h.tags.any (λt=>decide (40<t.reads.length))
theorem Jp{h:ay}(hg:gC h=false):Fair h:=by
 simp only[gC,Bool.or_eq_false_iff,aac,ag8,aan] at hg;obtain⟨⟨⟨⟨⟨⟨h1,h2⟩,J⟩,I⟩,H⟩,E⟩,p⟩:=hg;exact⟨by omega,by omega,by omega,by omega,λs hs=>by have:=E s hs;omega,by omega,λt ht=>by have:=p t ht;omega⟩
theorem E_{h:ay}(hg:40<h.L.length\/40<h.S.length\/40<h.R.length\/20<h.alike.length\/20<h.tags.length):gC h=true:=by
 simp only[gC,adr,aan];rcases hg with g|g|g|g|g <;>simp[g]
theorem KY(h:ay):aq P 16 [.ag (o6 h)] (.b (gC h)):=by
 have N:(o6 h).map AV.strip=o6 h:=by simp[o6]
 refine fi (au P) (lf Tryz.func16) ?_;have J:=cV h.tags
 repeat' first|apply nI|(refine eI aih λK p=>?_;simp[o6,J];first|apply p|(refine aE (λhc=>?_) (λhc=>?_) <;>(try simp only[aan,aac] at hc) <;>simp[hc,o6,J] <;>repeat' (first|apply p|(refine aE (λhc=>?_) (λhc=>?_) <;>(try simp only[aan,aac] at hc) <;>simp[hc,o6,J])|fail))|fail)
 all_goals try (have H:gC h=true:=E_ (by omega);simp[Dn,aH,Tryz.f16,H];done)
 by_cases g5:20<(h.tags.length:Int)
 ·have H:gC h=true:=E_ (by omega);have I:=g5
  repeat' first|apply nI|(refine eI aih λK p=>?_;simp[o6,I];apply p)
  simp[Dn,aH,Tryz.f16,H]
 ·have I:=g5
  repeat' first|apply nI|(refine eI aih λK p=>?_;simp[o6,I];apply p)
  have na:h.alike.length<=20:=by omega
  have nt:h.tags.length<=20:=by omega
  refine amF (λd T B lv nx=>∃k,k+d=h.alike.length/\T 1=.sp (o6 h)/\T 3=.i .i64 k/\∀s∈h.alike.take k,¬40<s.length) h.alike.length ?_ ?_
  ·exact⟨0,by simp,by simp[o6],by simp,by simp⟩
  rintro d T B lv nx ⟨k,hk,t1,t3,hp⟩;have w1:=aS ((k:Int)+1);by_cases E:k<h.alike.length
  ·have da:(h.alike.map AV.s).drop k=.s h.alike[k]::(h.alike.map AV.s).drop (k+1):=by rw[aa4 (by simpa using E)];simp
   have ga:h.alike[k]?=some h.alike[k]:=aaf E;have ta:h.alike.take (k+1)=h.alike.take k++ [h.alike[k]]:=aaN E;have hm:h.alike[k]∈h.alike:=abG E;generalize h.alike[k]=s at da ga ta hm;by_cases h40:40<(s.length:Int)
   ·have H:gC h=true:=by
     have:h.alike.any (λs=>decide (40<s.length))=true:=afl.2 ⟨s,hm,by simp;omega⟩;simp[gC,this]
    repeat' first|apply nI|(refine eI aih λK p=>?_;simp[t1,t3,o6,E,da,ga,h40,w1];apply p)
    simp[Dn,aH,Tryz.f16,H]
   ·repeat' first|apply nI|(refine eI aih λK p=>?_;simp[t1,t3,o6,E,da,ga,h40,w1];apply p)
    refine aN (d-1) ⟨k+1,by omega,by simp[t1,o6],by simp,λx hx=>?_⟩;rw[ta,abH] at hx;rcases hx with hx|hx
    ·exact hp x hx
    ·simp only[abZ,adz,aeP] at hx;subst hx;omega
  ·have L:k=h.alike.length:=by omega
   subst L;rw[aeo] at hp
   repeat' first|apply nI|(refine eI aih λK p=>?_;simp[t1,t3,o6];apply p)
   refine amF (λd T B lv nx=>∃k,k+d=h.tags.length/\T 1=.sp (o6 h)/\T 4=.i .i64 k/\∀t∈h.tags.take k,¬40<t.reads.length) h.tags.length ?_ ?_
   ·exact⟨0,by simp,by simp[o6],by simp,by simp⟩
   rintro d T B lv nx ⟨k,hk,t1,t4,M⟩;have w1:=aS ((k:Int)+1);by_cases E:k<h.tags.length
   ·have da:=fA h.tags k h.tags[k] (aaf E);have hle:(k+1)*3<=h.tags.length*3:=by omega
    have ta:h.tags.take (k+1)=h.tags.take k++ [h.tags[k]]:=aaN E;have hm:h.tags[k]∈h.tags:=abG E;generalize h.tags[k]=t at da ta hm;by_cases h40:40<(t.reads.length:Int)
    ·have H:gC h=true:=by
      have:h.tags.any (λt=>decide (40<t.reads.length))=true:=afl.2 ⟨t,hm,by simp;omega⟩;simp[gC,this]
     repeat' first|apply nI|(refine eI aih λK p=>?_;simp[t1,t4,o6,E,J,hle,da,h40,w1];apply p)
     simp[Dn,aH,Tryz.f16,H]
    ·repeat' first|apply nI|(refine eI aih λK p=>?_;simp[t1,t4,o6,E,J,hle,da,h40,w1];apply p)
     refine aN (d-1) ⟨k+1,by omega,by simp[t1,o6],by simp,λx hx=>?_⟩;rw[ta,abH] at hx;rcases hx with hx|hx
     ·exact M x hx
     ·simp only[abZ,adz,aeP] at hx;subst hx;omega
   ·have L:k=h.tags.length:=by omega
    subst L;rw[aeo] at M;have H:gC h=false:=by
     simp only[gC,Bool.or_eq_false_iff,aac,ag8,aan];exact⟨⟨⟨⟨⟨⟨by omega,by omega⟩,by omega⟩,by omega⟩,by omega⟩,hp⟩,M⟩
    repeat' first|apply nI|(refine eI aih λK p=>?_;simp[t1,t4,o6,J];apply p)
    simp[Dn,aH,Tryz.f16,H]
end
section
variable{P:ap}[l:cL P]
theorem BE(s:List UInt8)(hs:s.length<1000000):aq P 83 [.s s] (.i .i64 (aM s)):=by
 obtain⟨A,N,H⟩:=ca (VL (P:=P) s.length 1 5);obtain⟨B,M,E⟩:=ca (uA (P:=P) s 63 hs);obtain⟨C,L,hC⟩:=ca (Eg (P:=P) s 63 hs);have O:(((63:UInt8).toNat:Nat):Int)=63:=rfl;rw[O] at E hC;refine fi (ak (aR Tryz.func42) N (ak (aR Tryz.func138) M (ak (aR Tryz.func124) L (au P)))) (lf Tryz.func83) ?_;by_cases h1:(1:Int)<=s.length/\(s.length:Int)<=5
 ·have hb:¬(s.length<1\/5<s.length):=by omega
  have hd:(decide ((1:Int)<=s.length)&&decide ((s.length:Int)<=5))=true:=by simp;omega
  rw[hd] at H;cases h2:bA s 63 with
  |false=>
   rw[h2] at E
   repeat' first|apply nI|(refine eI [0,2,6,9,12] λK p=>?_;simp[ab,az,H,E];apply p)
   have hv:aM s=3:=by unfold aM;rw[aat hb,aay h2]
   simp[Dn,aH,Tryz.f83,hv]
  |true=>
   rw[h2] at E;by_cases J:(2:Int)<s.count 63
   ·have I:2<s.count 63:=by omega
    repeat' first|apply nI|(refine eI [0,2,6,9,12] λK p=>?_;simp[ab,az,H,E,hC,J];apply p)
    have hv:aM s=2:=by unfold aM;rw[aat hb,aat (by rw[h2];decide),aay I]
    simp[Dn,aH,Tryz.f83,hv]
   ·have I:¬2<s.count 63:=by omega
    repeat' first|apply nI|(refine eI [0,2,6,9,12] λK p=>?_;simp[ab,az,H,E,hC,J];apply p)
    have hv:aM s=0:=by unfold aM;rw[aat hb,aat (by rw[h2];decide),aat I]
    simp[Dn,aH,Tryz.f83,hv]
 ·have hb:s.length<1\/5<s.length:=by omega
  have hd:(decide ((1:Int)<=s.length)&&decide ((s.length:Int)<=5))=false:=by
   cases hx:(decide ((1:Int)<=s.length)&&decide ((s.length:Int)<=5)) with
   |false=>rfl
   |true=>simp at hx;omega
  rw[hd] at H
  repeat' first|apply nI|(refine eI [0,2,6,9,12] λK p=>?_;simp[ab,az,H];apply p)
  have hv:aM s=2:=by unfold aM;rw[aay hb]
  simp[Dn,aH,Tryz.f83,hv]
theorem Gi(a b H hi:Int):aq P 152 [.ag [.i .i64 a,.i .i64 b],.i .i64 H,.i .i64 hi] (.b (decide (H<=a/\a<=b/\b<=hi))):=by
 refine fi (au P) (lf Tryz.func152) ?_;by_cases h1:H<=a
 ·by_cases h2:a<=b
  ·by_cases E:b<=hi
   ·repeat' first|apply nI|(refine eI [0,1,2,3,6] λK p=>?_;simp[h1,h2,E];apply p)
    simp[Dn,aH,Tryz.f152,h1,h2,E]
   ·repeat' first|apply nI|(refine eI [0,1,2,3,6] λK p=>?_;simp[h1,h2,E];apply p)
    simp[Dn,aH,Tryz.f152,h1,h2,E]
  ·repeat' first|apply nI|(refine eI [0,1,2,3,6] λK p=>?_;simp[h1,h2];apply p)
   simp[Dn,aH,Tryz.f152,h1,h2]
 ·repeat' first|apply nI|(refine eI [0,1,2,3,6] λK p=>?_;simp[h1];apply p)
  simp[Dn,aH,Tryz.f152,h1]
theorem BG(a b:Int):aq P 110 [.ag [.i .i64 a,.i .i64 b]] (.b (dR a b)):=by
 obtain⟨A,H,E⟩:=ca (Gi (P:=P) a b 0 99999);refine fi (ak (aR Tryz.func152) H (au P)) (lf Tryz.func110) ?_
 repeat' first|apply nI|(refine eI [0,1,2] λK p=>?_;simp[ab,E];apply p)
 simp[Dn,aH,Tryz.f110,dR]
end
@[simp] abbrev aia:List Nat:=[0,1,2,3,4,32,45,57,71]
section
variable{P:ap}[l:cL P]
theorem L9{c d:UInt8}(h:(c.toNat:Int)=d.toNat):c=d:=UInt8.toNat_inj.1 (by omega)
theorem ary:∃F:List AV->Option AV,Den P 138 F/\∀(s:List UInt8) (c:UInt8),s.length<1000000->F [.s s,.i .u8 c.toNat]=some (.b (bA s c)):=by
 obtain⟨F,h1,h2⟩:=cC (P:=P) (f:=138) (ι:=List UInt8×UInt8) (λx=> [.s x.1,.i .u8 x.2.toNat]) (λx=>.b (bA x.1 x.2)) (λx=>x.1.length<1000000) (λx y _ _ e=>by
  simp only[abg,AV.s.injEq,AV.i.injEq,adM,abQ] at e;rw[e.1,L9 e.2]) (λx hx=>uA x.1 x.2 hx)
 exact⟨F,h1,λs c hs=>h2 (s,c) hs⟩
theorem Ng:∃F:List AV->Option AV,Den P 124 F/\∀(s:List UInt8) (c:UInt8),s.length<1000000->F [.s s,.i .u8 c.toNat]=some (.i .i64 (s.count c)):=by
 obtain⟨F,h1,h2⟩:=cC (P:=P) (f:=124) (ι:=List UInt8×UInt8) (λx=> [.s x.1,.i .u8 x.2.toNat]) (λx=>.i .i64 (x.1.count x.2)) (λx=>x.1.length<1000000) (λx y _ _ e=>by
  simp only[abg,AV.s.injEq,AV.i.injEq,adM,abQ] at e;rw[e.1,L9 e.2]) (λx hx=>Eg x.1 x.2 hx)
 exact⟨F,h1,λs c hs=>h2 (s,c) hs⟩
theorem apq(h:ay)(hL:h.L.length<1000)(hS:h.S.length<1000)(hR:h.R.length<1000):aq P 108 [.ag (o6 h)] (.i .i64 (bB h)):=by
 obtain⟨A,ad,W⟩:=ary (P:=P);obtain⟨C,cd,hC⟩:=Ng (P:=P);have a1:=W h.L 63 (by omega);have a2:=W h.S 65 (by omega);have a3:=W h.R 65 (by omega);have c1:=hC h.L 63 (by omega);have Gb:(((63:UInt8).toNat:Nat):Int)=63:=rfl;have e65:(((65:UInt8).toNat:Nat):Int)=65:=rfl;rw[Gb] at a1 c1;rw[e65] at a2 a3;have i10:((h.L.length:Int)==10)=(h.L.length==10):=by
  rw[adX];simp only[ac6];omega
 have V:((h.S.length:Int)==(h.L.count 63:Int))=(h.S.length==h.L.count 63):=by
  rw[adX];simp only[ac6];omega
 refine fi (ak (aR Tryz.func138) ad (ak (aR Tryz.func124) cd (au P))) (lf Tryz.func108) ?_;by_cases b1:h.L.length=10
 ·have E:(h.L.length==10)=true:=by simp[b1]
  cases b2:bA h.L 63 with
  |false=>
   rw[b2] at a1
   repeat' first|apply nI|(refine eI aia λK p=>?_;simp[o6,i10,E,bne,ab,a1];apply p)
   simp[Dn,aH,Tryz.f108,bB,b1,b2]
  |true=>
   rw[b2] at a1;cases H:bA h.S 65 with
   |false=>
    rw[H] at a2
    repeat' first|apply nI|(refine eI aia λK p=>?_;simp[o6,i10,E,bne,ab,a1,a2];apply p)
    simp[Dn,aH,Tryz.f108,bB,b1,b2,H]
   |true=>
    rw[H] at a2;by_cases b4:1<h.R.length
    ·have J:(1:Int)<h.R.length:=by omega
     repeat' first|apply nI|(refine eI aia λK p=>?_;simp[o6,i10,E,bne,ab,a1,a2,J];apply p)
     simp[Dn,aH,Tryz.f108,bB,b1,b2,H,b4]
    ·have J:¬(1:Int)<h.R.length:=by omega
     cases I:bA h.R 65 with
     |false=>
      rw[I] at a3
      repeat' first|apply nI|(refine eI aia λK p=>?_;simp[o6,i10,E,bne,ab,a1,a2,J,a3];apply p)
      simp[Dn,aH,Tryz.f108,bB,b1,b2,H,b4,I]
     |true=>
      rw[I] at a3;by_cases b6:h.S.length=h.L.count 63
      ·have O:(h.S.length==h.L.count 63)=true:=by simp[b6]
       by_cases b7:4<h.S.length
       ·have Y:(4:Int)<h.S.length:=by omega
        repeat' first|apply nI|(refine eI aia λK p=>?_;simp[o6,i10,E,bne,ab,az,a1,a2,J,a3,c1,V,O,Y];apply p)
        have hv:bB h=2:=by
         unfold bB;rw[aat (by rw[b2,H,I];simp;omega),aay (by omega)]
        simp[Dn,aH,Tryz.f108,hv]
       ·have Y:¬(4:Int)<h.S.length:=by omega
        have hv:bB h=if dup (h.L++h.S++h.R)=true then 5 else 0:=by
         unfold bB;rw[aat (by rw[b2,H,I];simp;omega),aat (by omega)]
        have n1:¬(9223372036854775807:Int)<(h.L.length:Int)+h.S.length:=by omega
        have n2:¬(9223372036854775807:Int)<(h.L.length:Int)+h.S.length+h.R.length:=by omega
        repeat' first|apply nI|(refine eI aia λK p=>?_;simp[o6,i10,E,bne,ab,az,a1,a2,J,a3,c1,V,O,Y,n1,n2];apply p)
        have F3:(h.L++h.S++h.R).length<3000:=by simp only[abj];omega
        refine amF (λd T B lv nx=>∃k,k+d=(h.L++h.S++h.R).length/\T 3=.s (h.L++h.S++h.R)/\T 4=.i .i64 k/\((h.L++h.S++h.R).take k).any (λc=>c !=63&&decide (1<(h.L++h.S++h.R).count c))=false) (h.L++h.S++h.R).length ?_ ?_
        ·exact⟨0,by simp,by simp,by simp,by simp⟩
        rintro d T B lv nx ⟨k,hk,t3,t4,hp⟩;have w1:=aS ((k:Int)+1);generalize h.L++h.S++h.R=w at *;by_cases N:k<w.length
        ·have LW:=hC w w[k] (by omega);have U:((w[k].toNat:Int)==63)=(w[k]==63):=kn w[k] 63 (by omega);have jF:(w.take (k+1)).any (λc=>c !=63&&decide (1<w.count c))=(w[k] !=63&&decide (1<w.count w[k])):=by
          rw[aaN N,aeC,hp];simp
         cases M:(w[k]==63) with
         |true=>
          repeat' first|apply nI|(refine eI aia λK p=>?_;simp[t3,t4,N,bne,U,M,w1];apply p)
          refine aN (d-1) ⟨k+1,by omega,by simp[t3],by simp,by rw[jF];simp[bne,M]⟩
         |false=>
          by_cases WX:(1:Int)<(w.count w[k]:Int)
          ·have Z:1<w.count w[k]:=by omega
           have hd:dup w=true:=by
            unfold dup;rw[afl];exact⟨w[k],abG N,by simp[bne,M,Z]⟩
           rw[hd] at hv
           repeat' first|apply nI|(refine eI aia λK p=>?_;simp[t3,t4,N,bne,U,M,w1,ab,az,LW,WX];apply p)
           simp[Dn,aH,Tryz.f108,hv]
          ·have Z:¬1<w.count w[k]:=by omega
           repeat' first|apply nI|(refine eI aia λK p=>?_;simp[t3,t4,N,bne,U,M,w1,ab,az,LW,WX];apply p)
           refine aN (d-1) ⟨k+1,by omega,by simp[t3],by simp,by rw[jF];simp[Z]⟩
        ·have gg:k=w.length:=by omega
         subst gg;have hd:dup w=false:=by simpa[dup] using hp
         rw[hd] at hv
         repeat' first|apply nI|(refine eI aia λK p=>?_;simp[t3,t4];apply p)
         simp[Dn,aH,Tryz.f108,hv]
      ·have O:(h.S.length==h.L.count 63)=false:=by simp[b6]
       repeat' first|apply nI|(refine eI aia λK p=>?_;simp[o6,i10,E,bne,ab,az,a1,a2,J,a3,c1,V,O];apply p)
       have hv:bB h=2:=by
        unfold bB;rw[aat (by rw[b2,H,I];simp;omega),aay (by omega)]
       simp[Dn,aH,Tryz.f108,hv]
 ·have E:(h.L.length==10)=false:=by simp[b1]
  repeat' first|apply nI|(refine eI aia λK p=>?_;simp[o6,i10,E,bne];apply p)
  simp[Dn,aH,Tryz.f108,bB,b1]
end
@[simp] abbrev ah1:List Nat:=[0,2,3,4,7,11,27,38,41,78]
section
variable{P:ap}[l:cL P]
theorem BJ(a:List (List UInt8))(ht:∀s∈a,s.length<1000000):aq P 109 [strs a] (.i .i64 (bj a)):=by
 obtain⟨A,ad,hA⟩:=ary (P:=P);have e65:(((65:UInt8).toNat:Nat):Int)=65:=rfl;refine fi (ak (aR Tryz.func138) ad (au P)) (lf Tryz.func109) ?_;by_cases h5:4<a.length
 ·have E8:(4:Int)<a.length:=by omega
  repeat' first|apply nI|(refine eI ah1 λK E=>?_;simp[strs,E8];apply E)
  simp[Dn,aH,Tryz.f109,bj,h5]
 ·have E8:¬(4:Int)<a.length:=by omega
  repeat' first|apply nI|(refine eI ah1 λK E=>?_;simp[strs,E8];apply E)
  refine amF (λd' T B lv nx=>∃k,k+d'=a.length/\T 0=strs a/\T 3=.i .i64 k/\bj a=cb (a.take k) (a.drop k)/\∀s∈a.take k,s.length=2) a.length ?_ ?_
  ·exact⟨0,by simp,by simp[strs],by simp,by simp[bj,h5],by simp⟩
  ·rintro d' T B lv nx ⟨k,hk,t0,t3,hp,h2⟩;have w1:=aS ((k:Int)+1);by_cases H:k<a.length
   ·have rM:a.drop k=a[k]::a.drop (k+1):=aa4 H;have jF:a.take (k+1)=a.take k++ [a[k]]:=aaN H;rw[rM] at hp;have M:=hA a[k] 65 (ht _ (abG H));rw[e65] at M;have da:(a.map AV.s).drop k=.s a[k]::(a.map AV.s).drop (k+1):=by rw[aa4 (by simpa using H)];simp
    have ga:a[k]?=some a[k]:=aaf H;by_cases hl2:a[k].length=2
    ·obtain⟨y,z,hs⟩:∃y z,a[k]= [y,z]:=by
      match a[k],hl2 with
      | [y,z],_=>exact⟨y,z,rfl⟩
     rw[hs] at M hp da ga;have Jc:=dV y z;have Cp:∀s∈a.take (k+1),s.length=2:=by
      intro s O;rw[jF] at O;rcases abH.1 O with O|O
      ·exact h2 s O
      ·rw[acE.1 O];exact hl2
     cases U:bA [y,z] 65 with
     |false=>
      rw[U] at M;have hv:bj a=3:=by rw[hp];simp[cb,eR,U]
      repeat' first|apply nI|(refine eI ah1 λK E=>?_;simp[t0,t3,strs,H,da,ga,ab,M,w1,bne];apply E)
      simp[Dn,aH,Tryz.f109,hv]
     |true=>
      rw[U] at M;cases Hj:(y==z) with
      |true=>
       have Y:y=z:=by simpa using Hj
       have hv:bj a=5:=by rw[hp];subst Y;simp[cb,eR,U]
       repeat' first|apply nI|(refine eI ah1 λK E=>?_;simp[t0,t3,strs,H,da,ga,ab,M,Jc,Hj,w1,bne];apply E)
       simp[Dn,aH,Tryz.f109,hv]
      |false=>
       have Y:¬y=z:=by simpa using Hj
       repeat' first|apply nI|(refine eI ah1 λK E=>?_;simp[t0,t3,strs,H,da,ga,ab,M,Jc,Hj,w1,bne];apply E)
       refine amF (λd2 T B lv nx=>∃j,j+d2=k/\T 0=strs a/\T 3=.i .i64 k/\T 4=.i .i64 j/\(a.take j).any (cP · [y,z])=false) k ?_ ?_
       ·exact⟨0,by simp,by simp[t0,strs],by simp[t3],by simp,by simp⟩
       rintro d2 T B lv nx ⟨j,hj,t0,t3,t4,hq⟩;have w2:=aS ((j:Int)+1);by_cases Hx:j<k
       ·have L:j<a.length:=by omega
        have J:a[j]∈a.take k:=agD.2 ⟨j,by omega,rfl⟩;have htj:a.take (j+1)=a.take j++ [a[j]]:=aaN L;have W:(a.map AV.s).drop j=.s a[j]::(a.map AV.s).drop (j+1):=by rw[aa4 (by simpa using L)];simp
        have V:a[j]?=some a[j]:=aaf L;have h2j:=h2 _ J;obtain⟨p,q,iJ⟩:∃p q,a[j]= [p,q]:=by
         match a[j],h2j with
         | [p,q],_=>exact⟨p,q,rfl⟩
        rw[iJ] at W V J;have pj:(a.take (j+1)).any (cP · [y,z])=cP [p,q] [y,z]:=by
         rw[htj,aeC,hq,iJ];simp
        have gT:cP [p,q] [y,z]=true->bj a=5:=λhb=>by
         have hx:(a.take k).any (cP · [y,z])=true:=afl.2 ⟨_,J,hb⟩;rw[hp];simp[cb,eR,U,Y,hx]
        have b1:=dV p z;have b2:=dV q y;cases I:([p,q]== [y,z]) with
        |true=>
         have hv:=gT (by simp[cP,I])
         repeat' first|apply nI|(refine eI ah1 λK E=>?_;simp[t0,t3,t4,strs,H,L,Hx,da,ga,W,V,I,w2];apply E)
         simp[Dn,aH,Tryz.f109,hv]
        |false=>
         cases N:(p==z) with
         |false=>
          have hn:cP [p,q] [y,z]=false:=by simp[cP,I,N]
          repeat' first|apply nI|(refine eI ah1 λK E=>?_;simp[t0,t3,t4,strs,H,L,Hx,da,ga,W,V,I,b1,N,w2];apply E)
          refine aN (d2-1) ⟨j+1,by omega,by simp[t0,strs],by simp[t3],by simp,by rw[pj];exact hn⟩
         |true=>
          cases Z:(q==y) with
          |true=>
           have hv:=gT (by simp[cP,I,N,Z])
           repeat' first|apply nI|(refine eI ah1 λK E=>?_;simp[t0,t3,t4,strs,H,L,Hx,da,ga,W,V,I,b1,N,b2,Z,w2];apply E)
           simp[Dn,aH,Tryz.f109,hv]
          |false=>
           have hn:cP [p,q] [y,z]=false:=by simp[cP,I,N,Z]
           repeat' first|apply nI|(refine eI ah1 λK E=>?_;simp[t0,t3,t4,strs,H,L,Hx,da,ga,W,V,I,b1,N,b2,Z,w2];apply E)
           refine aN (d2-1) ⟨j+1,by omega,by simp[t0,strs],by simp[t3],by simp,by rw[pj];exact hn⟩
       ·have hjj:j=k:=by omega
        subst hjj;have hv:bj a=cb (a.take (j+1)) (a.drop (j+1)):=by
         rw[hp,jF,hs];simp[cb,eR,U,Y,hq]
        repeat' first|apply nI|(refine eI ah1 λK E=>?_;simp[t0,t3,t4,strs,w1];apply E)
        refine aN (d'-1) ⟨j+1,by omega,by simp[t0,strs],by simp,hv,Cp⟩
    ·have Wz:((a[k].length:Int)==2)=false:=by simp;omega
     have hv:bj a=3:=by rw[hp];simp[cb,eR,hl2]
     repeat' first|apply nI|(refine eI ah1 λK E=>?_;simp[t0,t3,strs,H,da,ga,Wz,w1,bne];apply E)
     simp[Dn,aH,Tryz.f109,hv]
   ·have gg:k=a.length:=by omega
    subst gg
    repeat' first|apply nI|(refine eI ah1 λK E=>?_;simp[t0,t3,strs];apply E)
    have:bj a=0:=by rw[hp];simp[cb]
    simp[Dn,aH,Tryz.f109,this]
end
@[simp] abbrev aic:List Nat:=[0,1,2,3,4,5,6,10,16,21,26,37,46]
section
variable{P:ap}[l:cL P]
theorem BF:∃F:List AV->Option AV,Den P 83 F/\∀(s:List UInt8),s.length<1000000->F [.s s]=some (.i .i64 (aM s)):=by
 obtain⟨F,h1,h2⟩:=cC (P:=P) (f:=83) (ι:=List UInt8) (λx=> [.s x]) (λx=>.i .i64 (aM x)) (λx=>x.length<1000000) (λx y _ _ e=>by
  simp only[abg,AV.s.injEq,abQ] at e;rw[e]) (λx hx=>BE x hx)
 exact⟨F,h1,h2⟩
theorem BH:∃F:List AV->Option AV,Den P 110 F/\∀a b:Int,F [.ag [.i .i64 a,.i .i64 b]]=some (.b (dR a b)):=by
 obtain⟨F,h1,h2⟩:=cC (P:=P) (f:=110) (ι:=Int×Int) (λx=> [.ag [.i .i64 x.1,.i .i64 x.2]]) (λx=>.b (dR x.1 x.2)) (λ_=>True) (λx y _ _ e=>by
  simp only[abg,AV.ag.injEq,AV.i.injEq,adM,abQ] at e;rw[e.1,e.2]) (λx _=>BG x.1 x.2)
 exact⟨F,h1,λa b=>h2 (a,b) trivial⟩
theorem BI(h:ay)(hf:Fair h):aq P 49 [.ag (o6 h)] (.i .i64 (aO h)):=by
 obtain⟨A,ad,W⟩:=ca (apq (P:=P) h (by have:=hf.L;omega) (by have:=hf.S;omega) (by have:=hf.R;omega));obtain⟨B,bd,hB⟩:=ca (BJ (P:=P) h.alike (λs hs=>by have:=hf.a s hs;omega));obtain⟨C,cd,hC⟩:=BF (P:=P);obtain⟨D,dd,hD⟩:=BH (P:=P);simp only[o6,strs] at W hB;have O:=cV h.tags;refine fi (ak (aR Tryz.func108) ad (ak (aR Tryz.func109) bd (ak (aR Tryz.func83) cd (ak (aR Tryz.func110) dd (au P))))) (lf Tryz.func49) ?_;by_cases N:bB h=0
 ·have Y:(bB h==0)=true:=by simp[N]
  by_cases V:bj h.alike=0
  ·have H:(bj h.alike==0)=true:=by simp[V]
   by_cases q3:5<h.tags.length
   ·have J:(5:Int)<h.tags.length:=by omega
    repeat' first|apply nI|(refine eI aic λK p=>?_;simp[o6,O,ab,az,W,hB,Y,H,J,bne];apply p)
    simp[Dn,aH,Tryz.f49,aO,N,V,q3]
   ·have J:¬(5:Int)<h.tags.length:=by omega
    repeat' first|apply nI|(refine eI aic λK p=>?_;simp[o6,O,ab,az,W,hB,Y,H,J,bne];apply p)
    have hh:aO h=cR h.tags:=by simp[aO,N,V,q3]
    refine amF (λd T B lv nx=>∃k,k+d=h.tags.length/\T 1=.sp (o6 h)/\T 5=.i .i64 k/\cR h.tags=cR (h.tags.drop k)) h.tags.length ?_ ?_
    ·exact⟨0,by simp,by simp[o6],by simp,by simp⟩
    rintro d T B lv nx ⟨k,hk,t1,t5,hp⟩;have w1:=aS ((k:Int)+1);by_cases U:k<h.tags.length
    ·have da:=fA h.tags k h.tags[k] (aaf U);have hle:(k+1)*3<=h.tags.length*3:=by omega
     have rM:h.tags.drop k=h.tags[k]::h.tags.drop (k+1):=aa4 U;have hm:h.tags[k]∈h.tags:=abG U;rw[rM] at hp;generalize h.tags[k]=t at da hp hm;have M:=hC t.reads (by have:=hf.t t hm;omega);have I:=hD t.low t.high;by_cases r1:aM t.reads=0
     ·have E:(aM t.reads==0)=true:=by simp[r1]
      cases Z:dR t.low t.high with
      |true=>
       rw[Z] at I
       repeat' first|apply nI|(refine eI aic λK p=>?_;simp[t1,t5,o6,U,O,hle,da,ab,az,M,I,E,bne,w1];apply p)
       refine aN (d-1) ⟨k+1,by omega,by simp[t1,o6],by simp,by rw[hp];simp[cR,r1,Z]⟩
      |false=>
       rw[Z] at I;have hv:aO h=1:=by rw[hh,hp];simp[cR,r1,Z]
       repeat' first|apply nI|(refine eI aic λK p=>?_;simp[t1,t5,o6,U,O,hle,da,ab,az,M,I,E,bne,w1];apply p)
       simp[Dn,aH,Tryz.f49,hv]
     ·have E:(aM t.reads==0)=false:=by simp[r1]
      have hv:aO h=aM t.reads:=by rw[hh,hp];simp[cR,r1]
      repeat' first|apply nI|(refine eI aic λK p=>?_;simp[t1,t5,o6,U,O,hle,da,ab,az,M,E,bne,w1];apply p)
      simp[Dn,aH,Tryz.f49,hv]
    ·have gg:k=h.tags.length:=by omega
     subst gg;have hv:aO h=0:=by rw[hh,hp];simp[cR]
     repeat' first|apply nI|(refine eI aic λK p=>?_;simp[t1,t5,o6,O];apply p)
     simp[Dn,aH,Tryz.f49,hv]
  ·have H:(bj h.alike==0)=false:=by simp[V]
   repeat' first|apply nI|(refine eI aic λK p=>?_;simp[o6,ab,az,W,hB,Y,H,bne];apply p)
   simp[Dn,aH,Tryz.f49,aO,N,V]
 ·have Y:(bB h==0)=false:=by simp[N]
  repeat' first|apply nI|(refine eI aic λK p=>?_;simp[o6,ab,az,W,Y,bne];apply p)
  simp[Dn,aH,Tryz.f49,aO,N]
def Fo(h:ay):Bool:= !gC h&&(aO h==0)
theorem Si(h:ay):aq P 30 [.ag (o6 h)] (.b (Fo h)):=by
 obtain⟨A,I,p⟩:=ca (KY (P:=P) h);simp only[o6] at p;cases hg:gC h with
 |true=>
  rw[hg] at p;refine fi (ak (aR Tryz.func16) I (au P)) (lf Tryz.func30) ?_
  repeat' first|apply nI|(refine eI [0,1,2] λK E=>?_;simp[o6,ab,az,p];apply E)
  simp[Dn,aH,Tryz.f30,Fo,hg]
 |false=>
  rw[hg] at p;obtain⟨B,J,H⟩:=ca (BI (P:=P) h (Jp hg));simp only[o6] at H;refine fi (ak (aR Tryz.func16) I (ak (aR Tryz.func49) J (au P))) (lf Tryz.func30) ?_
  repeat' first|apply nI|(refine eI [0,1,2] λK E=>?_;simp[o6,ab,az,p,H];apply E)
  simp[Dn,aH,Tryz.f30,Fo,hg]
end
def ag9:=@List.foldl_append
def agl:=@List.exists_cons_of_ne_nil
def valOf(n:Int)(p:List Int):Int:=p.foldl (λa d=>10*a+d) n
theorem pR:∀(k:Nat) (n:Int),0<=n->n<10^k->valOf 0 (cj n k)=n
 |0,n,h0,h1=>by simp at h1;simp[cj,valOf];omega
 |k+1,n,h0,h1=>by
  have h2:n/10<10^k:=by rw[Int.pow_succ] at h1;omega
  have:=pR k (n/10) (by omega) h2;unfold valOf at this ⊢;rw[cj,ag9,this];simp;omega
theorem lD(h:ay)(r:UInt8):fK h r r=true:=by simp[fK]
structure Tc(h:ay)(w:List UInt8):Prop where
 len:w.length=10
 lets:∀c∈w,isLet c=true
 nod:w.Nodup
 rep:∀q∈h.R,isLet q=true/\q∉w
theorem lZ{c:UInt8}(h:isLet c=true):c≠63:=by
 rintro rfl;exact absurd h (by decide)
theorem En{s:List UInt8}(h:bA s 65=true):∀c∈s,isLet c=true:=λc hc=>by
 have:=acp.1 h c hc;rcases afn.1 this with h|h
 ·exact h
 ·rw[ac6] at h;subst h;decide
theorem Nl{s:List UInt8}(h:bA s 63=true):∀c∈s,c≠63->isLet c=true:=λc hc hn=>by
 have:=acp.1 h c hc;rcases afn.1 this with h|h
 ·exact h
 ·rw[ac6] at h;exact absurd h hn
theorem nH:∀(S:List UInt8) (k:Nat),k<S.length->(S.getD k 0::(S.take k++S.drop (k+1))).Perm S
 | [],k,h=>by simp at h
 |a::S,0,h=>by simp
 |a::S,k+1,h=>by
  have p:=nH S k (by simpa using h);simp only[List.getD_cons_succ,List.take_succ_cons,afs,aaT];exact(List.Perm.swap _ _ _).trans (p.cons a)
theorem qh:∀(L S w:List UInt8),S.length=L.count 63->w∈e_ L S->w.Perm (L.filter (· !=63)++S)
 | [],S,w,hl,hw=>by
  have:S= []:=abA hl;subst this;simp[e_] at hw;subst hw;exact List.Perm.refl _
 |c::L,S,w,hl,hw=>by
  unfold e_ at hw;split at hw
  ·rename_i hc;subst hc;simp only[aeQ,ac4,aeh] at hw;obtain⟨k,hk,v,hv,rfl⟩:=hw;have hp:=nH S k hk;have p:(S.take k++S.drop (k+1)).length=L.count 63:=by
    have:=hp.length_eq;rw[List.count_cons_self] at hl;simp only[ab0] at this;omega
   have E:=qh L _ v p hv;have e:(63::L:List UInt8).filter (· !=63)=L.filter (· !=63):=by simp
   rw[e];refine(E.cons _).trans ?_;refine List.perm_middle.symm.trans ?_;exact List.Perm.append_left _ hp
  ·rename_i hc;simp only[ac4] at hw;obtain⟨v,hv,rfl⟩:=hw;rw[List.count_cons_of_ne (λe=>hc e)] at hl;have e:(c::L:List UInt8).filter (· !=63)=c::L.filter (· !=63):=by simp[hc]
   rw[e];exact(qh L S v hl hv).cons c
theorem La{a:List UInt8}(h:dup a=false):(a.filter (· !=63)).Nodup:=by
 rw[List.nodup_iff_count];intro c;by_cases hm:c∈a.filter (· !=63)
 ·obtain⟨h1,h2⟩:=afJ.1 hm;have:=ag8.1 h c h1;rw[h2,Bool.true_and,aan] at this;have p:(a.filter (· !=63)).count c<=a.count c:=List.filter_sublist.count_le c;omega
 ·rw[List.count_eq_zero_of_not_mem hm];omega
theorem aiZ{h:ay}(hc:aO h=0){w:List UInt8}(hw:w∈e_ h.L h.S):Tc h w:=by
 obtain⟨⟨h1,h2,N,W,M,J,V,I⟩,_⟩:=checked h hc;have hp:=qh h.L h.S w J hw;have p:=En N;have E:=En M;have hn:=La I;have O:h.S.filter (· !=63)=h.S:=List.filter_eq_self.2 λc hc=>by simpa using lZ (p c hc)
 have U:h.R.filter (· !=63)=h.R:=List.filter_eq_self.2 λc hc=>by simpa using lZ (E c hc)
 rw[ag2,ag2,O,U,List.nodup_append] at hn;obtain⟨n1,_,H⟩:=hn;refine⟨(th _ _ _ hw).trans h1,λc hc=>?_,hp.nodup_iff.2 n1,λq hq=>⟨E q hq,λhm=>H q (hp.mem_iff.1 hm) q hq rfl⟩⟩;rcases abH.1 (hp.mem_iff.1 hc) with hm|hm
 ·obtain⟨m1,m2⟩:=afJ.1 hm;exact Nl h2 c m1 (by simpa using m2)
 ·exact p c hm
theorem MX{h:ay}(hc:aO h=0){w:List UInt8}(hw:w∈aB h):Tc h w:=aiZ hc (afJ.1 hw).1
theorem SC{h:ay}{w:List UInt8}(ho:Tc h w){last d:Int} :isLet (Gc w h.R last d)=true:=by
 unfold Gc;split
 ·rename_i hr;obtain⟨q,p,hq⟩:=agl hr.1;have:=(ho.rep q (by rw[hq];simp)).1;rw[hq];simpa using this
 ·have hk:((d+9)%10).toNat<w.length:=by rw[ho.len];omega
  rw[abM,aaf hk];exact ho.lets _ (abG hk)
theorem tW{h:ay}{w:List UInt8}(ho:Tc h w):∀(p:List Int) (last:Int),∀c∈dC w h.R last p,isLet c=true
 | [],_,c,hc=>by simp[dC] at hc
 |d::l,last,c,hc=>by
  rw[dC] at hc;rcases abZ.1 hc with e|hc
  ·rw[e];exact SC ho
  ·exact tW ho l d c hc
theorem xE{w:List UInt8}{k:Nat}(hk:k<w.length):w.getD k 0∈w:=by
 rw[abM,aaf hk];exact abG hk
theorem getD_inj{w:List UInt8}(hn:w.Nodup){j k:Nat}(p:j<w.length)(hk:k<w.length)(h:w.getD j 0=w.getD k 0):j=k:=by
 rw[abM,abM,aaf p,aaf hk] at h;exact(List.getElem_inj hn).1 h
theorem Vm{h:ay}{bs:List Int}(hc:aO h=0)(hb:bN bs=0)(hw:aB h≠ []):bJ h bs=0:=by
 unfold bJ;rw[aat (by simp[hc]),aat (by simp[hb]),aat hw]
def afk:=@List.length_take
def ahh:=@List.length_drop
def aju(ps:List Int):Nat->List UInt8->List UInt8->List UInt8
 |_,[],_=> []
 |i,c::L,S=>if c=63 then S.getD ((ps.getD i 0).toNat%S.length) 0::aju ps (i+1) L (S.take ((ps.getD i 0).toNat%S.length)++S.drop ((ps.getD i 0).toNat%S.length+1)) else c::aju ps (i+1) L S
theorem ajG(ps:List Int)(i:Nat)(c:UInt8)(L S:List UInt8):aju ps i (c::L) S=if c=63 then S.getD ((ps.getD i 0).toNat%S.length) 0::aju ps (i+1) L (S.take ((ps.getD i 0).toNat%S.length)++S.drop ((ps.getD i 0).toNat%S.length+1)) else c::aju ps (i+1) L S:=rfl
theorem ajC(ps:List Int):∀(i:Nat) (L S:List UInt8),S.length=L.count 63->aju ps i L S∈e_ L S
 |_,[],S,_=>by simp[aju,e_]
 |i,c::L,S,hl=>by
  unfold aju e_;by_cases hc:c=63
  ·subst hc;rw[List.count_cons_self] at hl;rw[aay rfl,aay rfl,aeQ];have hk:(ps.getD i 0).toNat%S.length<S.length:=Nat.mod_lt _ (by omega);refine⟨_,aeh.2 hk,ac4.2 ⟨_,ajC ps (i+1) L _ ?_,rfl⟩⟩;rw[abj,afk,ahh];omega
  ·rw[List.count_cons_of_ne hc] at hl;rw[aat hc,aat hc];exact ac4.2 ⟨_,ajC ps (i+1) L S hl,rfl⟩
section
variable{h:ay}{w:List UInt8}(hc:aO h=0)(ho:Tc h w)
include ho
include hc
variable{n g:Int}(hb:aV n g=0)
include hb
end
@[simp] abbrev ajE:List Nat:=[0,1,2,4,5,6,7,8,15,22]
def ajv(l:List Int):AV:=.sq none 1 (l.map (.i .u16))
def ajF(l:List Int):Prop:=∀n∈l,0<=n/\n<=65535
theorem aj4{ps:List Int}(h:ajF ps)(k:Nat):0<=ps.getD k 0/\ps.getD k 0<=65535:=by
 rw[abM];cases hk:ps[k]? with
 |none=>simp
 |some n=>exact h n (List.mem_of_getElem? hk)
section
variable{P:ap}[l:cL P]
theorem ajQ(a:List Int)(k:Nat)(ha:ajF a):aq P 146 [ajv a,.i .i64 k] (.i .i64 (a.getD k 0)):=by
 refine fi (au P) (lf Tryz.func146) ?_;by_cases p:k<a.length
 ·have ga:a[k]?=some a[k]:=aaf p;have da:(a.map (AV.i .u16)).drop k=.i .u16 a[k]::(a.map (AV.i .u16)).drop (k+1):=by rw[aa4 (by simpa using p)];simp
  have hx:=ha _ (abG p);have c1:IntKind.i64.wrap a[k]=a[k]:=aS _
  repeat' first|apply nI|(refine eI [0,1,4,12] λK E=>?_;simp[ajv,p,ga,da,c1];apply E)
  simp[Dn,aH,Tryz.f146,ga]
 ·have ga:a[k]?=none:=aby (by omega)
  repeat' first|apply nI|(refine eI [0,1,4,12] λK E=>?_;simp[ajv,p];apply E)
  simp[Dn,aH,Tryz.f146,ga]
theorem aj7(a:List Int)(k:Nat)(ha:ajF a):aq P 95 [ajv a,.i .i64 k] (.i .i64 (a.getD k 0)):=by
 obtain⟨A,H,p⟩:=ca (ajQ (P:=P) a k ha);refine fi (ak (aR Tryz.func146) H (au P)) (lf Tryz.func95) ?_;simp only[ajv] at p
 repeat' first|apply nI|(refine eI aqU λK E=>?_;simp[ajv,ab,p];apply E)
 simp[Dn,aH,Tryz.f95]
theorem aj8(a:List Int)(ha:ajF a):∃F:List AV->Option AV,Den P 95 F/\∀k:Nat,F [ajv a,.i .i64 k]=some (.i .i64 (a.getD k 0)):=by
 obtain⟨F,h1,h2⟩:=cC (P:=P) (f:=95) (ι:=Nat) (λk=> [ajv a,.i .i64 k]) (λk=>.i .i64 (a.getD k 0)) (λ_=>True) (λx y _ _ e=>by
  simp only[abg,AV.i.injEq,adM,abQ,Int.natCast_inj] at e;rw[e]) (λk _=>aj7 a k ha)
 exact⟨F,h1,λk=>h2 k trivial⟩
theorem akh(h:ay)(ps:List Int)(W:ajF ps)(hL:h.L.length<1000)(hS:h.S.length<1000)(hc:h.S.length=h.L.count 63):aq P 31 [.ag (o6 h),ajv ps] (.s (aju ps 0 h.L h.S)):=by
 obtain⟨A,ad,Z⟩:=aj8 (P:=P) ps W;simp only[ajv] at Z;refine fi (ak (aR Tryz.func95) ad (au P)) (lf Tryz.func31) ?_
 repeat' first|apply nI|(refine eI ajE λK p=>?_;simp[o6,ajv];apply p)
 refine amF (λd T B lv nx=>∃k pre S,k+d=h.L.length/\T 1=ajv ps/\T 2=.sp (o6 h)/\T 5=.s pre/\T 6=.s S/\T 7=.i .i64 k/\pre.length=k/\pre++aju ps k (h.L.drop k) S=aju ps 0 h.L h.S/\S.length=(h.L.drop k).count 63) h.L.length ?_ ?_
 ·exact⟨0,[],h.S,by simp,by simp[ajv],by simp[o6],by simp,by simp,by simp,rfl,by simp,by simpa using hc⟩
 ·rintro d T B lv nx ⟨k,pre,S,hk,t1,t2,t5,t6,t7,V,hw,hs⟩;have w1:=aS ((k:Int)+1);by_cases H:k<h.L.length
  ·have ga:h.L[k]?=some h.L[k]:=aaf H;have da:h.L.drop k=h.L[k]::h.L.drop (k+1):=aa4 H;have Yw:(h.L.take (k+1)).drop k= [h.L[k]]:=by
    rw[aaN H,List.drop_append_of_le_length (by rw[afk];omega),List.drop_of_length_le (by rw[afk];omega)];rfl
   rw[da] at hw hs;have st (j:Nat):(0:Int)<=(j:Int)+1/\(j:Int)<=(j:Int)+1:=by omega
   have s0:=(st k).1;have s1:=(st k).2;have hle:(k:Int)+1<=h.L.length:=by omega
   have U:((h.L[k].toNat:Int)==63)=(h.L[k]==63):=kn h.L[k] 63 (by omega);cases I:(h.L[k]==63) with
   |false=>
    have E:h.L[k]≠63:=by simpa using I
    have n1:¬(9223372036854775807:Int)<(pre.length:Int)+1:=by omega
    rw[List.count_cons_of_ne E] at hs;rw[ajG,aat E] at hw
    repeat' first|apply nI|(refine eI ajE λK p=>?_;simp[t1,t2,t5,t6,t7,o6,ajv,H,ga,hle,Yw,U,I,bne,w1,n1,s0,s1];apply p)
    refine aN (d-1) ⟨k+1,pre++ [h.L[k]],S,by omega,by simp[t1,ajv],by simp[t2,o6],by simp,by simp[t6],by simp,by simp[V],by rw[<-hw];simp,hs⟩
   |true=>
    have E:h.L[k]=63:=by simpa using I
    rw[E,List.count_cons_self] at hs;rw[ajG,aay E] at hw;obtain⟨O,x1⟩:=aj4 W k;have Ca:S.length<=1000:=by
     have:=List.count_le_length (a:=(63:UInt8)) (l:=h.L.drop (k+1));rw[ahh] at this;omega
    have M:=Z k;have ht:(ps.getD k 0).tmod (S.length:Int)=(((ps.getD k 0).toNat%S.length:Nat):Int):=by
     rw[ae6 O,Int.natCast_emod,Int.toNat_of_nonneg O]
    have Y:(ps.getD k 0).toNat%S.length<S.length:=Nat.mod_lt _ (by omega);generalize (ps.getD k 0).toNat%S.length=j at *;generalize ps.getD k 0=x at *;have J:(S.take (j+1)).drop j= [S.getD j 0]:=by
     rw[aaN Y,List.drop_append_of_le_length (by rw[afk];omega),List.drop_of_length_le (by rw[afk];omega),abM,aaf Y];rfl
    have Am:(j:Int)+1<=S.length:=by omega
    have N:(j:Int)<=S.length:=by omega
    have w2:=aS ((j:Int)+1);have n1:¬(9223372036854775807:Int)<(pre.length:Int)+1:=by omega
    have s2:=(st j).1;have s3:=(st j).2;have n2:¬(9223372036854775807:Int)<((min j S.length:Nat):Int)+((S.length-(j+1):Nat):Int):=by omega
    have z1:S≠ []:=by intro e;rw[e] at hs;simp at hs
    repeat' first|apply nI|(refine eI ajE λK p=>?_;simp[t1,t2,t5,t6,t7,o6,ajv,H,ga,hle,U,I,bne,w1,w2,n1,ab,M,ht,J,Am,N,z1,n2,s2,s3];apply p)
    refine aN (d-1) ⟨k+1,pre++ [S.getD j 0],S.take j++S.drop (j+1),by omega,by simp[t1,ajv],by simp[t2,o6],by simp,by simp,by simp,by simp[V],by rw[<-hw];simp,by rw[abj,afk,ahh];omega⟩
  ·have gg:k=h.L.length:=by omega
   subst gg;rw[List.drop_length] at hw
   repeat' first|apply nI|(refine eI ajE λK p=>?_;simp[t1,t2,t5,t6,t7,o6];apply p)
   simp[Dn,aH,Tryz.f31,<-hw,aju]
end
theorem K4{h:ay}(hf:Fair h):j9 h:=by
 have h1:=hf.L;have h2:=hf.S;have H:=hf.R;have E:=hf.na;have p:=hf.nt;exact⟨by omega,by omega,by omega,by omega,λs hs=>by have:=hf.a s hs;omega,by omega,λt ht=>by have:=hf.t t ht;omega⟩
theorem OO{h:ay}(hf:Fo h=true):Fair h:=by
 unfold Fo at hf;rw[aaZ] at hf;exact Jp (by simpa using hf.1)
theorem Sj{h:ay}(hf:Fo h=true):aO h=0:=by
 unfold Fo at hf;rw[aaZ] at hf;simpa using hf.2
section
variable{P:ap}[l:cL P]
theorem RY:∃F:List AV->Option AV,Den P 45 F/\∀(a:List Int) (n:Int),a.length<100000000000000->F [ints a,.i .i64 n]=some (.b (a.contains n)):=by
 obtain⟨F,h1,h2⟩:=cC (P:=P) (f:=45) (ι:=List Int×Int) (λx=> [ints x.1,.i .i64 x.2]) (λx=>.b (x.1.contains x.2)) (λx=>x.1.length<100000000000000) (λx y _ _ e=>by
  simp only[ints,abg,AV.sq.injEq,AV.i.injEq,adM,abQ] at e;have h1:x.1=y.1:=(List.map_inj_right (λa b e=>by simpa using e)).1 e.1;rw[h1,e.2]) (λx hx=>RX x.1 x.2 hx)
 exact⟨F,h1,λa n ha=>h2 (a,n) ha⟩
end
section
variable{P:ap}[l:cL P]
end
section
variable{P:ap}[l:cL P]
end
def anN(h:ay)(w s:List UInt8)(r c:UInt8):Bool:=(numOf w h.R (s++ [c])).isSome&&an1 h.alike r c
theorem anS{α β:Type}(f:α->List β)(n:Nat):∀l:List α,(∀a∈l,(f a).length<=n)->(l.flatMap f).length<=l.length*n
 | [],_=>by simp
 |a::l,h=>by
  have h1:=h a (by simp);have h2:=anS f n l λb hb=>h b (by grind)
  rw[aco,abj,ab0,Nat.succ_mul];omega
section
variable{P:ap}[l:cL P]
end
section
variable{P:ap}[l:cL P]
end
def bE:List UInt8->List UInt8->Bool
 |c::s,r::rs=>(r !=63&&r !=c)||bE s rs
 |_,_=>false
section
variable{h:ay}{w:List UInt8}
theorem apI(ho:Tc h w){j:Nat}(p:j<w.length):placeOf w w[j]=(((j+1)%10:Nat):Int):=by
 rw[aoJ w w[j] j p (λhm=>?_) rfl]
 ·omega
 ·obtain⟨i,hi,e⟩:=agD.1 hm;have:=(List.getElem_inj ho.nod (i:=i) (j:=j) (h₀:=by omega) (h₁:=p)).1 e;omega
end
section
variable{P:ap}[l:cL P]
end
def alF(ts:List Tag):AV:=if ts= [] then .sq none 0 [] else .sq none 3 (bI ts)
def ak_(h:ay)(ts:List Tag):AV:=.ag [.s h.L,.s h.S,.s h.R,.sq none 1 (h.alike.map .s),alF ts]
section
variable{P:ap}[l:cL P]
end
theorem alh:∀l:List Tag,cR l=0->∀t∈l,aM t.reads=0/\dR t.low t.high=true
 | [],_,t,ht=>by grind
 |a::l,h,t,ht=>by
  unfold cR at h;split at h
  ·omega
  ·rename_i h1;split at h
   ·cases h
   ·rename_i h2;rcases abZ.1 ht with rfl|ht
    ·simp_all
    ·exact alh l h t ht
theorem alm:∀l:List Tag,(∀t∈l,aM t.reads=0/\dR t.low t.high=true)->cR l=0
 | [],_=>rfl
 |a::l,h=>by
  obtain⟨h1,h2⟩:=h a (by simp);unfold cR;rw[aat (by omega),aat (by grind)];exact alm l λt ht=>h t (by grind)
section
variable{h:ay}(hc:aO h=0)
include hc
end
section
variable{P:ap}[l:cL P]
end
section
variable{P:ap}[l:cL P]
end
section
variable{h:ay}{i:Nat}{t:Tag}(ht:h.tags[i]?=some t){n:Int}
include ht
end
section
variable{P:ap}[l:cL P]
end
section
variable{P:ap}[l:cL P]
end
section
variable{P:ap}[l:cL P]
end
@[simp] abbrev aoO:List Nat:=[0,1,2,3,8,9,10,11,12,13,14,17,29,49]
theorem aoX:∀(i:Nat) (n:Int),cj n (i+1)=(n/10^i%10)::cj n i
 |0,n=>by simp[cj]
 |i+1,n=>by
  have p:=aoX i (n/10);rw[cj,p,aaT];have e:n/10/10^i=n/10^(i+1):=by
   rw[Int.ediv_ediv_of_nonneg (by decide:(0:Int)<=10),Int.pow_succ,Int.mul_comm]
  rw[e];rfl
section
variable{P:ap}[l:cL P]
set_option maxHeartbeats 400000 in
theorem aor(w R:List UInt8)(n:Int)(g:Nat)(hw:w.length=10)(hR:R.length<=1)(h0:0<=n)(hn:n<=99999)(hg:g<=5):aq P 57 [.s w,.s R,.i .i64 n,.i .i64 g] (.tu [.s (dC w R (-1) (cj n g)),.b (n/10^g==0)]):=by
 refine fi (au P) (lf Tryz.func57) ?_
 repeat' first|apply nI|(refine eI aoO λK H=>?_;simp;apply H)
 refine amF (λd T B lv nx=>∃i τ,i+d=g/\T 0=.s w/\T 1=.s R/\T 3=.i .i64 g/\T 2=.i .i64 (n/10^i)/\T 11=.i .i64 i/\T 10=.sq (some τ) 1 ((cj n i).map (.i .i64))/\lv τ=some 3/\τ<nx) g ?_ ?_
 ·exact⟨0,2,by simp,by simp,by simp,by simp,by simp,by simp,by rfl,by simp,by simp⟩
 rintro d T B lv nx ⟨i,τ,hi,t0,t1,t3,t2,t11,t10,l10,hτ⟩;have w1:=aS ((i:Int)+1);have hp:(0:Int)<10^i:=Int.pow_pos (by decide);have q0:0<=n/10^i:=Int.ediv_nonneg h0 (by omega);have q9:n/10^i<=99999:=Int.le_trans (Int.ediv_le_self _ h0) hn;by_cases aK:i<g
 ·have Hs:(i:Int)<g:=by omega
  have e1:(n/10^i).tmod 10=n/10^i%10:=ae6 q0;have e2:IntKind.i64.wrap ((n/10^i).tdiv 10)=n/10^(i+1):=by
   grind [aS,Int.ediv_ediv_of_nonneg]
  have hd:=aoX i n;have F6:=Fx n i;have hlen:(1+(cj n i).length)*9<=70368744177664:=by omega
  generalize n/10^i=a at *;generalize cj n i=E at *
  repeat' first|apply nI|(refine eI aoO λK H=>?_;simp[t0,t1,t3,t2,t11,t10,aK,Hs,e1,e2,hlen,w1];apply H)
  refine aN (d-1) ⟨i+1,nx+3+4,by omega,by rfl,by rfl,by rfl,by simp,by simp,by simp[hd],by simp,by simp⟩
 ·have hig:i=g:=by omega
  subst hig;have qP:=CC n i;have F6:=Fx n i;generalize aya:cj n i=E at *;have F3:(dC w R (-1) E).length=i:=by grind [tX]
  repeat' first|apply nI|(refine eI aoO λK H=>?_;simp[t0,t1,t3,t2,t11,t10];apply H)
  refine amF (λd T B lv nx=>∃k,k+d=i/\T 0=.s w/\T 1=.s R/\T 3=.i .i64 i/\T 2=.i .i64 (n/10^i)/\T 10=.sq (some τ) 1 (E.map (.i .i64))/\T 13=.i .i64 k/\T 12=.s ((dC w R (-1) E).take k)) i ?_ ?_
  ·simp_all
  rintro d2 T B lv nx ⟨k,hk,t0,t1,t3,t2,t10,t13,t12⟩;have w2:=aS ((k:Int)+1);by_cases V:k<i
  ·have L:(k:Int)<i:=by omega
   have M:k<E.length:=by omega
   have vi:=tY w R E (-1) k M;have I:(dC w R (-1) E).take (k+1)=(dC w R (-1) E).take k++ [Gc w R (if k=0 then -1 else E[k-1]) E[k]]:=by
    grind [List.take_succ]
   have N:(E.map (AV.i .i64)).drop k=.i .i64 E[k]::(E.map (AV.i .i64)).drop (k+1):=by grind [List.drop_eq_getElem_cons]
   obtain⟨b0,b9⟩:=qP _ (abG M);have kN:((dC w R (-1) E).take k).length=k:=by grind
   obtain⟨j,y,O⟩:∃(j:Nat) (y:Int),(if k=0 then -1 else E[k-1])=y/\((¬0<k/\y= -1/\True/\True)\/(0<k/\IntKind.i64.wrap ((k:Int)-1)=j/\j<E.length/\(E.map (AV.i .i64)).drop j=.i .i64 y::(E.map (AV.i .i64)).drop (j+1))):=by
    by_cases vJ:0<k
    ·have I7:k-1<E.length:=by omega
     refine⟨k-1,E[k-1],by omega,.inr ⟨vJ,?_,I7,?_⟩⟩
     ·grind [aS]
     grind [List.drop_eq_getElem_cons]
    simp_all
   obtain⟨hy,O⟩:=O;rw[hy] at I;obtain⟨out,Rs⟩:∃out,(dC w R (-1) E).take k=out:=⟨_,rfl⟩
   rw[Rs] at I kN t12;clear vi;obtain⟨z,hz⟩:∃z,E[k]=z:=⟨_,rfl⟩
   rw[hz] at b0 b9 I N;obtain⟨p,atm,TR⟩:∃p:Nat,p<10/\(z+9).tmod 10=p:=⟨((z+9)%10).toNat,by omega,by grind⟩
   have hpz:((z+9)%10).toNat=p:=by grind
   have W:=aS (z+9);have wp:=aS ((p:Int)+1);have Z:(w.take (p+1)).drop p= [w[p]]:=by
    grind [List.take_succ_eq_append_getElem]
   have hgd:w.getD p 0=w[p]:=by simp_all
   have s2:(0:Int)<=(p:Int)+1:=by omega
   have s3:(p:Int)<=(p:Int)+1:=by omega
   have Y:(p:Int)+1<=w.length:=by omega
   have n1:¬(9223372036854775807:Int)<(out.length:Int)+1:=by omega
   have n2:¬(9223372036854775807:Int)<(out.length:Int)+R.length:=by omega
   by_cases U:R≠ []/\z=y
   ·obtain⟨q,hq⟩:∃q,R= [q]:=by
     match R,U.1,hR with
     | [q],_,_=>grind
     |q::q'::R',_,h=>simp at h
    rw[Gc,aay U] at I;subst hq;simp only[List.getD_cons_zero] at I;have J:(z==y)=true:=by simp_all
    rcases O with ⟨f1,f2,_,_⟩|⟨f1,f2,f3,f4⟩
    ·omega
    ·repeat' first|apply nI|(refine eI aoO λK H=>?_;simp[t0,t1,t3,t2,t10,t13,t12,V,L,N,M,f1,f2,f3,f4,J,n1,bne,w2];apply H)
     refine aN (d2-1) ⟨k+1,by omega,by rfl,by rfl,by rfl,by rfl,by rfl,by simp,by simp[I]⟩
   ·rw[Gc,aat U,hpz,hgd] at I;rcases O with ⟨f1,f2,_,_⟩|⟨f1,f2,f3,f4⟩
    ·repeat' first|apply nI|(refine eI aoO λK H=>?_;simp[t0,t1,t3,t2,t10,t13,t12,V,L,N,M,f1,TR,W,wp,Z,s2,s3,Y,n1,bne,w2];apply H)
     refine aN (d2-1) ⟨k+1,by omega,by rfl,by rfl,by rfl,by rfl,by rfl,by simp,by simp[I]⟩
    ·cases J:(z==y) with
     |false=>
      repeat' first|apply nI|(refine eI aoO λK H=>?_;simp[t0,t1,t3,t2,t10,t13,t12,V,L,N,M,f1,f2,f3,f4,J,TR,W,wp,Z,s2,s3,Y,n1,bne,w2];apply H)
      refine aN (d2-1) ⟨k+1,by omega,by rfl,by rfl,by rfl,by rfl,by rfl,by simp,by simp[I]⟩
     |true=>
      have hRn:R= []:=aaO λhn=>U ⟨hn,by grind⟩
      subst hRn
      repeat' first|apply nI|(refine eI aoO λK H=>?_;simp[t0,t1,t3,t2,t10,t13,t12,V,L,N,M,f1,f2,f3,f4,J,TR,W,wp,Z,s2,s3,Y,n1,bne,w2];apply H)
      refine aN (d2-1) ⟨k+1,by omega,by rfl,by rfl,by rfl,by rfl,by rfl,by simp,by simp[I]⟩
  ·have N5:k=i:=by omega
   subst N5;rw[aa1 (by omega)] at t12
   repeat' first|apply nI|(refine eI aoO λK H=>?_;simp[t0,t1,t3,t2,t10,t13,t12];apply H)
   simp[Dn,dc,aH,Tryz.f57]
end
@[simp] abbrev aqQ:List Nat:=[0,1,2,3,6,7,15,25,39]
def aqK(c:UInt8):List (List UInt8)->UInt8
 | []=>c
 |s::l=>if s.getD 0 0=c then s.getD 1 0 else if s.getD 1 0=c then s.getD 0 0 else aqK c l
def aqs(h:ay)(c:UInt8)(b:Bool):UInt8:=if b then aqK c h.alike else c
section
variable{P:ap}[l:cL P]
theorem as1(h:ay)(hv:sH h)(c:UInt8)(b:Bool):aq P 119 [.ag (o6 h),.i .u8 c.toNat,.b b] (.i .u8 (aqs h c b).toNat):=by
 refine fi (au P) (lf Tryz.func119) ?_;cases b with
 |false=>
  repeat' first|apply nI|(refine eI aqQ λK p=>?_;simp[o6];apply p)
  refine amF (λd T B lv nx=>T 1=.i .u8 c.toNat/\T 2=.b false/\T 3=.sp (o6 h)/\T 7=.i .i64 0) 1 ?_ ?_
  ·exact⟨by simp,by simp,by simp[o6],by simp⟩
  rintro d T B lv nx ⟨t1,t2,t3,t7⟩;by_cases hz:h.alike= []
  ·repeat' first|apply nI|(refine eI aqQ λK p=>?_;simp[t1,t2,t3,t7,o6,hz];apply p)
   simp[Dn,aH,Tryz.f119,aqs]
  ·have L:0<h.alike.length:=agz.2 hz
   repeat' first|apply nI|(refine eI aqQ λK p=>?_;simp[t1,t2,t3,t7,o6,hz,L];apply p)
   simp[Dn,aH,Tryz.f119,aqs]
 |true=>
  repeat' first|apply nI|(refine eI aqQ λK p=>?_;simp[o6];apply p)
  refine amF (λd T B lv nx=>∃k,k+d=h.alike.length/\T 1=.i .u8 c.toNat/\T 2=.b true/\T 3=.sp (o6 h)/\T 7=.i .i64 k/\aqK c (h.alike.drop k)=aqK c h.alike) h.alike.length ?_ ?_
  ·exact⟨0,by simp,by simp,by simp,by simp[o6],by simp,by simp⟩
  rintro d T B lv nx ⟨k,hk,t1,t2,t3,t7,hp⟩;have hlen:=hv.1;have w1:=aS ((k:Int)+1);by_cases E:k<h.alike.length
  ·have I:=hv.2 h.alike[k] (abG E);obtain⟨y,z,H⟩:∃y z,h.alike[k]= [y,z]:=by
    match hh:h.alike[k],I with
    | [y,z],_=>exact⟨y,z,rfl⟩
   rw[aa4 E,H] at hp;simp only[aqK,List.getD_cons_zero,List.getD_cons_succ] at hp;cases a1:(y==c) with
   |true=>
    rw[aay (by simpa using a1)] at hp
    repeat' first|apply nI|(refine eI aqQ λK p=>?_;simp[t1,t2,t3,t7,o6,E,w1,H,dV,a1];apply p)
    simp[Dn,aH,Tryz.f119,aqs,<-hp]
   |false=>
    rw[aat (by simpa using a1)] at hp;cases a2:(z==c) with
    |true=>
     rw[aay (by simpa using a2)] at hp
     repeat' first|apply nI|(refine eI aqQ λK p=>?_;simp[t1,t2,t3,t7,o6,E,w1,H,dV,a1,a2];apply p)
     simp[Dn,aH,Tryz.f119,aqs,<-hp]
    |false=>
     rw[aat (by simpa using a2)] at hp
     repeat' first|apply nI|(refine eI aqQ λK p=>?_;simp[t1,t2,t3,t7,o6,E,w1,H,dV,a1,a2];apply p)
     refine aN (d-1) ⟨k+1,by omega,by simp[t1],by simp[t2],by simp[t3,o6],by simp,hp⟩
  ·have J:k=h.alike.length:=by omega
   subst J;rw[List.drop_length] at hp
   repeat' first|apply nI|(refine eI aqQ λK p=>?_;simp[t1,t2,t3,t7,o6];apply p)
   simp[Dn,aH,Tryz.f119,aqs,<-hp,aqK]
theorem atI(p:Int)(b:Bool)(h1:p=1->b=true)(h2:p=2->b=false):aq P 58 [.i .i64 p,.b b] (.b true):=by
 refine fi (au P) (lf Tryz.func58) ?_;cases b with
 |true=>
  have H:(p==2)=false:=by simpa using λe=>absurd (h2 e) (by decide)
  cases n1:(p==1) with
  |true=>
   repeat' first|apply nI|(refine eI aqU λK E=>?_;simp[n1,H,bne];apply E)
   simp[Dn,aH,Tryz.f58]
  |false=>
   repeat' first|apply nI|(refine eI aqU λK E=>?_;simp[n1,H,bne];apply E)
   simp[Dn,aH,Tryz.f58]
 |false=>
  have n1:(p==1)=false:=by simpa using λe=>absurd (h1 e) (by decide)
  cases H:(p==2) with
  |true=>
   repeat' first|apply nI|(refine eI aqU λK E=>?_;simp[n1,H,bne];apply E)
   simp[Dn,aH,Tryz.f58]
  |false=>
   repeat' first|apply nI|(refine eI aqU λK E=>?_;simp[n1,H,bne];apply E)
   simp[Dn,aH,Tryz.f58]
end
def afD:=@List.map_append
@[simp] abbrev aqq:List Nat:=[0,1,2,3,6,7,8,9,10,11,12,13,14,15,17,18,19,26,38,62,72,99]
def ti(more:List Int)(i:Nat)(t:Tag):Int:=more.getD i 0%10^t.reads.length
def aqw(h:ay)(w:List UInt8)(n:Int)(t:Tag):List UInt8:=dC w h.R (-1) (cj n t.reads.length)
def aq6(h:ay)(s r:List UInt8)(x k:Nat):UInt8:=if r.getD k 0=63 then 63 else aqs h (s.getD k 0) (x.testBit k)
def aql(h:ay)(s r:List UInt8)(x:Nat):List UInt8:=(List.range s.length).map (aq6 h s r x)
def aqj (h : ay) (w : List UInt8) (more : List Int) (i : Nat) (t : Tag) : Tag :=
  { reads := aql h (aqw h w (ti more i t) t) t.reads (more.getD (5 + i) 0).toNat
    low := if t.low <= ti more i t /\ ti more i t <= t.high then t.low else min (ti more i t) t.low
    high := if t.low <= ti more i t /\ ti more i t <= t.high then t.high else max (ti more i t) t.high }
def l7(h:ay)(i:Nat):Tag:=h.tags.getD i ⟨[],0,0⟩
def cv(h:ay)(w:List UInt8)(more:List Int)(k:Nat):List Tag:=(List.range k).map λi=>aqj h w more i (l7 h i)
def D5(h:ay)(more:List Int)(k:Nat):List Int:=(List.range k).map λi=>ti more i (l7 h i)
def arW(c:AV)(ts:List Tag)(lv:Nat->Option aC)(nx:Nat):Prop:=(c=.sq none 0 []/\ts= [])\/∃o,c=.sq (some o) 3 (bI ts)/\lv o=some 51/\o<nx/\ts≠ []
theorem arW.keep{c:AV}{ts:List Tag}{lv LM:Nat->Option aC}{nx p:Nat}(h:arW c ts lv nx)(hl:∀o<nx,lv o=some 51->LM o=some 51)(hn:nx<=p):arW c ts LM p:=by
 rcases h with h|⟨o,h1,h2,H,E⟩
 ·exact .inl h
 ·exact .inr ⟨o,h1,hl o H h2,by omega,E⟩
theorem asG{g:Nat}(hg:g<=5):(10:Int)^g<=100000:=by
 have:g=0\/g=1\/g=2\/g=3\/g=4\/g=5:=by omega
 rcases this with rfl|rfl|rfl|rfl|rfl|rfl <;>decide
theorem ard{more:List Int}{i:Nat}{t:Tag}(hg:t.reads.length<=5):0<=ti more i t/\ti more i t<10^t.reads.length/\ti more i t<=99999:=by
 have hp:(0:Int)<10^t.reads.length:=Int.pow_pos (by decide);have p:=asG hg;have h1:=Int.emod_nonneg (more.getD i 0) (by omega:(10:Int)^t.reads.length≠0);have h2:=Int.emod_lt_of_pos (more.getD i 0) hp;unfold ti;omega
section
variable{P:ap}[l:cL P]
theorem arP(w R:List UInt8)(hw:w.length=10)(p:R.length<=1):∃F:List AV->Option AV,Den P 57 F/\∀(n:Int) (g:Nat),0<=n->n<=99999->g<=5->F [.s w,.s R,.i .i64 n,.i .i64 g]=some (.tu [.s (dC w R (-1) (cj n g)),.b (n/10^g==0)]):=by
 obtain⟨F,h1,h2⟩:=cC (P:=P) (f:=57) (ι:=Int×Nat) (λx=> [.s w,.s R,.i .i64 x.1,.i .i64 x.2]) (λx=>.tu [.s (dC w R (-1) (cj x.1 x.2)),.b (x.1/10^x.2==0)]) (λx=>0<=x.1/\x.1<=99999/\x.2<=5) (λx y _ _ e=>by
  simp only[abg,AV.i.injEq,adM,abQ,Int.natCast_inj] at e;rw[e.1,e.2]) (λx hx=>aor w R x.1 x.2 hw p hx.1 hx.2.1 hx.2.2)
 exact⟨F,h1,λn g a b c=>h2 (n,g) ⟨a,b,c⟩⟩
theorem as2(h:ay)(hv:sH h):∃F:List AV->Option AV,Den P 119 F/\∀(c:UInt8) (b:Bool),F [.ag (o6 h),.i .u8 c.toNat,.b b]=some (.i .u8 (aqs h c b).toNat):=by
 obtain⟨F,h1,h2⟩:=cC (P:=P) (f:=119) (ι:=UInt8×Bool) (λx=> [.ag (o6 h),.i .u8 x.1.toNat,.b x.2]) (λx=>.i .u8 (aqs h x.1 x.2).toNat) (λ_=>True) (λx y _ _ e=>by
  simp only[abg,AV.i.injEq,AV.b.injEq,adM,abQ] at e;rw[UInt8.toNat.inj (by omega:x.1.toNat=y.1.toNat),e.2]) (λx _=>as1 h hv x.1 x.2)
 exact⟨F,h1,λc b=>h2 (c,b) trivial⟩
set_option maxHeartbeats 8000000 in
theorem asv(h:ay)(hc:aO h=0)(w:List UInt8)(hw:w.length=10)(more:List Int)(hmo:ajF more):
  aq P 55 [.ag (o6 h),.s w,ajv more] (.tu [ak_ h (cv h w more h.tags.length),ints (D5 h more h.tags.length)]):=by
 have hs:=dO h hc;have hR:h.R.length<=1:=(checked h hc).1.2.2.2.1;obtain⟨A,ad,hA⟩:=aj8 (P:=P) more hmo;obtain⟨B',bd,hB⟩:=arP (P:=P) w h.R hw hR;obtain⟨C,cd,hC⟩:=as2 (P:=P) h hs.al;simp only[ajv,o6] at hA hC;have kN:=cV h.tags;have Yx:h.tags.length<=5:=(checked h hc).2.2.1;refine fi (ak (aR Tryz.func95) ad (ak (aR Tryz.func57) bd (ak (aR Tryz.func119) cd (ak (aR Tryz.func42) anp (au P))))) (lf Tryz.func55) ?_
 repeat' first|apply nI|(refine eI aqq λK H=>?_;simp[o6,ajv];apply H)
 refine amF (λd T B lv nx=>∃i c τ,i+d=h.tags.length/\T 1=.s w/\T 2=ajv more/\T 3=.sp (o6 h)/\T 6=.bx 1 0/\T 8=.bx 4 0/\T 9=.sq (some τ) 1 ((D5 h more i).map (.i .i64))/\T 10=.i .i64 i/\lv τ=some 3/\τ<nx/\6<=nx/\
  B 1=some (false,[.s [],.s [],.s [],.sq none 0 [],.sq none 0 []])/\B 4=some (false,[.s h.L,.s h.S,.s h.R,.sq none 1 (h.alike.map .s),c])/\arW c (cv h w more i) lv nx) h.tags.length ?_ ?_
 ·exact⟨0,.sq none 0 [],8,by simp,by simp,by simp[ajv],by simp[o6],by simp,by simp,by simp[D5],by simp,by simp,by simp,by simp,by simp,by simp,.inl ⟨rfl,by simp[cv]⟩⟩
 rintro d T B lv nx ⟨i,c,τ,hi,t1,t2,t3,t6,t8,t9,t10,p,hτ,hnx,b1,J,I⟩;by_cases aK:i<h.tags.length
 ·have htg:h.tags[i]?=some h.tags[i]:=aaf aK;have hta:l7 h i=h.tags[i]:=by simp[l7,List.getD,htg]
  have hck:=alh _ (checked h hc).2.2.2 _ (abG aK);have vl:=fA h.tags i h.tags[i] htg;have eu:(i+1)*3<=h.tags.length*3:=by omega
  have w1:=aS ((i:Int)+1);generalize h.tags[i]=t at htg hta hck vl;have hg5:t.reads.length<=5:=by
   have:=hck.1;unfold aM at this;split at this
   ·cases this
   ·omega
  obtain⟨g,hg⟩:∃g,t.reads.length=g:=⟨_,rfl⟩
  repeat' first|apply nI|(refine eI aqq λK H=>?_;simp[t1,t2,t3,t6,t8,t9,t10,b1,J,ajv,o6,aK,kN,vl,eu];apply H)
  refine amF (λd2 T B lv nx=>∃k m i11,k+d2=g/\T 1=.s w/\T 2=ajv more/\T 3=.sp (o6 h)/\T 6=.bx 1 0/\T 8=.bx 4 0/\T 9=.sq (some τ) 1 ((D5 h more i).map (.i .i64))/\T 10=.i .i64 i/\lv τ=some 3/\τ<nx/\6<=nx/\
   B 1=some (false,[.s [],.s [],.s [],.sq none 0 [],.sq none 0 []])/\B 4=some (false,[.s h.L,.s h.S,.s h.R,.sq none 1 (h.alike.map .s),c])/\arW c (cv h w more i) lv nx/\
   T 11=.bx i11 0/\6<=i11/\i11<nx/\B i11=some (false,[.s t.reads,.i .i64 t.low,.i .i64 t.high])/\T 12=.i .i64 m/\m=10^k/\T 13=.i .i64 k) g ?_ ?_
  ·refine⟨0,1,_,by simp,by simp[t1],by simp[t2,ajv],by simp[t3,o6],by simp[t6],by simp[t8],by simp[t9],by simp[t10],?_,?_,?_,?_,?_,?_,by simp;rfl,?_,?_,?_,by simp,by simp,by simp⟩
   all_goals first|exact p|omega|(simp;done)|exact I.keep (λ_ _ h=>h) (by omega)|(rw[aL _ _ _ _ (by omega),aL _ _ _ _ (by omega)];first|exact b1|exact J)
  rintro d2 T B lv nx ⟨k,m,i11,hk,t1,t2,t3,t6,t8,t9,t10,p,hτ,hnx,b1,J,I,t11,hi6,axT,b11,t12,hm,t13⟩;by_cases hkg:k<g
  ·have hp:=asG (show k+1<=5 by omega);have EG:(0:Int)<10^k:=Int.pow_pos (by decide);rw[Int.pow_succ,<-hm] at hp;rw[<-hm] at EG;have w2:=aS ((k:Int)+1);have w3:=aS (10*m)
   repeat' first|apply nI|(refine eI aqq λK H=>?_;simp[t1,t2,t3,t6,t8,t9,t10,t11,t12,t13,b11,ajv,o6,hg,hkg,w2,w3];apply H)
   refine aN (d2-1) ⟨k+1,10*m,i11,by omega,by simp[t1],by simp[t2,ajv],by simp[t3,o6],by simp[t6],by simp[t8],by simp[t9],by simp[t10],p,(by first|omega|(simp;done)|(simp;omega)),(by first|omega|(simp;done)|(simp;omega)),by simp[b1],by simp[J],I.keep (λ_ _ h=>h) (by first|omega|(simp;done)|(simp;omega)),by simp[t11],hi6,(by first|omega|(simp;done)|(simp;omega)),by simp[b11],by simp,by rw[Int.pow_succ,hm,Int.mul_comm],by simp⟩
  have axR:k=g:=by omega
  subst axR;obtain⟨x0,x1⟩:=aj4 hmo i;obtain⟨y0,y1⟩:=aj4 hmo (5+i);have EG:(0:Int)<m:=by rw[hm];exact Int.pow_pos (by decide)
  have Rv:¬m=0:=by omega
  obtain⟨n,hn⟩:∃n,ti more i t=n:=⟨_,rfl⟩
  have axw:(more.getD i 0).tmod m=n:=by rw[ae6 x0,<-hn,hm,<-hg];rfl
  obtain⟨n0,n1,n2⟩:=ard (more:=more) (i:=i) hg5;rw[hn] at n0 n1 n2;have hAi:=hA i;have hBn:=hB n k n0 n2 (by omega);obtain⟨s,iC⟩:∃s,dC w h.R (-1) (cj n k)=s:=⟨_,rfl⟩
  have Yw:s.length=k:=by rw[<-iC,tX,Fx]
  rw[iC] at hBn;obtain⟨X,hX⟩:∃X:Nat,(more.getD (5+i) 0)=X:=⟨(more.getD (5+i) 0).toNat,by omega⟩
  rw[hX] at y1;generalize hz:more.getD i 0=z at *
  repeat' first|apply nI|(refine eI aqq λK H=>?_;simp[t1,t2,t3,t6,t8,t9,t10,t11,t12,t13,b11,ajv,o6,hg,Rv,axw,ab,az,hAi,hBn];apply H)
  refine amF (λd3 T B lv nx=>∃j,j+d3=k/\T 1=.s w/\T 2=ajv more/\T 3=.sp (o6 h)/\T 6=.bx 1 0/\T 8=.bx 4 0/\T 9=.sq (some τ) 1 ((D5 h more i).map (.i .i64))/\T 10=.i .i64 i/\lv τ=some 3/\τ<nx/\6<=nx/\
   B 1=some (false,[.s [],.s [],.s [],.sq none 0 [],.sq none 0 []])/\B 4=some (false,[.s h.L,.s h.S,.s h.R,.sq none 1 (h.alike.map .s),c])/\arW c (cv h w more i) lv nx/\
   T 11=.bx i11 0/\6<=i11/\i11<nx/\B i11=some (false,[.s t.reads,.i .i64 t.low,.i .i64 t.high])/\T 14=.i .i64 n/\T 15=.s s/\T 17=.s ((aql h s t.reads X).take j)/\T 18=.i .i64 j) k ?_ ?_
  ·refine⟨0,by simp,by simp[t1],by simp[t2,ajv],by simp[t3,o6],by simp[t6],by simp[t8],by simp[t9],by simp[t10],p,(by first|omega|(simp;done)|(simp;omega)),(by first|omega|(simp;done)|(simp;omega)),by simp[b1],by simp[J],I.keep (λ_ _ h=>h) (by first|omega|(simp;done)|(simp;omega)),by simp[t11],hi6,(by first|omega|(simp;done)|(simp;omega)),by simp[b11],by simp,by simp,by simp,by simp⟩
  rintro d3 T B lv nx ⟨j,hj,t1,t2,t3,t6,t8,t9,t10,p,hτ,hnx,b1,J,I,t11,hi6,axT,b11,t14,t15,t17,t18⟩;by_cases Hx:j<k
  ·have hjs:j<s.length:=by omega
   have hjr:j<t.reads.length:=by omega
   have gs:s[j]?=some s[j]:=aaf hjs;have gr:t.reads[j]?=some t.reads[j]:=aaf hjr;have w2:=aS ((j:Int)+1);have w5:=aS (5+(i:Int));have hA5:=hA (5+i);rw[show((5+i:Nat):Int)=5+(i:Int) by omega] at hA5;rw[hX] at hA5;have jF:(aql h s t.reads X).take (j+1)=(aql h s t.reads X).take j++ [aq6 h s t.reads X j]:=by
    rw[aaN (by simpa[aql] using hjs)];simp[aql]
   have ED:((aql h s t.reads X).take j).length=j:=by rw[afk];simp[aql];omega
   have N:aq6 h s t.reads X j=if t.reads[j]=63 then 63 else aqs h s[j] (X.testBit j):=by
    unfold aq6;simp[List.getD,gs,gr]
   obtain⟨out,Rs⟩:∃out,(aql h s t.reads X).take j=out:=⟨_,rfl⟩
   rw[Rs] at jF ED t17;generalize V_:t.reads[j]=r0 at gr N;generalize hc0:s[j]=c0 at gs N;have uL:((r0.toNat:Int)==63)=(r0==63):=kn r0 63 (by omega);have n3:¬(9223372036854775807:Int)<(out.length:Int)+1:=by omega
   have hjn:¬(j:Int)<0:=by omega
   cases hb:(r0==63) with
   |true=>
    rw[aay (by simpa using hb)] at N
    repeat' first|apply nI|(refine eI aqq λK H=>?_;simp[t1,t2,t3,t6,t8,t9,t10,t11,t14,t15,t17,t18,b11,ajv,o6,Yw,Hx,gs,gr,V_,hc0,uL,hb,n3,w2];apply H)
    refine aN (d3-1) ⟨j+1,by omega,by simp[t1],by simp[t2,ajv],by simp[t3,o6],by simp[t6],by simp[t8],by simp[t9],by simp[t10],?_,(by first|omega|(simp;done)|(simp;omega)),(by first|omega|(simp;done)|(simp;omega)),by simp[b1],by simp[J],I.keep (λo h1 h2=>?_) (by first|omega|(simp;done)|(simp;omega)),by simp[t11],hi6,(by first|omega|(simp;done)|(simp;omega)),by simp[b11],by simp[t14],by simp[t15],by simp[jF,N],by simp⟩
    all_goals (simp only;repeat rw[aL _ _ _ _ (by omega)])
    all_goals first|exact p|exact h2
   |false=>
    rw[aat (by simpa using hb)] at N;obtain⟨q,hq⟩:∃q,q=X/2^j:=⟨_,rfl⟩
    have hfd:(X:Int).fdiv (2^(min j IntKind.i64.bits))=(q:Int):=by
     have e1:min j IntKind.i64.bits=j:=by
      have ahO:IntKind.i64.bits=64:=rfl;rw[ahO];omega
     have V:(2:Int)^j=((2^j:Nat):Int):=by simp
     rw[e1,V,Int.fdiv_eq_ediv_of_nonneg _ (Int.natCast_nonneg _),hq];simp
    have anW:q<4294967296:=by
     have:q<=X:=by rw[hq];exact Nat.div_le_self _ _
     omega
    have hnd:(IntKind.i64.wrap ((q%2^IntKind.i64.bits&&&1%2^IntKind.i64.bits:Nat):Int)==1)=X.testBit j:=by
     have e1:q%2^IntKind.i64.bits=q:=Nat.mod_eq_of_lt (by show q<2^64;omega);have V:1%2^IntKind.i64.bits=1:=rfl;rw[e1,V,Nat.and_one_is_mod,aS _,Nat.testBit_eq_decide_div_mod_eq,<-hq,adX];simp only[ac6,aan];omega
    have hCj:=hC c0 (X.testBit j);generalize Wx:aqs h c0 (X.testBit j)=lk at *;have fT:lk.toNat<256:=UInt8.toNat_lt lk;have ax8:(lk.toNat:Int)<256:=by omega
    repeat' first|apply nI|(refine eI aqq λK H=>?_;simp[t1,t2,t3,t6,t8,t9,t10,t11,t14,t15,t17,t18,b11,ajv,o6,Yw,Hx,gs,gr,V_,hc0,uL,hb,fT,ax8,n3,w2,w5,hA5,ab,az,hjn,hfd,hnd,hCj];apply H)
    refine aN (d3-1) ⟨j+1,by omega,by simp[t1],by simp[t2,ajv],by simp[t3,o6],by simp[t6],by simp[t8],by simp[t9],by simp[t10],?_,(by first|omega|(simp;done)|(simp;omega)),(by first|omega|(simp;done)|(simp;omega)),by simp[b1],by simp[J],I.keep (λo h1 h2=>?_) (by first|omega|(simp;done)|(simp;omega)),by simp[t11],hi6,(by first|omega|(simp;done)|(simp;omega)),by simp[b11],by simp[t14],by simp[t15],by simp[jF,N],by simp⟩
    all_goals (simp only;repeat rw[aL _ _ _ _ (by omega)])
    all_goals first|exact p|exact h2
  have RE:j=k:=by omega
  subst RE;have ED:(aql h s t.reads X).length=j:=by simp[aql,Yw]
  rw[aa1 (by omega)] at t17;have hrt:aqj h w more i t=⟨aql h s t.reads X,if t.low<=n/\n<=t.high then t.low else min n t.low,if t.low<=n/\n<=t.high then t.high else max n t.high⟩:=by
   unfold aqj aqw;rw[hn,hg,iC,hX];rfl
  have M:cv h w more (i+1)=cv h w more i++ [aqj h w more i t]:=by unfold cv;rw[agG,afD];simp[hta]
  have O:D5 h more (i+1)=D5 h more i++ [n]:=by unfold D5;rw[agG,afD];simp[hta,hn]
  have hTL:(cv h w more i).length=i:=by simp[cv]
  have U:(D5 h more i).length=i:=by simp[D5]
  have cr:cv h w more (i+1)≠ []:=by rw[M];simp
  rw[hrt] at M;generalize aql h s t.reads X=rs at *;have W:(i+1)*9<=70368744177664:=by omega
  have aaG:(i*3+3)*33<=70368744177664:=by omega
  have akV:=cV (cv h w more i);have n5:¬i11=1:=by omega
  have n6:¬i11=4:=by omega
  have n7:¬(1:Nat)=i11:=by omega
  have Z:¬(4:Nat)=i11:=by omega
  have yw:(t.low<=n/\n<=t.high)\/¬t.low<=n\/(t.low<=n/\¬n<=t.high):=by omega
  rcases yw with ⟨Y,q2⟩|Y|⟨Y,q2⟩
  ·rw[aay ⟨Y,q2⟩,aay ⟨Y,q2⟩] at M;have E:bI (cv h w more (i+1))=bI (cv h w more i)++ [.s rs,.i .i64 t.low,.i .i64 t.high]:=by rw[M];simp[bI,fP]
   have m1:¬τ=nx+4+3+9+3:=by omega
   have m2:¬τ=nx+4+3+9+4:=by omega
   have m3:¬τ=nx+4+3+9+7:=by omega
   have m4:τ<nx+4+3+9:=by omega
   have m5:¬nx+4+3+9+4=τ:=by omega
   rcases I with ⟨rfl,vf⟩|⟨o,rfl,V,e3,e4⟩
   ·rw[vf] at E
    repeat' first|apply nI|(refine eI aqq λK H=>?_;simp[t1,t2,t3,t6,t8,t9,t10,t11,t14,t15,t17,t18,b1,J,b11,n5,n6,n7,Z,ajv,o6,Yw,ab,az,dIn,Y,q2,p,m1,m2,m3,m4,U,W,w1];apply H)
    refine aN (d-1) ⟨i+1,_,_,by omega,by simp[t1],by simp[t2,ajv],by simp[t3,o6],by simp[t6],by simp[t8],by simp[O];rfl,by simp,by simp,by simp,(by first|omega|(simp;done)|(simp;omega)),by simp[b1,n5,n7],by simp[J,n6,Z];rfl,.inr ⟨_,(by first|(rw[E];done)|(rw[E];rfl)),by simp[m5],by simp,cr⟩⟩
   ·have k1:¬o=nx+4+3+9+3:=by omega
    have k4:o<nx+4+3+9:=by omega
    have k5:¬τ=o:=λe=>by rw[e,V] at p;cases p
    repeat' first|apply nI|(refine eI aqq λK H=>?_;simp[t1,t2,t3,t6,t8,t9,t10,t11,t14,t15,t17,t18,b1,J,b11,n5,n6,n7,Z,ajv,o6,Yw,ab,az,dIn,Y,q2,p,m1,m2,m3,m4,U,W,w1,V,k1,k4,k5,hTL,akV,aaG];apply H)
    refine aN (d-1) ⟨i+1,_,_,by omega,by simp[t1],by simp[t2,ajv],by simp[t3,o6],by simp[t6],by simp[t8],by simp[O];rfl,by simp,by simp,by simp,(by first|omega|(simp;done)|(simp;omega)),by simp[b1,n5,n7],by simp[J,n6,Z];rfl,.inr ⟨_,(by first|(rw[E];done)|(rw[E];rfl)),by simp[m5],by simp,cr⟩⟩
  ·rw[aat (λe=>Y e.1),aat (λe=>Y e.1)] at M;have E:bI (cv h w more (i+1))=bI (cv h w more i)++ [.s rs,.i .i64 (min n t.low),.i .i64 (max n t.high)]:=by rw[M];simp[bI,fP]
   have m1:¬τ=nx+4+3+9+13+3:=by omega
   have m2:¬τ=nx+4+3+9+13+4:=by omega
   have m3:¬τ=nx+4+3+9+13+7:=by omega
   have m4:τ<nx+4+3+9+13:=by omega
   have m5:¬nx+4+3+9+13+4=τ:=by omega
   rcases I with ⟨rfl,vf⟩|⟨o,rfl,V,e3,e4⟩
   ·rw[vf] at E
    repeat' first|apply nI|(refine eI aqq λK H=>?_;simp[t1,t2,t3,t6,t8,t9,t10,t11,t14,t15,t17,t18,b1,J,b11,n5,n6,n7,Z,ajv,o6,Yw,ab,az,dIn,Y,p,m1,m2,m3,m4,U,W,w1];apply H)
    refine aN (d-1) ⟨i+1,_,_,by omega,by simp[t1],by simp[t2,ajv],by simp[t3,o6],by simp[t6],by simp[t8],by simp[O];rfl,by simp,by simp,by simp,(by first|omega|(simp;done)|(simp;omega)),by simp[b1,n5,n7],by simp[J,n6,Z];rfl,.inr ⟨_,(by first|(rw[E];done)|(rw[E];rfl)),by simp[m5],by simp,cr⟩⟩
   ·have k1:¬o=nx+4+3+9+13+3:=by omega
    have k4:o<nx+4+3+9+13:=by omega
    have k5:¬τ=o:=λe=>by rw[e,V] at p;cases p
    repeat' first|apply nI|(refine eI aqq λK H=>?_;simp[t1,t2,t3,t6,t8,t9,t10,t11,t14,t15,t17,t18,b1,J,b11,n5,n6,n7,Z,ajv,o6,Yw,ab,az,dIn,Y,p,m1,m2,m3,m4,U,W,w1,V,k1,k4,k5,hTL,akV,aaG];apply H)
    refine aN (d-1) ⟨i+1,_,_,by omega,by simp[t1],by simp[t2,ajv],by simp[t3,o6],by simp[t6],by simp[t8],by simp[O];rfl,by simp,by simp,by simp,(by first|omega|(simp;done)|(simp;omega)),by simp[b1,n5,n7],by simp[J,n6,Z];rfl,.inr ⟨_,(by first|(rw[E];done)|(rw[E];rfl)),by simp[m5],by simp,cr⟩⟩
  ·rw[aat (λe=>q2 e.2),aat (λe=>q2 e.2)] at M;have E:bI (cv h w more (i+1))=bI (cv h w more i)++ [.s rs,.i .i64 (min n t.low),.i .i64 (max n t.high)]:=by rw[M];simp[bI,fP]
   have m1:¬τ=nx+4+3+9+13+3:=by omega
   have m2:¬τ=nx+4+3+9+13+4:=by omega
   have m3:¬τ=nx+4+3+9+13+7:=by omega
   have m4:τ<nx+4+3+9+13:=by omega
   have m5:¬nx+4+3+9+13+4=τ:=by omega
   rcases I with ⟨rfl,vf⟩|⟨o,rfl,V,e3,e4⟩
   ·rw[vf] at E
    repeat' first|apply nI|(refine eI aqq λK H=>?_;simp[t1,t2,t3,t6,t8,t9,t10,t11,t14,t15,t17,t18,b1,J,b11,n5,n6,n7,Z,ajv,o6,Yw,ab,az,dIn,Y,q2,p,m1,m2,m3,m4,U,W,w1];apply H)
    refine aN (d-1) ⟨i+1,_,_,by omega,by simp[t1],by simp[t2,ajv],by simp[t3,o6],by simp[t6],by simp[t8],by simp[O];rfl,by simp,by simp,by simp,(by first|omega|(simp;done)|(simp;omega)),by simp[b1,n5,n7],by simp[J,n6,Z];rfl,.inr ⟨_,(by first|(rw[E];done)|(rw[E];rfl)),by simp[m5],by simp,cr⟩⟩
   ·have k1:¬o=nx+4+3+9+13+3:=by omega
    have k4:o<nx+4+3+9+13:=by omega
    have k5:¬τ=o:=λe=>by rw[e,V] at p;cases p
    repeat' first|apply nI|(refine eI aqq λK H=>?_;simp[t1,t2,t3,t6,t8,t9,t10,t11,t14,t15,t17,t18,b1,J,b11,n5,n6,n7,Z,ajv,o6,Yw,ab,az,dIn,Y,q2,p,m1,m2,m3,m4,U,W,w1,V,k1,k4,k5,hTL,akV,aaG];apply H)
    refine aN (d-1) ⟨i+1,_,_,by omega,by simp[t1],by simp[t2,ajv],by simp[t3,o6],by simp[t6],by simp[t8],by simp[O];rfl,by simp,by simp,by simp,(by first|omega|(simp;done)|(simp;omega)),by simp[b1,n5,n7],by simp[J,n6,Z];rfl,.inr ⟨_,(by first|(rw[E];done)|(rw[E];rfl)),by simp[m5],by simp,cr⟩⟩
 ·have N9:i=h.tags.length:=by omega
  subst N9;rcases I with ⟨rfl,vf⟩|⟨o,rfl,V,e3,e4⟩
  ·repeat' first|apply nI|(refine eI aqq λK H=>?_;simp[t1,t2,t3,t6,t8,t9,t10,b1,J,ajv,o6,aK,kN];apply H)
   simp[Dn,dc,aH,Tryz.f55,ak_,alF,vf,ints]
  ·repeat' first|apply nI|(refine eI aqq λK H=>?_;simp[t1,t2,t3,t6,t8,t9,t10,b1,J,ajv,o6,aK,kN];apply H)
   simp[Dn,dc,aH,Tryz.f55,ak_,alF,e4,ints]
end
end Go.Proofs.YtjagmhagphbfcaaGreatDoor
namespace Go.Proofs.YtjagmhagphbfcaaGreatDoor.Mi
open Go renaming Value→aa,World→am,Program→ap,TypeId→aC,Operand→ci
open Go Go.Proofs
def com(f:Nat):Bool:=f==163||f==192||f==193||f==212||f==213
def aqW:List (Nat×Nat):= [(150,131),(151,132),(163,163),(176,162),(192,192),(193,193),(196,183),(197,184),(198,185),(199,186),(200,187),(201,188),(202,189),(203,190),(204,191),(212,212),(213,213),(225,211),(226,214),(227,215),(228,175),(236,231)]
def dom(f:Nat):Bool:=aqW.any λx=>x.1==f
def mf(f:Nat):Nat:=match aqW.find? λx=>x.1==f with|some x=>x.2|none=>f
def mt(f:Nat)(t:aC):aC:=bif com f then t else if t=5 then 3 else if t=91 then 28 else t
def aqH:Nat->Nat×Nat×Nat×List Nat
 |150=>(0,0x29,0,[1])
 |151=>(0x4084001080000,0x1b4aa4a854950a55,0,[1])
 |176=>(0x1100000000000000000000,0x80200000810a90200008081041000001,0,[1,0,0,0])
 |196=>(0x440010800000,0x1aa4a09500001,0,[1,0,0])
 |197=>(0x1100000000000,0xea88a00400001,0,[1,0,0])
 |198=>(0x4400000000000000,0x1aa22800000000001,0x80,[1,0,0])
 |199=>(0,0x124800000001,0x200,[1,0,0])
 |200=>(0x2200000,0xd554001,0,[1,0,0])
 |201=>(0x440042000110010800088000021000000,0x1aa4a254006a9289500354940012a00001,0,[1,0,0])
 |202=>(0x6123,0,0,[2,2])
 |203=>(0x11000220011000440000,0x6aaa015400aa01aaa801,0,[1,0,0,0])
 |204=>(0x110004400044004400110022000220022000880000,0x6aaa1aaa802a802a806aaad5540154015403555001,0,[1,0,0,0])
 |213=>(0,0,0xe371b8d9,[3])
 |225=>(0x1040004100408000000,0x68a2222288214400001,0,[1,0,0,0])
 |226=>(0,0x81,0x2004,[1,0,3])
 |227=>(0,0x10101001,0x80808010,[1,0,0,0,3])
 |228=>(0x19,0,0,[2])
 |236=>(0x22000,0x15401,0x980008,[1,0,0,3])
 |_=>(0,0,0,[0])
def many:Nat->Nat
 |176=>0x8400000000000440000000000
 |227=>0x109090800
 |_=>0
def rc(f:Nat):Nat:=bif f==199||f==204||f==236 then 4 else bif f==151 then 1 else 0
def cl(f t:Nat):Nat:=bif (many f).testBit t then 4 else bif (aqH f).1.testBit t then 2 else bif (aqH f).2.1.testBit t then 1 else bif (aqH f).2.2.1.testBit t then 3 else 0
def aw_(f:Nat):Callee->Callee
 | .value (.func g)=>.value (.func (mf g))
 |c=>c
def mop(f:Nat):Op->Op
 | .binOp op t x y t'=>.binOp op (mt f t) x y (mt f t')
 | .indexAddr t x i=>.indexAddr (mt f t) x i
 | .load t a=>.load (mt f t) a
 | .store t a x=>.store (mt f t) a x
 | .slice t x E hi p=>.slice (mt f t) x E hi p
 | .call c=>.call { c with callee:=aw_ f c.callee,argTypes:=c.argTypes.map (mt f) }
 |o=>o
def qd(f:Nat)(o:Oper):Oper:= { o with op:=mop f o.op,type:=mt f o.type }
def xd(f:Nat):Code->Code
 | .region id ops d=>.region id (ops.map (qd f)) d
 | .seq a b=>.seq (xd f a) (xd f b)
 | .cond c a b=>.cond c (xd f a) (xd f b)
 | .block i b=>.block i (xd f b)
 | .loop b=>.loop (xd f b)
 | .scope b=>.scope (xd f b)
 |c=>c
def rl(f:Nat):Item->Item
 | .code c=>.code (xd f c)
 | .inLoop c=>.inLoop (xd f c)
 | .inScope c=>.inScope (xd f c)
 | .inRegion ops l=>.inRegion (ops.map (qd f)) l
 |i=>i
def ity(t:aC):Bool:=t==3||t==189||t==206||t==214||t==216||t==230
def at3:aa->Bool
 | .int _ _| .bool _=>true
 |_=>false
def opc(f c:Nat):ci->Bool
 | .tmp t=>cl f t==c
 | .const (.slice none _ _)=>c==1
 | .const v=>c==0&&at3 v
 |_=>false
def dcl(f c:Nat)(o:Oper):Bool:=match o.dst with|some d=>cl f d==c|none=>true
def arp(f:Nat):List ci->List Nat->Bool
 | [],[]=>true
 |x::xs,c::cs=>opc f c x&&arp f xs cs
 |_,_=>false
def aqo(f:Nat)(o:Oper):Bool:=match o.op with
 | .move x| .assign x=>(opc f 4 x&&dcl f 4 o)||(opc f 0 x&&dcl f 0 o)||(opc f 1 x&&dcl f 1 o)||(opc f 2 x&&dcl f 2 o)||(opc f 3 x&&dcl f 3 o)
 | .pick c a b=>opc f 0 c&&opc f 0 a&&opc f 0 b&&dcl f 0 o
 | .unOp .not _ x=>opc f 0 x&&dcl f 0 o
 | .extract x _=>opc f 4 x&&dcl f 0 o
 | .convert s d x=>(ity s||com f&&s==5)&&(ity d||com f&&d==5)&&opc f 0 x&&dcl f 0 o
 | .nilCheck x=>opc f 3 x&&dcl f 3 o
 | .index t (.const (.string _)) ix=>t==9&&opc f 0 ix&&dcl f 0 o
 | .binOp op t x y t'=>if !com f&&t==5 then opc f 2 x&&opc f 2 y&&dcl f 0 o&&(op==.lss||op==.eql||op==.neq) else ity t&&opc f 0 x&&opc f 0 y&&dcl f 0 o&&mt f t==t&&mt f t'==t'
 | .alloc t=>(t==3||t==230)&&dcl f 3 o
 | .load t a=>if !com f&&t==5 then opc f 1 a&&dcl f 2 o else(t==3||t==230)&&opc f 3 a&&dcl f 0 o
 | .store t a x=>o.dst.isNone&&(if !com f&&t==5 then opc f 1 a&&opc f 2 x else(t==3||t==230)&&opc f 3 a&&opc f 0 x)
 | .indexAddr t x ix=> !com f&&t==91&&opc f 1 x&&opc f 0 ix&&dcl f 1 o
 | .slice t x p hi none=> !com f&&t==91&&opc f 1 x&&p.all (opc f 0)&&hi.all (opc f 0)&&dcl f 1 o
 | .call { callee:=.builtin .len,args,argTypes } => !com f&&argTypes.toList== [91]&&arp f args.toList [1]&&dcl f 0 o
 | .call { callee:=.builtin .clear,args,argTypes } => !com f&&argTypes.toList== [91]&&arp f args.toList [1]&&o.dst.isNone
 | .call { callee:=.value (.func g),args,.. } =>dom g&&g !=151&&arp f args.toList (aqH g).2.2.2&&dcl f (rc g) o
 |_=>false
def gdk(f:Nat)(ops:Array Oper)(o:Oper):Bool:=match o.guard with
 |some (j,_)=>match(ops[j]?).bind (·.dst) with|some d=>cl f d==0|none=>true
 |none=>true
def arv(f:Nat)(ops:Array Oper):Bool:=ops.all λo=>aqo f o&&gdk f ops o
def mck(f:Nat):Code->Bool
 | .region _ ops _=>arv f ops
 | .seq a b=>mck f a&&mck f b
 | .cond c a b=>opc f 0 c&&mck f a&&mck f b
 | .block _ b| .loop b| .scope b=>mck f b
 | .exit _| .skip| .ret=>true
 |_=>false
def mik(f:Nat):Item->Bool
 | .code c| .inLoop c| .inScope c=>mck f c
 | .inBlock _=>true
 | .inRegion ops _=>arv f ops
 |_=>false
def at0(f:Nat)(rs:List ResultVar):Bool:=(rs.all λr=>match r with| .tmp t=>cl f t==(bif f==151 then 1 else 0)|_=>false)&&(match rs with| []| [_]=>rc f !=4|_=>rc f==4)
def ato(P:ap)(f:Nat):Bool:=match P.funcs[f]?,P.funcs[mf f]? with
 |some a,some b=>match a.body,b.body with
  |some c,some _=>mck f c&&at0 f a.results.toList&&a.ntmps==b.ntmps&&Nat.ble (aqH f).2.2.2.length a.ntmps
  |_,_=>false
 |_,_=>false
theorem atl:(aqW.all λx=>ato Tryz.prog x.1)=true:=by kernel_rfl
def Pl:aa->Prop
 | .int _ _| .bool _=>True
 | .tuple xs=>xs= #[]
 |_=>False
def VM(b n0:Nat):Nat->aa->aa->Prop
 |0,x,y=>y=x/\Pl x
 |1,x,y=>y=x/\(x=undef\/(∃n m,x=.slice none n m)\/(∃o n m,x=.slice (some ⟨b,o,none⟩) n m)\/∃o,x=.pointer (some ⟨b,o,none⟩))
 |2,x,y=>y=undef\/∃n:Nat,n<256/\x=.int .u8 n/\y=.int .i64 n
 |4,x,y=>y=x/\∃xs,x=.tuple xs/\∀z∈xs,Pl z
 |_,x,y=>y=x/\(x=undef\/∃c,n0<=c/\x=.pointer (some ⟨c,0,none⟩))
theorem VM.und(b n0 c:Nat):VM b n0 c undef undef:=by
 unfold VM;split
 ·exact⟨rfl,rfl⟩
 ·simp_all
 ·grind
 ·exact⟨rfl,_,rfl,λz hz=>by grind⟩
 simp_all
structure MW(b N:Nat)(e e':aC)(fr:Nat×Nat)(w0 wa wb:am):Prop where
 size:wb.heap.size=wa.heap.size
 n0:w0.heap.size<=wa.heap.size
 low:b<w0.heap.size
 new:∀c,w0.heap.size<=c->wb.heap[c]?=wa.heap[c]?
 cells:∀c o,w0.heap.size<=c->wa.heap[c]?=some o->∃xs e,o=.cells xs e (0,0)/\∀x∈xs,Pl x
 row:∃xs ys,wa.heap[b]?=some (.cells xs e fr)/\wb.heap[b]?=some (.cells ys e' fr)/\xs.size=N/\ys.size=N/\∀(i:Nat) (x y:aa),xs[i]?=some x->ys[i]?=some y->VM b w0.heap.size 2 x y
 mo:∀c,c<w0.heap.size->c≠b->wa.heap[c]?=w0.heap[c]?
 os:wa.os=w0.os
 out:wa.output=w0.output
 tape:wa.tape=w0.tape
 drawn:wb.drawn=wa.drawn
 tp:∀n f id,dom f=true->wb.tape n (.order (mf f) id)=w0.tape n (.order f id)
inductive NM(b n0 f:Nat)(o:Oper):Next->Next->Prop
 |value (x y:aa) (h:∀d,o.dst=some d->VM b n0 (cl f d) x y):NM b n0 f o (.value x) (.value y)
 |skip (h:o.dst=none):NM b n0 f o .skip .skip
 |enter (g:Nat) (xs ys:Array aa) (hg:dom g=true) (h1:g≠151) (hs:ys.size=xs.size) (hl:xs.size=(aqH g).2.2.2.length) (h:∀(i c:Nat) (x y:aa),(aqH g).2.2.2[i]?=some c->xs[i]?=some x->ys[i]?=some y->VM b n0 c x y) (hd:∀d,o.dst=some d->cl f d=rc g):NM b n0 f o (.enter g xs) (.enter (mf g) ys)
section
variable{P:ap}[l:cL P]{b N f:Nat}{e e':aC}{fr:Nat×Nat}{w0 wa wb wb1:am}{ea eb:ci->aa}{o:Oper}{nb:Next}
def EM(b n0 f:Nat)(ea eb:ci->aa):Prop:=∀c x,opc f c x=true->VM b n0 c (ea x) (eb x)
theorem atM{f c:Nat}{o:Oper}(h:dcl f c o=true):∀d,o.dst=some d->cl f d=c:=by
 grind [dcl]
theorem aqJ{x y:aa}{c:Nat}{n0:Nat}(hd:dcl f c o=true)(h:VM b n0 c x y):NM b n0 f o (.value x) (.value y):=.value x y λd e=>by grind [atM]
def Pur(s:Sem aa):Prop:=∀(v v':am) z v1,s.run P v=.ok z v1->v1=v/\s.run P v'=.ok z v'/\Pl z
theorem Pur.pure{x:aa}(h:Pl x):Pur (P:=P) (Pure.pure x):=by
 intro v v' z v1 e
 simp_all
theorem Pur.stuck(s:String):Pur (P:=P) (Go.stuck s):=by
 intro v v' z v1 e
 simp_all
theorem asV{s:Sem aa}(h:∀v z v1,s.run P v≠.ok z v1):Pur (P:=P) s:=λv v' z v1 e=>absurd e (h v z v1)
theorem ar0(op k x y):Pur (P:=P) (Op.intArith op k x y):=by
 unfold Op.intArith;split <;>first|exact .pure trivial|exact .stuck _
theorem asa(op k x y):Pur (P:=P) (Op.intBits op k x y):=by
 unfold Op.intBits;simp only;split <;>first|exact .pure trivial|exact .stuck _
theorem asy(op x y):Pur (P:=P) (Op.intCmp op x y):=by
 unfold Op.intCmp;split <;>first|exact .pure trivial|exact .stuck _
theorem are{s:Sem aa}(h:bC P s):Pur (P:=P) s:=λv v' z v1 e=>by
 obtain⟨x,v2,h1,_⟩:=h v
 simp_all
theorem asx(op k x y):Pur (P:=P) (Op.intDiv op k x y):=by
 unfold Op.intDiv;split
 ·exact are (aT _)
 ·split <;>first|exact .pure trivial|exact .stuck _
theorem asT(op k x j y):Pur (P:=P) (Op.shift op k x j y):=by
 unfold Op.shift;split
 ·exact are (aT _)
 ·simp only;split <;>first|exact .pure trivial|exact .stuck _
theorem aqM{t:aC}(h:ity t=true):∃k,P.underlying t=some (.int k):=by
 simp only[ity,adr,ac6] at h;rw[aX];rcases h with ((((h|h)|h)|h)|h)|h <;>subst h
 ·simp_all
 ·simp_all
 ·simp_all
 ·simp_all
 ·simp_all
 simp_all
theorem bT{t:aC}{d:TypeDesc}(h:P.underlying t=some d)(w:am):(underlying t).run P w=.ok d w:=by
 unfold underlying
 simp_all
theorem asW {op : BinOp} {t : aC} (ht : ity t = true) {x y : aa} (hx : Pl x) (hy : Pl y) : Pur (P := P) (binOp op t x y) := by
  obtain ⟨k, hk⟩ := aqM (P := P) ht
  have heq : ∀ x y : aa, Pl x -> Pl y -> (∀ k a k' b, x = .int k a -> y = .int k' b -> False) -> ∀ v z v1, (Op.equal t x y).run P v ≠ .ok z v1 := by
    intro x y hx hy hn v z v1 e
    unfold Op.equal Op.maxDepth Op.equalIn at e
    simp only [aaw, bT hk, aas] at e
    cases x <;> cases y <;> first | (exact hx.elim) | (exact hy.elim) | (simp only [run_stuck] at e; cases e) | grind | skip
  cases x <;> first | exact hx.elim | skip
  all_goals cases y <;> first | exact hy.elim | skip
  all_goals unfold binOp
  all_goals cases op <;> simp only []
  all_goals first
    | exact asT _ _ _ _ _
    | exact .stuck _
    | (split <;> first | exact .stuck _ | exact ar0 _ _ _ _ | exact asx _ _ _ _ | exact asa _ _ _ _ | exact asy _ _ _)
    | (refine asV fun v z v1 e => ?_
       simp only [aaw] at e
       generalize hr : (Op.equal t _ _).run P v = r at e
       cases r with
       | ok z v2 => exact heq _ _ hx hy (by intro _ _ _ _ h1 h2; first | (cases h1; done) | (cases h2; done)) _ _ _ hr
       | halt => cases e)
theorem at2{x:aa}(hx:Pl x):Pur (P:=P) (Op.unary .not x):=by
 cases x <;>first|exact hx.elim|exact .pure trivial|exact .stuck _
theorem asb{xs:Array aa}(hx:∀z∈xs,Pl z)(i:Nat):Pur (P:=P) (Instr.extract (.tuple xs) i):=by
 have e:Instr.extract (.tuple xs) i=match xs[i]? with|some v=>Pure.pure v|none=>Go.stuck "Extract: no such component" :=rfl
 rw[e];cases h:xs[i]? with
 |none=>exact .stuck _
 |some v=>exact .pure (hx v (aew h))
theorem asU{s:ByteArray}{x:aa}(hx:Pl x):Pur (P:=P) (Instr.index 9 (.string s) x):=by
 have h9:P.underlying 9=some .string:=by simp_all [aX]
 cases x with
 |int k n=>
  intro v v' z v1 e;simp only[Instr.index,asIntOf,aaw,aaS,aas,bT h9] at e ⊢;split at e
  ·rename_i c hc;cases e;exact⟨rfl,rfl,trivial⟩
  ·obtain⟨y,v2,h1,_⟩:=dT (P:=P) (α:=aa) k n s.size .index v
   simp_all
 |bool|tuple=>
  intro v v' z v1 e
  simp_all [Instr.index,asIntOf]
 |_=>exact hx.elim
theorem asc{s d:aC}(hs:∃k,P.underlying s=some (.int k))(hd:∃k,P.underlying d=some (.int k)){x:aa}(hx:Pl x):Pur (P:=P) (convert s d x):=by
 obtain⟨p,hs⟩:=hs;obtain⟨kd,hd⟩:=hd;cases x with
 |int k n=>
  intro v v' z v1 e;simp only[convert,aaw,aas,bT hs,bT hd] at e ⊢;cases e;exact⟨rfl,rfl,trivial⟩
 |bool|tuple=>
  intro v v' z v1 e
  simp_all [bT,convert]
 |_=>exact hx.elim
theorem aqz{t:aC}{k:IntKind}(h:P.underlying t=some (.int k))(a:Addr)(w:am):(loadVar t a).run P w=(load a).run P w:=by
 simp_all [bT,loadVar,isAgg]
theorem ase{a:Addr}{w w1:am}{z:aa}{xs:Array aa}{e:aC}{fr:Nat×Nat}(hb:w.heap[a.block]?=some (.cells xs e fr))(ha:a.spot=none)(h:(load a).run P w=.ok z w1):w1=w/\xs[a.off]?=some z:=by
 grind [Go.run_load,World.cell?,World.farLoad]
theorem asf{a:Addr}{w:am}{z:aa}{xs:Array aa}{e:aC}{fr:Nat×Nat}(hb:w.heap[a.block]?=some (.cells xs e fr))(ha:a.spot=none)(h:xs[a.off]?=some z):(load a).run P w=.ok z w:=by
 grind [Go.run_load,World.cell?]
theorem aq0{a:Addr}{w w1:am}{z:aa}{u:Unit}{xs:Array aa}{e:aC}{fr:Nat×Nat}(hb:w.heap[a.block]?=some (.cells xs e fr))(ha:a.spot=none)(h:(store a z).run P w=.ok u w1):z.oneCell'=true/\a.off<xs.size/\w.frozen? a=false/\w1=w.setCell a z:=by
 have hz:z.oneCell'=true:=by
  cases z <;>first|rfl|grind [store,Sem.run]
 grind [run_store,World.cell?,World.farStore]
theorem arn{a:Addr}{w:am}{z:aa}{xs:Array aa}{e:aC}{fr:Nat×Nat}(hb:w.heap[a.block]?=some (.cells xs e fr))(ha:a.spot=none)(hz:z.oneCell'=true)(h:a.off<xs.size)(hf:w.frozen? a=false):(store a z).run P w=.ok () (w.setCell a z):=by
 grind [run_store,World.cell?]
theorem aqP{a:Addr}{w:am}{xs:Array aa}{e:aC}{fr:Nat×Nat}(hb:w.heap[a.block]?=some (.cells xs e fr)):w.frozen? a=(decide (fr.1<=a.off)&&decide (a.off<fr.2)):=by
 grind [World.frozen?]
theorem aqr{t:aC}(hs:∀w,(sizeOf t).run P w=.ok 1 w){z:aa}(hz:∀xs,z≠.agg xs)(a:Addr)(w:am):(storeVar t a z).run P w=(store a z).run P w:=by
 have hc:z.cells= #[z]:=by cases z <;>first|rfl|simp_all
 unfold storeVar;rw[hc];simp only[aaw,hs,aas];rfl
theorem arc{w:am}{a:Addr}{z:aa}{xs:Array aa}{e:aC}{fr:Nat×Nat}(hb:w.heap[a.block]?=some (.cells xs e fr))(ha:a.spot=none)(c:Nat):(w.setCell a z).heap[c]?=if c=a.block then some (.cells (xs.setIfInBounds a.off z) e fr) else w.heap[c]?:=by
 unfold World.setCell
 grind
theorem MW.set(hW:MW b N e e' fr w0 wa wb){o:Nat}{x y:aa}(h:VM b w0.heap.size 2 x y):MW b N e e' fr w0 (wa.setCell ⟨b,o,none⟩ x) (wb.setCell ⟨b,o,none⟩ y):=by
 obtain⟨xs,ys,h1,h2,I,H,E⟩:=hW.row;have ga:=λc=>arc (w:=wa) (a:=⟨b,o,none⟩) (z:=x) h1 rfl c
 have gb:=λc=>arc (w:=wb) (a:=⟨b,o,none⟩) (z:=y) h2 rfl c
 refine⟨by simpa[World.setCell] using hW.size,by simpa[World.setCell] using hW.n0,hW.low,λc hc=>?_,λc o' hc ho=>?_,⟨xs.setIfInBounds o x,ys.setIfInBounds o y,by simp_all,by simp_all,by grind,by grind,λi u v hu hv=>?_⟩,λc hc p=>?_,hW.os,hW.out,hW.tape,hW.drawn,hW.tp⟩
 ·have:=hW.low;rw[ga,gb,aat (by grind),aat (by grind)];exact hW.new c hc
 ·have:=hW.low;rw[ga,aat (by grind)] at ho;exact hW.cells c o' hc ho
 ·grind
 ·rw[ga,aat p];exact hW.mo c hc p
theorem MW.put(hW:MW b N e e' fr w0 wa wb){c o:Nat}(hc:w0.heap.size<=c){x:aa}(h:Pl x){xs:Array aa}{t:aC}(hx:wa.heap[c]?=some (.cells xs t (0,0))):MW b N e e' fr w0 (wa.setCell ⟨c,o,none⟩ x) (wb.setCell ⟨c,o,none⟩ x):=by
 have hy:wb.heap[c]?=some (.cells xs t (0,0)):=(hW.new c hc).trans hx;have ga:=λd=>arc (w:=wa) (a:=⟨c,o,none⟩) (z:=x) hx rfl d
 have gb:=λd=>arc (w:=wb) (a:=⟨c,o,none⟩) (z:=x) hy rfl d
 have hl:=hW.low;have L:b≠c:=by omega
 obtain⟨ps,qs,h1,h2,H,E,p⟩:=hW.row;refine⟨by simpa[World.setCell] using hW.size,by grind,hW.low,λd hd=>?_,λd o' hd ho=>?_,⟨ps,qs,by simp_all,by simp_all,H,E,p⟩,λd hd I=>?_,hW.os,hW.out,hW.tape,hW.drawn,hW.tp⟩
 ·rw[ga,gb];by_cases h:d=c
  ·simp[h]
  ·rw[aat h,aat h];exact hW.new d hd
 ·rw[ga] at ho;split at ho
  ·cases ho;obtain⟨M,t',J,hp⟩:=hW.cells c _ hc hx
   grind
  ·exact hW.cells d o' hd ho
 ·rw[ga,aat (show ¬d=c by omega)];exact hW.mo d hd I
theorem MW.push(hW:MW b N e e' fr w0 wa wb){xs:Array aa}{t:aC}(h:∀x∈xs,Pl x):MW b N e e' fr w0 { wa with heap:=wa.heap.push (.cells xs t (0,0)) } { wb with heap:=wb.heap.push (.cells xs t (0,0)) } :=by
 have hl:=hW.low;have hn:=hW.n0;have hs:=hW.size;obtain⟨ps,qs,h1,h2,I,H,E⟩:=hW.row;have hb:=(aah.1 h1).1;have p:=(aah.1 h2).1;refine⟨by grind,by grind,hl,λc hc=>?_,λc o hc ho=>?_,⟨ps,qs,by grind,by grind,I,H,E⟩,λc hc J=>?_,hW.os,hW.out,hW.tape,hW.drawn,hW.tp⟩
 ·simp only[abP,hs];split
  ·rfl
  ·exact hW.new c hc
 ·simp only[abP] at ho;split at ho
  ·grind
  ·exact hW.cells c o hc ho
 ·simp only[abP];rw[aat (by omega)];exact hW.mo c hc J
def JI(P:ap)(b N f:Nat)(e e':aC)(fr:Nat×Nat)(w0 wa wb1:am)(ea:ci->aa)(o:Oper)(nb:Next):Prop:=
 ∃na wa1,(execOp ea o).run P wa=.ok na wa1/\MW b N e e' fr w0 wa1 wb1/\NM b w0.heap.size f o na nb
theorem aqE{s:Sem aa}{w w1:am}{n:Next}(h:(do Pure.pure (Next.value (<-s)):Sem Next).run P w=.ok n w1):∃z,s.run P w=.ok z w1/\n=.value z:=by
 simp only[aaw] at h;cases hr:s.run P w with
 |ok z w2=>simp_all
 |halt=>simp_all
theorem aqV{s:Sem aa}{w w1:am}{z:aa}(h:s.run P w=.ok z w1):(do Pure.pure (Next.value (<-s)):Sem Next).run P w=.ok (.value z) w1:=by
 simp_all
theorem arE(hW:MW b N e e' fr w0 wa wb){s:Sem aa}(hp:Pur (P:=P) s)(hd:dcl f 0 o=true)(ha:execOp ea o=(do Pure.pure (Next.value (<-s)):Sem Next))(hr:(do Pure.pure (Next.value (<-s)):Sem Next).run P wb=.ok nb wb1):JI P b N f e e' fr w0 wa wb1 ea o nb:=by
 obtain⟨z,h1,rfl⟩:=aqE hr;obtain⟨rfl,h2,p⟩:=hp wb wa z wb1 h1;exact⟨_,_,by simp_all,hW,aqJ hd ⟨rfl,p⟩⟩
theorem asH{x:ci}(p:EM b w0.heap.size f ea eb)(h:((opc f 4 x&&dcl f 4 o)||(opc f 0 x&&dcl f 0 o)||(opc f 1 x&&dcl f 1 o)||(opc f 2 x&&dcl f 2 o)||(opc f 3 x&&dcl f 3 o))=true):NM b w0.heap.size f o (.value (ea x)) (.value (eb x)):=by
 simp only[adr,aaZ] at h;rcases h with (((⟨h1,h2⟩|⟨h1,h2⟩)|⟨h1,h2⟩)|⟨h1,h2⟩)|⟨h1,h2⟩ <;>exact aqJ h2 (p _ _ h1)
theorem un3:P.underlying 3=some (.int .i64):=by simp_all [aX]
theorem un5:P.underlying 5=some (.int .u8):=by simp_all [aX]
theorem auj:P.underlying 230=some (.int .u64):=by simp_all [aX]
theorem aqB:P.underlying 28=some (.slice 3):=by simp_all [aX]
theorem asq:P.underlying 91=some (.slice 5):=by simp_all [aX]
theorem ew{t:aC}{n:Nat}(h:(P.info? t).map (·.size)=some n)(w:am):(sizeOf t).run P w=.ok n w:=by
 unfold sizeOf typeInfo;have hq:program.run P w=.ok P w:=rfl;cases hi:P.info? t with
 |none=>simp_all
 |some i=>
  simp_all
theorem si3(w:am):(sizeOf 3).run P w=.ok 1 w:=ew (by rw[pG];kernel_rfl) w
theorem si5(w:am):(sizeOf 5).run P w=.ok 1 w:=ew (by rw[pG];kernel_rfl) w
theorem aul(w:am):(sizeOf 230).run P w=.ok 1 w:=ew (by rw[pG];kernel_rfl) w
theorem MW.local(hW:MW b N e e' fr w0 wa wb){c:Nat}(hc:w0.heap.size<=c){Q:Prop}(hn:wb.heap[c]?=none->Q)(hs:∀xs t,wa.heap[c]?=some (.cells xs t (0,0))->wb.heap[c]?=some (.cells xs t (0,0))->(∀x∈xs,Pl x)->Q):Q:=by
 have h:=hW.new c hc;cases hx:wa.heap[c]? with
 |none=>simp_all
 |some o=>
  obtain⟨xs,t,rfl,hp⟩:=hW.cells c o hc hx
  simp_all
theorem as0{a:Addr}{w w1:am}{z:aa}(hb:w.heap[a.block]?=none)(h:(load a).run P w=.ok z w1):False:=by
 grind [Go.run_load,World.cell?,World.farLoad]
theorem asr{a:Addr}{w w1:am}{z:aa}{u:Unit}(hb:w.heap[a.block]?=none)(h:(store a z).run P w=.ok u w1):False:=by
 have hz:z.oneCell'=true:=by
  cases z <;>first|rfl|grind [store,Sem.run]
 grind [run_store,World.cell?,World.farStore]
theorem ar2{s:Sem Unit}{w w1:am}{n:Next}(h:(do s;Pure.pure Next.skip:Sem Next).run P w=.ok n w1):s.run P w=.ok () w1/\n=.skip:=by
 simp only[aaw] at h;cases hr:s.run P w with
 |ok z w2=>simp_all
 |halt=>simp_all
theorem ar3{s:Sem Unit}{w w1:am}(h:s.run P w=.ok () w1):(do s;Pure.pure Next.skip:Sem Next).run P w=.ok .skip w1:=by
 simp_all
theorem ara{α:Type}{x:aa}{s:Addr->Sem α}{w w1:am}{z:α}(h:(do s (<-Instr.sureAddr x):Sem α).run P w=.ok z w1):∃a,x=.pointer (some a)/\(s a).run P w=.ok z w1:=by
 cases x with
 |pointer a=>
  cases a with
  |some a=>exact⟨a,rfl,h⟩
  |none=>simp_all [Instr.sureAddr]
 |_=>simp only[Instr.sureAddr,aaw,run_stuck] at h;cases h
theorem at4{t:aC}{a:ci}(hW:MW b N e e' fr w0 wa wb)(M:EM b w0.heap.size f ea eb)(ho:o.op=.load t a)
  (hk:aqo f o=true) (hr:(execOp eb (qd f o)).run P wb=.ok nb wb1):JI P b N f e e' fr w0 wa wb1 ea o nb:=by
 obtain⟨d,op,ty,p,af,gd⟩:=o;simp only at ho;subst ho;unfold aqo at hk;simp only at hk;split at hk
 ·rename_i I;simp only[aaZ,Bool.not_eq_true',ac6] at I hk;obtain⟨I,rfl⟩:=I;have hm:mt f 5=3:=by grind [mt]
  obtain⟨z,h1,rfl⟩:=aqE (P:=P) (s:=Instr.loadAt (mt f 5) (eb a)) hr;rw[hm] at h1;obtain⟨Y,h2,H⟩:=ara h1;rw[aqz un3] at H;have hp:=M 1 a hk.1;obtain⟨L,hp⟩:=hp;have E:∃o,ea a=.pointer (some ⟨b,o,none⟩):=by
   rw[L] at h2;rcases hp with hp|⟨n,m,hp⟩|⟨o,n,m,hp⟩|⟨o,hp⟩ <;>rw[hp] at h2 <;>first|exact⟨o,hp⟩|cases h2
  obtain⟨of,E⟩:=E;rw[L,E] at h2;cases h2;obtain⟨xs,ys,r1,V,r3,r4,U⟩:=hW.row;obtain⟨rfl,J⟩:=ase (a:=⟨b,of,none⟩) V rfl H;have hi:of<xs.size:=by grind
  have W:=asf (P:=P) (a:=⟨b,of,none⟩) r1 rfl (aa_ hi);refine⟨.value xs[of],wa,?_,hW,aqJ hk.2 (U of _ _ (aa_ hi) J)⟩;refine aqV (s:=Instr.loadAt 5 (ea a)) ?_;rw[E];show(loadVar 5 ⟨b,of,none⟩).run P wa=_
  simp_all [aqz,un5]
 ·rename_i I;simp only[aaZ,adr,ac6] at hk;obtain⟨⟨ht,Z⟩,hk2⟩:=hk;have hm:mt f t=t:=by
   unfold mt
   grind
  obtain⟨z,h1,rfl⟩:=aqE (P:=P) (s:=Instr.loadAt (mt f t) (eb a)) hr;rw[hm] at h1;obtain⟨Y,h2,H⟩:=ara h1;have hu:∃k,P.underlying t=some (.int k):=by rcases ht with rfl|rfl;exact⟨_,un3⟩;exact⟨_,auj⟩
  obtain⟨k,hu⟩:=hu;rw[aqz hu] at H;obtain⟨L,hp⟩:=M 3 a Z;rw[L] at h2;rcases hp with hp|⟨c,hc,hp⟩
  ·rw[hp] at h2;cases h2
  ·rw[hp] at h2;cases h2;refine hW.local hc (λhn=>(as0 (a:=⟨c,0,none⟩) hn H).elim) λxs t' ha hb O=>?_
   obtain⟨rfl,J⟩:=ase (a:=⟨c,0,none⟩) hb rfl H;have W:=asf (P:=P) (a:=⟨c,0,none⟩) ha rfl J;refine⟨.value z,wa,?_,hW,aqJ hk2 ⟨rfl,O z (aew J)⟩⟩;refine aqV (s:=Instr.loadAt t (ea a)) ?_;rw[hp];show(loadVar t ⟨c,0,none⟩).run P wa=_
   grind [aqz]
theorem M3{t:aC}{a x:ci}(hW:MW b N e e' fr w0 wa wb)(I:EM b w0.heap.size f ea eb)(ho:o.op=.store t a x)
  (hk:aqo f o=true) (hr:(execOp eb (qd f o)).run P wb=.ok nb wb1):JI P b N f e e' fr w0 wa wb1 ea o nb:=by
 obtain⟨d,op,ty,p,af,gd⟩:=o;simp only at ho;subst ho;unfold aqo at hk;simp only[aaZ,Option.isNone_iff_eq_none] at hk;obtain⟨rfl,hk⟩:=hk;split at hk
 ·rename_i M;simp only[aaZ,Bool.not_eq_true',ac6] at M hk;obtain⟨M,rfl⟩:=M;have hm:mt f 5=3:=by grind [mt]
  obtain⟨h1,rfl⟩:=ar2 (P:=P) (s:=Instr.storeAt (mt f 5) (eb a) (eb x)) hr;rw[hm] at h1;obtain⟨V,h2,H⟩:=ara h1;obtain⟨J,hp⟩:=I 1 a hk.1;have E:∃o,ea a=.pointer (some ⟨b,o,none⟩):=by
   rw[J] at h2;rcases hp with hp|⟨n,m,hp⟩|⟨o,n,m,hp⟩|⟨o,hp⟩ <;>rw[hp] at h2 <;>first|exact⟨o,hp⟩|cases h2
  obtain⟨of,E⟩:=E;rw[J,E] at h2;cases h2;have hx:=I 2 x hk.2;have L:∀q,eb x≠.agg q:=by
   intro q hq;rcases hx with h|⟨n,_,_,h⟩ <;>(rw[h] at hq;cases hq)
  rw[aqr si3 L] at H;obtain⟨xs,ys,r1,O,r3,r4,Z⟩:=hW.row;obtain⟨g1,g2,g3,rfl⟩:=aq0 (a:=⟨b,of,none⟩) O rfl H;rcases hx with h|⟨n,hn,ha,hb⟩
  ·rw[h] at g1;cases g1
  rw[aqP O] at g3;refine⟨.skip,wa.setCell ⟨b,of,none⟩ (ea x),?_,hW.set (I 2 x hk.2),.skip rfl⟩;refine ar3 (s:=Instr.storeAt 5 (ea a) (ea x)) ?_;rw[E];show(storeVar 5 ⟨b,of,none⟩ (ea x)).run P wa=_;rw[aqr si5 (by simp_all)];exact arn (a:=⟨b,of,none⟩) r1 rfl (by rw[ha];rfl) (by omega) (by grind [aqP])
 ·simp only[aaZ,adr,ac6] at hk;obtain⟨⟨ht,W⟩,hk2⟩:=hk;have hm:mt f t=t:=by
   unfold mt
   grind
  obtain⟨h1,rfl⟩:=ar2 (P:=P) (s:=Instr.storeAt (mt f t) (eb a) (eb x)) hr;rw[hm] at h1;obtain⟨V,h2,H⟩:=ara h1;have hz:∀w,(sizeOf t).run P w=.ok 1 w:=by grind [si3,aul]
  obtain⟨J,hp⟩:=I 3 a W;obtain⟨U,hx⟩:=I 0 x hk2;have L:∀q,ea x≠.agg q:=by
   intro q hq;rw[hq] at hx;exact hx.elim
  rw[J] at h2;rw[U,aqr hz L] at H;rcases hp with hp|⟨c,hc,hp⟩
  ·rw[hp] at h2;cases h2
  ·rw[hp] at h2;cases h2;refine hW.local hc (λhn=>(asr (a:=⟨c,0,none⟩) hn H).elim) λxs t' ha hb Y=>?_
   obtain⟨g1,g2,g3,rfl⟩:=aq0 (a:=⟨c,0,none⟩) hb rfl H;rw[aqP hb] at g3;refine⟨.skip,wa.setCell ⟨c,0,none⟩ (ea x),?_,hW.put hc hx ha,.skip rfl⟩;refine ar3 (s:=Instr.storeAt t (ea a) (ea x)) ?_;rw[hp];show(storeVar t ⟨c,0,none⟩ (ea x)).run P wa=_;rw[aqr hz L];exact arn (a:=⟨c,0,none⟩) ha rfl g1 g2 (by rw[aqP ha];exact g3)
theorem ar1{t:aC}{x ix:ci}(hW:MW b N e e' fr w0 wa wb)(H:EM b w0.heap.size f ea eb)(ho:o.op=.indexAddr t x ix)
  (hk:aqo f o=true) (hr:(execOp eb (qd f o)).run P wb=.ok nb wb1):JI P b N f e e' fr w0 wa wb1 ea o nb:=by
 obtain⟨d,op,ty,p,af,gd⟩:=o;simp only at ho;subst ho;unfold aqo at hk;simp only[aaZ,Bool.not_eq_true',ac6] at hk;obtain⟨⟨⟨⟨M,rfl⟩,k1⟩,k2⟩,I⟩:=hk;have hm:mt f 91=28:=by grind [mt]
 obtain⟨z,h1,rfl⟩:=aqE (P:=P) (s:=Instr.indexAt (mt f 91) (eb x) (eb ix)) hr;rw[hm] at h1;obtain⟨L,hp⟩:=H 1 x k1;obtain⟨J,hi⟩:=H 0 ix k2;rw[L,J] at h1;cases hx:ea ix with
 |int k n=>
  rw[hx] at h1;rcases hp with hp|⟨E,m,hp⟩|⟨of,E,m,hp⟩|⟨of,hp⟩ <;>rw[hp] at h1
  ·simp only[undef,Instr.indexAt,asIntOf,aaw,aaS,aas,bT aqB,run_stuck] at h1;cases h1
  ·simp only[Instr.indexAt,asIntOf,aaw,aaS,aas,bT aqB] at h1;obtain⟨y,v2,h9,_⟩:=dT (P:=P) (α:=aa) k n 0 .index wb
   simp_all
  ·simp only[Instr.indexAt,asIntOf,aaw,aaS,aas,bT aqB] at h1;split at h1
   ·rename_i hc;simp only[aaw,si3,aas,aaS,Nat.mul_one] at h1;cases h1;refine⟨.value (.pointer (some ((⟨b,of,none⟩:Addr).add n.toNat))),wa,?_,hW,aqJ I ⟨rfl,.inr (.inr (.inr ⟨of+n.toNat,?_⟩))⟩⟩
    ·refine aqV (s:=Instr.indexAt 91 (ea x) (ea ix)) ?_;rw[hp,hx];simp only[Instr.indexAt,asIntOf,aaw,aaS,aas,bT asq]
     simp_all [si5]
    ·unfold Addr.add
     simp_all
   ·exfalso;obtain⟨y,v2,h9,_⟩:=dT (P:=P) (α:=aa) k n E .index wb
    simp_all
  ·simp only[Instr.indexAt,asIntOf,aaw,aaS,aas,bT aqB,run_stuck] at h1;cases h1
 |_=>rw[hx] at h1 hi;first|exact hi.elim|(simp only[Instr.indexAt,asIntOf,aaw,run_stuck] at h1;cases h1)
theorem auz{c:Call}(hW:MW b N e e' fr w0 wa wb)(J:EM b w0.heap.size f ea eb)(ho:o.op=.call c)(hc:c.callee=.builtin .len)
  (hk:aqo f o=true) (hr:(execOp eb (qd f o)).run P wb=.ok nb wb1):JI P b N f e e' fr w0 wa wb1 ea o nb:=by
 obtain⟨d,op,ty,p,af,gd⟩:=o;obtain⟨M,⟨args⟩,⟨U⟩⟩:=c;simp only at ho hc;subst ho hc;unfold aqo at hk;simp only[aaZ,Bool.not_eq_true',ac6] at hk;obtain⟨⟨⟨O,rfl⟩,k1⟩,I⟩:=hk;have hm:mt f 91=28:=by grind [mt]
 obtain⟨x,rfl⟩:∃x,args= [x]:=by
  cases args with
  |nil=>cases k1
  |cons x r=>grind [arp]
 simp only[arp,Bool.and_true] at k1;have H:(do Pure.pure (Next.value (<-Builtin.len_ ((⟨[91]⟩:Array aC).map (mt f)) (mt f ty) ((⟨[x]⟩:Array ci).map eb))):Sem Next).run P wb=.ok nb wb1:=hr;rw[show(⟨[91]⟩:Array aC).map (mt f)= #[28] by grind,show(⟨[x]⟩:Array ci).map eb= #[eb x] by simp] at H;obtain⟨z,h1,rfl⟩:=aqE (P:=P) (s:=Builtin.len_ #[28] (mt f ty) #[eb x]) H;obtain⟨L,hp⟩:=J 1 x k1;rw[L] at h1;have key:∀n,(wb1=wb/\z=goInt n)->(Builtin.len_ #[91] ty #[ea x]).run P wa=.ok (goInt n) wa->JI P b N f e e' fr w0 wa wb1 ea ⟨d,.call ⟨.builtin .len,⟨[x]⟩,⟨[91]⟩⟩,ty,p,af,gd⟩ (.value z):=by
  rintro n ⟨rfl,rfl⟩ h2;refine⟨.value (goInt n),wa,?_,hW,aqJ I ⟨rfl,trivial⟩⟩;show(do Pure.pure (Next.value (<-Builtin.len_ (⟨[91]⟩:Array aC) ty ((⟨[x]⟩:Array ci).map ea))):Sem Next).run P wa=_
  simp_all
 rcases hp with hp|⟨E,m,hp⟩|⟨of,E,m,hp⟩|⟨of,hp⟩ <;>rw[hp] at h1 key
 ·simp_all [bT,aqB,undef,Builtin.len_]
 ·simp[Builtin.len_,bT aqB] at h1;exact key E ⟨h1.2.symm,h1.1.symm⟩ (by simp[Builtin.len_,bT asq])
 ·simp[Builtin.len_,bT aqB] at h1;exact key E ⟨h1.2.symm,h1.1.symm⟩ (by simp[Builtin.len_,bT asq])
 simp_all [bT,aqB,Builtin.len_]
theorem auA{op:BinOp}{t t':aC}{x y:ci}(hW:MW b N e e' fr w0 wa wb)(M:EM b w0.heap.size f ea eb)(ho:o.op=.binOp op t x y t')
  (hk:aqo f o=true) (hr:(execOp eb (qd f o)).run P wb=.ok nb wb1):JI P b N f e e' fr w0 wa wb1 ea o nb:=by
 obtain⟨d,op',ty,p,af,gd⟩:=o;simp only at ho;subst ho;have hg:∀(t:aC) (u v:aa) (w:am),(∀q,u≠.agg q)->u≠.nilIface->(eqGuard op t x y u v).run P w=.ok () w:=by
  intro t u v w h1 h2;cases u <;>first|exact absurd rfl (h1 _)|exact absurd rfl h2|(cases op <;>first|rfl|(cases v <;>rfl))
 have hb:∀ {t:aC} {u v:aa} {w w1:am} {z:aa},(∀q,u≠.agg q)->u≠.nilIface->((do eqGuard op t x y u v;binOp op t u v:Sem aa).run P w=.ok z w1↔(binOp op t u v).run P w=.ok z w1):=by
  simp_all
 unfold aqo at hk;simp only at hk;split at hk
 ·rename_i V;simp only[aaZ,Bool.not_eq_true',ac6] at V hk;obtain⟨V,rfl⟩:=V;obtain⟨⟨⟨k1,k2⟩,O⟩,E⟩:=hk;have hm:mt f 5=3:=by grind [mt]
  obtain⟨z,h1,rfl⟩:=aqE (P:=P) (s:=do eqGuard op (mt f 5) x y (eb x) (eb y);binOp op (mt f 5) (eb x) (eb y)) hr;rw[hm] at h1;have Y:=M 2 x k1;have W:=M 2 y k2;have uu:(eb x=undef\/∃n:Nat,n<256/\ea x=.int .u8 n/\eb x=.int .i64 n)->(∀q,eb x≠.agg q)/\eb x≠.nilIface:=by
   rintro(h|⟨n,_,_,h⟩) <;>rw[h] <;>exact⟨λq hq=>(by cases hq),λhq=>(by cases hq)⟩
  obtain⟨u1,u2⟩:=uu Y;rw[hb u1 u2] at h1;simp only[adr,ac6] at E;rcases Y with hx|⟨n,hn,Es,L⟩
  ·exfalso;rw[hx] at h1;rcases W with hy|⟨m,U,J,H⟩
   ·rw[hy] at h1;rcases E with (rfl|rfl)|rfl <;>simp[binOp,undef,Op.equal,Op.maxDepth,Op.equalIn,bT un3] at h1
   ·rw[H] at h1;rcases E with (rfl|rfl)|rfl <;>simp[binOp,undef,Op.equal,Op.maxDepth,Op.equalIn,bT un3] at h1
  ·rcases W with hy|⟨m,U,J,H⟩
   ·exfalso;rw[L,hy] at h1;rcases E with (rfl|rfl)|rfl <;>simp[binOp,undef,Op.equal,Op.maxDepth,Op.equalIn,bT un3] at h1
   ·rw[L,H] at h1;refine⟨.value z,wa,?_,?_,?_⟩
    ·refine aqV (s:=do eqGuard op 5 x y (ea x) (ea y);binOp op 5 (ea x) (ea y)) ?_;rw[hb (by simp_all) (by simp_all),Es,J];rcases E with (rfl|rfl)|rfl <;>(simp_all [binOp,Op.intCmp])
    ·rcases E with (rfl|rfl)|rfl <;>(simp_all [binOp,Op.intCmp])
    ·refine aqJ O ⟨rfl,?_⟩;rcases E with (rfl|rfl)|rfl <;>(simp[binOp,Op.intCmp] at h1;rw[<-h1.1];trivial)
 ·simp only[aaZ,ac6] at hk;obtain⟨⟨⟨⟨⟨k1,k2⟩,O⟩,E⟩,k5⟩,k6⟩:=hk;obtain⟨e1,I⟩:=M 0 x k2;obtain⟨e2,p2⟩:=M 0 y O;have q1:∀q,ea x≠.agg q:=by intro q hq;rw[hq] at I;exact I
  have Z:ea x≠.nilIface:=by intro hq;rw[hq] at I;exact I
  obtain⟨z,h1,rfl⟩:=aqE (P:=P) (s:=do eqGuard op (mt f t) x y (eb x) (eb y);binOp op (mt f t) (eb x) (eb y)) hr;rw[k5,e1,e2,hb q1 Z] at h1;obtain⟨rfl,h2,h3⟩:=asW (P:=P) k1 I p2 wb wa z wb1 h1;exact⟨.value z,wa,aqV (s:=do eqGuard op t x y (ea x) (ea y);binOp op t (ea x) (ea y)) ((hb q1 Z).2 h2),hW,aqJ E ⟨rfl,h3⟩⟩
def Dry{α:Type}(P:ap)(s:Sem α):Prop:=∀(v v':am) z v1,s.run P v=.ok z v1->v1=v/\s.run P v'=.ok z v'
theorem Dry.pure{α:Type}(x:α):Dry P (Pure.pure x:Sem α):=λv v' z v1 e=>by simp_all
theorem Dry.aw{α:Type}{s:Sem α}(h:bC P s):Dry P s:=λv v' z v1 e=>by
 obtain⟨x,v2,h1,_⟩:=h v
 simp_all
theorem Dry.bind{α β:Type}{s:Sem α}{k:α->Sem β}(hs:Dry P s)(hk:∀a,Dry P (k a)):Dry P (s>>=k):=by
 intro v v' z v1 e;rw[aaw] at e ⊢;cases hr:s.run P v with
 |halt=>simp_all
 |ok a v2=>
  rw[hr] at e;obtain⟨rfl,h2⟩:=hs v v' a v2 hr;rw[h2];exact hk a v2 v' z v1 e
theorem aqA(x:aa)(y:Nat)(c:BoundsCode):Dry P (Instr.sliceBound x y c):=by
 unfold Instr.sliceBound;refine .bind ?_ λp=>?_
 ·cases x with
  |int=>exact .pure _
  |pointer a=>cases a with
   |none=>exact .aw (ah _)
   |some a=>exact .aw (an (by simp))
  |_=>exact .aw (ah _)
 ·obtain⟨k,i⟩:=p;simp only;split
  ·exact .pure _
  ·exact .aw (dT _ _ _ _)
theorem arB(n m:Nat)(p hi:Option aa):Dry P (Instr.sliceBounds true n m p hi none):=by
 unfold Instr.sliceBounds;cases hi with
 |none=>cases p with
  |none=>exact .bind (.pure _) λ_=>.bind (.pure _) λ_=>.bind (.pure _) λ_=>.pure _
  |some v=>exact .bind (.pure _) λ_=>.bind (.pure _) λ_=>.bind (aqA _ _ _) λ_=>.pure _
 |some u=>cases p with
  |none=>exact .bind (.pure _) λ_=>.bind (aqA _ _ _) λ_=>.bind (.pure _) λ_=>.pure _
  |some v=>exact .bind (.pure _) λ_=>.bind (aqA _ _ _) λ_=>.bind (aqA _ _ _) λ_=>.pure _
theorem atq{t:aC}{x:ci}{E hi:Option ci}(hW:MW b N e e' fr w0 wa wb)(I:EM b w0.heap.size f ea eb)(ho:o.op=.slice t x E hi none)
  (hk:aqo f o=true) (hr:(execOp eb (qd f o)).run P wb=.ok nb wb1):JI P b N f e e' fr w0 wa wb1 ea o nb:=by
 obtain⟨d,op,ty,p,af,gd⟩:=o;simp only at ho;subst ho;unfold aqo at hk;simp only[aaZ,Bool.not_eq_true',ac6] at hk;obtain⟨⟨⟨⟨⟨U,rfl⟩,k1⟩,k2⟩,M⟩,L⟩:=hk;have hm:mt f 91=28:=by grind [mt]
 have H:∀z:Option ci,z.all (opc f 0)=true->z.map eb=z.map ea:=by
  intro z hz;cases z with
  |none=>rfl
  |some z=>simp only[acz];rw[(I 0 z hz).1]
 obtain⟨z,h1,rfl⟩:=aqE (P:=P) (s:=Instr.sliceAt (mt f 91) (eb x) (E.map eb) (hi.map eb) none) hr;obtain⟨O,hp⟩:=I 1 x k1;rw[hm,O,H E k2,H hi M] at h1;have key:∀pt n m,ea x=.slice pt n m->wb1=wb/\(∃l h m',z=.slice (if m'=l then pt else pt.map (·.add l)) (h-l) (m'-l))/\(Instr.sliceAt 91 (ea x) (E.map ea) (hi.map ea) none).run P wa=.ok z wa:=by
  intro pt n m hx;rw[hx] at h1 ⊢;simp only[Instr.sliceAt,Instr.slice,aaw,bT aqB,bT asq,aas] at h1 ⊢;cases hb:(Instr.sliceBounds true n m (E.map ea) (hi.map ea) none).run P wb with
  |halt=>simp_all
  |ok q v2=>
   obtain⟨rfl,h2⟩:=arB (P:=P) _ _ _ _ wb wa q v2 hb;rw[hb] at h1;rw[h2];obtain⟨l,h,m'⟩:=q;simp only[aas,aaw,si3,si5,aaS,Nat.mul_one] at h1 ⊢
   grind
 have fin:wb1=wb/\VM b w0.heap.size 1 z z/\(Instr.sliceAt 91 (ea x) (E.map ea) (hi.map ea) none).run P wa=.ok z wa:=by
  rcases hp with hp|⟨J,m,hp⟩|⟨of,J,m,hp⟩|⟨of,hp⟩
  ·simp_all [bT,aqB,undef,Instr.sliceAt,Instr.slice]
  ·obtain⟨a1,⟨l,h,m',hz⟩,a3⟩:=key _ _ _ hp;refine⟨a1,⟨rfl,.inr (.inl ⟨h-l,m'-l,?_⟩)⟩,a3⟩
   simp_all
  ·obtain⟨a1,⟨l,h,m',hz⟩,a3⟩:=key _ _ _ hp;refine⟨a1,⟨rfl,.inr (.inr (.inl ?_))⟩,a3⟩
   grind [Addr.add]
  simp_all [bT,aqB,Instr.sliceAt,Instr.slice]
 obtain⟨rfl,f2,f3⟩:=fin;exact⟨.value z,wa,aqV (s:=Instr.sliceAt 91 (ea x) (E.map ea) (hi.map ea) none) f3,hW,aqJ L f2⟩
theorem zv3(w:am):(zeroValue 3).run P w=.ok (.int .i64 0) w:=(cx _ w).trans rfl
theorem zv5(w:am):(zeroValue 5).run P w=.ok (.int .u8 0) w:=(cx _ w).trans rfl
theorem aui(w:am):(zeroValue 230).run P w=.ok (.int .u64 0) w:=(cx _ w).trans rfl
theorem aso:∀(n i of:Nat) {wa wb wb1:am},MW b N e e' fr w0 wa wb->(storeCells ⟨b,of,none⟩ (List.replicate n (.int .i64 0)) i).run P wb=.ok () wb1->∃wa1,(storeCells ⟨b,of,none⟩ (List.replicate n (.int .u8 0)) i).run P wa=.ok () wa1/\MW b N e e' fr w0 wa1 wb1:=by
 intro n
 induction n with
 |zero=>intro i of wa wb wb1 hW h;cases h;exact⟨wa,rfl,hW⟩
 |succ n E=>
  intro i of wa wb wb1 hW h;have ha:(⟨b,of,none⟩:Addr).add i=⟨b,of+i,none⟩:=by unfold Addr.add;grind
  simp only[List.replicate_succ,storeCells,aaw,ha] at h ⊢;cases hr:(store ⟨b,of+i,none⟩ (.int .i64 0)).run P wb with
  |halt=>simp_all
  |ok u v2=>
   rw[hr] at h;obtain⟨xs,ys,r1,p,J,I,H⟩:=hW.row;obtain⟨g1,g2,g3,rfl⟩:=aq0 (a:=⟨b,of+i,none⟩) p rfl hr;rw[aqP p] at g3;rw[arn (P:=P) (a:=⟨b,of+i,none⟩) (z:=.int .u8 0) r1 rfl rfl (by omega) (by grind [aqP])];exact E (i+1) of (hW.set (x:=.int .u8 0) (y:=.int .i64 0) (.inr ⟨0,by decide,rfl,rfl⟩)) h
theorem arG(x:aa)(n:Nat):(Builtin.zeroCells #[x] n).toList=List.replicate n x:=by
 unfold Builtin.zeroCells;apply List.ext_getElem
 ·simp
 grind
theorem atu{c:Call}(hW:MW b N e e' fr w0 wa wb)(I:EM b w0.heap.size f ea eb)(ho:o.op=.call c)(hc:c.callee=.builtin .clear)
  (hk:aqo f o=true) (hr:(execOp eb (qd f o)).run P wb=.ok nb wb1):JI P b N f e e' fr w0 wa wb1 ea o nb:=by
 obtain⟨d,op,ty,p,af,gd⟩:=o;obtain⟨M,⟨args⟩,⟨V⟩⟩:=c;simp only at ho hc;subst ho hc;unfold aqo at hk;simp only[aaZ,Bool.not_eq_true',ac6,Option.isNone_iff_eq_none] at hk;obtain⟨⟨⟨U,rfl⟩,k1⟩,rfl⟩:=hk;have hm:mt f 91=28:=by grind [mt]
 obtain⟨x,rfl⟩:∃x,args= [x]:=by
  cases args with
  |nil=>cases k1
  |cons x r=>grind [arp]
 simp only[arp,Bool.and_true] at k1;have E:(do Pure.pure (Next.value (<-Builtin.clear_ ((⟨[91]⟩:Array aC).map (mt f)) (mt f ty) ((⟨[x]⟩:Array ci).map eb))):Sem Next).run P wb=.ok nb wb1:=hr;rw[show(⟨[91]⟩:Array aC).map (mt f)= #[28] by grind,show(⟨[x]⟩:Array ci).map eb= #[eb x] by simp] at E;obtain⟨z,h1,rfl⟩:=aqE (P:=P) (s:=Builtin.clear_ #[28] (mt f ty) #[eb x]) E;obtain⟨L,hp⟩:=I 1 x k1;rw[L] at h1;have key:∀wa1,z=.tuple #[]->MW b N e e' fr w0 wa1 wb1->(Builtin.clear_ #[91] ty #[ea x]).run P wa=.ok (.tuple #[]) wa1->JI P b N f e e' fr w0 wa wb1 ea ⟨none,.call ⟨.builtin .clear,⟨[x]⟩,⟨[91]⟩⟩,ty,p,af,gd⟩ (.value z):=by
  rintro wa1 rfl O h2;refine⟨.value (.tuple #[]),wa1,?_,O,.value _ _ λd h=>by cases h⟩;show(do Pure.pure (Next.value (<-Builtin.clear_ (⟨[91]⟩:Array aC) ty ((⟨[x]⟩:Array ci).map ea))):Sem Next).run P wa=_
  simp_all
 rcases hp with hp|⟨H,m,hp⟩|⟨of,H,m,hp⟩|⟨of,hp⟩ <;>rw[hp] at h1 key
 ·simp_all [bT,aqB,undef,Builtin.clear_]
 ·simp_all [bT,aqB,asq,Builtin.clear_]
 ·cases H with
  |zero=>
   simp_all [bT,aqB,asq,Builtin.clear_]
  |succ n=>
   simp only[Builtin.clear_,aek,abe,aaw,bT aqB,aas,zv3,Value.cells,arG] at h1;cases hs:(storeCells ⟨b,of,none⟩ (List.replicate (n+1) (.int .i64 0))).run P wb with
   |halt=>simp_all
   |ok u v2=>
    rw[hs] at h1;cases h1;obtain⟨wa1,h2,J⟩:=aso _ 0 of hW hs;refine key wa1 rfl J ?_;simp only[Builtin.clear_,aek,abe,aaw,bT asq,aas,zv5,Value.cells,arG,h2];rfl
 simp_all [bT,aqB,Builtin.clear_]
theorem M6{t:aC}(hW:MW b N e e' fr w0 wa wb)(ho:o.op=.alloc t)
  (hk:aqo f o=true) (hr:(execOp eb (qd f o)).run P wb=.ok nb wb1):JI P b N f e e' fr w0 wa wb1 ea o nb:=by
 obtain⟨d,op,ty,p,af,gd⟩:=o;simp only at ho;subst ho;unfold aqo at hk;simp only[aaZ,adr,ac6] at hk;obtain⟨ht,hd⟩:=hk;obtain⟨z,h1,rfl⟩:=aqE (P:=P) (s:=Instr.alloc t true (.tuple #[])) hr;have hz:∃k,∀w,(zeroValue t).run P w=.ok (.int k 0) w:=by rcases ht with rfl|rfl;exact⟨_,zv3⟩;exact⟨_,aui⟩
 obtain⟨k,hz⟩:=hz;have run:∀w,(Instr.alloc t true (.tuple #[])).run P w=.ok (.pointer (some ⟨w.heap.size,0,none⟩)) { w with heap:=w.heap.push (.cells #[.int k 0] t (0,0)) } :=by
  intro w;simp only[Instr.alloc,aaw,hz,aas];rfl
 rw[run] at h1;cases h1;refine⟨.value (.pointer (some ⟨wa.heap.size,0,none⟩)),_,aqV (run wa),hW.push (λx hx=>by simp at hx;subst hx;trivial),aqJ hd ?_⟩;rw[hW.size];exact⟨rfl,.inr ⟨_,hW.n0,rfl⟩⟩
def atL(P:ap)(f:Nat):Bool:=f !=17&&f !=41&&match P.funcs[f]? with|some fn=>fn.body.isSome&&fn.name != "runtime.NumGoroutine" |none=>false
theorem asI:(aqW.all λx=>atL Tryz.prog x.1&&atL Tryz.prog x.2&&mf x.1==x.2)=true:=by kernel_rfl
theorem auM{f:Nat}(h:atL Tryz.prog f=true):ans P f:=by
 unfold atL at h;simp only[aaZ,bne_iff_ne] at h;obtain⟨⟨h1,h2⟩,p⟩:=h;split at p
 ·rename_i fn hf;simp only[aaZ,bne_iff_ne] at p;exact aR hf h1 h2 (by simpa using p.1) p.2
 ·cases p
theorem asJ{g:Nat}(h:dom g=true):ans P g/\ans P (mf g):=by
 unfold dom at h;rw[afl] at h;obtain⟨x,hx,hg⟩:=h;have:=acp.1 asI x hx;simp only[aaZ,ac6] at this hg
 grind [auM]
theorem atp{xs:List ci} :∀ {cs:List Nat},arp f xs cs=true->EM b w0.heap.size f ea eb->xs.length=cs.length/\∀(i c:Nat) (x y:aa),cs[i]?=some c->(xs.map ea)[i]?=some x->(xs.map eb)[i]?=some y->VM b w0.heap.size c x y:=by
 induction xs with
 |nil=>
  intro cs h p;cases cs with
  |nil=>simp_all
  |cons=>cases h
 |cons u xs J=>
  intro cs h p;cases cs with
  |nil=>cases h
  |cons c cs=>
   simp only[arp,aaZ] at h;obtain⟨h1,h2⟩:=J h.2 p;refine⟨by grind,λi=>?_⟩;cases i with
   |zero=>intro c' x y I H E;simp at I H E;subst I H E;exact p _ _ h.1
   |succ i=>grind
theorem QV{c:Call}{g:Nat}(hW:MW b N e e' fr w0 wa wb)(U:EM b w0.heap.size f ea eb)(H:∀g,ea (.func g)=.func (.func g) #[] #[]/\eb (.func g)=.func (.func g) #[] #[])(ho:o.op=.call c)(hc:c.callee=.value (.func g))
  (hk:aqo f o=true) (hr:(execOp eb (qd f o)).run P wb=.ok nb wb1):JI P b N f e e' fr w0 wa wb1 ea o nb:=by
 obtain⟨d,op,ty,p,af,gd⟩:=o;obtain⟨V,⟨args⟩,I⟩:=c;simp only at ho hc;subst ho hc;unfold aqo at hk;simp only[aaZ,bne_iff_ne] at hk;obtain⟨⟨⟨h1,h2⟩,k1⟩,O⟩:=hk;obtain⟨n1,M⟩:=asJ (P:=P) h1;have run:∀(ev:ci->aa) (h:Nat) (w:am) (at_:Array aC) (ty:aC),ev (.func h)=.func (.func h) #[] #[]->ans P h->(execOp ev ({ dst:=d,op:=.call ⟨.value (.func h),⟨args⟩,at_⟩,type:=ty,pos:=p,after:=af,guard:=gd } :Oper)).run P w=.ok (.enter h ((⟨args⟩:Array ci).map ev)) w:=by
  grind [execOp,resolve,Deferred.ofValue,invoke]
 have E:(execOp eb ({ dst:=d,op:=.call ⟨.value (.func (mf g)),⟨args⟩,I.map (mt f)⟩,type:=mt f ty,pos:=p,after:=af,guard:=gd } :Oper)).run P wb=.ok nb wb1:=hr;rw[run eb (mf g) wb _ _ (H _).2 M] at E;cases E;obtain⟨Z,L⟩:=atp k1 U;refine⟨_,_,run ea g wa I ty (H g).1 n1,hW,.enter g _ _ h1 h2 (by simp) (by grind) (λi c x y J Y W=>L i c x y J (by grind) (by grind)) (atM O)⟩
theorem au5(hW:MW b N e e' fr w0 wa wb)(E:EM b w0.heap.size f ea eb)(hF:∀g,ea (.func g)=.func (.func g) #[] #[]/\eb (.func g)=.func (.func g) #[] #[])(hC:∀v,ea (.const v)=v/\eb (.const v)=v)
  (hk:aqo f o=true) (hr:(execOp eb (qd f o)).run P wb=.ok nb wb1):JI P b N f e e' fr w0 wa wb1 ea o nb:=by
 cases ho:o.op with
 |load t a=>grind [at4]
 |store t a x=>grind [M3]
 |indexAddr t x ix=>grind [ar1]
 |binOp op t x y t'=>grind [auA]
 |alloc t=>grind [M6]
 |slice t x Z hi Y=>
  grind [atq,aqo]
 |call c=>
  grind [QV,auz,atu,aqo]
 |move x=>
  obtain⟨d,op,ty,p,af,gd⟩:=o;simp only at ho;subst ho;have:(.ok (.value (eb x)) wb:Result Next)=.ok nb wb1:=hr;cases this;exact⟨_,wa,rfl,hW,asH E hk⟩
 |assign x=>
  obtain⟨d,op,ty,p,af,gd⟩:=o;simp only at ho;subst ho;have:(.ok (.value (eb x)) wb:Result Next)=.ok nb wb1:=hr;cases this;exact⟨_,wa,rfl,hW,asH E hk⟩
 |pick c x y=>
  obtain⟨d,op,ty,p,af,gd⟩:=o;simp only at ho;subst ho;unfold aqo at hk;simp only[aaZ] at hk;obtain⟨⟨⟨k1,k2⟩,M⟩,U⟩:=hk;have H:=(E 0 c k1).1;have I:(do Pure.pure (Next.value (if<-asBool (eb c) then eb x else eb y)):Sem Next).run P wb=.ok nb wb1:=hr;rw[H] at I;cases hc:ea c with
  |bool t=>
   rw[hc] at I;cases I;refine⟨.value (if t then ea x else ea y),wa,?_,hW,aqJ U ?_⟩
   ·show(do Pure.pure (Next.value (if<-asBool (ea c) then ea x else ea y)):Sem Next).run P wa=_;rw[hc];rfl
   ·cases t
    ·exact E 0 y M
    ·exact E 0 x k2
  |_=>rw[hc] at I;simp only[asBool,aaw,run_stuck] at I;cases I
 |unOp op t x=>
  obtain⟨d,J,ty,p,af,gd⟩:=o;simp only at ho;subst ho;unfold aqo at hk;cases op <;>simp only[aaZ,abX] at hk
  obtain⟨H,L⟩:=E 0 x hk.1;exact arE hW (at2 (P:=P) L) hk.2 rfl (by rw[<-H];exact hr)
 |extract x i=>
  obtain⟨d,J,ty,p,af,gd⟩:=o;simp only at ho;subst ho;unfold aqo at hk;simp only[aaZ] at hk;obtain⟨H,xs,V,L⟩:=E 4 x hk.1;exact arE hW (asb (P:=P) L i) hk.2 (by rw[<-V];rfl) (by rw[<-V,<-H];exact hr)
 |convert s d x=>
  obtain⟨d',J,ty,p,af,gd⟩:=o;simp only at ho;subst ho;unfold aqo at hk;simp only[aaZ,adr,ac6] at hk;obtain⟨⟨⟨k1,k2⟩,M⟩,U⟩:=hk;obtain⟨H,L⟩:=E 0 x M;have hs:∃k,P.underlying s=some (.int k):=by
   rcases k1 with k1|⟨_,rfl⟩
   ·exact aqM k1
   simp_all [un5]
  have hd:∃k,P.underlying d=some (.int k):=by
   grind [aqM,un5]
  exact arE hW (asc (P:=P) hs hd L) U rfl (by rw[<-H];exact hr)
 |index t x ix=>
  obtain⟨d',J,ty,p,af,gd⟩:=o;simp only at ho;subst ho;unfold aqo at hk;split at hk <;>first|cases hk|skip
  all_goals simp only[Op.index.injEq,reduceCtorEq] at *
  rename_i _ O _ heq;obtain⟨rfl,rfl,rfl⟩:=heq;simp only[aaZ,ac6] at hk;obtain⟨⟨rfl,k2⟩,M⟩:=hk;obtain⟨H,L⟩:=E 0 _ k2;refine arE hW (asU (P:=P) L) M (s:=Instr.index 9 (.string O) (ea ix)) ?_ ?_
  rotate_left
  ·exact(by rw[<-H,<-(hC (.string O)).2];exact hr)
  ·show(do Pure.pure (Next.value (<-Instr.index 9 (ea (.const (.string O))) (ea ix))):Sem Next)=_
   simp_all
 |nilCheck x=>
  obtain⟨d',J,ty,p,af,gd⟩:=o;simp only at ho;subst ho;unfold aqo at hk;simp only[aaZ] at hk;have hx:=E 3 x hk.1;obtain⟨H,L⟩:=hx;have key:(eb x=undef\/∃c,eb x=.pointer (some c))->∀(ev:ci->aa) (w:am),ev x=eb x->(execOp ev ({ dst:=d',op:=.nilCheck x,type:=ty,pos:=p,after:=af,guard:=gd } :Oper)).run P w=.ok (.value (ev x)) w:=by
   rintro(h|⟨c,h⟩) ev w hv <;>(rw[h] at hv;simp only[execOp,hv,undef];rfl)
  have hu:eb x=undef\/∃c,eb x=.pointer (some c):=by
   grind
  have h1:=key hu eb wb rfl;have I:(execOp eb ({ dst:=d',op:=.nilCheck x,type:=mt f ty,pos:=p,after:=af,guard:=gd } :Oper)).run P wb=.ok nb wb1:=hr;have W:(execOp eb ({ dst:=d',op:=.nilCheck x,type:=mt f ty,pos:=p,after:=af,guard:=gd } :Oper)).run P wb=.ok (.value (eb x)) wb:=h1;rw[W] at I;cases I;exact⟨_,wa,key hu ea wa H.symm,hW,aqJ hk.2 (E 3 x hk.1)⟩
 |_=>unfold aqo at hk;rw[ho] at hk;cases hk
end
section
variable{P:ap}[l:cL P]{b N f:Nat}{e e':aC}{fr:Nat×Nat}{w0 wa wb wb1:am}{ea eb:ci->aa}{o:Oper}{nb:Next}
def HF{α:Type}(P:ap)(s:Sem α)(w:am):Prop:=∀h u,s.run P w=.halt h u->iy h
theorem HF.ok{α:Type}{s:Sem α}{w w1:am}{a:α}(h:s.run P w=.ok a w1):HF P s w:=λx u e=>by simp_all
theorem HF.pure{α:Type}(a:α)(w:am):HF P (Pure.pure a:Sem α) w:=.ok rfl
theorem HF.aw{α:Type}{s:Sem α}(h:bC P s)(w:am):HF P s w:=λx u e=>by
 obtain⟨y,v,h1,h2⟩:=h w;rw[h1] at e;cases e;exact h2.1
theorem HF.stuck{α:Type}(s:String)(w:am):HF P (Go.stuck s:Sem α) w:=.aw (ah _) w
theorem HF.bind{α β:Type}{s:Sem α}{k:α->Sem β}{w:am}(hs:HF P s w)(hk:∀a w',s.run P w=.ok a w'->HF P (k a) w'):HF P (s>>=k) w:=by
 intro x u e;rw[aaw] at e;cases hr:s.run P w with
 |halt h v=>rw[hr] at e;cases e;exact hs _ _ hr
 |ok a v=>rw[hr] at e;exact hk a v hr x u e
theorem HF.val{s:Sem aa}{w:am}(hs:HF P s w):HF P (do Pure.pure (Next.value (<-s)):Sem Next) w:=.bind hs λ_ _ _=>.pure _ _
theorem HF.unit{s:Sem Unit}{w:am}(hs:HF P s w):HF P (do s;Pure.pure Next.skip:Sem Next) w:=.bind hs λ_ _ _=>.pure _ _
theorem auf{a:Addr}{w:am}(h:w.heap[a.block]?=none\/∃xs t fr,w.heap[a.block]?=some (.cells xs t fr)):HF P (load a) w:=by
 intro x u e;rw[Go.run_load] at e;split at e
 ·cases e
 ·unfold World.farLoad World.noCell at e;rcases h with h|⟨xs,t,fr,h⟩ <;>(rw[h] at e;cases e;trivial)
theorem asj{a:Addr}{z:aa}{w:am}(h:w.heap[a.block]?=none\/∃xs t fr,w.heap[a.block]?=some (.cells xs t fr)):HF P (store a z) w:=by
 intro x u e;by_cases hz:z.oneCell'=true
 ·rw[run_store P w a z .plain hz] at e;split at e
  ·split at e
   ·cases e;trivial
   ·cases e
  ·unfold World.farStore World.noCell at e;rcases h with h|⟨xs,t,fr,h⟩ <;>(rw[h] at e;cases e;trivial)
 ·cases z <;>first|exact absurd rfl hz|(simp only[store,Sem.run] at e;cases e;trivial)
theorem aue{x:aa}{w:am} :HF P (Instr.sureAddr x) w:=by
 cases x with
 |pointer a=>cases a with
  |none=>exact .stuck _ _
  |some a=>exact .pure _ _
 |_=>exact .stuck _ _
theorem asl{op:BinOp}{t:aC}(ht:ity t=true){x y:aa}(hx:Pl x)(hy:Pl y)(w:am):HF P (binOp op t x y) w:=by
 obtain⟨k,hk⟩:=aqM (P:=P) ht;have heq:∀x y:aa,Pl x->Pl y->HF P (Op.equal t x y) w:=by
  intro x y hx hy;unfold Op.equal Op.maxDepth Op.equalIn;refine .bind (.ok (bT hk w)) λa w' e=>?_
  rw[bT hk] at e;cases e;cases x <;>first|exact hx.elim|skip
  all_goals cases y <;>first|exact hy.elim|exact .stuck _ _|(simp only;split <;>first|exact .pure _ _|exact .stuck _ _)
 cases x <;>first|exact hx.elim|skip
 all_goals cases y <;>first|exact hy.elim|skip
 all_goals unfold binOp
 all_goals cases op <;>simp only[]
 all_goals first
  |exact .stuck _ _
  |(unfold Op.shift;split <;>first|exact .aw (aT _) _|(simp only;first|exact .pure _ _|exact .stuck _ _))
  |(split <;>first|exact .stuck _ _|(unfold Op.intArith;first|exact .pure _ _|exact .stuck _ _)|(unfold Op.intBits;first|exact .pure _ _|exact .stuck _ _)|(unfold Op.intCmp;first|exact .pure _ _|exact .stuck _ _)|(unfold Op.intDiv;split <;>first|exact .aw (aT _) _|exact .pure _ _|exact .stuck _ _))
  |exact .bind (heq _ _ hx hy) λ_ _ _=>.pure _ _
theorem atc(hW:MW b N e e' fr w0 wa wb):∃xs t fr,wb.heap[b]?=some (.cells xs t fr):=let ⟨_,ys,_,h,_⟩:=hW.row;⟨ys,_,_,h⟩
theorem auB(hW:MW b N e e' fr w0 wa wb){c:Nat}(hc:w0.heap.size<=c):wb.heap[c]?=none\/∃xs t fr,wb.heap[c]?=some (.cells xs t fr):=
 hW.local hc (λh=>.inl h) λxs t _ h _=>.inr ⟨xs,t,_,h⟩
theorem arF(hW:MW b N e e' fr w0 wa wb){c:Nat}{x:aa}(hc:c=1\/c=3){y:aa}(h:VM b w0.heap.size c x y){a:Addr}(hy:y=.pointer (some a)):wb.heap[a.block]?=none\/∃xs t fr,wb.heap[a.block]?=some (.cells xs t fr):=by
 rcases hc with rfl|rfl
 ·obtain⟨p,hp⟩:=h;rw[p] at hy;rcases hp with hp|⟨n,m,hp⟩|⟨o,n,m,hp⟩|⟨o,hp⟩ <;>rw[hp] at hy <;>cases hy
  grind [atc]
 ·obtain⟨p,hp⟩:=h;rw[p] at hy;rcases hp with hp|⟨d,hd,hp⟩ <;>rw[hp] at hy <;>cases hy
  exact auB hW hd
theorem auq{x:aa}{w:am}{α:Type}{k:Addr->Sem α}(h:∀a,x=.pointer (some a)->HF P (k a) w):HF P (do k (<-Instr.sureAddr x)) w:=
 .bind aue λa w' e=>by
  cases x with
  |pointer p=>cases p with
   |none=>grind [run_stuck,Instr.sureAddr]
   |some q=>cases e;grind
  |_=>simp only[Instr.sureAddr,run_stuck] at e;cases e
theorem aq9{t:aC}{k:IntKind}(hu:P.underlying t=some (.int k)){a:Addr}{w:am}(h:wb.heap[a.block]?=none\/∃xs t fr,wb.heap[a.block]?=some (.cells xs t fr)):HF P (loadVar t a) wb:=by
 intro x u e;rw[aqz hu] at e;exact auf h x u e
theorem arz{t:aC}(hs:∀w,(sizeOf t).run P w=.ok 1 w){a:Addr}{z:aa}(hz:∀xs,z≠.agg xs)(h:wb.heap[a.block]?=none\/∃xs t fr,wb.heap[a.block]?=some (.cells xs t fr)):HF P (storeVar t a z) wb:=by
 intro x u e;rw[aqr hs hz] at e;exact asj h x u e
theorem atD{a:Addr} :∀(vs:List aa) (i:Nat) {w:am},(∃xs t fr,w.heap[a.block]?=some (.cells xs t fr))->a.spot=none->HF P (storeCells a vs i) w:=by
 intro vs
 induction vs with
 |nil=>intro i w _ _;exact .pure _ _
 |cons v vs p=>
  intro i w h hs;have ha:(a.add i).block=a.block/\(a.add i).spot=none:=by unfold Addr.add;grind
  unfold storeCells;refine .bind (asj (.inr (by simp_all))) λ_ w' e=>p _ ?_ hs
  obtain⟨xs,t,fr,h⟩:=h;obtain⟨_,_,_,rfl⟩:=aq0 (a:=a.add i) (by rw[ha.1];exact h) ha.2 e;exact⟨_,t,fr,by rw[arc (a:=a.add i) (by rw[ha.1];exact h) ha.2,aay ha.1.symm]⟩
theorem aqF(x:aa)(y:Nat)(c:BoundsCode)(w:am):HF P (Instr.sliceBound x y c) w:=by
 unfold Instr.sliceBound;refine .bind ?_ λp w' _=>?_
 ·cases x with
  |int=>exact .pure _ _
  |pointer a=>cases a with
   |none=>exact .stuck _ _
   |some a=>exact .aw (an (by simp)) _
  |_=>exact .stuck _ _
 ·obtain⟨k,i⟩:=p;simp only;split
  ·exact .pure _ _
  ·exact .aw (dT _ _ _ _) _
theorem arL(n m:Nat)(p hi:Option aa)(w:am):HF P (Instr.sliceBounds true n m p hi none) w:=by
 unfold Instr.sliceBounds;cases hi with
 |none=>cases p with
  |none=>exact .bind (.pure _ _) λ_ _ _=>.bind (.pure _ _) λ_ _ _=>.bind (.pure _ _) λ_ _ _=>.pure _ _
  |some v=>exact .bind (.pure _ _) λ_ _ _=>.bind (.pure _ _) λ_ _ _=>.bind (aqF _ _ _ _) λ_ _ _=>.pure _ _
 |some u=>cases p with
  |none=>exact .bind (.pure _ _) λ_ _ _=>.bind (aqF _ _ _ _) λ_ _ _=>.bind (.pure _ _) λ_ _ _=>.pure _ _
  |some v=>exact .bind (.pure _ _) λ_ _ _=>.bind (aqF _ _ _ _) λ_ _ _=>.bind (aqF _ _ _ _) λ_ _ _=>.pure _ _
theorem atB{x:aa}(p hi:Option aa)(w:am):HF P (Instr.sliceAt 28 x p hi none) w:=by
 unfold Instr.sliceAt;refine .bind (.ok (bT aqB w)) λd w' e=>?_
 rw[bT aqB] at e;cases e;simp only;unfold Instr.slice;refine .bind (.ok (bT aqB _)) λd w' e=>?_
 rw[bT aqB] at e;cases e;cases x <;>first|exact .stuck _ _|skip
 exact .bind (arL _ _ _ _ _) λq w' _=>.bind (.ok (si3 w')) λ_ _ _=>.pure _ _
theorem atC{x ix:aa}(w:am):HF P (Instr.indexAt 28 x ix) w:=by
 unfold Instr.indexAt;refine .bind ?_ λp w' _=>?_
 ·cases ix with
  |int=>exact .pure _ _
  |pointer a=>cases a with
   |none=>exact .stuck _ _
   |some a=>exact .aw (an (by simp)) _
  |_=>exact .stuck _ _
 obtain⟨k,i⟩:=p;simp only;refine .bind (.ok (bT aqB w')) λd w2 e=>?_
 rw[bT aqB] at e;cases e;cases x with
 |slice p n m=>
  simp only;refine .bind (.pure _ _) λq w3 e=>?_
  cases e;simp only;refine .bind (.ok (bT aqB _)) λd w4 e=>?_
  rw[bT aqB] at e;cases e;cases p with
  |none=>exact .aw (dT _ _ _ _) _
  |some a=>
   simp only;split
   ·exact .bind (.ok (si3 _)) λ_ _ _=>.pure _ _
   ·split
    ·simp_all
    ·exact .aw (dT _ _ _ _) _
 |_=>exact .bind (.stuck _ _) λq w3 e=>by rw[run_stuck] at e;cases e
theorem au6(hW:MW b N e e' fr w0 wa wb)(H:EM b w0.heap.size f ea eb)(hF:∀g,ea (.func g)=.func (.func g) #[] #[]/\eb (.func g)=.func (.func g) #[] #[])(hC:∀v,ea (.const v)=v/\eb (.const v)=v)
  (hk:aqo f o=true):HF P (execOp eb (qd f o)) wb:=by
 obtain⟨d,op,ty,p,af,gd⟩:=o;have EN:=hk;unfold aqo at hk;cases op with
 |load t a=>
  simp only at hk;refine HF.val (s:=Instr.loadAt (mt f t) (eb a)) (auq λq hq=>?_);split at hk
  ·rename_i E;simp only[aaZ,Bool.not_eq_true',ac6] at E hk;obtain⟨E,rfl⟩:=E;rw[show mt f 5=3 by grind [mt]];exact aq9 (w:=wb) un3 (arF hW (.inl rfl) (H 1 a hk.1) hq)
  ·simp only[aaZ,adr,ac6] at hk;obtain⟨⟨ht,V⟩,_⟩:=hk;have hm:mt f t=t:=by
    unfold mt
    grind
   rw[hm];have:=arF hW (.inr rfl) (H 3 a V) hq;rcases ht with rfl|rfl
   ·exact aq9 (w:=wb) un3 this
   ·exact aq9 (w:=wb) auj this
 |store t a x=>
  simp only[aaZ] at hk;refine HF.unit (s:=Instr.storeAt (mt f t) (eb a) (eb x)) (auq λq hq=>?_);obtain⟨_,hk⟩:=hk;split at hk
  ·rename_i E;simp only[aaZ,Bool.not_eq_true',ac6] at E hk;obtain⟨E,rfl⟩:=E;rw[show mt f 5=3 by grind [mt]];refine arz si3 ?_ (arF hW (.inl rfl) (H 1 a hk.1) hq);intro q hq;rcases H 2 x hk.2 with h|⟨n,_,_,h⟩ <;>(rw[h] at hq;cases hq)
  ·simp only[aaZ,adr,ac6] at hk;obtain⟨⟨ht,V⟩,hk2⟩:=hk;have hm:mt f t=t:=by
    unfold mt
    grind
   rw[hm];have hx:∀q,eb x≠.agg q:=by
    intro q hq;obtain⟨e2,hx⟩:=H 0 x hk2;rw[e2] at hq;rw[hq] at hx;exact hx
   have:=arF hW (.inr rfl) (H 3 a V) hq
   grind [arz,si3,aul]
 |indexAddr t x ix=>
  simp only[aaZ,Bool.not_eq_true',ac6] at hk;obtain⟨⟨⟨⟨E,rfl⟩,_⟩,_⟩,_⟩:=hk;refine HF.val (s:=Instr.indexAt (mt f 91) (eb x) (eb ix)) ?_
  grind [atC,mt]
 |slice t x Z hi Y=>
  cases Y with
  |some _=>cases hk
  |none=>
   simp only[aaZ,Bool.not_eq_true',ac6] at hk;obtain⟨⟨⟨⟨⟨E,rfl⟩,_⟩,_⟩,_⟩,_⟩:=hk;refine HF.val (s:=Instr.sliceAt (mt f 91) (eb x) (Z.map eb) (hi.map eb) none) ?_
   grind [atB,mt]
 |binOp op t x y t'=>
  have hg:∀(t:aC) (u v:aa),(∀q,u≠.agg q)->u≠.nilIface->(eqGuard op t x y u v).run P wb=.ok () wb:=by
   intro t u v h1 h2;cases u <;>first|exact absurd rfl (h1 _)|exact absurd rfl h2|(cases op <;>first|rfl|(cases v <;>rfl))
  have J:∀ {u:aa},Pl u->(∀q,u≠.agg q)/\u≠.nilIface:=λh=>⟨λq hq=>by rw[hq] at h;exact h,λhq=>by rw[hq] at h;exact h⟩
  simp only at hk;refine HF.val (s:=do eqGuard op (mt f t) x y (eb x) (eb y);binOp op (mt f t) (eb x) (eb y)) ?_;have pl2:∀x,opc f 2 x=true->Pl (eb x):=by
   intro x hx;rcases H 2 x hx with h|⟨n,_,_,h⟩ <;>rw[h]
   ·rfl
   ·trivial
  split at hk
  ·rename_i E;simp only[aaZ,Bool.not_eq_true',ac6] at E hk;obtain⟨E,rfl⟩:=E;obtain⟨⟨⟨k1,k2⟩,_⟩,_⟩:=hk;rw[show mt f 5=3 by grind [mt]];exact .bind (.ok (hg _ _ _ (J (pl2 x k1)).1 (J (pl2 x k1)).2)) λ_ w' e=>by
    rw[hg _ _ _ (J (pl2 x k1)).1 (J (pl2 x k1)).2] at e;cases e;exact asl rfl (pl2 x k1) (pl2 y k2) _
  ·simp only[aaZ,ac6] at hk;obtain⟨⟨⟨⟨⟨k1,k2⟩,O⟩,_⟩,k5⟩,_⟩:=hk;have M:Pl (eb x):=by obtain⟨I,h⟩:=H 0 x k2;simp_all
   have p2:Pl (eb y):=by obtain⟨I,h⟩:=H 0 y O;simp_all
   rw[k5];exact .bind (.ok (hg _ _ _ (J M).1 (J M).2)) λ_ w' e=>by
    grind [asl]
 |alloc t=>
  simp only[aaZ,adr,ac6] at hk;refine HF.val (s:=Instr.alloc t true (.tuple #[])) ?_;unfold Instr.alloc;rcases hk.1 with rfl|rfl
  ·exact .bind (.ok (zv3 _)) λ_ _ _=>.bind (.bind (.ok rfl) λ_ _ _=>.pure _ _) λ_ _ _=>.pure _ _
  ·exact .bind (.ok (aui _)) λ_ _ _=>.bind (.bind (.ok rfl) λ_ _ _=>.pure _ _) λ_ _ _=>.pure _ _
 |move x=>exact .pure _ _
 |assign x=>exact .pure _ _
 |pick c x y=>
  refine HF.bind (s:=asBool (eb c)) ?_ λ_ _ _=>.pure _ _
  cases eb c <;>first|exact .pure _ _|exact .stuck _ _
 |unOp op t x=>
  cases op <;>first|cases hk|skip
  simp only[aaZ] at hk;refine HF.val (s:=Op.unary .not (eb x)) ?_;obtain⟨I,h⟩:=H 0 x hk.1;rw[I];cases ea x <;>first|exact .pure _ _|exact .stuck _ _
 |extract x i=>
  refine HF.val (s:=Instr.extract (eb x) i) ?_;unfold Instr.extract;split
  ·split
   ·exact .pure _ _
   ·exact .stuck _ _
  ·exact .stuck _ _
 |convert s d x=>
  simp only[aaZ,adr,ac6] at hk;obtain⟨⟨⟨k1,k2⟩,O⟩,_⟩:=hk;obtain⟨I,h⟩:=H 0 x O;have hs:∃k,P.underlying s=some (.int k):=by
   rcases k1 with k1|⟨_,rfl⟩
   ·exact aqM k1
   simp_all [un5]
  have hd:∃k,P.underlying d=some (.int k):=by
   grind [aqM,un5]
  obtain⟨ks,hs⟩:=hs;obtain⟨kd,hd⟩:=hd;refine HF.val (s:=Go.convert s d (eb x)) ?_;rw[I];intro h' u e;unfold Go.convert at e;simp only[aaw,aas,bT hs,bT hd] at e;cases hx:ea x with
  |int=>rw[hx] at e;cases e
  |bool=>rw[hx] at e;cases e;trivial
  |tuple=>rw[hx] at e;cases e;trivial
  |_=>rw[hx] at h;exact h.elim
 |index t x ix=>
  split at hk <;>first|cases hk|skip
  all_goals simp only[Op.index.injEq,reduceCtorEq] at *
  rename_i _ W _ heq;obtain⟨rfl,rfl,rfl⟩:=heq;simp only[aaZ,ac6] at hk;obtain⟨⟨rfl,k2⟩,_⟩:=hk;refine HF.val (s:=Instr.index 9 (eb (.const (.string W))) (eb ix)) ?_;rw[(hC _).2];unfold Instr.index;refine .bind ?_ λq w' _=>?_
  ·cases eb ix with
   |int=>exact .pure _ _
   |pointer a=>cases a with
    |none=>exact .stuck _ _
    |some a=>exact .aw (an (by simp)) _
   |_=>exact .stuck _ _
  have h9:P.underlying 9=some .string:=by simp_all [aX]
  obtain⟨k,i⟩:=q;refine .bind (.ok (bT h9 w')) λd w2 e=>?_
  rw[bT h9] at e;cases e;simp only;split
  ·exact .pure _ _
  ·exact .aw (dT _ _ _ _) _
 |nilCheck x=>
  simp only[aaZ] at hk;obtain⟨I,M⟩:=H 3 x hk.1;intro h u e;have:(execOp eb ({ dst:=d,op:=.nilCheck x,type:=mt f ty,pos:=p,after:=af,guard:=gd } :Oper)).run P wb=.halt h u:=e;rcases M with h|⟨c,_,h⟩ <;>(simp_all [execOp,undef])
 |call c=>
  obtain⟨U,args,L⟩:=c;cases U with
  |value v=>
   cases v with
   |func g=>
    simp only[aaZ,bne_iff_ne] at hk;obtain⟨⟨⟨h1,_⟩,_⟩,_⟩:=hk;intro h u e;have hr:(execOp eb ({ dst:=d,op:=.call ⟨.value (.func (mf g)),args,L.map (mt f)⟩,type:=mt f ty,pos:=p,after:=af,guard:=gd } :Oper)).run P wb=.halt h u:=e
    grind [asJ,execOp,resolve,Deferred.ofValue,invoke]
   |_=>cases hk
  |builtin bi=>
   cases bi with
   |len=>
    obtain⟨args⟩:=args;obtain⟨L⟩:=L;simp only[aaZ,Bool.not_eq_true',ac6] at hk;obtain⟨⟨⟨E,rfl⟩,k1⟩,_⟩:=hk;obtain⟨x,rfl⟩:∃x,args= [x]:=by
     cases args with
     |nil=>cases k1
     |cons x r=>grind [arp]
    refine HF.val (s:=Builtin.len_ ((⟨[91]⟩:Array aC).map (mt f)) (mt f ty) ((⟨[x]⟩:Array ci).map eb)) ?_;rw[show(⟨[91]⟩:Array aC).map (mt f)= #[28] by grind [mt],show(⟨[x]⟩:Array ci).map eb= #[eb x] by simp];unfold Builtin.len_;simp only[aek,abe];refine .bind (.ok (bT aqB _)) λd w' e=>?_
    rw[bT aqB] at e;cases e;cases eb x <;>first|exact .pure _ _|exact .stuck _ _
   |clear=>
    obtain⟨args⟩:=args;obtain⟨L⟩:=L;simp only[aaZ,Bool.not_eq_true',ac6] at hk;obtain⟨⟨⟨E,rfl⟩,k1⟩,_⟩:=hk;obtain⟨x,rfl⟩:∃x,args= [x]:=by
     cases args with
     |nil=>cases k1
     |cons x r=>grind [arp]
    simp only[arp,Bool.and_true] at k1;refine HF.val (s:=Builtin.clear_ ((⟨[91]⟩:Array aC).map (mt f)) (mt f ty) ((⟨[x]⟩:Array ci).map eb)) ?_;rw[show(⟨[91]⟩:Array aC).map (mt f)= #[28] by grind [mt],show(⟨[x]⟩:Array ci).map eb= #[eb x] by simp];unfold Builtin.clear_;simp only[aek,abe];refine .bind (.ok (bT aqB _)) λd w' e=>?_
    rw[bT aqB] at e;cases e;obtain⟨I,hp⟩:=H 1 x k1;rw[I];rcases hp with hp|⟨n,m,hp⟩|⟨of,n,m,hp⟩|⟨of,hp⟩ <;>rw[hp]
    ·exact .stuck _ _
    ·exact .pure _ _
    ·cases n with
     |zero=>exact .pure _ _
     |succ n=>
      refine .bind (.ok (zv3 _)) λz w2 e=>?_
      rw[zv3] at e;cases e;exact .bind (atD (a:=⟨b,of,none⟩) _ 0 (atc hW) rfl) λ_ _ _=>.pure _ _
    ·exact .stuck _ _
   |_=>cases hk
  |invoke=>cases hk
 |_=>cases hk
end
end Go.Proofs.YtjagmhagphbfcaaGreatDoor.Mi
