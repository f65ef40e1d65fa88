/- Part 31 of a proof (made small by a program; blanks, names and remarks only). -/
import Derived.Conc.LeavingOf
import Derived.Carry
import Derived.LaidMore
import Derived.LaidHandle
import Derived.ChangeSame
import Derived.LaidLaws
import Derived.Test.YtjagmhagphbfcaaGreatDoorCards
import Derived.Test.YtjagmhagphbfcaaGreatDoorTie
import Derived.Test.YtjagmhagphbfcaaGreatDoorW30
set_option maxRecDepth 100000
set_option linter.all false
namespace Go.Proofs.YtjagmhagphbfcaaGreatDoor.cA
open Go Go.Proofs Go.Conc Lo Dn Lw Go.ChangeShapes Go.WideShapes Go.ChangeAt Go.RowKit
def xi:List (String×DataW Unit):= [("nosale/tag.checks",Rows.laid_nosale_tag_checks)]
def nm0:List UInt8:= [40,110,111,115,97,108,101,47,116,97,103,46,104,111,117,115,101,41,46,108,101,116,116,101,114,115]
def nm1:List UInt8:= [40,110,111,115,97,108,101,47,116,97,103,46,104,111,117,115,101,41,46,112,97,105,114,115]
def nm2:List UInt8:= [40,110,111,115,97,108,101,47,116,97,103,46,104,111,117,115,101,41,46,116,97,103,115]
theorem MY:ownKnob Tryz.prog.godebug=none:=by kernel_rfl
theorem Nu:laidOutB Tryz.prog=true:=by kernel_rfl
theorem z0:(((begin Tryz.prog (λ_ _=>0) default).world.heap[0]?).bind Obj.row?).map (λx=>(x.1.size,x.2))=some (3,140):=by kernel_rfl
theorem z1:(((begin Tryz.prog (λ_ _=>0) default).world.heap[1]?).bind Obj.row?).map (λx=>(x.1.size,x.2))=some (1,3):=by kernel_rfl
theorem z2:(((begin Tryz.prog (λ_ _=>0) default).world.heap[2]?).bind Obj.row?).map (λx=>(x.1.size,x.2))=some (256,226):=by kernel_rfl
theorem z3:(((begin Tryz.prog (λ_ _=>0) default).world.heap[3]?).bind Obj.row?).map (λx=>(x.1.size,x.2))=some (32,229):=by kernel_rfl
theorem UT:Tryz.prog.cellTypes Tryz.prog.depth 3=some [3]:=by kernel_rfl
theorem OH:Tryz.prog.globals.size=4:=rfl
theorem oW{W:World}(h:W.ShapedOpen Tryz.prog){g n t:Nat}(hg:g<4)(hz:(((begin Tryz.prog (λ_ _=>0) default).world.heap[g]?).bind Obj.row?).map (λx=>(x.1.size,x.2))=some (n,t)):
  ∃cs,W.heap[g]?=some (.cells cs t)/\cs.size=n/\(Tryz.prog.buildable t=true->Row.ok Tryz.prog W .any 0 t cs):=by
 rw[aeb] at hz;obtain⟨⟨zero,t'⟩,h1,h2⟩:=hz;cases h2;obtain⟨cs,H,E,p⟩:=h.1 g zero t' (by rw[OH];exact hg) h1;exact⟨cs,H,E,p⟩
theorem rj{W:World}{b n t:Nat}{cs:Array Value}(h:W.heap[b]?=some (.cells cs t))(hn:cs.size=n):W.shape? b=some (t,n):=by
 unfold World.shape?;rw[h,<-hn]
theorem OG{W:World}(h:W.ShapedOpen Tryz.prog):AU W/\(∃k n e fr,W.heap[1]?=some (.cells #[.int k n] e fr))/\4<=W.heap.size:=by
 obtain⟨c0,a0,b0,_⟩:=oW h (g:=0) (by decide) z0;obtain⟨c1,a1,b1,d1⟩:=oW h (g:=1) (by decide) z1;obtain⟨c2,a2,b2,_⟩:=oW h (g:=2) (by decide) z2;obtain⟨c3,a3,H,_⟩:=oW h (g:=3) (by decide) z3;refine⟨⟨rj a0 b0,rj a1 b1,rj a2 b2,rj a3 H⟩,?_,(aah.1 a3).1⟩;obtain⟨ts,p,_,E⟩:=d1 (by kernel_rfl);rw[UT] at p;cases p;obtain⟨v,rfl⟩:∃v,c1= #[v]:=⟨c1[0],by apply Array.ext <;>simp_all⟩
 obtain⟨u,hu,hv⟩:=E 0 v rfl;cases hu;unfold Cell.ok at hv;rw[aeO] at hv;cases v with
 |int k n=>exact⟨k,n,_,_,a1⟩
 |_=>exact hv.elim
theorem QZ:((List.range Tryz.prog.funcs.size).filter λf=>(Tryz.prog.funcs[f]?).any (·.name.toUTF8.data.toList==nm0))= [255]:=by kernel_rfl
theorem QY:((List.range Tryz.prog.funcs.size).filter λf=>(Tryz.prog.funcs[f]?).any (·.name.toUTF8.data.toList==nm1))= [256]:=by kernel_rfl
theorem QX:((List.range Tryz.prog.funcs.size).filter λf=>(Tryz.prog.funcs[f]?).any (·.name.toUTF8.data.toList==nm2))= [257]:=by kernel_rfl
theorem Pe:Tryz.prog.cellsOf 139=1:=by kernel_rfl
theorem Pd:Tryz.prog.cellsOf 140=3:=by kernel_rfl
theorem Jl:Tryz.prog.globalNamed "nosale/tag.checks" =some 0:=by kernel_rfl
theorem Qx:(Tryz.prog.globals[0]?).map (·.type)=some 140:=by kernel_rfl
theorem UY{W:World}(h:laidMetH Tryz.prog xi W):∃e fr,W.heap[0]?=some (.cells F0 e fr):=by
 have hf:=laidMetH.funcs h (n:= "nosale/tag.checks") (d:=.agg [.iface "func" (.lit (.string nm0)),.iface "func" (.lit (.string nm1)),.iface "func" (.lit (.string nm2))]) (by exact acE.2 rfl);obtain⟨g,t,cs,fuel,p,hg,ht,hv,hd⟩:=hf;obtain rfl:=adw (Jl.symm.trans hg);obtain rfl:=adw (Qx.symm.trans ht);obtain⟨xs,m,_,hx,hlen,hn,E⟩:=DataW.trod_array Tryz.underlying140 hd;rw[Pd] at hlen;obtain⟨I,x1,H,rfl⟩:=Ri hn;obtain⟨c0,c1,c2,L⟩:=Ri hlen;simp only[Prod.mk.injEq] at hx;have hx1:(DataW.agg [.held nm0,.held nm1,.held nm2]:DataW (List UInt8))=.agg [I.1,x1.1,H.1]:=hx.1;simp only[DataW.agg.injEq,abg,abQ] at hx1;obtain⟨O,N,M⟩:=hx1;rw[Pe,L] at E;have h0:DataW.trod (funcToken Tryz.prog) Tryz.prog W 0 (λ_=>true) true m 139 [c0]=some I:=E 0 (by decide);have h1:DataW.trod (funcToken Tryz.prog) Tryz.prog W 0 (λ_=>true) true m 139 [c1]=some x1:=E 1 (by decide);have h2:DataW.trod (funcToken Tryz.prog) Tryz.prog W 0 (λ_=>true) true m 139 [c2]=some H:=E 2 (by decide);obtain⟨Y,p0⟩:=I;obtain⟨y1,Z⟩:=x1;obtain⟨y2,p2⟩:=H;simp only at O N M;subst O N M;have r0:=func_of_trod Tryz.underlying139 QZ h0;have r1:=func_of_trod Tryz.underlying139 QY h1;have U:=func_of_trod Tryz.underlying139 QX h2;subst r0 r1 U;have J:cs=F0:=by
  rw[<-Array.toList_inj,L];rfl
 subst J;unfold World.var? at hv;rw[Jl] at hv;simp only[abN] at hv;split at hv
 ·rename_i V e fr hz;cases hv;exact⟨e,fr,hz⟩
 ·cases hv
section
variable{H:Type}{enc:TypeId×Value->H}
theorem AN{W J:World}(hb:Below W.heap.size W J):∀ {ts:List TypeId} {vs:List Value} {E:List (DataW H)} {ps:List MemPlace},(∀t∈ts,Tryz.prog.readableRec t=true/\t<Tryz.prog.types.size)->DataW.TrodAll enc Tryz.prog W 0 (λ_=>true) true ts vs E ps->
  (∀x∈ps,x.block<W.heap.size)->DataW.TrodAll enc Tryz.prog J 0 (λb=>decide (b<W.heap.size)) true ts vs E ps
 | [],vs,E,ps,_,h,_=>by
  obtain⟨rfl,rfl,rfl⟩:=trodAll_nil h;exact rfl
 |t::ts,vs,E,ps,ht,h,I=>by
  obtain⟨v,L,d,O,p,q,rfl,rfl,rfl,h1,h2⟩:=trodAll_cons h;obtain⟨r1,N⟩:=ht t (by simp);exact⟨p,q,Below.trod Nu r1 N h1 hb (λx hx=>I x (by simp[hx])),AN hb (λt M=>ht t (by simp[M])) h2 (λx hx=>I x (by simp[hx])),rfl⟩
theorem Rl{f:FuncId}{fn:Func}{cd:Code}{s:ChangeSpec}{os:Os}(started:os.Started)(Z:Tryz.prog.funcs[f]?=some fn)(L:fn.body=some cd)(hK:KL.s f=true)(Xl:f≠17)(Xj:f≠41)(J:fn.resultTypes= #[4])
  (V:∀t∈fn.params.toList,Tryz.prog.readableRec t=true/\t<Tryz.prog.types.size) (TJ:s.vars= []) (Z5:∀E:List (DataW H),E.length=fn.params.size->s.fn H E= { results:= [.lit (.bool true)],args:=E })
  (witness:∃(w:World) (tape:Tape) (i:Input),w.os=os/\(w.forCall tape i).Shaped Tryz.prog/\i.vars= []/\Input.okWide Tryz.prog (w.forCall tape i) .any w.heap.size f i/\
   ((s.pre enc Tryz.prog fn [] false (w.forCall tape i).memory i.args/\laidMetH Tryz.prog xi (w.forCall tape i).memory)/\sizedMet enc Tryz.prog fn (OpenSpec.ofChange s) false (w.forCall tape i).memory i.args)/\
    ({} :Assume).holds Tryz.prog (lone (Frame.enter Tryz.prog f i.args .normal) [] (w.forCall tape i)))
  (Y:∀(W:World) (base:Nat) (args:Array Value) (E:List (DataW H)) (ps:List MemPlace),AU W->(∀(j:Nat) t v,fn.params[j]?=some t->args[j]?=some v->Value.okWide Tryz.prog W .any base t v)->
   DataW.TrodAll enc Tryz.prog W 0 (λ_=>true) true fn.params.toList args.toList E ps->∃la,qL W args.toList la/\aq PL f la (.b true)):
  ReturnsInLeavingWide {} Tryz.checked os f .any (λw args=>(s.pre enc Tryz.prog fn [] false w args/\laidMetH Tryz.prog xi w)/\sizedMet enc Tryz.prog fn (OpenSpec.ofChange s) false w args)
   (s.post enc Tryz.prog fn false true false false):=by
 refine returnsInLeavingWide_of_good (C:=Tryz.checked) MY started witness ?_;intro w tape i _ qp _ iD Ce _;obtain⟨_,_,_,fh,U,_,_,_,_,Kz⟩:=iD;have e:fh=fn:=adw (U.symm.trans Z);subst e;obtain⟨⟨⟨E,gs,before,hw,_⟩,hl⟩,_⟩:=Ce;have cO:=DataW.Whole.of_heap (w':=w.forCall tape i) (by rfl) hw;have sM:laidMetH Tryz.prog xi (w.forCall tape i):=hl.of_heap (by rfl);generalize w.forCall tape i=W at *;obtain⟨hG,c7,h4⟩:=OG qp;have hT:sF W:=⟨UY sM,c7⟩
 have Xa:=cO;obtain⟨p,q,O,hV,N,_,_⟩:=cO;rw[TJ] at hV;obtain⟨rfl,rfl⟩:=trodVars_none hV;have aK:∀x∈p,x.block<W.heap.size:=λx hx=>Xa.lt x (by rw[N];simp[hx])
 obtain⟨la,ho,hc⟩:=Y W _ i.args E p hG Kz O;obtain⟨ws,ys,k1,_,k3⟩:=ho [];obtain⟨q1,q2⟩:=k3 [];simp only[aaV,acO] at q1 q2;have hlen:E.length=fh.params.size:=by have:=(trodAll_length O).2;simpa using this
 obtain⟨M,last,o,w',t',h1,h2,h3,Ap⟩:=Nr hK ⟨fh,cd,(MM f Xl Xj).trans Z,L⟩ hT h4 k1 (args:=i.args) (by simpa using q1) hc q2;refine⟨M,last,o,w',t',h1,h2,h3,Ap.mono λv hF=>?_⟩;refine ChangeSpec.post_blind ?_;obtain⟨rfl,E1⟩:=hF;have I:=Z5 E hlen;refine⟨E,[],before,[],p,[],Xa,?_,?_,?_,E1.frame _,λh=>by cases h⟩
 ·rw[acO,I,J];exact trodAll_mk1 (shut_bool af7 _)
 ·rw[acO,I];exact AN E1 V O aK
 ·rw[TJ,acO,I];exact rfl
end
theorem O8(os:Os)(args:Array Value):laidMetH Tryz.prog xi ((World.doorLaid Tryz.prog 40 os).forCall (λ_ _=>0) ⟨#[],args,[]⟩).memory:=
 laidMetH_of_parts3 (fuel:=8) (laidMet_of_run' 8 (by kernel_rfl) (by kernel_rfl)) (by kernel_rfl) (by kernel_rfl)
def Xv:Value:=.agg #[.string ⟨#[]⟩,.string ⟨#[]⟩,.string ⟨#[]⟩,.slice none 0 0,.slice none 0 0]
theorem Lf{s:OpenSpec}{c:OpenClaim}(hc:c.holds Tryz.pinned s)(hw:c.wfByText s=true)(p:c.laidByTextAt .later Tryz.pinned [.funcs] true)
  (I:c.start=.entering) (hnb:c.noBlocks=false/\c.again=false) (hm:Tryz.pinned.checked.prog.mainIs=some (true, "f07a5fa70ed6775463b7a086f57573263f2086de7ec9f9dbb2d285f1a5080804".toList))
  (hl:∀f fn,Tryz.pinned.checked.prog.funcNamed c.func=some f->Tryz.pinned.checked.prog.funcs[f]?=some fn->false=Tryz.pinned.checked.prog.looks []/\∀(j:Nat) t,fn.params[j]?=some t->Tryz.pinned.checked.prog.wantsStandIn t=false)
  (hg:true=c.goesBy Tryz.pinned.checked.prog):
  Claim7.holds Tryz.pinned (.plain s) { stood:= { row:=c,standIns:= [],harness:=(true, "f07a5fa70ed6775463b7a086f57573263f2086de7ec9f9dbb2d285f1a5080804"),looks:=false },kinds:= [],alts:= [],goes:=true,laidByText:=true,laidKinds:= [.funcs],laidTests:=true,laidLooks:=.later } :=by
 have H:∀r:OpenClaim,Claim7.isSixth { stood:= { row:=r,standIns:= [],harness:=(true, "f07a5fa70ed6775463b7a086f57573263f2086de7ec9f9dbb2d285f1a5080804"),looks:=false },kinds:= [] } =false:=λr=>by simp[Claim7.isSixth]
 exact⟨Claim7.tied_new_at .later [.funcs] true (Claim7.new_of_sixth hc (true, "f07a5fa70ed6775463b7a086f57573263f2086de7ec9f9dbb2d285f1a5080804") false I hnb hm (H c) hl) hw,(λD E=>by cases E),p,(λh=>by cases h),hg⟩
section
variable{H:Type}{enc:TypeId×Value->H}{W:World}
theorem aka{t u:TypeId}{k:IntKind}(ht:Tryz.prog.underlying t=some (.slice u))(hu:Tryz.prog.underlying u=some (.int k))(hc:Tryz.prog.cellsOf u=1)(ha:CR Tryz.prog u=true){base:Nat}{sp:Nat->Bool}(N:∀b,sp b=true){held:Bool}
  {v:Value} {d:DataW H} {ps:List MemPlace} (U:AU W) {b0:Nat} (E:Value.okWide Tryz.prog W .any b0 t v) (h:DataW.Trod enc Tryz.prog W base sp held t v d ps):
  ∃l:List Int,iw W v (.sq none 1 (l.map (.i k)))/\∀n∈l,(Lit.int k n).wf=true:=by
 have aj6:Cell.okWide Tryz.prog W .any b0 t v:=by
  unfold Value.okWide at E;rw[ht] at E;exact E
 have hv:∃a len cap,v=.slice a len cap:=by
  unfold Cell.okWide at aj6;rw[ht] at aj6;simp only at aj6;unfold Cell.ok at aj6;rw[ht] at aj6;cases v with
  |slice a len cap=>exact⟨a,len,cap,rfl⟩
  |_=>exact aj6.elim
 obtain⟨a,len,cap,rfl⟩:=hv;obtain⟨fuel,h⟩:=h;rcases open_ints ht hu hc h with ⟨e,_⟩|⟨a',J,Z,p,e,_,hl,_,hlen,_,V,I⟩
 ·have e:Value.slice a len cap=.slice none 0 0:=by simpa[Value.cells] using e
  rw[e];exact⟨[],.nil 1,by simp⟩
 ·have e:Value.slice a len cap=.slice (some a') J Z:=by simpa[Value.cells] using e
  cases e;rw[N,aay rfl] at hlen;obtain⟨_,hh⟩:=xU ht aj6;obtain⟨M,hs,L⟩:=Ov U (λm u'=>by rw[hu];simp) ha hh;obtain⟨c,o,spot⟩:=a';simp only at hs M L;subst hs;have gf:∀(g:Gh) (w:World) (l:List Int),cS g w (l.map (AV.i k)) (l.map (Value.int k)):=by
   intro g w l
   induction l with
   |nil=>exact .nil g w
   |cons n l O=>exact .cons (.i k n) O
  refine⟨p.take len,iw.sl (ys:=(p.take len).map (Value.int k)) (by decide) M L (by simp[hlen];omega) hl (λv hv=>?_) (λv hv=>?_) (λg w=>gf g w _) (λi v hi=>?_),λn hn=>I n (aee hn)⟩
  ·obtain⟨n,_,rfl⟩:=ac4.1 hv;exact xR k n
  ·obtain⟨n,_,rfl⟩:=ac4.1 hv;rfl
  ·rw[aeq] at hi;cases hs:(p.take len)[i]? with
   |none=>rw[hs] at hi;cases hi
   |some n=>
    rw[hs] at hi;cases hi;rw[acF] at hs;split at hs
    ·have Y:=(abi.1 hs).1;have:=V i Y;rw[abM,hs] at this;simpa[c9] using this
    ·cases hs
end
end Go.Proofs.YtjagmhagphbfcaaGreatDoor.cA
namespace Go.Proofs.YtjagmhagphbfcaaGreatDoor
@[simp] abbrev aih:List Nat:=[0,1,2,3,4,32,37,46,51,61]
end Go.Proofs.YtjagmhagphbfcaaGreatDoor
namespace Go.Proofs.YtjagmhagphbfcaaGreatDoor.Dn
open Go Go.Proofs Lo Lw
section
variable{P:Program}[l:cL P]
def gC(h:ay):Bool:=decide (40<h.L.length)||decide (40<h.S.length)||decide (40<h.R.length)||decide (20<h.alike.length)||decide (20<h.tags.length)||h.alike.any (λs=>decide (40<s.length))||h.tags.any (λt=>decide (40<t.reads.length))
theorem Jp{h:ay}(hg:gC h=false):Fair h:=by
 simp only[gC,Bool.or_eq_false_iff,aac,ag8,aan] at hg;obtain⟨⟨⟨⟨⟨⟨h1,h2⟩,J⟩,I⟩,H⟩,E⟩,p⟩:=hg;exact⟨by omega,by omega,by omega,by omega,λs hs=>by have:=E s hs;omega,by omega,λt ht=>by have:=p t ht;omega⟩
theorem E_{h:ay}(hg:40<h.L.length\/40<h.S.length\/40<h.R.length\/20<h.alike.length\/20<h.tags.length):gC h=true:=by
 simp only[gC,adr,aan];rcases hg with g|g|g|g|g <;>simp[g]
theorem KY(h:ay):aq P 16 [.ag (aa h)] (.b (gC h)):=by
 have V:(aa h).map AV.strip=aa h:=by simp[aa]
 refine cok (au P) func16 rfl rfl ?_;have L:=cV h.tags
 repeat' (first|refine nI ?_|(refine eI aih ?_;intro K p;simp[aa,L];first|apply p|(refine aE (λhc=>?_) (λhc=>?_) <;>(try simp only[aan,aac] at hc) <;>simp[hc,aa,L] <;>repeat' (first|apply p|(refine aE (λhc=>?_) (λhc=>?_) <;>(try simp only[aan,aac] at hc) <;>simp[hc,aa,L])|fail))|fail)|fail)
 all_goals try (have H:gC h=true:=E_ (by omega);simp[Fin,aH,Tryz.f16,H];done)
 by_cases g5:20<(h.tags.length:Int)
 ·have H:gC h=true:=E_ (by omega);have I:=g5
  repeat' (first|refine nI ?_|(refine eI aih ?_;intro K p;simp[aa,I];apply p)|fail)
  simp[Fin,aH,Tryz.f16,H]
 ·have I:=g5
  repeat' (first|refine nI ?_|(refine eI aih ?_;intro K p;simp[aa,I];apply p)|fail)
  have na:h.alike.length<=20:=by omega
  have nt:h.tags.length<=20:=by omega
  refine bE (λd T B lv nx=>∃k,k+d=h.alike.length/\T 1=.sp (aa h)/\T 3=.i .i64 k/\∀s∈h.alike.take k,¬40<s.length) h.alike.length ?_ ?_
  ·exact⟨0,by simp,by simp[aa],by simp,by simp⟩
  rintro d T B lv nx ⟨k,hk,t1,t3,hp⟩;have w1:=aS ((k:Int)+1) (by omega) (by omega);by_cases E:k<h.alike.length
  ·have J:(h.alike.map AV.s).drop k=.s h.alike[k]::(h.alike.map AV.s).drop (k+1):=by rw[aa4 (by simpa using E)];simp
   have O:h.alike[k]?=some h.alike[k]:=aaf E;have M:h.alike.take (k+1)=h.alike.take k++ [h.alike[k]]:=aaN E;have hm:h.alike[k]∈h.alike:=abG E;generalize h.alike[k]=s at J O M hm;by_cases h40:40<(s.length:Int)
   ·have H:gC h=true:=by
     have:h.alike.any (λs=>decide (40<s.length))=true:=afl.2 ⟨s,hm,by simp;omega⟩;simp[gC,this]
    repeat' (first|refine nI ?_|(refine eI aih ?_;intro K p;simp[t1,t3,aa,E,J,O,h40,w1];apply p)|fail)
    simp[Fin,aH,Tryz.f16,H]
   ·repeat' (first|refine nI ?_|(refine eI aih ?_;intro K p;simp[t1,t3,aa,E,J,O,h40,w1];apply p)|fail)
    refine aN (d-1) (by omega) ⟨k+1,by omega,by simp[t1,aa],by simp,λx hx=>?_⟩;rw[M,abH] at hx;rcases hx with hx|hx
    ·exact hp x hx
    ·simp only[abZ,adz,aeP] at hx;subst hx;omega
  ·have N:k=h.alike.length:=by omega
   subst N;rw[aeo] at hp
   repeat' (first|refine nI ?_|(refine eI aih ?_;intro K p;simp[t1,t3,aa];apply p)|fail)
   refine bE (λd T B lv nx=>∃k,k+d=h.tags.length/\T 1=.sp (aa h)/\T 4=.i .i64 k/\∀t∈h.tags.take k,¬40<t.reads.length) h.tags.length ?_ ?_
   ·exact⟨0,by simp,by simp[aa],by simp,by simp⟩
   rintro d T B lv nx ⟨k,hk,t1,t4,U⟩;have w1:=aS ((k:Int)+1) (by omega) (by omega);by_cases E:k<h.tags.length
   ·have J:=fA h.tags k h.tags[k] (aaf E);have hle:(k+1)*3<=h.tags.length*3:=by omega
    have M:h.tags.take (k+1)=h.tags.take k++ [h.tags[k]]:=aaN E;have hm:h.tags[k]∈h.tags:=abG E;generalize h.tags[k]=t at J M hm;by_cases h40:40<(t.reads.length:Int)
    ·have H:gC h=true:=by
      have:h.tags.any (λt=>decide (40<t.reads.length))=true:=afl.2 ⟨t,hm,by simp;omega⟩;simp[gC,this]
     repeat' (first|refine nI ?_|(refine eI aih ?_;intro K p;simp[t1,t4,aa,E,L,hle,J,h40,w1];apply p)|fail)
     simp[Fin,aH,Tryz.f16,H]
    ·repeat' (first|refine nI ?_|(refine eI aih ?_;intro K p;simp[t1,t4,aa,E,L,hle,J,h40,w1];apply p)|fail)
     refine aN (d-1) (by omega) ⟨k+1,by omega,by simp[t1,aa],by simp,λx hx=>?_⟩;rw[M,abH] at hx;rcases hx with hx|hx
     ·exact U x hx
     ·simp only[abZ,adz,aeP] at hx;subst hx;omega
   ·have N:k=h.tags.length:=by omega
    subst N;rw[aeo] at U;have H:gC h=false:=by
     simp only[gC,Bool.or_eq_false_iff,aac,ag8,aan];exact⟨⟨⟨⟨⟨⟨by omega,by omega⟩,by omega⟩,by omega⟩,by omega⟩,hp⟩,U⟩
    repeat' (first|refine nI ?_|(refine eI aih ?_;intro K p;simp[t1,t4,aa,L];apply p)|fail)
    simp[Fin,aH,Tryz.f16,H]
end
section
variable{P:Program}[l:cL P]
theorem BE(s:List UInt8)(hs:s.length<1000000):aq P 83 [.s s] (.i .i64 (aM s)):=by
 obtain⟨A,N,H⟩:=ca (VL (P:=P) s.length 1 5);obtain⟨B,M,E⟩:=ca (uA (P:=P) s 63 hs);obtain⟨C,L,hC⟩:=ca (Eg (P:=P) s 63 hs);have O:(((63:UInt8).toNat:Nat):Int)=63:=rfl;rw[O] at E hC;refine cok (ak call42 N (ak call138 M (ak call124 L (au P)))) func83 rfl rfl ?_;by_cases h1:(1:Int)<=s.length/\(s.length:Int)<=5
 ·have hb:¬(s.length<1\/5<s.length):=by omega
  have hd:(decide ((1:Int)<=s.length)&&decide ((s.length:Int)<=5))=true:=by simp;omega
  rw[hd] at H;cases h2:bA s 63 with
  |false=>
   rw[h2] at E
   repeat' (first|refine nI ?_|(refine eI [0,2,6,9,12] ?_;intro K p;simp[ab,az,H,E];apply p)|fail)
   have hv:aM s=3:=by unfold aM;rw[aat hb,aay h2]
   simp[Fin,aH,Tryz.f83,hv]
  |true=>
   rw[h2] at E;by_cases J:(2:Int)<s.count 63
   ·have I:2<s.count 63:=by omega
    repeat' (first|refine nI ?_|(refine eI [0,2,6,9,12] ?_;intro K p;simp[ab,az,H,E,hC,J];apply p)|fail)
    have hv:aM s=2:=by unfold aM;rw[aat hb,aat (by rw[h2];decide),aay I]
    simp[Fin,aH,Tryz.f83,hv]
   ·have I:¬2<s.count 63:=by omega
    repeat' (first|refine nI ?_|(refine eI [0,2,6,9,12] ?_;intro K p;simp[ab,az,H,E,hC,J];apply p)|fail)
    have hv:aM s=0:=by unfold aM;rw[aat hb,aat (by rw[h2];decide),aat I]
    simp[Fin,aH,Tryz.f83,hv]
 ·have hb:s.length<1\/5<s.length:=by omega
  have hd:(decide ((1:Int)<=s.length)&&decide ((s.length:Int)<=5))=false:=by
   cases hx:(decide ((1:Int)<=s.length)&&decide ((s.length:Int)<=5)) with
   |false=>rfl
   |true=>simp at hx;omega
  rw[hd] at H
  repeat' (first|refine nI ?_|(refine eI [0,2,6,9,12] ?_;intro K p;simp[ab,az,H];apply p)|fail)
  have hv:aM s=2:=by unfold aM;rw[aay hb]
  simp[Fin,aH,Tryz.f83,hv]
theorem Gi(a b H hi:Int):aq P 152 [.ag [.i .i64 a,.i .i64 b],.i .i64 H,.i .i64 hi] (.b (decide (H<=a/\a<=b/\b<=hi))):=by
 refine cok (au P) func152 rfl rfl ?_;by_cases h1:H<=a
 ·by_cases h2:a<=b
  ·by_cases E:b<=hi
   ·repeat' (first|refine nI ?_|(refine eI [0,1,2,3,6] ?_;intro K p;simp[h1,h2,E];apply p)|fail)
    simp[Fin,aH,Tryz.f152,h1,h2,E]
   ·repeat' (first|refine nI ?_|(refine eI [0,1,2,3,6] ?_;intro K p;simp[h1,h2,E];apply p)|fail)
    simp[Fin,aH,Tryz.f152,h1,h2,E]
  ·repeat' (first|refine nI ?_|(refine eI [0,1,2,3,6] ?_;intro K p;simp[h1,h2];apply p)|fail)
   simp[Fin,aH,Tryz.f152,h1,h2]
 ·repeat' (first|refine nI ?_|(refine eI [0,1,2,3,6] ?_;intro K p;simp[h1];apply p)|fail)
  simp[Fin,aH,Tryz.f152,h1]
theorem BG(a b:Int):aq P 110 [.ag [.i .i64 a,.i .i64 b]] (.b (dR a b)):=by
 obtain⟨A,H,E⟩:=ca (Gi (P:=P) a b 0 99999);refine cok (ak call152 H (au P)) func110 rfl rfl ?_
 repeat' (first|refine nI ?_|(refine eI [0,1,2] ?_;intro K p;simp[ab,E];apply p)|fail)
 simp[Fin,aH,Tryz.f110,dR]
end
end Go.Proofs.YtjagmhagphbfcaaGreatDoor.Dn
namespace Go.Proofs.YtjagmhagphbfcaaGreatDoor
@[simp] abbrev aia:List Nat:=[0,1,2,3,4,32,45,57,71]
end Go.Proofs.YtjagmhagphbfcaaGreatDoor
namespace Go.Proofs.YtjagmhagphbfcaaGreatDoor.Dn
open Go Go.Proofs Lo Lw
section
variable{P:Program}[l:cL P]
theorem L9{c d:UInt8}(h:(c.toNat:Int)=d.toNat):c=d:=UInt8.toNat_inj.1 (by omega)
theorem uB:∃F:List AV->Option AV,Den P 138 F/\∀(s:List UInt8) (c:UInt8),s.length<1000000->F [.s s,.i .u8 c.toNat]=some (.b (bA s c)):=by
 obtain⟨F,h1,h2⟩:=cC (P:=P) (f:=138) (ι:=List UInt8×UInt8) (λx=> [.s x.1,.i .u8 x.2.toNat]) (λx=>.b (bA x.1 x.2)) (λx=>x.1.length<1000000) (λx y _ _ e=>by
  simp only[abg,AV.s.injEq,AV.i.injEq,adM,abQ] at e;rw[e.1,L9 e.2]) (λx hx=>uA x.1 x.2 hx)
 exact⟨F,h1,λs c hs=>h2 (s,c) hs⟩
theorem Ng:∃F:List AV->Option AV,Den P 124 F/\∀(s:List UInt8) (c:UInt8),s.length<1000000->F [.s s,.i .u8 c.toNat]=some (.i .i64 (s.count c)):=by
 obtain⟨F,h1,h2⟩:=cC (P:=P) (f:=124) (ι:=List UInt8×UInt8) (λx=> [.s x.1,.i .u8 x.2.toNat]) (λx=>.i .i64 (x.1.count x.2)) (λx=>x.1.length<1000000) (λx y _ _ e=>by
  simp only[abg,AV.s.injEq,AV.i.injEq,adM,abQ] at e;rw[e.1,L9 e.2]) (λx hx=>Eg x.1 x.2 hx)
 exact⟨F,h1,λs c hs=>h2 (s,c) hs⟩
theorem D1(h:ay)(hL:h.L.length<1000)(hS:h.S.length<1000)(hR:h.R.length<1000):aq P 108 [.ag (aa h)] (.i .i64 (bB h)):=by
 obtain⟨A,ad,W⟩:=uB (P:=P);obtain⟨C,cd,hC⟩:=Ng (P:=P);have a1:=W h.L 63 (by omega);have a2:=W h.S 65 (by omega);have a3:=W h.R 65 (by omega);have c1:=hC h.L 63 (by omega);have Gb:(((63:UInt8).toNat:Nat):Int)=63:=rfl;have e65:(((65:UInt8).toNat:Nat):Int)=65:=rfl;rw[Gb] at a1 c1;rw[e65] at a2 a3;have i10:((h.L.length:Int)==10)=(h.L.length==10):=by
  rw[adX];simp only[ac6];omega
 have V:((h.S.length:Int)==(h.L.count 63:Int))=(h.S.length==h.L.count 63):=by
  rw[adX];simp only[ac6];omega
 refine cok (ak call138 ad (ak call124 cd (au P))) func108 rfl rfl ?_;by_cases b1:h.L.length=10
 ·have E:(h.L.length==10)=true:=by simp[b1]
  cases b2:bA h.L 63 with
  |false=>
   rw[b2] at a1
   repeat' (first|refine nI ?_|(refine eI aia ?_;intro K p;simp[aa,i10,E,bne,ab,a1];apply p)|fail)
   simp[Fin,aH,Tryz.f108,bB,b1,b2]
  |true=>
   rw[b2] at a1;cases H:bA h.S 65 with
   |false=>
    rw[H] at a2
    repeat' (first|refine nI ?_|(refine eI aia ?_;intro K p;simp[aa,i10,E,bne,ab,a1,a2];apply p)|fail)
    simp[Fin,aH,Tryz.f108,bB,b1,b2,H]
   |true=>
    rw[H] at a2;by_cases b4:1<h.R.length
    ·have J:(1:Int)<h.R.length:=by omega
     repeat' (first|refine nI ?_|(refine eI aia ?_;intro K p;simp[aa,i10,E,bne,ab,a1,a2,J];apply p)|fail)
     simp[Fin,aH,Tryz.f108,bB,b1,b2,H,b4]
    ·have J:¬(1:Int)<h.R.length:=by omega
     cases I:bA h.R 65 with
     |false=>
      rw[I] at a3
      repeat' (first|refine nI ?_|(refine eI aia ?_;intro K p;simp[aa,i10,E,bne,ab,a1,a2,J,a3];apply p)|fail)
      simp[Fin,aH,Tryz.f108,bB,b1,b2,H,b4,I]
     |true=>
      rw[I] at a3;by_cases b6:h.S.length=h.L.count 63
      ·have O:(h.S.length==h.L.count 63)=true:=by simp[b6]
       by_cases b7:4<h.S.length
       ·have Y:(4:Int)<h.S.length:=by omega
        repeat' (first|refine nI ?_|(refine eI aia ?_;intro K p;simp[aa,i10,E,bne,ab,az,a1,a2,J,a3,c1,V,O,Y];apply p)|fail)
        have hv:bB h=2:=by
         unfold bB;rw[aat (by rw[b2,H,I];simp;omega),aay (by omega)]
        simp[Fin,aH,Tryz.f108,hv]
       ·have Y:¬(4:Int)<h.S.length:=by omega
        have hv:bB h=if dup (h.L++h.S++h.R)=true then 5 else 0:=by
         unfold bB;rw[aat (by rw[b2,H,I];simp;omega),aat (by omega)]
        have n1:¬(9223372036854775807:Int)<(h.L.length:Int)+h.S.length:=by omega
        have n2:¬(9223372036854775807:Int)<(h.L.length:Int)+h.S.length+h.R.length:=by omega
        repeat' (first|refine nI ?_|(refine eI aia ?_;intro K p;simp[aa,i10,E,bne,ab,az,a1,a2,J,a3,c1,V,O,Y,n1,n2];apply p)|fail)
        have F3:(h.L++h.S++h.R).length<3000:=by simp only[abj];omega
        refine bE (λd T B lv nx=>∃k,k+d=(h.L++h.S++h.R).length/\T 3=.s (h.L++h.S++h.R)/\T 4=.i .i64 k/\((h.L++h.S++h.R).take k).any (λc=>c !=63&&decide (1<(h.L++h.S++h.R).count c))=false) (h.L++h.S++h.R).length ?_ ?_
        ·exact⟨0,by simp,by simp,by simp,by simp⟩
        rintro d T B lv nx ⟨k,hk,t3,t4,hp⟩;have w1:=aS ((k:Int)+1) (by omega) (by omega);generalize h.L++h.S++h.R=w at *;by_cases N:k<w.length
        ·have LW:=hC w w[k] (by omega);have U:((w[k].toNat:Int)==63)=(w[k]==63):=kn w[k] 63 (by omega);have jF:(w.take (k+1)).any (λc=>c !=63&&decide (1<w.count c))=(w[k] !=63&&decide (1<w.count w[k])):=by
          rw[aaN N,aeC,hp];simp
         cases M:(w[k]==63) with
         |true=>
          repeat' (first|refine nI ?_|(refine eI aia ?_;intro K p;simp[t3,t4,N,bne,U,M,w1];apply p)|fail)
          refine aN (d-1) (by omega) ⟨k+1,by omega,by simp[t3],by simp,by rw[jF];simp[bne,M]⟩
         |false=>
          by_cases WX:(1:Int)<(w.count w[k]:Int)
          ·have Z:1<w.count w[k]:=by omega
           have hd:dup w=true:=by
            unfold dup;rw[afl];exact⟨w[k],abG N,by simp[bne,M,Z]⟩
           rw[hd] at hv
           repeat' (first|refine nI ?_|(refine eI aia ?_;intro K p;simp[t3,t4,N,bne,U,M,w1,ab,az,LW,WX];apply p)|fail)
           simp[Fin,aH,Tryz.f108,hv]
          ·have Z:¬1<w.count w[k]:=by omega
           repeat' (first|refine nI ?_|(refine eI aia ?_;intro K p;simp[t3,t4,N,bne,U,M,w1,ab,az,LW,WX];apply p)|fail)
           refine aN (d-1) (by omega) ⟨k+1,by omega,by simp[t3],by simp,by rw[jF];simp[Z]⟩
        ·have gg:k=w.length:=by omega
         subst gg;have hd:dup w=false:=by simpa[dup] using hp
         rw[hd] at hv
         repeat' (first|refine nI ?_|(refine eI aia ?_;intro K p;simp[t3,t4];apply p)|fail)
         simp[Fin,aH,Tryz.f108,hv]
      ·have O:(h.S.length==h.L.count 63)=false:=by simp[b6]
       repeat' (first|refine nI ?_|(refine eI aia ?_;intro K p;simp[aa,i10,E,bne,ab,az,a1,a2,J,a3,c1,V,O];apply p)|fail)
       have hv:bB h=2:=by
        unfold bB;rw[aat (by rw[b2,H,I];simp;omega),aay (by omega)]
       simp[Fin,aH,Tryz.f108,hv]
 ·have E:(h.L.length==10)=false:=by simp[b1]
  repeat' (first|refine nI ?_|(refine eI aia ?_;intro K p;simp[aa,i10,E,bne];apply p)|fail)
  simp[Fin,aH,Tryz.f108,bB,b1]
end
end Go.Proofs.YtjagmhagphbfcaaGreatDoor.Dn
namespace Go.Proofs.YtjagmhagphbfcaaGreatDoor
@[simp] abbrev ah1:List Nat:=[0,2,3,4,7,11,27,38,41,78]
end Go.Proofs.YtjagmhagphbfcaaGreatDoor
namespace Go.Proofs.YtjagmhagphbfcaaGreatDoor.Dn
open Go Go.Proofs Lo Lw
section
variable{P:Program}[l:cL P]
theorem BJ(a:List (List UInt8))(ht:∀s∈a,s.length<1000000):aq P 109 [strs a] (.i .i64 (bj a)):=by
 obtain⟨A,ad,hA⟩:=uB (P:=P);have e65:(((65:UInt8).toNat:Nat):Int)=65:=rfl;refine cok (ak call138 ad (au P)) func109 rfl rfl ?_;by_cases h5:4<a.length
 ·have E8:(4:Int)<a.length:=by omega
  repeat' (first|refine nI ?_|(refine eI ah1 ?_;intro K E;simp[strs,E8];apply E)|fail)
  simp[Fin,aH,Tryz.f109,bj,h5]
 ·have E8:¬(4:Int)<a.length:=by omega
  repeat' (first|refine nI ?_|(refine eI ah1 ?_;intro K E;simp[strs,E8];apply E)|fail)
  refine bE (λd' T B lv nx=>∃k,k+d'=a.length/\T 0=strs a/\T 3=.i .i64 k/\bj a=cb (a.take k) (a.drop k)/\∀s∈a.take k,s.length=2) a.length ?_ ?_
  ·exact⟨0,by simp,by simp[strs],by simp,by simp[bj,h5],by simp⟩
  ·rintro d' T B lv nx ⟨k,hk,t0,t3,hp,h2⟩;have w1:=aS ((k:Int)+1) (by omega) (by omega);by_cases H:k<a.length
   ·have rM:a.drop k=a[k]::a.drop (k+1):=aa4 H;have jF:a.take (k+1)=a.take k++ [a[k]]:=aaN H;rw[rM] at hp;have O:=hA a[k] 65 (ht _ (abG H));rw[e65] at O;have J:(a.map AV.s).drop k=.s a[k]::(a.map AV.s).drop (k+1):=by rw[aa4 (by simpa using H)];simp
    have I:a[k]?=some a[k]:=aaf H;by_cases hl2:a[k].length=2
    ·obtain⟨y,z,hs⟩:∃y z,a[k]= [y,z]:=by
      match a[k],hl2 with
      | [y,z],_=>exact⟨y,z,rfl⟩
     rw[hs] at O hp J I;have Jc:=dV y z;have Cp:∀s∈a.take (k+1),s.length=2:=by
      intro s V;rw[jF] at V;rcases abH.1 V with V|V
      ·exact h2 s V
      ·rw[acE.1 V];exact hl2
     cases W:bA [y,z] 65 with
     |false=>
      rw[W] at O;have hv:bj a=3:=by rw[hp];simp[cb,eR,W]
      repeat' (first|refine nI ?_|(refine eI ah1 ?_;intro K E;simp[t0,t3,strs,H,J,I,ab,O,w1,bne];apply E)|fail)
      simp[Fin,aH,Tryz.f109,hv]
     |true=>
      rw[W] at O;cases Hj:(y==z) with
      |true=>
       have yR:y=z:=by simpa using Hj
       have hv:bj a=5:=by rw[hp];subst yR;simp[cb,eR,W]
       repeat' (first|refine nI ?_|(refine eI ah1 ?_;intro K E;simp[t0,t3,strs,H,J,I,ab,O,Jc,Hj,w1,bne];apply E)|fail)
       simp[Fin,aH,Tryz.f109,hv]
      |false=>
       have yR:¬y=z:=by simpa using Hj
       repeat' (first|refine nI ?_|(refine eI ah1 ?_;intro K E;simp[t0,t3,strs,H,J,I,ab,O,Jc,Hj,w1,bne];apply E)|fail)
       refine bE (λd2 T B lv nx=>∃j,j+d2=k/\T 0=strs a/\T 3=.i .i64 k/\T 4=.i .i64 j/\(a.take j).any (cP · [y,z])=false) k ?_ ?_
       ·exact⟨0,by simp,by simp[t0,strs],by simp[t3],by simp,by simp⟩
       rintro d2 T B lv nx ⟨j,hj,t0,t3,t4,hq⟩;have w2:=aS ((j:Int)+1) (by omega) (by omega);by_cases Hx:j<k
       ·have N:j<a.length:=by omega
        have M:a[j]∈a.take k:=agD.2 ⟨j,by omega,rfl⟩;have htj:a.take (j+1)=a.take j++ [a[j]]:=aaN N;have Z:(a.map AV.s).drop j=.s a[j]::(a.map AV.s).drop (j+1):=by rw[aa4 (by simpa using N)];simp
        have Y:a[j]?=some a[j]:=aaf N;have h2j:=h2 _ M;obtain⟨p,q,iJ⟩:∃p q,a[j]= [p,q]:=by
         match a[j],h2j with
         | [p,q],_=>exact⟨p,q,rfl⟩
        rw[iJ] at Z Y M;have pj:(a.take (j+1)).any (cP · [y,z])=cP [p,q] [y,z]:=by
         rw[htj,aeC,hq,iJ];simp
        have gT:cP [p,q] [y,z]=true->bj a=5:=λhb=>by
         have hx:(a.take k).any (cP · [y,z])=true:=afl.2 ⟨_,M,hb⟩;rw[hp];simp[cb,eR,W,yR,hx]
        have b1:=dV p z;have b2:=dV q y;cases L:([p,q]== [y,z]) with
        |true=>
         have hv:=gT (by simp[cP,L])
         repeat' (first|refine nI ?_|(refine eI ah1 ?_;intro K E;simp[t0,t3,t4,strs,H,N,Hx,J,I,Z,Y,L,w2];apply E)|fail)
         simp[Fin,aH,Tryz.f109,hv]
        |false=>
         cases U:(p==z) with
         |false=>
          have hn:cP [p,q] [y,z]=false:=by simp[cP,L,U]
          repeat' (first|refine nI ?_|(refine eI ah1 ?_;intro K E;simp[t0,t3,t4,strs,H,N,Hx,J,I,Z,Y,L,b1,U,w2];apply E)|fail)
          refine aN (d2-1) (by omega) ⟨j+1,by omega,by simp[t0,strs],by simp[t3],by simp,by rw[pj];exact hn⟩
         |true=>
          cases e3:(q==y) with
          |true=>
           have hv:=gT (by simp[cP,L,U,e3])
           repeat' (first|refine nI ?_|(refine eI ah1 ?_;intro K E;simp[t0,t3,t4,strs,H,N,Hx,J,I,Z,Y,L,b1,U,b2,e3,w2];apply E)|fail)
           simp[Fin,aH,Tryz.f109,hv]
          |false=>
           have hn:cP [p,q] [y,z]=false:=by simp[cP,L,U,e3]
           repeat' (first|refine nI ?_|(refine eI ah1 ?_;intro K E;simp[t0,t3,t4,strs,H,N,Hx,J,I,Z,Y,L,b1,U,b2,e3,w2];apply E)|fail)
           refine aN (d2-1) (by omega) ⟨j+1,by omega,by simp[t0,strs],by simp[t3],by simp,by rw[pj];exact hn⟩
       ·have hjj:j=k:=by omega
        subst hjj;have hv:bj a=cb (a.take (j+1)) (a.drop (j+1)):=by
         rw[hp,jF,hs];simp[cb,eR,W,yR,hq]
        repeat' (first|refine nI ?_|(refine eI ah1 ?_;intro K E;simp[t0,t3,t4,strs,w1];apply E)|fail)
        refine aN (d'-1) (by omega) ⟨j+1,by omega,by simp[t0,strs],by simp,hv,Cp⟩
    ·have Wz:((a[k].length:Int)==2)=false:=by simp;omega
     have hv:bj a=3:=by rw[hp];simp[cb,eR,hl2]
     repeat' (first|refine nI ?_|(refine eI ah1 ?_;intro K E;simp[t0,t3,strs,H,J,I,Wz,w1,bne];apply E)|fail)
     simp[Fin,aH,Tryz.f109,hv]
   ·have gg:k=a.length:=by omega
    subst gg
    repeat' (first|refine nI ?_|(refine eI ah1 ?_;intro K E;simp[t0,t3,strs];apply E)|fail)
    have:bj a=0:=by rw[hp];simp[cb]
    simp[Fin,aH,Tryz.f109,this]
end
end Go.Proofs.YtjagmhagphbfcaaGreatDoor.Dn
namespace Go.Proofs.YtjagmhagphbfcaaGreatDoor
@[simp] abbrev aic:List Nat:=[0,1,2,3,4,5,6,10,16,21,26,37,46]
end Go.Proofs.YtjagmhagphbfcaaGreatDoor
namespace Go.Proofs.YtjagmhagphbfcaaGreatDoor.Dn
open Go Go.Proofs Lo Lw
section
variable{P:Program}[l:cL P]
theorem BF:∃F:List AV->Option AV,Den P 83 F/\∀(s:List UInt8),s.length<1000000->F [.s s]=some (.i .i64 (aM s)):=by
 obtain⟨F,h1,h2⟩:=cC (P:=P) (f:=83) (ι:=List UInt8) (λx=> [.s x]) (λx=>.i .i64 (aM x)) (λx=>x.length<1000000) (λx y _ _ e=>by
  simp only[abg,AV.s.injEq,abQ] at e;rw[e]) (λx hx=>BE x hx)
 exact⟨F,h1,h2⟩
theorem BH:∃F:List AV->Option AV,Den P 110 F/\∀a b:Int,F [.ag [.i .i64 a,.i .i64 b]]=some (.b (dR a b)):=by
 obtain⟨F,h1,h2⟩:=cC (P:=P) (f:=110) (ι:=Int×Int) (λx=> [.ag [.i .i64 x.1,.i .i64 x.2]]) (λx=>.b (dR x.1 x.2)) (λ_=>True) (λx y _ _ e=>by
  simp only[abg,AV.ag.injEq,AV.i.injEq,adM,abQ] at e;rw[e.1,e.2]) (λx _=>BG x.1 x.2)
 exact⟨F,h1,λa b=>h2 (a,b) trivial⟩
theorem BI(h:ay)(hf:Fair h):aq P 49 [.ag (aa h)] (.i .i64 (aO h)):=by
 obtain⟨A,ad,W⟩:=ca (D1 (P:=P) h (by have:=hf.L;omega) (by have:=hf.S;omega) (by have:=hf.R;omega));obtain⟨B,bd,hB⟩:=ca (BJ (P:=P) h.alike (λs hs=>by have:=hf.a s hs;omega));obtain⟨C,cd,hC⟩:=BF (P:=P);obtain⟨D,dd,hD⟩:=BH (P:=P);simp only[aa,strs] at W hB;have O:=cV h.tags;refine cok (ak call108 ad (ak call109 bd (ak call83 cd (ak call110 dd (au P))))) func49 rfl rfl ?_;by_cases N:bB h=0
 ·have Y:(bB h==0)=true:=by simp[N]
  by_cases V:bj h.alike=0
  ·have H:(bj h.alike==0)=true:=by simp[V]
   by_cases q3:5<h.tags.length
   ·have J:(5:Int)<h.tags.length:=by omega
    repeat' (first|refine nI ?_|(refine eI aic ?_;intro K p;simp[aa,O,ab,az,W,hB,Y,H,J,bne];apply p)|fail)
    simp[Fin,aH,Tryz.f49,aO,N,V,q3]
   ·have J:¬(5:Int)<h.tags.length:=by omega
    repeat' (first|refine nI ?_|(refine eI aic ?_;intro K p;simp[aa,O,ab,az,W,hB,Y,H,J,bne];apply p)|fail)
    have hh:aO h=cR h.tags:=by simp[aO,N,V,q3]
    refine bE (λd T B lv nx=>∃k,k+d=h.tags.length/\T 1=.sp (aa h)/\T 5=.i .i64 k/\cR h.tags=cR (h.tags.drop k)) h.tags.length ?_ ?_
    ·exact⟨0,by simp,by simp[aa],by simp,by simp⟩
    rintro d T B lv nx ⟨k,hk,t1,t5,hp⟩;have w1:=aS ((k:Int)+1) (by omega) (by omega);by_cases U:k<h.tags.length
    ·have da:=fA h.tags k h.tags[k] (aaf U);have hle:(k+1)*3<=h.tags.length*3:=by omega
     have rM:h.tags.drop k=h.tags[k]::h.tags.drop (k+1):=aa4 U;have hm:h.tags[k]∈h.tags:=abG U;rw[rM] at hp;generalize h.tags[k]=t at da hp hm;have M:=hC t.reads (by have:=hf.t t hm;omega);have I:=hD t.low t.high;by_cases r1:aM t.reads=0
     ·have E:(aM t.reads==0)=true:=by simp[r1]
      cases Z:dR t.low t.high with
      |true=>
       rw[Z] at I
       repeat' (first|refine nI ?_|(refine eI aic ?_;intro K p;simp[t1,t5,aa,U,O,hle,da,ab,az,M,I,E,bne,w1];apply p)|fail)
       refine aN (d-1) (by omega) ⟨k+1,by omega,by simp[t1,aa],by simp,by rw[hp];simp[cR,r1,Z]⟩
      |false=>
       rw[Z] at I;have hv:aO h=1:=by rw[hh,hp];simp[cR,r1,Z]
       repeat' (first|refine nI ?_|(refine eI aic ?_;intro K p;simp[t1,t5,aa,U,O,hle,da,ab,az,M,I,E,bne,w1];apply p)|fail)
       simp[Fin,aH,Tryz.f49,hv]
     ·have E:(aM t.reads==0)=false:=by simp[r1]
      have hv:aO h=aM t.reads:=by rw[hh,hp];simp[cR,r1]
      repeat' (first|refine nI ?_|(refine eI aic ?_;intro K p;simp[t1,t5,aa,U,O,hle,da,ab,az,M,E,bne,w1];apply p)|fail)
      simp[Fin,aH,Tryz.f49,hv]
    ·have gg:k=h.tags.length:=by omega
     subst gg;have hv:aO h=0:=by rw[hh,hp];simp[cR]
     repeat' (first|refine nI ?_|(refine eI aic ?_;intro K p;simp[t1,t5,aa,O];apply p)|fail)
     simp[Fin,aH,Tryz.f49,hv]
  ·have H:(bj h.alike==0)=false:=by simp[V]
   repeat' (first|refine nI ?_|(refine eI aic ?_;intro K p;simp[aa,ab,az,W,hB,Y,H,bne];apply p)|fail)
   simp[Fin,aH,Tryz.f49,aO,N,V]
 ·have Y:(bB h==0)=false:=by simp[N]
  repeat' (first|refine nI ?_|(refine eI aic ?_;intro K p;simp[aa,ab,az,W,Y,bne];apply p)|fail)
  simp[Fin,aH,Tryz.f49,aO,N]
def Fo(h:ay):Bool:= !gC h&&(aO h==0)
theorem Si(h:ay):aq P 30 [.ag (aa h)] (.b (Fo h)):=by
 obtain⟨A,I,p⟩:=ca (KY (P:=P) h);simp only[aa] at p;cases hg:gC h with
 |true=>
  rw[hg] at p;refine cok (ak call16 I (au P)) func30 rfl rfl ?_
  repeat' (first|refine nI ?_|(refine eI [0,1,2] ?_;intro K E;simp[aa,ab,az,p];apply E)|fail)
  simp[Fin,aH,Tryz.f30,Fo,hg]
 |false=>
  rw[hg] at p;obtain⟨B,J,H⟩:=ca (BI (P:=P) h (Jp hg));simp only[aa] at H;refine cok (ak call16 I (ak call49 J (au P))) func30 rfl rfl ?_
  repeat' (first|refine nI ?_|(refine eI [0,1,2] ?_;intro K E;simp[aa,ab,az,p,H];apply E)|fail)
  simp[Fin,aH,Tryz.f30,Fo,hg]
end
end Go.Proofs.YtjagmhagphbfcaaGreatDoor.Dn
namespace Go.Proofs.YtjagmhagphbfcaaGreatDoor
def agl:=@List.exists_cons_of_ne_nil
end Go.Proofs.YtjagmhagphbfcaaGreatDoor
namespace Go.Proofs.YtjagmhagphbfcaaGreatDoor.Dn
open Go Go.Proofs Lo Lw
def valOf(n:Int)(p:List Int):Int:=p.foldl (λa d=>10*a+d) n
theorem pR:∀(k:Nat) (n:Int),0<=n->n<10^k->valOf 0 (cj n k)=n
 |0,n,h0,h1=>by simp at h1;simp[cj,valOf];omega
 |k+1,n,h0,h1=>by
  have h2:n/10<10^k:=by rw[Int.pow_succ] at h1;omega
  have:=pR k (n/10) (by omega) h2;unfold valOf at this ⊢;rw[cj,ag9,this];simp;omega
theorem lD(h:ay)(r:UInt8):fK h r r=true:=by simp[fK]
structure Tc(h:ay)(w:List UInt8):Prop where
 len:w.length=10
 lets:∀c∈w,isLet c=true
 nod:w.Nodup
 rep:∀q∈h.R,isLet q=true/\q∉w
theorem lZ{c:UInt8}(h:isLet c=true):c≠63:=by
 rintro rfl;exact absurd h (by decide)
theorem En{s:List UInt8}(h:bA s 65=true):∀c∈s,isLet c=true:=λc hc=>by
 have:=acp.1 h c hc;rcases afn.1 this with h|h
 ·exact h
 ·rw[ac6] at h;subst h;decide
theorem Nl{s:List UInt8}(h:bA s 63=true):∀c∈s,c≠63->isLet c=true:=λc hc hn=>by
 have:=acp.1 h c hc;rcases afn.1 this with h|h
 ·exact h
 ·rw[ac6] at h;exact absurd h hn
theorem nH:∀(S:List UInt8) (k:Nat),k<S.length->(S.getD k 0::(S.take k++S.drop (k+1))).Perm S
 | [],k,h=>by simp at h
 |a::S,0,h=>by simp
 |a::S,k+1,h=>by
  have p:=nH S k (by simpa using h);simp only[List.getD_cons_succ,List.take_succ_cons,afs,aaT];exact(List.Perm.swap _ _ _).trans (p.cons a)
theorem qh:∀(L S w:List UInt8),S.length=L.count 63->w∈e_ L S->w.Perm (L.filter (· !=63)++S)
 | [],S,w,hl,hw=>by
  have:S= []:=abA hl;subst this;simp[e_] at hw;subst hw;exact List.Perm.refl _
 |c::L,S,w,hl,hw=>by
  unfold e_ at hw;split at hw
  ·rename_i hc;subst hc;simp only[aeQ,ac4,aeh] at hw;obtain⟨k,hk,v,hv,rfl⟩:=hw;have hp:=nH S k hk;have p:(S.take k++S.drop (k+1)).length=L.count 63:=by
    have:=hp.length_eq;rw[List.count_cons_self] at hl;simp only[ab0] at this;omega
   have E:=qh L _ v p hv;have e:(63::L:List UInt8).filter (· !=63)=L.filter (· !=63):=by simp
   rw[e];refine(E.cons _).trans ?_;refine List.perm_middle.symm.trans ?_;exact List.Perm.append_left _ hp
  ·rename_i hc;simp only[ac4] at hw;obtain⟨v,hv,rfl⟩:=hw;rw[List.count_cons_of_ne (λe=>hc e)] at hl;have e:(c::L:List UInt8).filter (· !=63)=c::L.filter (· !=63):=by simp[hc]
   rw[e];exact(qh L S v hl hv).cons c
theorem La{a:List UInt8}(h:dup a=false):(a.filter (· !=63)).Nodup:=by
 rw[List.nodup_iff_count];intro c;by_cases hm:c∈a.filter (· !=63)
 ·obtain⟨h1,h2⟩:=afJ.1 hm;have:=ag8.1 h c h1;rw[h2,Bool.true_and,aan] at this;have p:(a.filter (· !=63)).count c<=a.count c:=List.filter_sublist.count_le c;omega
 ·rw[List.count_eq_zero_of_not_mem hm];omega
theorem aiZ{h:ay}(hc:aO h=0){w:List UInt8}(hw:w∈e_ h.L h.S):Tc h w:=by
 obtain⟨⟨h1,h2,N,W,M,J,V,I⟩,_⟩:=checked h hc;have hp:=qh h.L h.S w J hw;have p:=En N;have E:=En M;have hn:=La I;have O:h.S.filter (· !=63)=h.S:=List.filter_eq_self.2 λc hc=>by simpa using lZ (p c hc)
 have U:h.R.filter (· !=63)=h.R:=List.filter_eq_self.2 λc hc=>by simpa using lZ (E c hc)
 rw[ag2,ag2,O,U,List.nodup_append] at hn;obtain⟨n1,_,H⟩:=hn;refine⟨(th _ _ _ hw).trans h1,λc hc=>?_,hp.nodup_iff.2 n1,λq hq=>⟨E q hq,λhm=>H q (hp.mem_iff.1 hm) q hq rfl⟩⟩;rcases abH.1 (hp.mem_iff.1 hc) with hm|hm
 ·obtain⟨m1,m2⟩:=afJ.1 hm;exact Nl h2 c m1 (by simpa using m2)
 ·exact p c hm
theorem MX{h:ay}(hc:aO h=0){w:List UInt8}(hw:w∈aB h):Tc h w:=aiZ hc (afJ.1 hw).1
theorem SC{h:ay}{w:List UInt8}(ho:Tc h w){last d:Int} :isLet (Gc w h.R last d)=true:=by
 unfold Gc;split
 ·rename_i hr;obtain⟨q,p,hq⟩:=agl hr.1;have:=(ho.rep q (by rw[hq];simp)).1;rw[hq];simpa using this
 ·have hk:((d+9)%10).toNat<w.length:=by rw[ho.len];omega
  rw[abM,aaf hk];exact ho.lets _ (abG hk)
theorem tW{h:ay}{w:List UInt8}(ho:Tc h w):∀(p:List Int) (last:Int),∀c∈dC w h.R last p,isLet c=true
 | [],_,c,hc=>by simp[dC] at hc
 |d::l,last,c,hc=>by
  rw[dC] at hc;rcases abZ.1 hc with e|hc
  ·rw[e];exact SC ho
  ·exact tW ho l d c hc
theorem zh{s:List UInt8}(h:∀c∈s,isLet c=true)(h1:1<=s.length)(p:s.length<=5):aM s=0:=by
 have hl:bA s 63=true:=acp.2 λc hc=>by simp[h c hc]
 have hn:s.count 63=0:=List.count_eq_zero.2 λhm=>lZ (h _ hm) rfl
 unfold aM;rw[aat (by omega),aat (by simp[hl]),aat (by omega)]
theorem AB{α β:Type}{f:α->List β}{x:List β}{k:α} :∀ {l:List α},l.Nodup->k∈l->f k=x->(∀j∈l,j≠k->f j= [])->l.flatMap f=x
 | [],_,hk,_,_=>by simp at hk
 |a::l,hn,hk,hx,h0=>by
  rw[List.nodup_cons] at hn;rw[aco];by_cases e:a=k
  ·subst e;have:l.flatMap f= []:=List.flatMap_eq_nil_iff.2 λj p=>h0 j (by simp[p]) (λe=>hn.1 (e▸p))
   rw[this,hx,acO]
  ·rw[h0 a (by simp) e,aaV];refine AB hn.2 ?_ hx (λj p=>h0 j (by simp[p]));rcases abZ.1 hk with e'|h
   ·exact absurd e'.symm e
   ·exact h
theorem oK{h:ay}(ha:h.alike= []){r c:UInt8}(hr:r≠63)(hc:r≠c):fK h r c=false:=by
 simp[fK,ha,hr,hc]
theorem xE{w:List UInt8}{k:Nat}(hk:k<w.length):w.getD k 0∈w:=by
 rw[abM,aaf hk];exact abG hk
theorem getD_inj{w:List UInt8}(hn:w.Nodup){j k:Nat}(p:j<w.length)(hk:k<w.length)(h:w.getD j 0=w.getD k 0):j=k:=by
 rw[abM,abM,aaf p,aaf hk] at h;exact(List.getElem_inj hn).1 h
theorem w_{h:ay}{w:List UInt8}(ha:h.alike= [])(ho:Tc h w):∀(I:List Int) (last n:Int) (b:Bool),(∀d∈I,0<=d/\d<=9)->bf h w (dC w h.R last I) last n b= [(valOf n I,b)]
 | [],last,n,b,_=>by simp[dC,bf,valOf]
 |d::l,last,n,b,hd=>by
  have Jb:=hd d (by simp);have M:=λb'=>w_ ha ho l d (10*n+d) b' (λx hx=>hd x (by simp[hx]))
  have W:valOf n (d::l)=valOf (10*n+d) l:=rfl;rw[dC,bf,W];by_cases p:h.R≠ []/\d=last
  ·obtain⟨q,Y,hq⟩:=agl p.1;have hc:Gc w h.R last d=q:=by simp[Gc,p,hq]
   obtain⟨U,O⟩:=ho.rep q (by rw[hq];simp);have Z:((List.range 10).flatMap λd'=>if(((d'+1)%10:Nat):Int) !=last||h.R.isEmpty then
     (if fK h q (w.getD d' 0) then bf h w (dC w h.R d l) (((d'+1)%10:Nat):Int) (10*n+(((d'+1)%10:Nat):Int)) (b||(q !=63&&q !=w.getD d' 0)) else[]) else[])= []:=by
    refine List.flatMap_eq_nil_iff.2 λk hk=>?_
    have hk:k<w.length:=by rw[ho.len];exact aeh.1 hk
    rw[oK ha (lZ U) (λe=>O (e▸xE hk))];simp
   rw[hc,Z,aaV];simp only[hq];rw[aay (by omega),lD,aay rfl,<-p.2,<-hq,M];simp
  ·have hc:Gc w h.R last d=w.getD ((d+9)%10).toNat 0:=by rw[Gc,aat p]
   have hk:((d+9)%10).toNat<10:=by omega
   have L:((d+9)%10).toNat<w.length:=by rw[ho.len];exact hk
   have E:isLet (w.getD ((d+9)%10).toNat 0)=true:=ho.lets _ (xE L);have he:(((((d+9)%10).toNat+1)%10:Nat):Int)=d:=by omega
   have N:(d !=last||h.R.isEmpty)=true:=by
    by_cases e:d=last
    ·have:h.R= []:=by
      refine aaO λhn=>p ⟨hn,e⟩
     simp[this]
    ·simp[e]
   rw[hc];have J:((List.range 10).flatMap λd'=>if(((d'+1)%10:Nat):Int) !=last||h.R.isEmpty then
     (if fK h (w.getD ((d+9)%10).toNat 0) (w.getD d' 0) then bf h w (dC w h.R d l) (((d'+1)%10:Nat):Int) (10*n+(((d'+1)%10:Nat):Int)) (b||(w.getD ((d+9)%10).toNat 0 !=63&&w.getD ((d+9)%10).toNat 0 !=w.getD d' 0)) else[]) else[])= [(valOf (10*n+d) l,b)]:=by
    refine AB (k:=((d+9)%10).toNat) List.nodup_range (aeh.2 hk) ?_ ?_
    ·rw[he,aay N,lD,aay rfl,M];simp
    ·intro j H Hx;have H:j<w.length:=by rw[ho.len];exact aeh.1 H
     rw[oK ha (lZ E) (λe=>Hx (getD_inj ho.nod H L e.symm))];simp
   rw[J];cases V:h.R with
   |nil=>simp
   |cons q Y=>
    dsimp only;rw[oK ha (lZ E) (λe:w.getD ((d+9)%10).toNat 0=q=>(ho.rep q (by rw[V];simp)).2 (e▸xE L))];simp
theorem vX{n g:Int}(h:bN [aV n g]=0):0<=n/\1<=g/\g<=5/\n<10^g.toNat:=by
 obtain⟨h1,h2,H,E,p⟩:=nz h;refine⟨h1,H,E,?_⟩;unfold aV at p;rw[aat (by omega)] at p;have hp:(0:Int)<10^g.toNat:=Int.pow_pos (by decide);split at p
 ·cases p
 ·rename_i I;have:n/10^g.toNat<=0:=by omega
  have:=Int.lt_mul_of_ediv_lt hp (show n/10^g.toNat<1 by omega);omega
theorem vY{h:ay}{n g:Int}{s:List UInt8}(hs:s∈cM h n g):∃w∈aB h,s=bS h w n g.toNat:=by
 obtain⟨w,hw,rfl⟩:=ac4.1 ((lW _ s).1 hs);exact⟨w,hw,rfl⟩
theorem aiY(L:List UInt8):L.count 63=0->e_ L []= [L]:=by
 induction L with
 |nil=>intro _;rfl
 |cons c L H=>
  intro p;have E:c≠63:=λe=>by rw[e,List.count_cons_self] at p;omega
  rw[List.count_cons_of_ne E] at p;unfold e_;rw[aat E,H p];rfl
theorem GX{h:ay}{n g:Int}(ho:bJ h [aV n g]=0)(ha:h.alike= [])(p:h.S= []):ig h n g=true:=by
 obtain⟨hc,hb,hw⟩:=ij ho;obtain⟨h0,h1,N,M⟩:=vX hb;obtain⟨⟨_,_,_,_,_,I,_,_⟩,_⟩:=checked h hc;have H:h.L.count 63=0:=by rw[<-I,p];rfl
 have E:aB h= [h.L]:=by
  have:∀w∈aB h,w=h.L:=λw hw=>by
   have:=(afJ.1 hw).1;rw[p,aiY _ H] at this;simpa using this
  have hlen:(aB h).length<=1:=by
   have:=ael (Az h) (e_ h.L h.S);rw[p,aiY _ H] at this;unfold aB;rw[p,aiY _ H];exact this
  match O:aB h,hw,this,hlen with
  | [],hw,_,_=>exact absurd rfl hw
  | [a],_,this,_=>rw[this a (by simp)]
  |a::b::l,_,_,hlen=>simp at hlen
 have J:=MX hc (w:=h.L) (by rw[E];simp);unfold ig;rw[List.any_eq_not_all_not,Bool.not_not,acp];intro s hs;obtain⟨w,hm,rfl⟩:=vY hs;rw[E,acE] at hm;subst hm;have:=w_ ha J (cj n g.toNat) (-1) 0 false (CC _ _);rw[pR _ _ h0 M] at this;have e:il h (aB h) (bS h h.L n g.toNat)= [n]:=by
  rw[E];unfold il bS;rw[aco,ahn,this];exact L6 n
 simp[e]
theorem K4{h:ay}(hf:Fair h):j9 h:=by
 have h1:=hf.L;have h2:=hf.S;have H:=hf.R;have E:=hf.na;have p:=hf.nt;exact⟨by omega,by omega,by omega,by omega,λs hs=>by have:=hf.a s hs;omega,by omega,λt ht=>by have:=hf.t t ht;omega⟩
theorem OO{h:ay}(hf:Fo h=true):Fair h:=by
 unfold Fo at hf;rw[aaZ] at hf;exact Jp (by simpa using hf.1)
theorem Sj{h:ay}(hf:Fo h=true):aO h=0:=by
 unfold Fo at hf;rw[aaZ] at hf;simpa using hf.2
section
variable{P:Program}[l:cL P]
end
def aju(ps:List Int):Nat->List UInt8->List UInt8->List UInt8
 |_,[],_=> []
 |i,c::L,S=>if c=63 then S.getD ((ps.getD i 0).toNat%S.length) 0::aju ps (i+1) L (S.take ((ps.getD i 0).toNat%S.length)++S.drop ((ps.getD i 0).toNat%S.length+1)) else c::aju ps (i+1) L S
theorem ajG(ps:List Int)(i:Nat)(c:UInt8)(L S:List UInt8):aju ps i (c::L) S=if c=63 then S.getD ((ps.getD i 0).toNat%S.length) 0::aju ps (i+1) L (S.take ((ps.getD i 0).toNat%S.length)++S.drop ((ps.getD i 0).toNat%S.length+1)) else c::aju ps (i+1) L S:=rfl
theorem ajC(ps:List Int):∀(i:Nat) (L S:List UInt8),S.length=L.count 63->aju ps i L S∈e_ L S
 |_,[],S,_=>by simp[aju,e_]
 |i,c::L,S,hl=>by
  unfold aju e_;by_cases hc:c=63
  ·subst hc;rw[List.count_cons_self] at hl;rw[aay rfl,aay rfl,aeQ];have hk:(ps.getD i 0).toNat%S.length<S.length:=Nat.mod_lt _ (by omega);refine⟨_,aeh.2 hk,ac4.2 ⟨_,ajC ps (i+1) L _ ?_,rfl⟩⟩;rw[abj,afk,ahh];omega
  ·rw[List.count_cons_of_ne hc] at hl;rw[aat hc,aat hc];exact ac4.2 ⟨_,ajC ps (i+1) L S hl,rfl⟩
def ic(w R:List UInt8):ay:=⟨w,[],R,[],[]⟩
section
variable{h:ay}{w:List UInt8}(hc:aO h=0)(ho:Tc h w)
include ho
theorem ajH:w.count 63=0:=List.count_eq_zero.2 λhm=>lZ (ho.lets _ hm) rfl
theorem ajA:aB (ic w h.R)= [w]:=by
 unfold aB;have:e_ (ic w h.R).L (ic w h.R).S= [w]:=aiY w (ajH ho);rw[this];simp[Az,ic]
theorem ajP:Tc (ic w h.R) w:=⟨ho.len,ho.lets,ho.nod,ho.rep⟩
include hc
theorem akk:aO (ic w h.R)=0:=by
 obtain⟨⟨_,_,_,E,p,_,_,_⟩,_⟩:=checked h hc;have hl:bA w 63=true:=acp.2 λc hc=>by simp[ho.lets c hc]
 have hn:(w++ []++h.R).Nodup:=by
  rw[acO,List.nodup_append];refine⟨ho.nod,?_,λa ha b hb e=>(ho.rep b hb).2 (e▸ha)⟩
  match h.R,E with
  | [],_=>simp
  | [a],_=>simp
  |a::b::l,h=>simp at h
 have hd:dup (w++ []++h.R)=false:=by
  refine ag8.2 λc _=>?_
  have h1:=List.nodup_iff_count.1 hn c;intro h2;rw[aaZ,aan] at h2;exact Nat.not_lt.2 h1 h2.2
 have hw:bB (ic w h.R)=0:=by
  unfold bB;rw[aat,aat,aat]
  ·rw[show(ic w h.R).L++(ic w h.R).S++(ic w h.R).R=w++ []++h.R from rfl,hd];simp
  ·simp[ic,ajH ho]
  ·simp[ic,hl,p,ho.len,show bA [] 65=true from rfl];omega
 unfold aO;rw[hw];rfl
theorem ajx(b:Int):bJ (ic w h.R) [b]=b:=by
 unfold bJ;rw[aat (by simp[akk hc ho]),ajA ho];by_cases e:b=0 <;>simp[bN,e]
theorem ajO(n g:Int):cM (ic w h.R) n g= [bS (ic w h.R) w n g.toNat]:=by
 unfold cM qT;rw[ajA ho];exact L6 _
variable{n g:Int}(hb:aV n g=0)
include hb
theorem aj3:bJ (ic w h.R) [aV n g]=0:=by rw[ajx hc ho,hb]
theorem aj1:aM (bS (ic w h.R) w n g.toNat)=0:=by
 obtain⟨h0,h1,p,E⟩:=vX (n:=n) (g:=g) (by simp[bN,hb]);have hl:(bS (ic w h.R) w n g.toNat).length=g.toNat:=pQ _ _ _ _;exact zh (tW (ajP ho) _ _) (by omega) (by omega)
theorem ajB:f_ (ic w h.R) (bS (ic w h.R) w n g.toNat)= [n]:=by
 obtain⟨h0,h1,E,p⟩:=vX (n:=n) (g:=g) (by simp[bN,hb]);have:=w_ (h:=ic w h.R) rfl (ajP ho) (cj n g.toNat) (-1) 0 false (CC _ _);rw[pR _ _ h0 p] at this;unfold f_;rw[ajA ho,aco,ahn];unfold bS;rw[this];exact L6 n
theorem aj2:ig (ic w h.R) n g=true:=GX (aj3 hc ho hb) rfl rfl
theorem aki{m:Int}(hm:aV m g=0):(bS (ic w h.R) w m g.toNat==bS (ic w h.R) w n g.toNat)=(n==m):=by
 rw[adX,ac6,ac6];constructor
 ·intro e;have h1:=ajB hc ho hb;rw[<-e,ajB hc ho hm] at h1;simpa using h1.symm
 ·rintro rfl;rfl
end
theorem ajz{n g:Int}(h0:0<=n)(h1:n<=99999)(g1:1<=g)(g5:g<=5):aV n g=if n<10^g.toNat then 0 else 8:=by
 unfold aV;rw[aat (by omega)];have hp:(0:Int)<10^g.toNat:=Int.pow_pos (by decide);by_cases hl:n<10^g.toNat
 ·rw[aay hl,aat];rw[Int.ediv_eq_zero_of_lt h0 hl];omega
 ·rw[aat hl,aay];have:=(Int.le_ediv_iff_mul_le hp).2 (show 1*10^g.toNat<=n by omega);omega
end Go.Proofs.YtjagmhagphbfcaaGreatDoor.Dn
namespace Go.Proofs.YtjagmhagphbfcaaGreatDoor
@[simp] abbrev ajE:List Nat:=[0,1,2,4,5,6,7,8,15,22]
end Go.Proofs.YtjagmhagphbfcaaGreatDoor
namespace Go.Proofs.YtjagmhagphbfcaaGreatDoor.Dn
open Go Go.Proofs Lo Lw
def ajv(l:List Int):AV:=.sq none 1 (l.map (.i .u16))
def ajF(l:List Int):Prop:=∀n∈l,0<=n/\n<=65535
theorem aj4{ps:List Int}(h:ajF ps)(k:Nat):0<=ps.getD k 0/\ps.getD k 0<=65535:=by
 rw[abM];cases hk:ps[k]? with
 |none=>simp
 |some n=>exact h n (List.mem_of_getElem? hk)
section
variable{P:Program}[l:cL P]
theorem ajQ(a:List Int)(k:Nat)(ha:ajF a):aq P 146 [ajv a,.i .i64 k] (.i .i64 (a.getD k 0)):=by
 refine cok (au P) func146 rfl rfl ?_;by_cases p:k<a.length
 ·have E:a[k]?=some a[k]:=aaf p;have I:(a.map (AV.i .u16)).drop k=.i .u16 a[k]::(a.map (AV.i .u16)).drop (k+1):=by rw[aa4 (by simpa using p)];simp
  have hx:=ha _ (abG p);have c1:IntKind.i64.wrap a[k]=a[k]:=aS _ (by omega) (by omega)
  repeat' (first|refine nI ?_|(refine eI [0,1,4,12] ?_;intro K H;simp[ajv,p,E,I,c1];apply H)|fail)
  simp[Fin,aH,Tryz.f146,E]
 ·have E:a[k]?=none:=aby (by omega)
  repeat' (first|refine nI ?_|(refine eI [0,1,4,12] ?_;intro K H;simp[ajv,p];apply H)|fail)
  simp[Fin,aH,Tryz.f146,E]
theorem aj7(a:List Int)(k:Nat)(ha:ajF a):aq P 95 [ajv a,.i .i64 k] (.i .i64 (a.getD k 0)):=by
 obtain⟨A,H,p⟩:=ca (ajQ (P:=P) a k ha);refine cok (ak call146 H (au P)) func95 rfl rfl ?_;simp only[ajv] at p
 repeat' (first|refine nI ?_|(refine eI [0,1,4] ?_;intro K E;simp[ajv,ab,p];apply E)|fail)
 simp[Fin,aH,Tryz.f95]
theorem aj8(a:List Int)(ha:ajF a):∃F:List AV->Option AV,Den P 95 F/\∀k:Nat,F [ajv a,.i .i64 k]=some (.i .i64 (a.getD k 0)):=by
 obtain⟨F,h1,h2⟩:=cC (P:=P) (f:=95) (ι:=Nat) (λk=> [ajv a,.i .i64 k]) (λk=>.i .i64 (a.getD k 0)) (λ_=>True) (λx y _ _ e=>by
  simp only[abg,AV.i.injEq,adM,abQ,Int.natCast_inj] at e;rw[e]) (λk _=>aj7 a k ha)
 exact⟨F,h1,λk=>h2 k trivial⟩
theorem akh(h:ay)(ps:List Int)(W:ajF ps)(hL:h.L.length<1000)(hS:h.S.length<1000)(hc:h.S.length=h.L.count 63):aq P 31 [.ag (aa h),ajv ps] (.s (aju ps 0 h.L h.S)):=by
 obtain⟨A,ad,Z⟩:=aj8 (P:=P) ps W;simp only[ajv] at Z;refine cok (ak call95 ad (au P)) func31 rfl rfl ?_
 repeat' (first|refine nI ?_|(refine eI ajE ?_;intro K p;simp[aa,ajv];apply p)|fail)
 refine bE (λd T B lv nx=>∃k pre S,k+d=h.L.length/\T 1=ajv ps/\T 2=.sp (aa h)/\T 5=.s pre/\T 6=.s S/\T 7=.i .i64 k/\pre.length=k/\pre++aju ps k (h.L.drop k) S=aju ps 0 h.L h.S/\S.length=(h.L.drop k).count 63) h.L.length ?_ ?_
 ·exact⟨0,[],h.S,by simp,by simp[ajv],by simp[aa],by simp,by simp,by simp,rfl,by simp,by simpa using hc⟩
 ·rintro d T B lv nx ⟨k,pre,S,hk,t1,t2,t5,t6,t7,V,hw,hs⟩;have w1:=aS ((k:Int)+1) (by omega) (by omega);by_cases H:k<h.L.length
  ·have ga:h.L[k]?=some h.L[k]:=aaf H;have da:h.L.drop k=h.L[k]::h.L.drop (k+1):=aa4 H;have Yw:(h.L.take (k+1)).drop k= [h.L[k]]:=by
    rw[aaN H,List.drop_append_of_le_length (by rw[afk];omega),List.drop_of_length_le (by rw[afk];omega)];rfl
   rw[da] at hw hs;have st (j:Nat):(0:Int)<=(j:Int)+1/\(j:Int)<=(j:Int)+1:=by omega
   have s0:=(st k).1;have s1:=(st k).2;have hle:(k:Int)+1<=h.L.length:=by omega
   have U:((h.L[k].toNat:Int)==63)=(h.L[k]==63):=kn h.L[k] 63 (by omega);cases I:(h.L[k]==63) with
   |false=>
    have E:h.L[k]≠63:=by simpa using I
    have n1:¬(9223372036854775807:Int)<(pre.length:Int)+1:=by omega
    rw[List.count_cons_of_ne E] at hs;rw[ajG,aat E] at hw
    repeat' (first|refine nI ?_|(refine eI ajE ?_;intro K p;simp[t1,t2,t5,t6,t7,aa,ajv,H,ga,hle,Yw,U,I,bne,w1,n1,s0,s1];apply p)|fail)
    refine aN (d-1) (by omega) ⟨k+1,pre++ [h.L[k]],S,by omega,by simp[t1,ajv],by simp[t2,aa],by simp,by simp[t6],by simp,by simp[V],by rw[<-hw];simp,hs⟩
   |true=>
    have E:h.L[k]=63:=by simpa using I
    rw[E,List.count_cons_self] at hs;rw[ajG,aay E] at hw;obtain⟨O,x1⟩:=aj4 W k;have Ca:S.length<=1000:=by
     have:=List.count_le_length (a:=(63:UInt8)) (l:=h.L.drop (k+1));rw[ahh] at this;omega
    have M:=Z k;have ht:(ps.getD k 0).tmod (S.length:Int)=(((ps.getD k 0).toNat%S.length:Nat):Int):=by
     rw[ae6 O,Int.natCast_emod,Int.toNat_of_nonneg O]
    have Y:(ps.getD k 0).toNat%S.length<S.length:=Nat.mod_lt _ (by omega);generalize (ps.getD k 0).toNat%S.length=j at *;generalize ps.getD k 0=x at *;have J:(S.take (j+1)).drop j= [S.getD j 0]:=by
     rw[aaN Y,List.drop_append_of_le_length (by rw[afk];omega),List.drop_of_length_le (by rw[afk];omega),abM,aaf Y];rfl
    have Am:(j:Int)+1<=S.length:=by omega
    have N:(j:Int)<=S.length:=by omega
    have w2:=aS ((j:Int)+1) (by omega) (by omega);have n1:¬(9223372036854775807:Int)<(pre.length:Int)+1:=by omega
    have s2:=(st j).1;have s3:=(st j).2;have n2:¬(9223372036854775807:Int)<((min j S.length:Nat):Int)+((S.length-(j+1):Nat):Int):=by omega
    have z1:S≠ []:=by intro e;rw[e] at hs;simp at hs
    repeat' (first|refine nI ?_|(refine eI ajE ?_;intro K p;simp[t1,t2,t5,t6,t7,aa,ajv,H,ga,hle,U,I,bne,w1,w2,n1,ab,M,ht,J,Am,N,z1,n2,s2,s3];apply p)|fail)
    refine aN (d-1) (by omega) ⟨k+1,pre++ [S.getD j 0],S.take j++S.drop (j+1),by omega,by simp[t1,ajv],by simp[t2,aa],by simp,by simp,by simp,by simp[V],by rw[<-hw];simp,by rw[abj,afk,ahh];omega⟩
  ·have gg:k=h.L.length:=by omega
   subst gg;rw[List.drop_length] at hw
   repeat' (first|refine nI ?_|(refine eI ajE ?_;intro K p;simp[t1,t2,t5,t6,t7,aa];apply p)|fail)
   simp[Fin,aH,Tryz.f31,<-hw,aju]
end
end Go.Proofs.YtjagmhagphbfcaaGreatDoor.Dn
namespace Go.Proofs.YtjagmhagphbfcaaGreatDoor
@[simp] abbrev ai0:List Nat:=[0,1,2,3,4,5,10,11,12,13,14,15,16,17,18,19,20,21,22,25,55,91,93,110,144]
end Go.Proofs.YtjagmhagphbfcaaGreatDoor
namespace Go.Proofs.YtjagmhagphbfcaaGreatDoor.Dn
open Go Go.Proofs Lo Lw
def ajK(w R:List UInt8):List AV:= [.s w,.s [],.s R,.sq none 0 [],.sq none 0 []]
theorem ajL{g:Gh}{v:World}{w R:List UInt8}{y:Value}(h:Rd g v (.ag (ajK w R)) y):Rd g v (.ag (aa (ic w R))) y:=by
 cases h with
 |ag cells ys h1 h2 p=>
  refine .ag _ _ h1 h2 λj a z ha hz=>?_
  match j with
  |0=>cases ha;exact p 0 _ z rfl hz
  |1=>cases ha;exact p 1 _ z rfl hz
  |2=>cases ha;exact p 2 _ z rfl hz
  |3=>
   cases ha;have:=p 3 _ z rfl hz;cases this with
   |nil=>exact .nil _ _
   |sq _ _ _ _ _ _ _ _ h0=>omega
  |4=>
   cases ha;have:=p 4 _ z rfl hz;cases this with
   |nil=>exact .nil _ _
   |sq _ _ _ _ _ _ _ _ h0=>omega
  |j+5=>cases ha
theorem ako(k:Nat)(hk:k<=5):(0:Int)<10^k/\(10:Int)^k<=100000:=by
 obtain h|h|h|h|h|h:k=0\/k=1\/k=2\/k=3\/k=4\/k=5:=by omega
 all_goals rw[h];decide
section
variable{P:Program}[l:cL P]
omit l in
theorem aq.head{f:FuncId}{a a':AV}{l:List AV}{res:AV}(hw:∀g w y,Rd g w a' y->Rd g w a y)(h:aq P f (a::l) res):aq P f (a'::l) res:=by
 intro g w ys hW hr;obtain⟨y,p,rfl,h1,h2⟩:=hr.dX;exact h g w _ hW (.cons (hw _ _ _ h1) h2)
theorem akj{h:ay}{w:List UInt8}(hc:aO h=0)(ho:Tc h w)(hm:j9 (ic w h.R)){g:Int}(g1:1<=g)(g5:g<=5):
  ∃F:List AV->Option AV,Den P 23 F/\∀n:Int,0<=n->n<=65535->F [.ag (ajK w h.R),.i .i64 n,.i .i64 g]=some (.tu [strs (if n<10^g.toNat then[bS (ic w h.R) w n g.toNat] else[]),.i .i64 (if n<10^g.toNat then 0 else 8)]):=by
 obtain⟨F,h1,h2⟩:=cC (P:=P) (f:=23) (ι:=Int) (λn=> [.ag (ajK w h.R),.i .i64 n,.i .i64 g]) (λn=>.tu [strs (if n<10^g.toNat then[bS (ic w h.R) w n g.toNat] else[]),.i .i64 (if n<10^g.toNat then 0 else 8)]) (λn=>0<=n/\n<=65535) (λx y _ _ e=>by
  simp only[abg,AV.i.injEq,adM,abQ] at e;rw[e]) (λn hn=>by
  have:=(v7 (P:=P) (ic w h.R) hm n g).head λ_ _ _=>ajL
  rw[ajx hc ho,ajz hn.1 (by omega) g1 g5] at this;simp only[bK,ajx hc ho,ajz hn.1 (show n<=99999 by omega) g1 g5,ajO hc ho] at this;by_cases p:n<10^g.toNat
  ·simpa[p] using this
  ·simpa[p] using this)
 exact⟨F,h1,λn a b=>h2 n ⟨a,b⟩⟩
set_option maxHeartbeats 400000 in
theorem aj_(e17:Enters P 17)(Xl:aq P 17 [] (.b true))(h:ay)(ps:List Int)(qt:ajF ps)(p q g:Int)(EG:0<=p)(hp:p<=65535)(hq0:0<=q)(hq:q<=65535)(Ar:0<=g)(hg:g<=255):
  aq P 4 [eG h,ajv ps,.i .u16 p,.i .u16 q,.i .u8 g] (.b true):=by
 obtain⟨A,ad,hA⟩:=ca (Si (P:=P) h);obtain⟨T,td,hT⟩:=ca Xl;simp only[aa] at hA;cases hf:Fo h with
 |false=>
  rw[hf] at hA;refine cok (ak call30 ad (ak e17 td (au P))) func4 rfl rfl ?_
  repeat' (first|refine nI ?_|(refine eI ai0 ?_;intro K J;simp[eG,aa,ab,az,hA,hT];apply J)|fail)
  simp[Fin,aH,Tryz.f4]
 |true=>
  rw[hf] at hA;have hm:=K4 (OO hf);have hc:=Sj hf;obtain⟨⟨k1,k2,k3,k4,k5,k6,k7,k8⟩,_⟩:=checked h hc;have fF:=aiZ hc (ajC ps 0 h.L h.S k6);obtain⟨W,wd,hW⟩:=ca (akh (P:=P) h ps qt (by omega) (by omega) k6);have F3:(aju ps 0 h.L h.S).length=10:=fF.len;generalize aju ps 0 h.L h.S=w at *;have hms:j9 (ic w h.R):=⟨by simp[ic,F3],by simp[ic],by simp[ic];omega,by simp[ic],by simp[ic],by simp[ic],by simp[ic]⟩
  have r1:Int.tmod g 5=g%5:=ae6 Ar;have c1:IntKind.i64.wrap g=g:=aS g (by omega) (by omega);have c2:IntKind.i64.wrap p=p:=aS p (by omega) (by omega);have c3:IntKind.i64.wrap q=q:=aS q (by omega) (by omega);have c4:IntKind.i64.wrap (1+g%5)=1+g%5:=aS _ (by omega) (by omega);obtain⟨n,hn⟩:∃n,1+g%5=n:=⟨_,rfl⟩
  rw[hn] at c4;have n1:1<=n:=by omega
  have n5:n<=5:=by omega
  obtain⟨C,cd,hC⟩:=akj (P:=P) hc fF hms n1 n5;have Y:=hC p EG hp;have V:=hC q hq0 hq;have bp:=ajz EG (show p<=99999 by omega) n1 n5;have bq:=ajz hq0 (show q<=99999 by omega) n1 n5;obtain⟨M,hM⟩:∃M,(10:Int)^n.toNat=M:=⟨_,rfl⟩
  rw[hM] at Y V bp bq;clear hC;have yT:(bS (ic w h.R) w p n.toNat).length=n.toNat:=pQ _ _ _ _;have hD:=(zX (P:=P) (ic w h.R) hms (bS (ic w h.R) w p n.toNat) (by omega)).head λ_ _ _=>ajL
  have hE:=(tj (P:=P) (ic w h.R) hms p n).head λ_ _ _=>ajL
  obtain⟨D,dd,hD⟩:=ca hD;obtain⟨E,ed,hE⟩:=ca hE;obtain⟨L,ld,hL⟩:=ca (Nk (P:=P) [p] [p] (by simp) (by simp));have fm:p<M->D [.ag (ajK w h.R),.s (bS (ic w h.R) w p n.toNat)]=some (.tu [ints [p],.i .i64 0]):=λf=>by
   rw[aay f] at bp;rw[hD,bK,aj1 hc fF bp,ajx hc fF,aat (by decide),ajB hc fF bp]
  have fe:p<M->E [.ag (ajK w h.R),.i .i64 p,.i .i64 n]=some (.tu [.b true,.i .i64 0]):=λf=>by
   rw[aay f] at bp;rw[hE,bK,bp,ajx hc fF,aat (by decide),aj2 hc fF bp]
  have fi:p<M->q<M->(bS (ic w h.R) w q n.toNat==bS (ic w h.R) w p n.toNat)=(p==q):=λf f'=>by
   rw[aay f] at bp;rw[aay f'] at bq;exact aki hc fF bp bq
  clear hD hE;generalize bS (ic w h.R) w p n.toNat=sp at *;generalize bS (ic w h.R) w q n.toNat=sq at *;obtain⟨Lp,O⟩:∃Lp,(if p<M then[sp] else[])=Lp:=⟨_,rfl⟩
  obtain⟨Lq,I⟩:∃Lq,(if q<M then[sq] else[])=Lq:=⟨_,rfl⟩
  obtain⟨tp,N⟩:∃tp:Int,(if p<M then 0 else 8)=tp:=⟨_,rfl⟩
  obtain⟨tq,H⟩:∃tq:Int,(if q<M then 0 else 8)=tq:=⟨_,rfl⟩
  rw[O,N] at Y;rw[I,H] at V;simp only[aa,ajK,ints,strs,ajv,List.map_cons,List.map_nil,beq_self_eq_true] at hW Y V fm fe hL;refine cok (ak call30 ad (ak e17 td (ak call31 wd (ak call23 cd (ak call21 dd (ak call28 ed (ak call32 ld (au P)))))))) func4 rfl rfl ?_
  repeat' (first|refine nI ?_|(refine eI ai0 ?_;intro K J;simp[eG,aa,ajv,ab,az,hA,hW,Y,V,r1,c1,c2,c3,hn,c4,bne];apply J)|fail)
  refine bE (λd T B lv nx=>∃k:Nat,k+d=n.toNat/\T 2=.i .u16 p/\T 3=.i .u16 q/\T 11=.bx 11 0/\B 11=some (false,[.s w,.s [],.s h.R,.sq none 0 [],.sq none 0 []])/\T 12=.i .i64 n/\T 13=.sq none 1 (Lp.map .s)/\T 14=.i .i64 tp/\T 15=.sq none 1 (Lq.map .s)/\T 16=.i .i64 tq/\T 17=.i .i64 (10^k)/\T 18=.i .i64 k) n.toNat ?_ ?_
  ·exact⟨0,by simp,by simp,by simp,by simp,by simp,by simp,by simp,by simp,by simp,by simp,by simp,by simp⟩
  rintro d T' B' lv nx ⟨k,hk,t2,t3,t11,tB,t12,t13,t14,t15,t16,t17,t18⟩;by_cases aK:(k:Int)<n
  ·have w1:=aS ((k:Int)+1) (by omega) (by omega);obtain⟨e1,e2⟩:=ako k (by omega);have w2:IntKind.i64.wrap (10*10^k)=10^(k+1):=by rw[Int.pow_succ,Int.mul_comm];exact aS _ (by omega) (by omega)
   repeat' (first|refine nI ?_|(refine eI ai0 ?_;intro K J;simp[t2,t3,t11,tB,t12,t13,t14,t15,t16,t17,t18,aK,w1,w2];apply J)|fail)
   refine aN (d-1) (by omega) ⟨k+1,by omega,by simp[t2],by simp[t3],by simp[t11],by simp[tB],by simp[t12],by simp[t13],by simp[t14],by simp[t15],by simp[t16],by simp,by simp⟩
  ·have EN:k=n.toNat:=by omega
   rw[EN,hM] at t17;by_cases Z:p<M
   ·have fm:=fm Z;have fe:=fe Z;rw[aay Z] at O N;subst O N;have hl:((sp.length:Int)==n)=true:=by rw[ac6];omega
    by_cases U:q<M
    ·have fi:=fi Z U;rw[aay U] at I H;subst I H
     repeat' (first|refine nI ?_|(refine eI ai0 ?_;intro K J;simp[t2,t3,t11,tB,t12,t13,t14,t15,t16,t17,t18,aK,ab,az,fm,fe,hL,hT,Z,U,fi,hl,c2,c3,bne];apply J)|fail)
     simp[Fin,aH,Tryz.f4]
    ·rw[aat U] at I H;subst I H
     repeat' (first|refine nI ?_|(refine eI ai0 ?_;intro K J;simp[t2,t3,t11,tB,t12,t13,t14,t15,t16,t17,t18,aK,ab,az,fm,fe,hL,hT,Z,U,hl,c2,c3,bne];apply J)|fail)
     simp[Fin,aH,Tryz.f4]
   ·rw[aat Z] at O N;subst O N;by_cases U:q<M
    ·rw[aay U] at I H;subst I H
     repeat' (first|refine nI ?_|(refine eI ai0 ?_;intro K J;simp[t2,t3,t11,tB,t12,t13,t14,t15,t16,t17,t18,aK,ab,az,hT,Z,U,c2,c3,bne];apply J)|fail)
     simp[Fin,aH,Tryz.f4]
    ·rw[aat U] at I H;subst I H
     repeat' (first|refine nI ?_|(refine eI ai0 ?_;intro K J;simp[t2,t3,t11,tB,t12,t13,t14,t15,t16,t17,t18,aK,ab,az,hT,Z,U,c2,c3,bne];apply J)|fail)
     simp[Fin,aH,Tryz.f4]
end
end Go.Proofs.YtjagmhagphbfcaaGreatDoor.Dn
