/- Part 31 of a proof (made small by a program; blanks, names and remarks only). -/
import Derived.Conc.LeavingOf
import Derived.Carry
import Derived.LaidMore
import Derived.LaidHandle
import Derived.ChangeSame
import Derived.LaidLaws
import Derived.Test.YtjagmhagphbfcaaGreatDoorCards
import Derived.Test.YtjagmhagphbfcaaGreatDoorTie
import Derived.Test.YtjagmhagphbfcaaGreatDoorV30
set_option maxRecDepth 100000
set_option linter.all false
namespace Go.Proofs.YtjagmhagphbfcaaGreatDoor.cA
open Go Go.Proofs Go.Conc Lo Dn Lw Go.ChangeShapes Go.WideShapes Go.ChangeAt Go.RowKit
def xi:List (String×DataW Unit):= [("nosale/tag.checks",Rows.laid_nosale_tag_checks)]
def nm0:List UInt8:= [40,110,111,115,97,108,101,47,116,97,103,46,104,111,117,115,101,41,46,108,101,116,116,101,114,115]
def nm1:List UInt8:= [40,110,111,115,97,108,101,47,116,97,103,46,104,111,117,115,101,41,46,112,97,105,114,115]
def nm2:List UInt8:= [40,110,111,115,97,108,101,47,116,97,103,46,104,111,117,115,101,41,46,116,97,103,115]
theorem MY:ownKnob Tryz.prog.godebug=none:=by kernel_rfl
theorem Nu:laidOutB Tryz.prog=true:=by kernel_rfl
theorem z0:(((begin Tryz.prog (λ_ _=>0) default).world.heap[0]?).bind Obj.row?).map (λx=>(x.1.size,x.2))=some (3,140):=by kernel_rfl
theorem z1:(((begin Tryz.prog (λ_ _=>0) default).world.heap[1]?).bind Obj.row?).map (λx=>(x.1.size,x.2))=some (1,3):=by kernel_rfl
theorem z2:(((begin Tryz.prog (λ_ _=>0) default).world.heap[2]?).bind Obj.row?).map (λx=>(x.1.size,x.2))=some (256,226):=by kernel_rfl
theorem z3:(((begin Tryz.prog (λ_ _=>0) default).world.heap[3]?).bind Obj.row?).map (λx=>(x.1.size,x.2))=some (32,229):=by kernel_rfl
theorem UT:Tryz.prog.cellTypes Tryz.prog.depth 3=some [3]:=by kernel_rfl
theorem OH:Tryz.prog.globals.size=4:=rfl
theorem oW{W:World}(h:W.ShapedOpen Tryz.prog){g n t:Nat}(hg:g<4)(hz:(((begin Tryz.prog (λ_ _=>0) default).world.heap[g]?).bind Obj.row?).map (λx=>(x.1.size,x.2))=some (n,t)):
  ∃cs,W.heap[g]?=some (.cells cs t)/\cs.size=n/\(Tryz.prog.buildable t=true->Row.ok Tryz.prog W .any 0 t cs):=by
 rw[aeb] at hz;obtain⟨⟨zero,t'⟩,h1,h2⟩:=hz;cases h2;obtain⟨cs,H,E,p⟩:=h.1 g zero t' (by rw[OH];exact hg) h1;exact⟨cs,H,E,p⟩
theorem rj{W:World}{b n t:Nat}{cs:Array Value}(h:W.heap[b]?=some (.cells cs t))(hn:cs.size=n):W.shape? b=some (t,n):=by
 unfold World.shape?;rw[h,<-hn]
theorem OG{W:World}(h:W.ShapedOpen Tryz.prog):AU W/\(∃k n e fr,W.heap[1]?=some (.cells #[.int k n] e fr))/\4<=W.heap.size:=by
 obtain⟨c0,a0,b0,_⟩:=oW h (g:=0) (by decide) z0;obtain⟨c1,a1,b1,d1⟩:=oW h (g:=1) (by decide) z1;obtain⟨c2,a2,b2,_⟩:=oW h (g:=2) (by decide) z2;obtain⟨c3,a3,H,_⟩:=oW h (g:=3) (by decide) z3;refine⟨⟨rj a0 b0,rj a1 b1,rj a2 b2,rj a3 H⟩,?_,(aah.1 a3).1⟩;obtain⟨ts,p,_,E⟩:=d1 (by kernel_rfl);rw[UT] at p;cases p;obtain⟨v,rfl⟩:∃v,c1= #[v]:=⟨c1[0],by apply Array.ext <;>simp_all⟩
 obtain⟨u,hu,hv⟩:=E 0 v rfl;cases hu;unfold Cell.ok at hv;rw[aeO] at hv;cases v with
 |int k n=>exact⟨k,n,_,_,a1⟩
 |_=>exact hv.elim
theorem QZ:((List.range Tryz.prog.funcs.size).filter λf=>(Tryz.prog.funcs[f]?).any (·.name.toUTF8.data.toList==nm0))= [255]:=by kernel_rfl
theorem QY:((List.range Tryz.prog.funcs.size).filter λf=>(Tryz.prog.funcs[f]?).any (·.name.toUTF8.data.toList==nm1))= [256]:=by kernel_rfl
theorem QX:((List.range Tryz.prog.funcs.size).filter λf=>(Tryz.prog.funcs[f]?).any (·.name.toUTF8.data.toList==nm2))= [257]:=by kernel_rfl
theorem Pe:Tryz.prog.cellsOf 139=1:=by kernel_rfl
theorem Pd:Tryz.prog.cellsOf 140=3:=by kernel_rfl
theorem Jl:Tryz.prog.globalNamed "nosale/tag.checks" =some 0:=by kernel_rfl
theorem Qx:(Tryz.prog.globals[0]?).map (·.type)=some 140:=by kernel_rfl
theorem UY{W:World}(h:laidMetH Tryz.prog xi W):∃e fr,W.heap[0]?=some (.cells F0 e fr):=by
 have hf:=laidMetH.funcs h (n:= "nosale/tag.checks") (d:=.agg [.iface "func" (.lit (.string nm0)),.iface "func" (.lit (.string nm1)),.iface "func" (.lit (.string nm2))]) (by exact acE.2 rfl);obtain⟨g,t,cs,fuel,p,hg,ht,hv,hd⟩:=hf;obtain rfl:=adw (Jl.symm.trans hg);obtain rfl:=adw (Qx.symm.trans ht);obtain⟨xs,m,_,hx,hlen,hn,E⟩:=DataW.trod_array Tryz.underlying140 hd;rw[Pd] at hlen;obtain⟨I,x1,H,rfl⟩:=Ri hn;obtain⟨c0,c1,c2,L⟩:=Ri hlen;simp only[Prod.mk.injEq] at hx;have hx1:(DataW.agg [.held nm0,.held nm1,.held nm2]:DataW (List UInt8))=.agg [I.1,x1.1,H.1]:=hx.1;simp only[DataW.agg.injEq,abg,abQ] at hx1;obtain⟨O,N,M⟩:=hx1;rw[Pe,L] at E;have h0:DataW.trod (funcToken Tryz.prog) Tryz.prog W 0 (λ_=>true) true m 139 [c0]=some I:=E 0 (by decide);have h1:DataW.trod (funcToken Tryz.prog) Tryz.prog W 0 (λ_=>true) true m 139 [c1]=some x1:=E 1 (by decide);have h2:DataW.trod (funcToken Tryz.prog) Tryz.prog W 0 (λ_=>true) true m 139 [c2]=some H:=E 2 (by decide);obtain⟨Y,p0⟩:=I;obtain⟨y1,Z⟩:=x1;obtain⟨y2,p2⟩:=H;simp only at O N M;subst O N M;have r0:=func_of_trod Tryz.underlying139 QZ h0;have r1:=func_of_trod Tryz.underlying139 QY h1;have U:=func_of_trod Tryz.underlying139 QX h2;subst r0 r1 U;have J:cs=F0:=by
  rw[<-Array.toList_inj,L];rfl
 subst J;unfold World.var? at hv;rw[Jl] at hv;simp only[abN] at hv;split at hv
 ·rename_i V e fr hz;cases hv;exact⟨e,fr,hz⟩
 ·cases hv
section
variable{H:Type}{enc:TypeId×Value->H}
theorem AN{W J:World}(hb:Below W.heap.size W J):∀ {ts:List TypeId} {vs:List Value} {E:List (DataW H)} {ps:List MemPlace},(∀t∈ts,Tryz.prog.readableRec t=true/\t<Tryz.prog.types.size)->DataW.TrodAll enc Tryz.prog W 0 (λ_=>true) true ts vs E ps->
  (∀x∈ps,x.block<W.heap.size)->DataW.TrodAll enc Tryz.prog J 0 (λb=>decide (b<W.heap.size)) true ts vs E ps
 | [],vs,E,ps,_,h,_=>by
  obtain⟨rfl,rfl,rfl⟩:=trodAll_nil h;exact rfl
 |t::ts,vs,E,ps,ht,h,I=>by
  obtain⟨v,L,d,O,p,q,rfl,rfl,rfl,h1,h2⟩:=trodAll_cons h;obtain⟨r1,N⟩:=ht t (by simp);exact⟨p,q,Below.trod Nu r1 N h1 hb (λx hx=>I x (by simp[hx])),AN hb (λt M=>ht t (by simp[M])) h2 (λx hx=>I x (by simp[hx])),rfl⟩
theorem Rl{f:FuncId}{fn:Func}{cd:Code}{s:ChangeSpec}{os:Os}(started:os.Started)(Z:Tryz.prog.funcs[f]?=some fn)(L:fn.body=some cd)(hK:KL.s f=true)(Xl:f≠17)(Xj:f≠41)(J:fn.resultTypes= #[4])
  (V:∀t∈fn.params.toList,Tryz.prog.readableRec t=true/\t<Tryz.prog.types.size) (TJ:s.vars= []) (Z5:∀E:List (DataW H),E.length=fn.params.size->s.fn H E= { results:= [.lit (.bool true)],args:=E })
  (witness:∃(w:World) (tape:Tape) (i:Input),w.os=os/\(w.forCall tape i).Shaped Tryz.prog/\i.vars= []/\Input.okWide Tryz.prog (w.forCall tape i) .any w.heap.size f i/\
   ((s.pre enc Tryz.prog fn [] false (w.forCall tape i).memory i.args/\laidMetH Tryz.prog xi (w.forCall tape i).memory)/\sizedMet enc Tryz.prog fn (OpenSpec.ofChange s) false (w.forCall tape i).memory i.args)/\
    ({} :Assume).holds Tryz.prog (lone (Frame.enter Tryz.prog f i.args .normal) [] (w.forCall tape i)))
  (Y:∀(W:World) (base:Nat) (args:Array Value) (E:List (DataW H)) (ps:List MemPlace),AU W->(∀(j:Nat) t v,fn.params[j]?=some t->args[j]?=some v->Value.okWide Tryz.prog W .any base t v)->
   DataW.TrodAll enc Tryz.prog W 0 (λ_=>true) true fn.params.toList args.toList E ps->∃la,qL W args.toList la/\aq PL f la (.b true)):
  ReturnsInLeavingWide {} Tryz.checked os f .any (λw args=>(s.pre enc Tryz.prog fn [] false w args/\laidMetH Tryz.prog xi w)/\sizedMet enc Tryz.prog fn (OpenSpec.ofChange s) false w args)
   (s.post enc Tryz.prog fn false true false false):=by
 refine returnsInLeavingWide_of_good (C:=Tryz.checked) MY started witness ?_;intro w tape i _ qp _ iD Ce _;obtain⟨_,_,_,fh,U,_,_,_,_,Kz⟩:=iD;have e:fh=fn:=adw (U.symm.trans Z);subst e;obtain⟨⟨⟨E,gs,before,hw,_⟩,hl⟩,_⟩:=Ce;have cO:=DataW.Whole.of_heap (w':=w.forCall tape i) (by rfl) hw;have sM:laidMetH Tryz.prog xi (w.forCall tape i):=hl.of_heap (by rfl);generalize w.forCall tape i=W at *;obtain⟨hG,c7,h4⟩:=OG qp;have hT:sF W:=⟨UY sM,c7⟩
 have Xa:=cO;obtain⟨p,q,O,hV,N,_,_⟩:=cO;rw[TJ] at hV;obtain⟨rfl,rfl⟩:=trodVars_none hV;have aK:∀x∈p,x.block<W.heap.size:=λx hx=>Xa.lt x (by rw[N];simp[hx])
 obtain⟨la,ho,hc⟩:=Y W _ i.args E p hG Kz O;obtain⟨ws,ys,k1,_,k3⟩:=ho [];obtain⟨q1,q2⟩:=k3 [];simp only[aaV,acO] at q1 q2;have hlen:E.length=fh.params.size:=by have:=(trodAll_length O).2;simpa using this
 obtain⟨M,last,o,w',t',h1,h2,h3,Ap⟩:=Nr hK ⟨fh,cd,(MM f Xl Xj).trans Z,L⟩ hT h4 k1 (args:=i.args) (by simpa using q1) hc q2;refine⟨M,last,o,w',t',h1,h2,h3,Ap.mono λv hF=>?_⟩;refine ChangeSpec.post_blind ?_;obtain⟨rfl,E1⟩:=hF;have I:=Z5 E hlen;refine⟨E,[],before,[],p,[],Xa,?_,?_,?_,E1.frame _,λh=>by cases h⟩
 ·rw[acO,I,J];exact trodAll_mk1 (shut_bool af7 _)
 ·rw[acO,I];exact AN E1 V O aK
 ·rw[TJ,acO,I];exact rfl
end
theorem Lf{s:OpenSpec}{c:OpenClaim}(hc:c.holds Tryz.pinned s)(hw:c.wfByText s=true)(p:c.laidByTextAt .later Tryz.pinned [.funcs] true)
  (I:c.start=.entering) (hnb:c.noBlocks=false/\c.again=false) (hm:Tryz.pinned.checked.prog.mainIs=some (true, "f07a5fa70ed6775463b7a086f57573263f2086de7ec9f9dbb2d285f1a5080804".toList))
  (hl:∀f fn,Tryz.pinned.checked.prog.funcNamed c.func=some f->Tryz.pinned.checked.prog.funcs[f]?=some fn->false=Tryz.pinned.checked.prog.looks []/\∀(j:Nat) t,fn.params[j]?=some t->Tryz.pinned.checked.prog.wantsStandIn t=false)
  (hg:true=c.goesBy Tryz.pinned.checked.prog):
  Claim7.holds Tryz.pinned (.plain s) { stood:= { row:=c,standIns:= [],harness:=(true, "f07a5fa70ed6775463b7a086f57573263f2086de7ec9f9dbb2d285f1a5080804"),looks:=false },kinds:= [],alts:= [],goes:=true,laidByText:=true,laidKinds:= [.funcs],laidTests:=true,laidLooks:=.later } :=by
 have H:∀r:OpenClaim,Claim7.isSixth { stood:= { row:=r,standIns:= [],harness:=(true, "f07a5fa70ed6775463b7a086f57573263f2086de7ec9f9dbb2d285f1a5080804"),looks:=false },kinds:= [] } =false:=λr=>by simp[Claim7.isSixth]
 exact⟨Claim7.tied_new_at .later [.funcs] true (Claim7.new_of_sixth hc (true, "f07a5fa70ed6775463b7a086f57573263f2086de7ec9f9dbb2d285f1a5080804") false I hnb hm (H c) hl) hw,(λD E=>by cases E),p,(λh=>by cases h),hg⟩
end Go.Proofs.YtjagmhagphbfcaaGreatDoor.cA
namespace Go.Proofs.YtjagmhagphbfcaaGreatDoor
@[simp] abbrev aiV:List Nat:=[0,1,4,5,9,17]
@[simp] abbrev aih:List Nat:=[0,1,2,3,4,32,37,46,51,61]
end Go.Proofs.YtjagmhagphbfcaaGreatDoor
namespace Go.Proofs.YtjagmhagphbfcaaGreatDoor.Dn
open Go Go.Proofs Lo Lw
section
variable{P:Program}[l:cL P]
theorem RX(a:List Int)(n:Int)(ha:a.length<100000000000000):aq P 45 [ints a,.i .i64 n] (.b (a.contains n)):=by
 refine fi (au P) func45 rfl rfl ?_
 repeat' (first|refine nI ?_|(refine eI aiV ?_;intro K h;simp[ints];apply h)|fail)
 refine bE (λd T B lv nx=>∃k,k+d=a.length/\T 0=ints a/\T 1=.i .i64 n/\T 5=.i .i64 k/\n∉a.take k) a.length ?_ ?_
 ·exact⟨0,by simp,by simp[ints],by simp,by simp,by simp⟩
 ·rintro d T B lv nx ⟨k,hk,t0,t1,t5,hp⟩;have w1:=aS ((k:Int)+1) (by omega) (by omega);by_cases p:k<a.length
  ·have H:a[k]?=some a[k]:=aaf p;have I:(a.map (AV.i .i64)).drop k=.i .i64 a[k]::(a.map (AV.i .i64)).drop (k+1):=by rw[aa4 (by simpa using p)];simp
   have J:a.take (k+1)=a.take k++ [a[k]]:=aaN p;have L:a[k]∈a:=abG p;generalize a[k]=x at H I J L;cases E:(x==n) with
   |true=>
    have O:x=n:=by simpa using E
    have he:n∈a:=by rw[<-O];exact L
    repeat' (first|refine nI ?_|(refine eI aiV ?_;intro K h;simp[t0,t1,t5,ints,p,H,I,E,w1];apply h)|fail)
    simp[Fin,aH,Tryz.f45,he]
   |false=>
    have N:n≠x:=λe=>by rw[e] at E;simp at E
    repeat' (first|refine nI ?_|(refine eI aiV ?_;intro K h;simp[t0,t1,t5,ints,p,H,I,E,w1];apply h)|fail)
    refine aN (d-1) (by omega) ⟨k+1,by omega,by simp[t0,ints],by simp[t1],by simp,by rw[J];simp[hp,N]⟩
  ·have M:k=a.length:=by omega
   subst M;have he:n∉a:=by rwa[aeo] at hp
   repeat' (first|refine nI ?_|(refine eI aiV ?_;intro K h;simp[t0,t1,t5,ints];apply h)|fail)
   simp[Fin,aH,Tryz.f45,he]
def gC(h:ay):Bool:=decide (40<h.L.length)||decide (40<h.S.length)||decide (40<h.R.length)||decide (20<h.alike.length)||decide (20<h.tags.length)||h.alike.any (λs=>decide (40<s.length))||h.tags.any (λt=>decide (40<t.reads.length))
theorem Jp{h:ay}(hg:gC h=false):Fair h:=by
 simp only[gC,Bool.or_eq_false_iff,aac,ag8,aan] at hg;obtain⟨⟨⟨⟨⟨⟨h1,h2⟩,J⟩,I⟩,H⟩,E⟩,p⟩:=hg;exact⟨by omega,by omega,by omega,by omega,λs hs=>by have:=E s hs;omega,by omega,λt ht=>by have:=p t ht;omega⟩
theorem E_{h:ay}(hg:40<h.L.length\/40<h.S.length\/40<h.R.length\/20<h.alike.length\/20<h.tags.length):gC h=true:=by
 simp only[gC,adr,aan];rcases hg with g|g|g|g|g <;>simp[g]
theorem KY(h:ay):aq P 16 [.ag (aa h)] (.b (gC h)):=by
 have V:(aa h).map AV.strip=aa h:=by simp[aa]
 refine fi (au P) func16 rfl rfl ?_;have L:=cV h.tags
 repeat' (first|refine nI ?_|(refine eI aih ?_;intro K p;simp[aa,L];first|apply p|(refine aE (λhc=>?_) (λhc=>?_) <;>(try simp only[aan,aac] at hc) <;>simp[hc,aa,L] <;>repeat' (first|apply p|(refine aE (λhc=>?_) (λhc=>?_) <;>(try simp only[aan,aac] at hc) <;>simp[hc,aa,L])|fail))|fail)|fail)
 all_goals try (have H:gC h=true:=E_ (by omega);simp[Fin,aH,Tryz.f16,H];done)
 by_cases g5:20<(h.tags.length:Int)
 ·have H:gC h=true:=E_ (by omega);have I:=g5
  repeat' (first|refine nI ?_|(refine eI aih ?_;intro K p;simp[aa,I];apply p)|fail)
  simp[Fin,aH,Tryz.f16,H]
 ·have I:=g5
  repeat' (first|refine nI ?_|(refine eI aih ?_;intro K p;simp[aa,I];apply p)|fail)
  have na:h.alike.length<=20:=by omega
  have nt:h.tags.length<=20:=by omega
  refine bE (λd T B lv nx=>∃k,k+d=h.alike.length/\T 1=.sp (aa h)/\T 3=.i .i64 k/\∀s∈h.alike.take k,¬40<s.length) h.alike.length ?_ ?_
  ·exact⟨0,by simp,by simp[aa],by simp,by simp⟩
  rintro d T B lv nx ⟨k,hk,t1,t3,hp⟩;have w1:=aS ((k:Int)+1) (by omega) (by omega);by_cases E:k<h.alike.length
  ·have J:(h.alike.map AV.s).drop k=.s h.alike[k]::(h.alike.map AV.s).drop (k+1):=by rw[aa4 (by simpa using E)];simp
   have O:h.alike[k]?=some h.alike[k]:=aaf E;have M:h.alike.take (k+1)=h.alike.take k++ [h.alike[k]]:=aaN E;have hm:h.alike[k]∈h.alike:=abG E;generalize h.alike[k]=s at J O M hm;by_cases h40:40<(s.length:Int)
   ·have H:gC h=true:=by
     have:h.alike.any (λs=>decide (40<s.length))=true:=afl.2 ⟨s,hm,by simp;omega⟩;simp[gC,this]
    repeat' (first|refine nI ?_|(refine eI aih ?_;intro K p;simp[t1,t3,aa,E,J,O,h40,w1];apply p)|fail)
    simp[Fin,aH,Tryz.f16,H]
   ·repeat' (first|refine nI ?_|(refine eI aih ?_;intro K p;simp[t1,t3,aa,E,J,O,h40,w1];apply p)|fail)
    refine aN (d-1) (by omega) ⟨k+1,by omega,by simp[t1,aa],by simp,λx hx=>?_⟩;rw[M,abH] at hx;rcases hx with hx|hx
    ·exact hp x hx
    ·simp only[abZ,adz,aeP] at hx;subst hx;omega
  ·have N:k=h.alike.length:=by omega
   subst N;rw[aeo] at hp
   repeat' (first|refine nI ?_|(refine eI aih ?_;intro K p;simp[t1,t3,aa];apply p)|fail)
   refine bE (λd T B lv nx=>∃k,k+d=h.tags.length/\T 1=.sp (aa h)/\T 4=.i .i64 k/\∀t∈h.tags.take k,¬40<t.reads.length) h.tags.length ?_ ?_
   ·exact⟨0,by simp,by simp[aa],by simp,by simp⟩
   rintro d T B lv nx ⟨k,hk,t1,t4,U⟩;have w1:=aS ((k:Int)+1) (by omega) (by omega);by_cases E:k<h.tags.length
   ·have J:=fA h.tags k h.tags[k] (aaf E);have hle:(k+1)*3<=h.tags.length*3:=by omega
    have M:h.tags.take (k+1)=h.tags.take k++ [h.tags[k]]:=aaN E;have hm:h.tags[k]∈h.tags:=abG E;generalize h.tags[k]=t at J M hm;by_cases h40:40<(t.reads.length:Int)
    ·have H:gC h=true:=by
      have:h.tags.any (λt=>decide (40<t.reads.length))=true:=afl.2 ⟨t,hm,by simp;omega⟩;simp[gC,this]
     repeat' (first|refine nI ?_|(refine eI aih ?_;intro K p;simp[t1,t4,aa,E,L,hle,J,h40,w1];apply p)|fail)
     simp[Fin,aH,Tryz.f16,H]
    ·repeat' (first|refine nI ?_|(refine eI aih ?_;intro K p;simp[t1,t4,aa,E,L,hle,J,h40,w1];apply p)|fail)
     refine aN (d-1) (by omega) ⟨k+1,by omega,by simp[t1,aa],by simp,λx hx=>?_⟩;rw[M,abH] at hx;rcases hx with hx|hx
     ·exact U x hx
     ·simp only[abZ,adz,aeP] at hx;subst hx;omega
   ·have N:k=h.tags.length:=by omega
    subst N;rw[aeo] at U;have H:gC h=false:=by
     simp only[gC,Bool.or_eq_false_iff,aac,ag8,aan];exact⟨⟨⟨⟨⟨⟨by omega,by omega⟩,by omega⟩,by omega⟩,by omega⟩,hp⟩,U⟩
    repeat' (first|refine nI ?_|(refine eI aih ?_;intro K p;simp[t1,t4,aa,L];apply p)|fail)
    simp[Fin,aH,Tryz.f16,H]
end
section
variable{P:Program}[l:cL P]
theorem BE(s:List UInt8)(hs:s.length<1000000):aq P 83 [.s s] (.i .i64 (aM s)):=by
 obtain⟨A,M,E⟩:=ca (VL (P:=P) s.length 1 5);obtain⟨B,L,p⟩:=ca (uA (P:=P) s 63 hs);obtain⟨C,J,hC⟩:=ca (Eg (P:=P) s 63 hs);have N:(((63:UInt8).toNat:Nat):Int)=63:=rfl;rw[N] at p hC;refine fi (ak call42 M (ak call138 L (ak call124 J (au P)))) func83 rfl rfl ?_;by_cases h1:(1:Int)<=s.length/\(s.length:Int)<=5
 ·have hb:¬(s.length<1\/5<s.length):=by omega
  have hd:(decide ((1:Int)<=s.length)&&decide ((s.length:Int)<=5))=true:=by simp;omega
  rw[hd] at E;cases h2:bA s 63 with
  |false=>
   rw[h2] at p
   repeat' (first|refine nI ?_|(refine eI [0,2,6,9,12] ?_;intro K h;simp[ab,az,E,p];apply h)|fail)
   have hv:aM s=3:=by unfold aM;rw[aat hb,aay h2]
   simp[Fin,aH,Tryz.f83,hv]
  |true=>
   rw[h2] at p;by_cases I:(2:Int)<s.count 63
   ·have H:2<s.count 63:=by omega
    repeat' (first|refine nI ?_|(refine eI [0,2,6,9,12] ?_;intro K h;simp[ab,az,E,p,hC,I];apply h)|fail)
    have hv:aM s=2:=by unfold aM;rw[aat hb,aat (by rw[h2];decide),aay H]
    simp[Fin,aH,Tryz.f83,hv]
   ·have H:¬2<s.count 63:=by omega
    repeat' (first|refine nI ?_|(refine eI [0,2,6,9,12] ?_;intro K h;simp[ab,az,E,p,hC,I];apply h)|fail)
    have hv:aM s=0:=by unfold aM;rw[aat hb,aat (by rw[h2];decide),aat H]
    simp[Fin,aH,Tryz.f83,hv]
 ·have hb:s.length<1\/5<s.length:=by omega
  have hd:(decide ((1:Int)<=s.length)&&decide ((s.length:Int)<=5))=false:=by
   cases hx:(decide ((1:Int)<=s.length)&&decide ((s.length:Int)<=5)) with
   |false=>rfl
   |true=>simp at hx;omega
  rw[hd] at E
  repeat' (first|refine nI ?_|(refine eI [0,2,6,9,12] ?_;intro K h;simp[ab,az,E];apply h)|fail)
  have hv:aM s=2:=by unfold aM;rw[aay hb]
  simp[Fin,aH,Tryz.f83,hv]
theorem Gi(a b E hi:Int):aq P 152 [.ag [.i .i64 a,.i .i64 b],.i .i64 E,.i .i64 hi] (.b (decide (E<=a/\a<=b/\b<=hi))):=by
 refine fi (au P) func152 rfl rfl ?_;by_cases h1:E<=a
 ·by_cases h2:a<=b
  ·by_cases p:b<=hi
   ·repeat' (first|refine nI ?_|(refine eI [0,1,2,3,6] ?_;intro K h;simp[h1,h2,p];apply h)|fail)
    simp[Fin,aH,Tryz.f152,h1,h2,p]
   ·repeat' (first|refine nI ?_|(refine eI [0,1,2,3,6] ?_;intro K h;simp[h1,h2,p];apply h)|fail)
    simp[Fin,aH,Tryz.f152,h1,h2,p]
  ·repeat' (first|refine nI ?_|(refine eI [0,1,2,3,6] ?_;intro K h;simp[h1,h2];apply h)|fail)
   simp[Fin,aH,Tryz.f152,h1,h2]
 ·repeat' (first|refine nI ?_|(refine eI [0,1,2,3,6] ?_;intro K h;simp[h1];apply h)|fail)
  simp[Fin,aH,Tryz.f152,h1]
theorem BG(a b:Int):aq P 110 [.ag [.i .i64 a,.i .i64 b]] (.b (dR a b)):=by
 obtain⟨A,E,p⟩:=ca (Gi (P:=P) a b 0 99999);refine fi (ak call152 E (au P)) func110 rfl rfl ?_
 repeat' (first|refine nI ?_|(refine eI [0,1,2] ?_;intro K h;simp[ab,p];apply h)|fail)
 simp[Fin,aH,Tryz.f110,dR]
end
end Go.Proofs.YtjagmhagphbfcaaGreatDoor.Dn
namespace Go.Proofs.YtjagmhagphbfcaaGreatDoor
@[simp] abbrev aia:List Nat:=[0,1,2,3,4,32,45,57,71]
end Go.Proofs.YtjagmhagphbfcaaGreatDoor
namespace Go.Proofs.YtjagmhagphbfcaaGreatDoor.Dn
open Go Go.Proofs Lo Lw
section
variable{P:Program}[l:cL P]
theorem L9{c d:UInt8}(h:(c.toNat:Int)=d.toNat):c=d:=UInt8.toNat_inj.1 (by omega)
theorem uB:∃F:List AV->Option AV,Den P 138 F/\∀(s:List UInt8) (c:UInt8),s.length<1000000->F [.s s,.i .u8 c.toNat]=some (.b (bA s c)):=by
 obtain⟨F,h1,h2⟩:=cC (P:=P) (f:=138) (ι:=List UInt8×UInt8) (λx=> [.s x.1,.i .u8 x.2.toNat]) (λx=>.b (bA x.1 x.2)) (λx=>x.1.length<1000000) (λx y _ _ e=>by
  simp only[abg,AV.s.injEq,AV.i.injEq,adM,abQ] at e;rw[e.1,L9 e.2]) (λx hx=>uA x.1 x.2 hx)
 exact⟨F,h1,λs c hs=>h2 (s,c) hs⟩
theorem Ng:∃F:List AV->Option AV,Den P 124 F/\∀(s:List UInt8) (c:UInt8),s.length<1000000->F [.s s,.i .u8 c.toNat]=some (.i .i64 (s.count c)):=by
 obtain⟨F,h1,h2⟩:=cC (P:=P) (f:=124) (ι:=List UInt8×UInt8) (λx=> [.s x.1,.i .u8 x.2.toNat]) (λx=>.i .i64 (x.1.count x.2)) (λx=>x.1.length<1000000) (λx y _ _ e=>by
  simp only[abg,AV.s.injEq,AV.i.injEq,adM,abQ] at e;rw[e.1,L9 e.2]) (λx hx=>Eg x.1 x.2 hx)
 exact⟨F,h1,λs c hs=>h2 (s,c) hs⟩
theorem D1(h:ay)(hL:h.L.length<1000)(hS:h.S.length<1000)(hR:h.R.length<1000):aq P 108 [.ag (aa h)] (.i .i64 (bB h)):=by
 obtain⟨A,ad,W⟩:=uB (P:=P);obtain⟨C,cd,hC⟩:=Ng (P:=P);have a1:=W h.L 63 (by omega);have a2:=W h.S 65 (by omega);have a3:=W h.R 65 (by omega);have c1:=hC h.L 63 (by omega);have Gb:(((63:UInt8).toNat:Nat):Int)=63:=rfl;have e65:(((65:UInt8).toNat:Nat):Int)=65:=rfl;rw[Gb] at a1 c1;rw[e65] at a2 a3;have i10:((h.L.length:Int)==10)=(h.L.length==10):=by
  rw[adX];simp only[ac6];omega
 have V:((h.S.length:Int)==(h.L.count 63:Int))=(h.S.length==h.L.count 63):=by
  rw[adX];simp only[ac6];omega
 refine fi (ak call138 ad (ak call124 cd (au P))) func108 rfl rfl ?_;by_cases b1:h.L.length=10
 ·have E:(h.L.length==10)=true:=by simp[b1]
  cases b2:bA h.L 63 with
  |false=>
   rw[b2] at a1
   repeat' (first|refine nI ?_|(refine eI aia ?_;intro K p;simp[aa,i10,E,bne,ab,a1];apply p)|fail)
   simp[Fin,aH,Tryz.f108,bB,b1,b2]
  |true=>
   rw[b2] at a1;cases H:bA h.S 65 with
   |false=>
    rw[H] at a2
    repeat' (first|refine nI ?_|(refine eI aia ?_;intro K p;simp[aa,i10,E,bne,ab,a1,a2];apply p)|fail)
    simp[Fin,aH,Tryz.f108,bB,b1,b2,H]
   |true=>
    rw[H] at a2;by_cases b4:1<h.R.length
    ·have J:(1:Int)<h.R.length:=by omega
     repeat' (first|refine nI ?_|(refine eI aia ?_;intro K p;simp[aa,i10,E,bne,ab,a1,a2,J];apply p)|fail)
     simp[Fin,aH,Tryz.f108,bB,b1,b2,H,b4]
    ·have J:¬(1:Int)<h.R.length:=by omega
     cases I:bA h.R 65 with
     |false=>
      rw[I] at a3
      repeat' (first|refine nI ?_|(refine eI aia ?_;intro K p;simp[aa,i10,E,bne,ab,a1,a2,J,a3];apply p)|fail)
      simp[Fin,aH,Tryz.f108,bB,b1,b2,H,b4,I]
     |true=>
      rw[I] at a3;by_cases b6:h.S.length=h.L.count 63
      ·have O:(h.S.length==h.L.count 63)=true:=by simp[b6]
       by_cases b7:4<h.S.length
       ·have Y:(4:Int)<h.S.length:=by omega
        repeat' (first|refine nI ?_|(refine eI aia ?_;intro K p;simp[aa,i10,E,bne,ab,az,a1,a2,J,a3,c1,V,O,Y];apply p)|fail)
        have hv:bB h=2:=by
         unfold bB;rw[aat (by rw[b2,H,I];simp;omega),aay (by omega)]
        simp[Fin,aH,Tryz.f108,hv]
       ·have Y:¬(4:Int)<h.S.length:=by omega
        have hv:bB h=if dup (h.L++h.S++h.R)=true then 5 else 0:=by
         unfold bB;rw[aat (by rw[b2,H,I];simp;omega),aat (by omega)]
        have n1:¬(9223372036854775807:Int)<(h.L.length:Int)+h.S.length:=by omega
        have n2:¬(9223372036854775807:Int)<(h.L.length:Int)+h.S.length+h.R.length:=by omega
        repeat' (first|refine nI ?_|(refine eI aia ?_;intro K p;simp[aa,i10,E,bne,ab,az,a1,a2,J,a3,c1,V,O,Y,n1,n2];apply p)|fail)
        have F3:(h.L++h.S++h.R).length<3000:=by simp only[abj];omega
        refine bE (λd T B lv nx=>∃k,k+d=(h.L++h.S++h.R).length/\T 3=.s (h.L++h.S++h.R)/\T 4=.i .i64 k/\((h.L++h.S++h.R).take k).any (λc=>c !=63&&decide (1<(h.L++h.S++h.R).count c))=false) (h.L++h.S++h.R).length ?_ ?_
        ·exact⟨0,by simp,by simp,by simp,by simp⟩
        rintro d T B lv nx ⟨k,hk,t3,t4,hp⟩;have w1:=aS ((k:Int)+1) (by omega) (by omega);generalize h.L++h.S++h.R=w at *;by_cases N:k<w.length
        ·have LW:=hC w w[k] (by omega);have U:((w[k].toNat:Int)==63)=(w[k]==63):=kn w[k] 63 (by omega);have jF:(w.take (k+1)).any (λc=>c !=63&&decide (1<w.count c))=(w[k] !=63&&decide (1<w.count w[k])):=by
          rw[aaN N,aeC,hp];simp
         cases M:(w[k]==63) with
         |true=>
          repeat' (first|refine nI ?_|(refine eI aia ?_;intro K p;simp[t3,t4,N,bne,U,M,w1];apply p)|fail)
          refine aN (d-1) (by omega) ⟨k+1,by omega,by simp[t3],by simp,by rw[jF];simp[bne,M]⟩
         |false=>
          by_cases WX:(1:Int)<(w.count w[k]:Int)
          ·have Z:1<w.count w[k]:=by omega
           have hd:dup w=true:=by
            unfold dup;rw[afl];exact⟨w[k],abG N,by simp[bne,M,Z]⟩
           rw[hd] at hv
           repeat' (first|refine nI ?_|(refine eI aia ?_;intro K p;simp[t3,t4,N,bne,U,M,w1,ab,az,LW,WX];apply p)|fail)
           simp[Fin,aH,Tryz.f108,hv]
          ·have Z:¬1<w.count w[k]:=by omega
           repeat' (first|refine nI ?_|(refine eI aia ?_;intro K p;simp[t3,t4,N,bne,U,M,w1,ab,az,LW,WX];apply p)|fail)
           refine aN (d-1) (by omega) ⟨k+1,by omega,by simp[t3],by simp,by rw[jF];simp[Z]⟩
        ·have gg:k=w.length:=by omega
         subst gg;have hd:dup w=false:=by simpa[dup] using hp
         rw[hd] at hv
         repeat' (first|refine nI ?_|(refine eI aia ?_;intro K p;simp[t3,t4];apply p)|fail)
         simp[Fin,aH,Tryz.f108,hv]
      ·have O:(h.S.length==h.L.count 63)=false:=by simp[b6]
       repeat' (first|refine nI ?_|(refine eI aia ?_;intro K p;simp[aa,i10,E,bne,ab,az,a1,a2,J,a3,c1,V,O];apply p)|fail)
       have hv:bB h=2:=by
        unfold bB;rw[aat (by rw[b2,H,I];simp;omega),aay (by omega)]
       simp[Fin,aH,Tryz.f108,hv]
 ·have E:(h.L.length==10)=false:=by simp[b1]
  repeat' (first|refine nI ?_|(refine eI aia ?_;intro K p;simp[aa,i10,E,bne];apply p)|fail)
  simp[Fin,aH,Tryz.f108,bB,b1]
end
end Go.Proofs.YtjagmhagphbfcaaGreatDoor.Dn
namespace Go.Proofs.YtjagmhagphbfcaaGreatDoor
@[simp] abbrev ah1:List Nat:=[0,2,3,4,7,11,27,38,41,78]
end Go.Proofs.YtjagmhagphbfcaaGreatDoor
namespace Go.Proofs.YtjagmhagphbfcaaGreatDoor.Dn
open Go Go.Proofs Lo Lw
section
variable{P:Program}[l:cL P]
theorem BJ(a:List (List UInt8))(ht:∀s∈a,s.length<1000000):aq P 109 [strs a] (.i .i64 (bj a)):=by
 obtain⟨A,ad,hA⟩:=uB (P:=P);have e65:(((65:UInt8).toNat:Nat):Int)=65:=rfl;refine fi (ak call138 ad (au P)) func109 rfl rfl ?_;by_cases h5:4<a.length
 ·have E8:(4:Int)<a.length:=by omega
  repeat' (first|refine nI ?_|(refine eI ah1 ?_;intro K h;simp[strs,E8];apply h)|fail)
  simp[Fin,aH,Tryz.f109,bj,h5]
 ·have E8:¬(4:Int)<a.length:=by omega
  repeat' (first|refine nI ?_|(refine eI ah1 ?_;intro K h;simp[strs,E8];apply h)|fail)
  refine bE (λd' T B lv nx=>∃k,k+d'=a.length/\T 0=strs a/\T 3=.i .i64 k/\bj a=cb (a.take k) (a.drop k)/\∀s∈a.take k,s.length=2) a.length ?_ ?_
  ·exact⟨0,by simp,by simp[strs],by simp,by simp[bj,h5],by simp⟩
  ·rintro d' T B lv nx ⟨k,hk,t0,t3,hp,h2⟩;have w1:=aS ((k:Int)+1) (by omega) (by omega);by_cases E:k<a.length
   ·have rM:a.drop k=a[k]::a.drop (k+1):=aa4 E;have jF:a.take (k+1)=a.take k++ [a[k]]:=aaN E;rw[rM] at hp;have N:=hA a[k] 65 (ht _ (abG E));rw[e65] at N;have I:(a.map AV.s).drop k=.s a[k]::(a.map AV.s).drop (k+1):=by rw[aa4 (by simpa using E)];simp
    have H:a[k]?=some a[k]:=aaf E;by_cases hl2:a[k].length=2
    ·obtain⟨y,z,hs⟩:∃y z,a[k]= [y,z]:=by
      match a[k],hl2 with
      | [y,z],_=>exact⟨y,z,rfl⟩
     rw[hs] at N hp I H;have Jc:=dV y z;have Cp:∀s∈a.take (k+1),s.length=2:=by
      intro s U;rw[jF] at U;rcases abH.1 U with U|U
      ·exact h2 s U
      ·rw[acE.1 U];exact hl2
     cases V:bA [y,z] 65 with
     |false=>
      rw[V] at N;have hv:bj a=3:=by rw[hp];simp[cb,eR,V]
      repeat' (first|refine nI ?_|(refine eI ah1 ?_;intro K h;simp[t0,t3,strs,E,I,H,ab,N,w1,bne];apply h)|fail)
      simp[Fin,aH,Tryz.f109,hv]
     |true=>
      rw[V] at N;cases Hj:(y==z) with
      |true=>
       have Z:y=z:=by simpa using Hj
       have hv:bj a=5:=by rw[hp];subst Z;simp[cb,eR,V]
       repeat' (first|refine nI ?_|(refine eI ah1 ?_;intro K h;simp[t0,t3,strs,E,I,H,ab,N,Jc,Hj,w1,bne];apply h)|fail)
       simp[Fin,aH,Tryz.f109,hv]
      |false=>
       have Z:¬y=z:=by simpa using Hj
       repeat' (first|refine nI ?_|(refine eI ah1 ?_;intro K h;simp[t0,t3,strs,E,I,H,ab,N,Jc,Hj,w1,bne];apply h)|fail)
       refine bE (λd2 T B lv nx=>∃j,j+d2=k/\T 0=strs a/\T 3=.i .i64 k/\T 4=.i .i64 j/\(a.take j).any (cP · [y,z])=false) k ?_ ?_
       ·exact⟨0,by simp,by simp[t0,strs],by simp[t3],by simp,by simp⟩
       rintro d2 T B lv nx ⟨j,hj,t0,t3,t4,hq⟩;have w2:=aS ((j:Int)+1) (by omega) (by omega);by_cases Hx:j<k
       ·have M:j<a.length:=by omega
        have L:a[j]∈a.take k:=agD.2 ⟨j,by omega,rfl⟩;have htj:a.take (j+1)=a.take j++ [a[j]]:=aaN M;have Y:(a.map AV.s).drop j=.s a[j]::(a.map AV.s).drop (j+1):=by rw[aa4 (by simpa using M)];simp
        have W:a[j]?=some a[j]:=aaf M;have h2j:=h2 _ L;obtain⟨p,q,iJ⟩:∃p q,a[j]= [p,q]:=by
         match a[j],h2j with
         | [p,q],_=>exact⟨p,q,rfl⟩
        rw[iJ] at Y W L;have pj:(a.take (j+1)).any (cP · [y,z])=cP [p,q] [y,z]:=by
         rw[htj,aeC,hq,iJ];simp
        have gT:cP [p,q] [y,z]=true->bj a=5:=λhb=>by
         have hx:(a.take k).any (cP · [y,z])=true:=afl.2 ⟨_,L,hb⟩;rw[hp];simp[cb,eR,V,Z,hx]
        have b1:=dV p z;have b2:=dV q y;cases J:([p,q]== [y,z]) with
        |true=>
         have hv:=gT (by simp[cP,J])
         repeat' (first|refine nI ?_|(refine eI ah1 ?_;intro K h;simp[t0,t3,t4,strs,E,M,Hx,I,H,Y,W,J,w2];apply h)|fail)
         simp[Fin,aH,Tryz.f109,hv]
        |false=>
         cases O:(p==z) with
         |false=>
          have hn:cP [p,q] [y,z]=false:=by simp[cP,J,O]
          repeat' (first|refine nI ?_|(refine eI ah1 ?_;intro K h;simp[t0,t3,t4,strs,E,M,Hx,I,H,Y,W,J,b1,O,w2];apply h)|fail)
          refine aN (d2-1) (by omega) ⟨j+1,by omega,by simp[t0,strs],by simp[t3],by simp,by rw[pj];exact hn⟩
         |true=>
          cases e3:(q==y) with
          |true=>
           have hv:=gT (by simp[cP,J,O,e3])
           repeat' (first|refine nI ?_|(refine eI ah1 ?_;intro K h;simp[t0,t3,t4,strs,E,M,Hx,I,H,Y,W,J,b1,O,b2,e3,w2];apply h)|fail)
           simp[Fin,aH,Tryz.f109,hv]
          |false=>
           have hn:cP [p,q] [y,z]=false:=by simp[cP,J,O,e3]
           repeat' (first|refine nI ?_|(refine eI ah1 ?_;intro K h;simp[t0,t3,t4,strs,E,M,Hx,I,H,Y,W,J,b1,O,b2,e3,w2];apply h)|fail)
           refine aN (d2-1) (by omega) ⟨j+1,by omega,by simp[t0,strs],by simp[t3],by simp,by rw[pj];exact hn⟩
       ·have hjj:j=k:=by omega
        subst hjj;have hv:bj a=cb (a.take (j+1)) (a.drop (j+1)):=by
         rw[hp,jF,hs];simp[cb,eR,V,Z,hq]
        repeat' (first|refine nI ?_|(refine eI ah1 ?_;intro K h;simp[t0,t3,t4,strs,w1];apply h)|fail)
        refine aN (d'-1) (by omega) ⟨j+1,by omega,by simp[t0,strs],by simp,hv,Cp⟩
    ·have Wz:((a[k].length:Int)==2)=false:=by simp;omega
     have hv:bj a=3:=by rw[hp];simp[cb,eR,hl2]
     repeat' (first|refine nI ?_|(refine eI ah1 ?_;intro K h;simp[t0,t3,strs,E,I,H,Wz,w1,bne];apply h)|fail)
     simp[Fin,aH,Tryz.f109,hv]
   ·have gg:k=a.length:=by omega
    subst gg
    repeat' (first|refine nI ?_|(refine eI ah1 ?_;intro K h;simp[t0,t3,strs];apply h)|fail)
    have:bj a=0:=by rw[hp];simp[cb]
    simp[Fin,aH,Tryz.f109,this]
end
end Go.Proofs.YtjagmhagphbfcaaGreatDoor.Dn
namespace Go.Proofs.YtjagmhagphbfcaaGreatDoor
@[simp] abbrev aic:List Nat:=[0,1,2,3,4,5,6,10,16,21,26,37,46]
end Go.Proofs.YtjagmhagphbfcaaGreatDoor
namespace Go.Proofs.YtjagmhagphbfcaaGreatDoor.Dn
open Go Go.Proofs Lo Lw
section
variable{P:Program}[l:cL P]
theorem BF:∃F:List AV->Option AV,Den P 83 F/\∀(s:List UInt8),s.length<1000000->F [.s s]=some (.i .i64 (aM s)):=by
 obtain⟨F,h1,h2⟩:=cC (P:=P) (f:=83) (ι:=List UInt8) (λx=> [.s x]) (λx=>.i .i64 (aM x)) (λx=>x.length<1000000) (λx y _ _ e=>by
  simp only[abg,AV.s.injEq,abQ] at e;rw[e]) (λx hx=>BE x hx)
 exact⟨F,h1,h2⟩
theorem BH:∃F:List AV->Option AV,Den P 110 F/\∀a b:Int,F [.ag [.i .i64 a,.i .i64 b]]=some (.b (dR a b)):=by
 obtain⟨F,h1,h2⟩:=cC (P:=P) (f:=110) (ι:=Int×Int) (λx=> [.ag [.i .i64 x.1,.i .i64 x.2]]) (λx=>.b (dR x.1 x.2)) (λ_=>True) (λx y _ _ e=>by
  simp only[abg,AV.ag.injEq,AV.i.injEq,adM,abQ] at e;rw[e.1,e.2]) (λx _=>BG x.1 x.2)
 exact⟨F,h1,λa b=>h2 (a,b) trivial⟩
theorem BI(h:ay)(hf:Fair h):aq P 49 [.ag (aa h)] (.i .i64 (aO h)):=by
 obtain⟨A,ad,W⟩:=ca (D1 (P:=P) h (by have:=hf.L;omega) (by have:=hf.S;omega) (by have:=hf.R;omega));obtain⟨B,bd,hB⟩:=ca (BJ (P:=P) h.alike (λs hs=>by have:=hf.a s hs;omega));obtain⟨C,cd,hC⟩:=BF (P:=P);obtain⟨D,dd,hD⟩:=BH (P:=P);simp only[aa,strs] at W hB;have O:=cV h.tags;refine fi (ak call108 ad (ak call109 bd (ak call83 cd (ak call110 dd (au P))))) func49 rfl rfl ?_;by_cases N:bB h=0
 ·have Y:(bB h==0)=true:=by simp[N]
  by_cases V:bj h.alike=0
  ·have H:(bj h.alike==0)=true:=by simp[V]
   by_cases q3:5<h.tags.length
   ·have J:(5:Int)<h.tags.length:=by omega
    repeat' (first|refine nI ?_|(refine eI aic ?_;intro K p;simp[aa,O,ab,az,W,hB,Y,H,J,bne];apply p)|fail)
    simp[Fin,aH,Tryz.f49,aO,N,V,q3]
   ·have J:¬(5:Int)<h.tags.length:=by omega
    repeat' (first|refine nI ?_|(refine eI aic ?_;intro K p;simp[aa,O,ab,az,W,hB,Y,H,J,bne];apply p)|fail)
    have hh:aO h=cR h.tags:=by simp[aO,N,V,q3]
    refine bE (λd T B lv nx=>∃k,k+d=h.tags.length/\T 1=.sp (aa h)/\T 5=.i .i64 k/\cR h.tags=cR (h.tags.drop k)) h.tags.length ?_ ?_
    ·exact⟨0,by simp,by simp[aa],by simp,by simp⟩
    rintro d T B lv nx ⟨k,hk,t1,t5,hp⟩;have w1:=aS ((k:Int)+1) (by omega) (by omega);by_cases U:k<h.tags.length
    ·have da:=fA h.tags k h.tags[k] (aaf U);have hle:(k+1)*3<=h.tags.length*3:=by omega
     have rM:h.tags.drop k=h.tags[k]::h.tags.drop (k+1):=aa4 U;have hm:h.tags[k]∈h.tags:=abG U;rw[rM] at hp;generalize h.tags[k]=t at da hp hm;have M:=hC t.reads (by have:=hf.t t hm;omega);have I:=hD t.low t.high;by_cases r1:aM t.reads=0
     ·have E:(aM t.reads==0)=true:=by simp[r1]
      cases Z:dR t.low t.high with
      |true=>
       rw[Z] at I
       repeat' (first|refine nI ?_|(refine eI aic ?_;intro K p;simp[t1,t5,aa,U,O,hle,da,ab,az,M,I,E,bne,w1];apply p)|fail)
       refine aN (d-1) (by omega) ⟨k+1,by omega,by simp[t1,aa],by simp,by rw[hp];simp[cR,r1,Z]⟩
      |false=>
       rw[Z] at I;have hv:aO h=1:=by rw[hh,hp];simp[cR,r1,Z]
       repeat' (first|refine nI ?_|(refine eI aic ?_;intro K p;simp[t1,t5,aa,U,O,hle,da,ab,az,M,I,E,bne,w1];apply p)|fail)
       simp[Fin,aH,Tryz.f49,hv]
     ·have E:(aM t.reads==0)=false:=by simp[r1]
      have hv:aO h=aM t.reads:=by rw[hh,hp];simp[cR,r1]
      repeat' (first|refine nI ?_|(refine eI aic ?_;intro K p;simp[t1,t5,aa,U,O,hle,da,ab,az,M,E,bne,w1];apply p)|fail)
      simp[Fin,aH,Tryz.f49,hv]
    ·have gg:k=h.tags.length:=by omega
     subst gg;have hv:aO h=0:=by rw[hh,hp];simp[cR]
     repeat' (first|refine nI ?_|(refine eI aic ?_;intro K p;simp[t1,t5,aa,O];apply p)|fail)
     simp[Fin,aH,Tryz.f49,hv]
  ·have H:(bj h.alike==0)=false:=by simp[V]
   repeat' (first|refine nI ?_|(refine eI aic ?_;intro K p;simp[aa,ab,az,W,hB,Y,H,bne];apply p)|fail)
   simp[Fin,aH,Tryz.f49,aO,N,V]
 ·have Y:(bB h==0)=false:=by simp[N]
  repeat' (first|refine nI ?_|(refine eI aic ?_;intro K p;simp[aa,ab,az,W,Y,bne];apply p)|fail)
  simp[Fin,aH,Tryz.f49,aO,N]
def Fo(h:ay):Bool:= !gC h&&(aO h==0)
theorem Si(h:ay):aq P 30 [.ag (aa h)] (.b (Fo h)):=by
 obtain⟨A,I,p⟩:=ca (KY (P:=P) h);simp only[aa] at p;cases hg:gC h with
 |true=>
  rw[hg] at p;refine fi (ak call16 I (au P)) func30 rfl rfl ?_
  repeat' (first|refine nI ?_|(refine eI [0,1,2] ?_;intro K E;simp[aa,ab,az,p];apply E)|fail)
  simp[Fin,aH,Tryz.f30,Fo,hg]
 |false=>
  rw[hg] at p;obtain⟨B,J,H⟩:=ca (BI (P:=P) h (Jp hg));simp only[aa] at H;refine fi (ak call16 I (ak call49 J (au P))) func30 rfl rfl ?_
  repeat' (first|refine nI ?_|(refine eI [0,1,2] ?_;intro K E;simp[aa,ab,az,p,H];apply E)|fail)
  simp[Fin,aH,Tryz.f30,Fo,hg]
end
end Go.Proofs.YtjagmhagphbfcaaGreatDoor.Dn
namespace Go.Proofs.YtjagmhagphbfcaaGreatDoor
def agl:=@List.exists_cons_of_ne_nil
end Go.Proofs.YtjagmhagphbfcaaGreatDoor
namespace Go.Proofs.YtjagmhagphbfcaaGreatDoor.Dn
open Go Go.Proofs Lo Lw
def valOf(n:Int)(h:List Int):Int:=h.foldl (λa d=>10*a+d) n
theorem pR:∀(k:Nat) (n:Int),0<=n->n<10^k->valOf 0 (cj n k)=n
 |0,n,h0,h1=>by simp at h1;simp[cj,valOf];omega
 |k+1,n,h0,h1=>by
  have h2:n/10<10^k:=by rw[Int.pow_succ] at h1;omega
  have:=pR k (n/10) (by omega) h2;unfold valOf at this ⊢;rw[cj,ag9,this];simp;omega
theorem lD(h:ay)(r:UInt8):fK h r r=true:=by simp[fK]
theorem zV(h:ay)(w:List UInt8):∀(E:List Int) (last n:Int) (b:Bool),(∀d∈E,0<=d/\d<=9)->valOf n E∈(bf h w (dC w h.R last E) last n b).map (·.1)
 | [],last,n,b,_=>by simp[dC,bf,valOf]
 |d::l,last,n,b,hd=>by
  have N:=hd d (by simp);have H:=λb'=>zV h w l d (10*n+d) b' (λx hx=>hd x (by simp[hx]))
  rw[dC,bf,afD,abH];have L:valOf n (d::l)=valOf (10*n+d) l:=rfl;rw[L];by_cases p:h.R≠ []/\d=last
  ·right;obtain⟨q,M,hq⟩:=agl p.1;have hc:Gc w h.R last d=q:=by simp[Gc,p,hq]
   rw[hc,hq];simp only;rw[aay (by omega),lD,aay rfl,<-p.2,<-hq];exact H _
  ·left;have hc:Gc w h.R last d=w.getD ((d+9)%10).toNat 0:=by rw[Gc,aat p]
   rw[hc,ac4];have hk:((d+9)%10).toNat<10:=by omega
   have he:(((((d+9)%10).toNat+1)%10:Nat):Int)=d:=by omega
   have I:(d !=last||h.R.isEmpty)=true:=by
    by_cases e:d=last
    ·have:h.R= []:=by
      refine aaO λhn=>p ⟨hn,e⟩
     simp[this]
    ·simp[e]
   obtain⟨x,hx,J⟩:=ac4.1 (H (b||(w.getD ((d+9)%10).toNat 0 !=63&&w.getD ((d+9)%10).toNat 0 !=w.getD ((d+9)%10).toNat 0)));refine⟨x,aeQ.2 ⟨((d+9)%10).toNat,aeh.2 hk,?_⟩,J⟩;rw[he,aay I,lD,aay rfl];exact hx
structure Tc(h:ay)(w:List UInt8):Prop where
 len:w.length=10
 lets:∀c∈w,isLet c=true
 nod:w.Nodup
 rep:∀q∈h.R,isLet q=true/\q∉w
theorem lZ{c:UInt8}(h:isLet c=true):c≠63:=by
 rintro rfl;exact absurd h (by decide)
theorem En{s:List UInt8}(h:bA s 65=true):∀c∈s,isLet c=true:=λc hc=>by
 have:=acp.1 h c hc;rcases afn.1 this with h|h
 ·exact h
 ·rw[ac6] at h;subst h;decide
theorem Nl{s:List UInt8}(h:bA s 63=true):∀c∈s,c≠63->isLet c=true:=λc hc hn=>by
 have:=acp.1 h c hc;rcases afn.1 this with h|h
 ·exact h
 ·rw[ac6] at h;exact absurd h hn
theorem nH:∀(S:List UInt8) (k:Nat),k<S.length->(S.getD k 0::(S.take k++S.drop (k+1))).Perm S
 | [],k,h=>by simp at h
 |a::S,0,h=>by simp
 |a::S,k+1,h=>by
  have p:=nH S k (by simpa using h);simp only[List.getD_cons_succ,List.take_succ_cons,afs,aaT];exact(List.Perm.swap _ _ _).trans (p.cons a)
theorem qh:∀(L S w:List UInt8),S.length=L.count 63->w∈e_ L S->w.Perm (L.filter (· !=63)++S)
 | [],S,w,hl,hw=>by
  have:S= []:=abA hl;subst this;simp[e_] at hw;subst hw;exact List.Perm.refl _
 |c::L,S,w,hl,hw=>by
  unfold e_ at hw;split at hw
  ·rename_i hc;subst hc;simp only[aeQ,ac4,aeh] at hw;obtain⟨k,hk,v,hv,rfl⟩:=hw;have hp:=nH S k hk;have h:(S.take k++S.drop (k+1)).length=L.count 63:=by
    have:=hp.length_eq;rw[List.count_cons_self] at hl;simp only[ab0] at this;omega
   have p:=qh L _ v h hv;have e:(63::L:List UInt8).filter (· !=63)=L.filter (· !=63):=by simp
   rw[e];refine(p.cons _).trans ?_;refine List.perm_middle.symm.trans ?_;exact List.Perm.append_left _ hp
  ·rename_i hc;simp only[ac4] at hw;obtain⟨v,hv,rfl⟩:=hw;rw[List.count_cons_of_ne (λe=>hc e)] at hl;have e:(c::L:List UInt8).filter (· !=63)=c::L.filter (· !=63):=by simp[hc]
   rw[e];exact(qh L S v hl hv).cons c
theorem La{a:List UInt8}(h:dup a=false):(a.filter (· !=63)).Nodup:=by
 rw[List.nodup_iff_count];intro c;by_cases hm:c∈a.filter (· !=63)
 ·obtain⟨h1,h2⟩:=afJ.1 hm;have:=ag8.1 h c h1;rw[h2,Bool.true_and,aan] at this;have p:(a.filter (· !=63)).count c<=a.count c:=List.filter_sublist.count_le c;omega
 ·rw[List.count_eq_zero_of_not_mem hm];omega
theorem aiZ{h:ay}(hc:aO h=0){w:List UInt8}(hw:w∈e_ h.L h.S):Tc h w:=by
 obtain⟨⟨h1,h2,N,W,M,J,V,I⟩,_⟩:=checked h hc;have hp:=qh h.L h.S w J hw;have p:=En N;have E:=En M;have hn:=La I;have O:h.S.filter (· !=63)=h.S:=List.filter_eq_self.2 λc hc=>by simpa using lZ (p c hc)
 have U:h.R.filter (· !=63)=h.R:=List.filter_eq_self.2 λc hc=>by simpa using lZ (E c hc)
 rw[ag2,ag2,O,U,List.nodup_append] at hn;obtain⟨n1,_,H⟩:=hn;refine⟨(th _ _ _ hw).trans h1,λc hc=>?_,hp.nodup_iff.2 n1,λq hq=>⟨E q hq,λhm=>H q (hp.mem_iff.1 hm) q hq rfl⟩⟩;rcases abH.1 (hp.mem_iff.1 hc) with hm|hm
 ·obtain⟨m1,m2⟩:=afJ.1 hm;exact Nl h2 c m1 (by simpa using m2)
 ·exact p c hm
theorem MX{h:ay}(hc:aO h=0){w:List UInt8}(hw:w∈aB h):Tc h w:=aiZ hc (afJ.1 hw).1
theorem SC{h:ay}{w:List UInt8}(ho:Tc h w){last d:Int} :isLet (Gc w h.R last d)=true:=by
 unfold Gc;split
 ·rename_i hr;obtain⟨q,p,hq⟩:=agl hr.1;have:=(ho.rep q (by rw[hq];simp)).1;rw[hq];simpa using this
 ·have hk:((d+9)%10).toNat<w.length:=by rw[ho.len];omega
  rw[abM,aaf hk];exact ho.lets _ (abG hk)
theorem tW{h:ay}{w:List UInt8}(ho:Tc h w):∀(p:List Int) (last:Int),∀c∈dC w h.R last p,isLet c=true
 | [],_,c,hc=>by simp[dC] at hc
 |d::l,last,c,hc=>by
  rw[dC] at hc;rcases abZ.1 hc with e|hc
  ·rw[e];exact SC ho
  ·exact tW ho l d c hc
theorem zh{s:List UInt8}(h:∀c∈s,isLet c=true)(h1:1<=s.length)(p:s.length<=5):aM s=0:=by
 have hl:bA s 63=true:=acp.2 λc hc=>by simp[h c hc]
 have hn:s.count 63=0:=List.count_eq_zero.2 λhm=>lZ (h _ hm) rfl
 unfold aM;rw[aat (by omega),aat (by simp[hl]),aat (by omega)]
theorem AB{α β:Type}{f:α->List β}{x:List β}{k:α} :∀ {l:List α},l.Nodup->k∈l->f k=x->(∀j∈l,j≠k->f j= [])->l.flatMap f=x
 | [],_,hk,_,_=>by simp at hk
 |a::l,hn,hk,hx,h0=>by
  rw[List.nodup_cons] at hn;rw[aco];by_cases e:a=k
  ·subst e;have:l.flatMap f= []:=List.flatMap_eq_nil_iff.2 λj p=>h0 j (by simp[p]) (λe=>hn.1 (e▸p))
   rw[this,hx,acO]
  ·rw[h0 a (by simp) e,aaV];refine AB hn.2 ?_ hx (λj p=>h0 j (by simp[p]));rcases abZ.1 hk with e'|h
   ·exact absurd e'.symm e
   ·exact h
theorem oK{h:ay}(ha:h.alike= []){r c:UInt8}(hr:r≠63)(hc:r≠c):fK h r c=false:=by
 simp[fK,ha,hr,hc]
theorem xE{w:List UInt8}{k:Nat}(hk:k<w.length):w.getD k 0∈w:=by
 rw[abM,aaf hk];exact abG hk
theorem getD_inj{w:List UInt8}(hn:w.Nodup){j k:Nat}(p:j<w.length)(hk:k<w.length)(h:w.getD j 0=w.getD k 0):j=k:=by
 rw[abM,abM,aaf p,aaf hk] at h;exact(List.getElem_inj hn).1 h
theorem w_{h:ay}{w:List UInt8}(ha:h.alike= [])(ho:Tc h w):∀(I:List Int) (last n:Int) (b:Bool),(∀d∈I,0<=d/\d<=9)->bf h w (dC w h.R last I) last n b= [(valOf n I,b)]
 | [],last,n,b,_=>by simp[dC,bf,valOf]
 |d::l,last,n,b,hd=>by
  have Jb:=hd d (by simp);have M:=λb'=>w_ ha ho l d (10*n+d) b' (λx hx=>hd x (by simp[hx]))
  have W:valOf n (d::l)=valOf (10*n+d) l:=rfl;rw[dC,bf,W];by_cases p:h.R≠ []/\d=last
  ·obtain⟨q,Y,hq⟩:=agl p.1;have hc:Gc w h.R last d=q:=by simp[Gc,p,hq]
   obtain⟨U,O⟩:=ho.rep q (by rw[hq];simp);have Z:((List.range 10).flatMap λd'=>if(((d'+1)%10:Nat):Int) !=last||h.R.isEmpty then
     (if fK h q (w.getD d' 0) then bf h w (dC w h.R d l) (((d'+1)%10:Nat):Int) (10*n+(((d'+1)%10:Nat):Int)) (b||(q !=63&&q !=w.getD d' 0)) else[]) else[])= []:=by
    refine List.flatMap_eq_nil_iff.2 λk hk=>?_
    have hk:k<w.length:=by rw[ho.len];exact aeh.1 hk
    rw[oK ha (lZ U) (λe=>O (e▸xE hk))];simp
   rw[hc,Z,aaV];simp only[hq];rw[aay (by omega),lD,aay rfl,<-p.2,<-hq,M];simp
  ·have hc:Gc w h.R last d=w.getD ((d+9)%10).toNat 0:=by rw[Gc,aat p]
   have hk:((d+9)%10).toNat<10:=by omega
   have L:((d+9)%10).toNat<w.length:=by rw[ho.len];exact hk
   have E:isLet (w.getD ((d+9)%10).toNat 0)=true:=ho.lets _ (xE L);have he:(((((d+9)%10).toNat+1)%10:Nat):Int)=d:=by omega
   have N:(d !=last||h.R.isEmpty)=true:=by
    by_cases e:d=last
    ·have:h.R= []:=by
      refine aaO λhn=>p ⟨hn,e⟩
     simp[this]
    ·simp[e]
   rw[hc];have J:((List.range 10).flatMap λd'=>if(((d'+1)%10:Nat):Int) !=last||h.R.isEmpty then
     (if fK h (w.getD ((d+9)%10).toNat 0) (w.getD d' 0) then bf h w (dC w h.R d l) (((d'+1)%10:Nat):Int) (10*n+(((d'+1)%10:Nat):Int)) (b||(w.getD ((d+9)%10).toNat 0 !=63&&w.getD ((d+9)%10).toNat 0 !=w.getD d' 0)) else[]) else[])= [(valOf (10*n+d) l,b)]:=by
    refine AB (k:=((d+9)%10).toNat) List.nodup_range (aeh.2 hk) ?_ ?_
    ·rw[he,aay N,lD,aay rfl,M];simp
    ·intro j H Hx;have H:j<w.length:=by rw[ho.len];exact aeh.1 H
     rw[oK ha (lZ E) (λe=>Hx (getD_inj ho.nod H L e.symm))];simp
   rw[J];cases V:h.R with
   |nil=>simp
   |cons q Y=>
    dsimp only;rw[oK ha (lZ E) (λe:w.getD ((d+9)%10).toNat 0=q=>(ho.rep q (by rw[V];simp)).2 (e▸xE L))];simp
theorem vX{n g:Int}(h:bN [aV n g]=0):0<=n/\1<=g/\g<=5/\n<10^g.toNat:=by
 obtain⟨h1,h2,H,E,p⟩:=nz h;refine⟨h1,H,E,?_⟩;unfold aV at p;rw[aat (by omega)] at p;have hp:(0:Int)<10^g.toNat:=Int.pow_pos (by decide);split at p
 ·cases p
 ·rename_i I;have:n/10^g.toNat<=0:=by omega
  have:=Int.lt_mul_of_ediv_lt hp (show n/10^g.toNat<1 by omega);omega
theorem vY{h:ay}{n g:Int}{s:List UInt8}(hs:s∈cM h n g):∃w∈aB h,s=bS h w n g.toNat:=by
 obtain⟨w,hw,rfl⟩:=ac4.1 ((lW _ s).1 hs);exact⟨w,hw,rfl⟩
theorem Vm{h:ay}{bs:List Int}(hc:aO h=0)(hb:bN bs=0)(hw:aB h≠ []):bJ h bs=0:=by
 unfold bJ;rw[aat (by simp[hc]),aat (by simp[hb]),aat hw]
theorem nA{h:ay}{n g:Int}(ho:bJ h [aV n g]=0){s:List UInt8}(hs:s∈cM h n g):
  bJ h [aM s]=0/\(s.length:Int)=g/\n∈f_ h s:=by
 obtain⟨hc,hb,hw⟩:=ij ho;obtain⟨h0,h1,H,E⟩:=vX hb;obtain⟨w,hm,rfl⟩:=vY hs;have p:=MX hc hm;have hl:(bS h w n g.toNat).length=g.toNat:=pQ _ _ _ _;have hr:aM (bS h w n g.toNat)=0:=zh (tW p _ _) (by omega) (by omega);refine⟨Vm hc (by simp[bN,hr]) hw,by rw[hl];omega,?_⟩;refine(lW _ _).2 (aeQ.2 ⟨w,hm,?_⟩);have:=zV h w (cj n g.toNat) (-1) 0 false (CC _ _);rw[pR _ _ h0 E] at this;exact this
theorem I1{l:List Int}{n:Int}(h:n∈l):(l.length==1)=(l== [n]):=by
 rw[adX,ac6,ac6];constructor
 ·intro h1;obtain⟨a,rfl⟩:=aeR.1 h1;rw[acE] at h;rw[h]
 ·rintro rfl;rfl
def oJ(h:ay)(l:List (List UInt8)):Bool:=l.all λs=>(f_ h s).length==1
theorem yK{h:ay}{n g:Int}(ho:bJ h [aV n g]=0):ig h n g=oJ h (cM h n g):=by
 unfold ig oJ;rw[List.any_eq_not_all_not,Bool.not_not,adX,acp,acp];constructor
 ·intro h s hs;rw[I1 (nA ho hs).2.2];have:=h s hs;rwa[Bool.not_not] at this
 ·intro h s hs;have:=h s hs;rw[I1 (nA ho hs).2.2] at this;rwa[Bool.not_not]
theorem Db{h:ay}{n g:Int}(ho:bJ h [aV n g]=0):cM h n g≠ []:=by
 obtain⟨_,_,hw⟩:=ij ho;exact Dp (by simp[hw])
theorem aiY(L:List UInt8):L.count 63=0->e_ L []= [L]:=by
 induction L with
 |nil=>intro _;rfl
 |cons c L E=>
  intro h;have p:c≠63:=λe=>by rw[e,List.count_cons_self] at h;omega
  rw[List.count_cons_of_ne p] at h;unfold e_;rw[aat p,E h];rfl
theorem GX{h:ay}{n g:Int}(ho:bJ h [aV n g]=0)(ha:h.alike= [])(p:h.S= []):ig h n g=true:=by
 obtain⟨hc,hb,hw⟩:=ij ho;obtain⟨h0,h1,N,M⟩:=vX hb;obtain⟨⟨_,_,_,_,_,I,_,_⟩,_⟩:=checked h hc;have H:h.L.count 63=0:=by rw[<-I,p];rfl
 have E:aB h= [h.L]:=by
  have:∀w∈aB h,w=h.L:=λw hw=>by
   have:=(afJ.1 hw).1;rw[p,aiY _ H] at this;simpa using this
  have hlen:(aB h).length<=1:=by
   have:=ael (Az h) (e_ h.L h.S);rw[p,aiY _ H] at this;unfold aB;rw[p,aiY _ H];exact this
  match O:aB h,hw,this,hlen with
  | [],hw,_,_=>exact absurd rfl hw
  | [a],_,this,_=>rw[this a (by simp)]
  |a::b::l,_,_,hlen=>simp at hlen
 have J:=MX hc (w:=h.L) (by rw[E];simp);unfold ig;rw[List.any_eq_not_all_not,Bool.not_not,acp];intro s hs;obtain⟨w,hm,rfl⟩:=vY hs;rw[E,acE] at hm;subst hm;have:=w_ ha J (cj n g.toNat) (-1) 0 false (CC _ _);rw[pR _ _ h0 M] at this;have e:il h (aB h) (bS h h.L n g.toNat)= [n]:=by
  rw[E];unfold il bS;rw[aco,ahn,this];exact L6 n
 simp[e]
end Go.Proofs.YtjagmhagphbfcaaGreatDoor.Dn
namespace Go.Proofs.YtjagmhagphbfcaaGreatDoor
@[simp] abbrev ahU:List Nat:=[0,1,2,3,6,7,8,9,10,11,12,13,14,15,18,42,44,58,87]
end Go.Proofs.YtjagmhagphbfcaaGreatDoor
namespace Go.Proofs.YtjagmhagphbfcaaGreatDoor.Dn
open Go Go.Proofs Lo Lw
theorem K4{h:ay}(hf:Fair h):j9 h:=by
 have h1:=hf.L;have h2:=hf.S;have H:=hf.R;have E:=hf.na;have p:=hf.nt;exact⟨by omega,by omega,by omega,by omega,λs hs=>by have:=hf.a s hs;omega,by omega,λt ht=>by have:=hf.t t ht;omega⟩
theorem OO{h:ay}(hf:Fo h=true):Fair h:=by
 unfold Fo at hf;rw[aaZ] at hf;exact Jp (by simpa using hf.1)
theorem Sj{h:ay}(hf:Fo h=true):aO h=0:=by
 unfold Fo at hf;rw[aaZ] at hf;simpa using hf.2
theorem De{h:ay}(hc:aO h=0)(n g:Int):(cM h n g).length<1000000:=by
 have h1:(cM h n g).length<=((aB h).map λw=>bS h w n g.toNat).length:=kX _;rw[abz] at h1;have:=sP hc;omega
theorem Ee{h:ay}(hc:aO h=0){s:List UInt8}(hs:s.length<=5):(f_ h s).length<=4000000000000:=
 aaY (kX _) (fI hc _ λw _=>mI h w s hs)
section
variable{P:Program}[l:cL P]
theorem Ko(h:ay)(hm:j9 h):∃F:List AV->Option AV,Den P 21 F/\∀s:List UInt8,s.length<1000000->F [.ag (aa h),.s s]=some (.tu [ints (bK h [aM s] (f_ h s) []),.i .i64 (bJ h [aM s])]):=by
 obtain⟨F,h1,h2⟩:=cC (P:=P) (f:=21) (ι:=List UInt8) (λs=> [.ag (aa h),.s s]) (λs=>.tu [ints (bK h [aM s] (f_ h s) []),.i .i64 (bJ h [aM s])]) (λs=>s.length<1000000) (λx y _ _ e=>by
  simp only[abg,AV.s.injEq,adM,abQ] at e;rw[e]) (λs hs=>zX h hm s hs)
 exact⟨F,h1,h2⟩
theorem RY:∃F:List AV->Option AV,Den P 45 F/\∀(a:List Int) (n:Int),a.length<100000000000000->F [ints a,.i .i64 n]=some (.b (a.contains n)):=by
 obtain⟨F,h1,h2⟩:=cC (P:=P) (f:=45) (ι:=List Int×Int) (λx=> [ints x.1,.i .i64 x.2]) (λx=>.b (x.1.contains x.2)) (λx=>x.1.length<100000000000000) (λx y _ _ e=>by
  simp only[ints,abg,AV.sq.injEq,AV.i.injEq,adM,abQ] at e;have h1:x.1=y.1:=(List.map_inj_right (λa b e=>by simpa using e)).1 e.1;rw[h1,e.2]) (λx hx=>RX x.1 x.2 hx)
 exact⟨F,h1,λa n ha=>h2 (a,n) ha⟩
theorem D4(e17:Enters P 17)(Xl:aq P 17 [] (.b true))(h:ay)(p g:Int)(EG:0<=p)(hp:p<=65535)(Ar:0<=g)(hg:g<=255):aq P 8 [eG h,.i .u16 p,.i .u8 g] (.b true):=by
 obtain⟨A,ad,M⟩:=ca (Si (P:=P) h);obtain⟨T,td,I⟩:=ca Xl;simp only[aa] at M;cases hf:Fo h with
 |false=>
  rw[hf] at M;refine fi (ak call30 ad (ak e17 td (au P))) func8 rfl rfl ?_
  repeat' (first|refine nI ?_|(refine eI ahU ?_;intro K H;simp[eG,aa,ab,az,M,I];apply H)|fail)
  simp[Fin,aH,Tryz.f8]
 |true=>
  rw[hf] at M;have aa8:=OO hf;have hm:=K4 aa8;have hc:=Sj hf;have r1:Int.tmod g 5=g%5:=ae6 Ar;have c1:IntKind.i64.wrap g=g:=aS g (by omega) (by omega);have c2:IntKind.i64.wrap p=p:=aS p (by omega) (by omega);have c3:IntKind.i64.wrap (g%5)=g%5:=aS _ (by omega) (by omega);have c4:IntKind.i64.wrap (1+g%5)=1+g%5:=aS _ (by omega) (by omega);obtain⟨B,bd,V⟩:=ca (tj (P:=P) h hm p (1+g%5));obtain⟨C,cd,hC⟩:=ca (v7 (P:=P) h hm p (1+g%5));obtain⟨D,dd,hD⟩:=Ko (P:=P) h hm;obtain⟨E,ed,hE⟩:=RY (P:=P);simp only[aa,ints,strs] at V hC hD hE;refine fi (ak call30 ad (ak e17 td (ak call28 bd (ak call23 cd (ak call21 dd (ak call45 ed (au P))))))) func8 rfl rfl ?_;by_cases ho:bJ h [aV p (1+g%5)]=0
  ·have KN:=De hc p (1+g%5);have cr:=Db ho;have gU:=yK ho;have ZZ:=GX ho;have Z_:=λs hs=>nA ho (s:=s) hs
   have ib:bK h [aV p (1+g%5)] (ig h p (1+g%5)) false=ig h p (1+g%5):=by simp[bK,ho]
   have Z:bK h [aV p (1+g%5)] (cM h p (1+g%5)) []=cM h p (1+g%5):=by simp[bK,ho]
   rw[ib,ho] at V;rw[Z,ho] at hC;generalize cM h p (1+g%5)=ls at *;generalize ig h p (1+g%5)=q at *
   repeat' (first|refine nI ?_|(refine eI ahU ?_;intro K H;simp[eG,aa,ab,az,M,V,hC,r1,c1,c2,c3,c4,bne];apply H)|fail)
   refine bE (λd T B lv nx=>∃k,k+d=ls.length/\T 1=.i .u16 p/\T 3=.sp (aa h)/\T 7=.i .i64 (1+g%5)/\T 8=.b q/\T 10=strs ls/\T 12=.b (oJ h (ls.take k))/\T 13=.i .i64 k) ls.length ?_ ?_
   ·exact⟨0,by simp,by simp,by simp[aa],by simp,by simp,by simp[strs],by simp[oJ],by simp⟩
   rintro d T' B' lv nx ⟨k,hk,t1,t3,t7,t8,t10,t12,t13⟩;have w1:=aS ((k:Int)+1) (by omega) (by omega);by_cases N:k<ls.length
   ·have ga:ls[k]?=some ls[k]:=aaf N;have da:(ls.map AV.s).drop k=.s ls[k]::(ls.map AV.s).drop (k+1):=by rw[aa4 (by simpa using N)];simp
    have ta:ls.take (k+1)=ls.take k++ [ls[k]]:=aaN N;have qu:ls[k]∈ls:=abG N;generalize ls[k]=s at ga da ta qu;obtain⟨s1,s2,s3⟩:=Z_ s qu;have L:=hD s (by omega);have hif:bK h [aM s] (f_ h s) []=f_ h s:=by simp[bK,s1]
    rw[s1,hif] at L;have hmc:=Ee hc (s:=s) (by omega);have J:=hE (f_ h s) p (by omega);have ahq:(f_ h s).contains p=true:=by simp[s3]
    rw[ahq] at J;have O:((s.length:Int)==1+g%5)=true:=by simp[s2]
    have Y:oJ h (ls.take (k+1))=(oJ h (ls.take k)&&((f_ h s).length==1)):=by
     rw[ta];simp[oJ]
    have h1e:(((f_ h s).length:Int)==1)=((f_ h s).length==1):=by
     rw[adX,ac6,ac6];omega
    generalize f_ h s=ms at *;cases ha:oJ h (ls.take k) with
    |true=>
     rw[ha] at t12 Y
     repeat' (first|refine nI ?_|(refine eI ahU ?_;intro K H;simp[t1,t3,t7,t8,t10,t12,t13,aa,strs,N,ga,da,ab,az,L,J,O,c2,w1,bne];apply H)|fail)
     refine aN (d-1) (by omega) ⟨k+1,by omega,by simp[t1],by simp[t3,aa],by simp[t7],by simp[t8],by simp[t10,strs],by simp[Y,h1e],by simp⟩
    |false=>
     rw[ha] at t12 Y
     repeat' (first|refine nI ?_|(refine eI ahU ?_;intro K H;simp[t1,t3,t7,t8,t10,t12,t13,aa,strs,N,ga,da,ab,az,L,J,O,c2,w1,bne];apply H)|fail)
     refine aN (d-1) (by omega) ⟨k+1,by omega,by simp[t1],by simp[t3,aa],by simp[t7],by simp[t8],by simp[t10,strs],by simp[Y],by simp⟩
   ·have gg:k=ls.length:=by omega
    subst gg;rw[aeo,<-gU] at t12;have U:0<ls.length:=agz.2 cr;cases q with
    |true=>
     by_cases x1:0<h.alike.length
     ·repeat' (first|refine nI ?_|(refine eI ahU ?_;intro K H;simp[t1,t3,t7,t8,t10,t12,t13,aa,strs,U,x1,I,ab,az];apply H)|fail)
      simp[Fin,aH,Tryz.f8]
     ·by_cases W:0<h.S.length
      ·repeat' (first|refine nI ?_|(refine eI ahU ?_;intro K H;simp[t1,t3,t7,t8,t10,t12,t13,aa,strs,U,x1,W,I,ab,az];apply H)|fail)
       simp[Fin,aH,Tryz.f8]
      ·repeat' (first|refine nI ?_|(refine eI ahU ?_;intro K H;simp[t1,t3,t7,t8,t10,t12,t13,aa,strs,U,x1,W,I,ab,az];apply H)|fail)
       simp[Fin,aH,Tryz.f8]
    |false=>
     by_cases x1:0<h.alike.length
     ·repeat' (first|refine nI ?_|(refine eI ahU ?_;intro K H;simp[t1,t3,t7,t8,t10,t12,t13,aa,strs,U,x1,I,ab,az];apply H)|fail)
      simp[Fin,aH,Tryz.f8]
     ·by_cases W:0<h.S.length
      ·repeat' (first|refine nI ?_|(refine eI ahU ?_;intro K H;simp[t1,t3,t7,t8,t10,t12,t13,aa,strs,U,x1,W,I,ab,az];apply H)|fail)
       simp[Fin,aH,Tryz.f8]
      ·exact absurd (ZZ (abA (by omega)) (abA (by omega))) (by decide)
  ·have uH:(bJ h [aV p (1+g%5)]==0)=false:=by simp[ho]
   have ib:bK h [aV p (1+g%5)] (ig h p (1+g%5)) false=false:=by simp[bK,ho]
   have Z:bK h [aV p (1+g%5)] (cM h p (1+g%5)) []= []:=by simp[bK,ho]
   rw[ib] at V;rw[Z] at hC;generalize bJ h [aV p (1+g%5)]=o at *
   repeat' (first|refine nI ?_|(refine eI ahU ?_;intro K H;simp[eG,aa,ab,az,M,V,hC,I,r1,c1,c2,c3,c4,bne,uH];apply H)|fail)
   simp[Fin,aH,Tryz.f8]
end
end Go.Proofs.YtjagmhagphbfcaaGreatDoor.Dn
