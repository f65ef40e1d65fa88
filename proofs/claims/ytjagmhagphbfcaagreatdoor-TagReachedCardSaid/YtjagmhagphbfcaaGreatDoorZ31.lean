/- Part 31 of a proof (made small by a program; blanks, names and remarks only). -/
import Derived.Conc.LeavingOf
import Derived.Carry
import Derived.LaidMore
import Derived.LaidHandle
import Derived.ChangeSame
import Derived.LaidLaws
import Derived.Test.YtjagmhagphbfcaaGreatDoorCards
import Derived.Test.YtjagmhagphbfcaaGreatDoorTie
import Derived.Test.YtjagmhagphbfcaaGreatDoorZ30
set_option maxRecDepth 100000
set_option linter.all false
namespace Go.Proofs.YtjagmhagphbfcaaGreatDoor.cA
open Go Go.Proofs Go.Conc Lo Dn Lw Go.ChangeShapes Go.WideShapes Go.ChangeAt Go.RowKit
def xi:List (String×DataW Unit):= [("nosale/tag.checks",Rows.laid_nosale_tag_checks)]
def nm0:List UInt8:= [40,110,111,115,97,108,101,47,116,97,103,46,104,111,117,115,101,41,46,108,101,116,116,101,114,115]
def nm1:List UInt8:= [40,110,111,115,97,108,101,47,116,97,103,46,104,111,117,115,101,41,46,112,97,105,114,115]
def nm2:List UInt8:= [40,110,111,115,97,108,101,47,116,97,103,46,104,111,117,115,101,41,46,116,97,103,115]
theorem MY:ownKnob Tryz.prog.godebug=none:=by kernel_rfl
theorem Nu:laidOutB Tryz.prog=true:=by kernel_rfl
theorem z0:(((begin Tryz.prog (λ_ _=>0) default).world.heap[0]?).bind Obj.row?).map (λx=>(x.1.size,x.2))=some (3,140):=by kernel_rfl
theorem z1:(((begin Tryz.prog (λ_ _=>0) default).world.heap[1]?).bind Obj.row?).map (λx=>(x.1.size,x.2))=some (1,3):=by kernel_rfl
theorem z2:(((begin Tryz.prog (λ_ _=>0) default).world.heap[2]?).bind Obj.row?).map (λx=>(x.1.size,x.2))=some (256,226):=by kernel_rfl
theorem z3:(((begin Tryz.prog (λ_ _=>0) default).world.heap[3]?).bind Obj.row?).map (λx=>(x.1.size,x.2))=some (32,229):=by kernel_rfl
theorem UT:Tryz.prog.cellTypes Tryz.prog.depth 3=some [3]:=by kernel_rfl
theorem OH:Tryz.prog.globals.size=4:=rfl
theorem oW{W:World}(h:W.ShapedOpen Tryz.prog){g n t:Nat}(hg:g<4)(hz:(((begin Tryz.prog (λ_ _=>0) default).world.heap[g]?).bind Obj.row?).map (λx=>(x.1.size,x.2))=some (n,t)):
  ∃cs,W.heap[g]?=some (.cells cs t)/\cs.size=n/\(Tryz.prog.buildable t=true->Row.ok Tryz.prog W .any 0 t cs):=by
 rw[aeb] at hz;obtain⟨⟨zero,t'⟩,h1,h2⟩:=hz;cases h2;obtain⟨cs,H,E,p⟩:=h.1 g zero t' (by rw[OH];exact hg) h1;exact⟨cs,H,E,p⟩
theorem rj{W:World}{b n t:Nat}{cs:Array Value}(h:W.heap[b]?=some (.cells cs t))(hn:cs.size=n):W.shape? b=some (t,n):=by
 unfold World.shape?;rw[h,<-hn]
theorem OG{W:World}(h:W.ShapedOpen Tryz.prog):AU W/\(∃k n e fr,W.heap[1]?=some (.cells #[.int k n] e fr))/\4<=W.heap.size:=by
 obtain⟨c0,a0,b0,_⟩:=oW h (g:=0) (by decide) z0;obtain⟨c1,a1,b1,d1⟩:=oW h (g:=1) (by decide) z1;obtain⟨c2,a2,b2,_⟩:=oW h (g:=2) (by decide) z2;obtain⟨c3,a3,H,_⟩:=oW h (g:=3) (by decide) z3;refine⟨⟨rj a0 b0,rj a1 b1,rj a2 b2,rj a3 H⟩,?_,(aah.1 a3).1⟩;obtain⟨ts,p,_,E⟩:=d1 (by kernel_rfl);rw[UT] at p;cases p;obtain⟨v,rfl⟩:∃v,c1= #[v]:=⟨c1[0],by apply Array.ext <;>simp_all⟩
 obtain⟨u,hu,hv⟩:=E 0 v rfl;cases hu;unfold Cell.ok at hv;rw[aeO] at hv;cases v with
 |int k n=>exact⟨k,n,_,_,a1⟩
 |_=>exact hv.elim
theorem QZ:((List.range Tryz.prog.funcs.size).filter λf=>(Tryz.prog.funcs[f]?).any (·.name.toUTF8.data.toList==nm0))= [255]:=by kernel_rfl
theorem QY:((List.range Tryz.prog.funcs.size).filter λf=>(Tryz.prog.funcs[f]?).any (·.name.toUTF8.data.toList==nm1))= [256]:=by kernel_rfl
theorem QX:((List.range Tryz.prog.funcs.size).filter λf=>(Tryz.prog.funcs[f]?).any (·.name.toUTF8.data.toList==nm2))= [257]:=by kernel_rfl
theorem Pe:Tryz.prog.cellsOf 139=1:=by kernel_rfl
theorem Pd:Tryz.prog.cellsOf 140=3:=by kernel_rfl
theorem Jl:Tryz.prog.globalNamed "nosale/tag.checks" =some 0:=by kernel_rfl
theorem Qx:(Tryz.prog.globals[0]?).map (·.type)=some 140:=by kernel_rfl
theorem UY{W:World}(h:laidMetH Tryz.prog xi W):∃e fr,W.heap[0]?=some (.cells F0 e fr):=by
 have hf:=laidMetH.funcs h (n:= "nosale/tag.checks") (d:=.agg [.iface "func" (.lit (.string nm0)),.iface "func" (.lit (.string nm1)),.iface "func" (.lit (.string nm2))]) (by exact acE.2 rfl);obtain⟨g,t,cs,fuel,p,hg,ht,hv,hd⟩:=hf;obtain rfl:=adw (Jl.symm.trans hg);obtain rfl:=adw (Qx.symm.trans ht);obtain⟨xs,m,_,hx,hlen,hn,E⟩:=DataW.trod_array Tryz.underlying140 hd;rw[Pd] at hlen;obtain⟨I,x1,H,rfl⟩:=Ri hn;obtain⟨c0,c1,c2,L⟩:=Ri hlen;simp only[Prod.mk.injEq] at hx;have hx1:(DataW.agg [.held nm0,.held nm1,.held nm2]:DataW (List UInt8))=.agg [I.1,x1.1,H.1]:=hx.1;simp only[DataW.agg.injEq,abg,abQ] at hx1;obtain⟨O,N,M⟩:=hx1;rw[Pe,L] at E;have h0:DataW.trod (funcToken Tryz.prog) Tryz.prog W 0 (λ_=>true) true m 139 [c0]=some I:=E 0 (by decide);have h1:DataW.trod (funcToken Tryz.prog) Tryz.prog W 0 (λ_=>true) true m 139 [c1]=some x1:=E 1 (by decide);have h2:DataW.trod (funcToken Tryz.prog) Tryz.prog W 0 (λ_=>true) true m 139 [c2]=some H:=E 2 (by decide);obtain⟨Y,p0⟩:=I;obtain⟨y1,Z⟩:=x1;obtain⟨y2,p2⟩:=H;simp only at O N M;subst O N M;have r0:=func_of_trod Tryz.underlying139 QZ h0;have r1:=func_of_trod Tryz.underlying139 QY h1;have U:=func_of_trod Tryz.underlying139 QX h2;subst r0 r1 U;have J:cs=F0:=by
  rw[<-Array.toList_inj,L];rfl
 subst J;unfold World.var? at hv;rw[Jl] at hv;simp only[abN] at hv;split at hv
 ·rename_i V e fr hz;cases hv;exact⟨e,fr,hz⟩
 ·cases hv
section
variable{H:Type}{enc:TypeId×Value->H}
theorem AN{W J:World}(hb:Below W.heap.size W J):∀ {ts:List TypeId} {vs:List Value} {E:List (DataW H)} {ps:List MemPlace},(∀t∈ts,Tryz.prog.readableRec t=true/\t<Tryz.prog.types.size)->DataW.TrodAll enc Tryz.prog W 0 (λ_=>true) true ts vs E ps->
  (∀x∈ps,x.block<W.heap.size)->DataW.TrodAll enc Tryz.prog J 0 (λb=>decide (b<W.heap.size)) true ts vs E ps
 | [],vs,E,ps,_,h,_=>by
  obtain⟨rfl,rfl,rfl⟩:=trodAll_nil h;exact rfl
 |t::ts,vs,E,ps,ht,h,I=>by
  obtain⟨v,L,d,O,p,q,rfl,rfl,rfl,h1,h2⟩:=trodAll_cons h;obtain⟨r1,N⟩:=ht t (by simp);exact⟨p,q,Below.trod Nu r1 N h1 hb (λx hx=>I x (by simp[hx])),AN hb (λt M=>ht t (by simp[M])) h2 (λx hx=>I x (by simp[hx])),rfl⟩
theorem Rl{f:FuncId}{fn:Func}{cd:Code}{s:ChangeSpec}{os:Os}(started:os.Started)(Z:Tryz.prog.funcs[f]?=some fn)(L:fn.body=some cd)(hK:KL.s f=true)(Xl:f≠17)(Xj:f≠41)(J:fn.resultTypes= #[4])
  (V:∀t∈fn.params.toList,Tryz.prog.readableRec t=true/\t<Tryz.prog.types.size) (TJ:s.vars= []) (Z5:∀E:List (DataW H),E.length=fn.params.size->s.fn H E= { results:= [.lit (.bool true)],args:=E })
  (witness:∃(w:World) (tape:Tape) (i:Input),w.os=os/\(w.forCall tape i).Shaped Tryz.prog/\i.vars= []/\Input.okWide Tryz.prog (w.forCall tape i) .any w.heap.size f i/\
   ((s.pre enc Tryz.prog fn [] false (w.forCall tape i).memory i.args/\laidMetH Tryz.prog xi (w.forCall tape i).memory)/\sizedMet enc Tryz.prog fn (OpenSpec.ofChange s) false (w.forCall tape i).memory i.args)/\
    ({} :Assume).holds Tryz.prog (lone (Frame.enter Tryz.prog f i.args .normal) [] (w.forCall tape i)))
  (Y:∀(W:World) (base:Nat) (args:Array Value) (E:List (DataW H)) (ps:List MemPlace),AU W->(∀(j:Nat) t v,fn.params[j]?=some t->args[j]?=some v->Value.okWide Tryz.prog W .any base t v)->
   DataW.TrodAll enc Tryz.prog W 0 (λ_=>true) true fn.params.toList args.toList E ps->∃la,qL W args.toList la/\aq PL f la (.b true)):
  ReturnsInLeavingWide {} Tryz.checked os f .any (λw args=>(s.pre enc Tryz.prog fn [] false w args/\laidMetH Tryz.prog xi w)/\sizedMet enc Tryz.prog fn (OpenSpec.ofChange s) false w args)
   (s.post enc Tryz.prog fn false true false false):=by
 refine returnsInLeavingWide_of_good (C:=Tryz.checked) MY started witness ?_;intro w tape i _ qp _ iD Ce _;obtain⟨_,_,_,fh,U,_,_,_,_,Kz⟩:=iD;have e:fh=fn:=adw (U.symm.trans Z);subst e;obtain⟨⟨⟨E,gs,before,hw,_⟩,hl⟩,_⟩:=Ce;have cO:=DataW.Whole.of_heap (w':=w.forCall tape i) (by rfl) hw;have sM:laidMetH Tryz.prog xi (w.forCall tape i):=hl.of_heap (by rfl);generalize w.forCall tape i=W at *;obtain⟨hG,c7,h4⟩:=OG qp;have hT:sF W:=⟨UY sM,c7⟩
 have Xa:=cO;obtain⟨p,q,O,hV,N,_,_⟩:=cO;rw[TJ] at hV;obtain⟨rfl,rfl⟩:=trodVars_none hV;have aK:∀x∈p,x.block<W.heap.size:=λx hx=>Xa.lt x (by rw[N];simp[hx])
 obtain⟨la,ho,hc⟩:=Y W _ i.args E p hG Kz O;obtain⟨ws,ys,k1,_,k3⟩:=ho [];obtain⟨q1,q2⟩:=k3 [];simp only[aaV,acO] at q1 q2;have hlen:E.length=fh.params.size:=by have:=(trodAll_length O).2;simpa using this
 obtain⟨M,last,o,w',t',h1,h2,h3,Ap⟩:=Nr hK ⟨fh,cd,(MM f Xl Xj).trans Z,L⟩ hT h4 k1 (args:=i.args) (by simpa using q1) hc q2;refine⟨M,last,o,w',t',h1,h2,h3,Ap.mono λv hF=>?_⟩;refine ChangeSpec.post_blind ?_;obtain⟨rfl,E1⟩:=hF;have I:=Z5 E hlen;refine⟨E,[],before,[],p,[],Xa,?_,?_,?_,E1.frame _,λh=>by cases h⟩
 ·rw[acO,I,J];exact trodAll_mk1 (shut_bool af7 _)
 ·rw[acO,I];exact AN E1 V O aK
 ·rw[TJ,acO,I];exact rfl
end
theorem O8(os:Os)(args:Array Value):laidMetH Tryz.prog xi ((World.doorLaid Tryz.prog 40 os).forCall (λ_ _=>0) ⟨#[],args,[]⟩).memory:=
 laidMetH_of_parts3 (fuel:=8) (laidMet_of_run' 8 (by kernel_rfl) (by kernel_rfl)) (by kernel_rfl) (by kernel_rfl)
def Xv:Value:=.agg #[.string ⟨#[]⟩,.string ⟨#[]⟩,.string ⟨#[]⟩,.slice none 0 0,.slice none 0 0]
theorem Lf{s:OpenSpec}{c:OpenClaim}(hc:c.holds Tryz.pinned s)(hw:c.wfByText s=true)(p:c.laidByTextAt .later Tryz.pinned [.funcs] true)
  (I:c.start=.entering) (hnb:c.noBlocks=false/\c.again=false) (hm:Tryz.pinned.checked.prog.mainIs=some (true, "f07a5fa70ed6775463b7a086f57573263f2086de7ec9f9dbb2d285f1a5080804".toList))
  (hl:∀f fn,Tryz.pinned.checked.prog.funcNamed c.func=some f->Tryz.pinned.checked.prog.funcs[f]?=some fn->false=Tryz.pinned.checked.prog.looks []/\∀(j:Nat) t,fn.params[j]?=some t->Tryz.pinned.checked.prog.wantsStandIn t=false)
  (hg:true=c.goesBy Tryz.pinned.checked.prog):
  Claim7.holds Tryz.pinned (.plain s) { stood:= { row:=c,standIns:= [],harness:=(true, "f07a5fa70ed6775463b7a086f57573263f2086de7ec9f9dbb2d285f1a5080804"),looks:=false },kinds:= [],alts:= [],goes:=true,laidByText:=true,laidKinds:= [.funcs],laidTests:=true,laidLooks:=.later } :=by
 have H:∀r:OpenClaim,Claim7.isSixth { stood:= { row:=r,standIns:= [],harness:=(true, "f07a5fa70ed6775463b7a086f57573263f2086de7ec9f9dbb2d285f1a5080804"),looks:=false },kinds:= [] } =false:=λr=>by simp[Claim7.isSixth]
 exact⟨Claim7.tied_new_at .later [.funcs] true (Claim7.new_of_sixth hc (true, "f07a5fa70ed6775463b7a086f57573263f2086de7ec9f9dbb2d285f1a5080804") false I hnb hm (H c) hl) hw,(λD E=>by cases E),p,(λh=>by cases h),hg⟩
end Go.Proofs.YtjagmhagphbfcaaGreatDoor.cA
namespace Go.Proofs.YtjagmhagphbfcaaGreatDoor
@[simp] abbrev aiV:List Nat:=[0,1,4,5,9,17]
@[simp] abbrev aih:List Nat:=[0,1,2,3,4,32,37,46,51,61]
end Go.Proofs.YtjagmhagphbfcaaGreatDoor
namespace Go.Proofs.YtjagmhagphbfcaaGreatDoor.Dn
open Go Go.Proofs Lo Lw
section
variable{P:Program}[l:cL P]
theorem RX(a:List Int)(n:Int)(ha:a.length<100000000000000):aq P 45 [ints a,.i .i64 n] (.b (a.contains n)):=by
 refine fi (au P) func45 rfl rfl ?_
 repeat' (first|refine nI ?_|(refine eI aiV ?_;intro K h;simp[ints];apply h)|fail)
 refine amF (λd T B lv nx=>∃k,k+d=a.length/\T 0=ints a/\T 1=.i .i64 n/\T 5=.i .i64 k/\n∉a.take k) a.length ?_ ?_
 ·exact⟨0,by simp,by simp[ints],by simp,by simp,by simp⟩
 ·rintro d T B lv nx ⟨k,hk,t0,t1,t5,hp⟩;have w1:=aS ((k:Int)+1) (by omega) (by omega);by_cases p:k<a.length
  ·have H:a[k]?=some a[k]:=aaf p;have I:(a.map (AV.i .i64)).drop k=.i .i64 a[k]::(a.map (AV.i .i64)).drop (k+1):=by rw[aa4 (by simpa using p)];simp
   have J:a.take (k+1)=a.take k++ [a[k]]:=aaN p;have L:a[k]∈a:=abG p;generalize a[k]=x at H I J L;cases E:(x==n) with
   |true=>
    have O:x=n:=by simpa using E
    have he:n∈a:=by rw[<-O];exact L
    repeat' (first|refine nI ?_|(refine eI aiV ?_;intro K h;simp[t0,t1,t5,ints,p,H,I,E,w1];apply h)|fail)
    simp[Fin,aH,Tryz.f45,he]
   |false=>
    have N:n≠x:=λe=>by rw[e] at E;simp at E
    repeat' (first|refine nI ?_|(refine eI aiV ?_;intro K h;simp[t0,t1,t5,ints,p,H,I,E,w1];apply h)|fail)
    refine aN (d-1) (by omega) ⟨k+1,by omega,by simp[t0,ints],by simp[t1],by simp,by rw[J];simp[hp,N]⟩
  ·have M:k=a.length:=by omega
   subst M;have he:n∉a:=by rwa[aeo] at hp
   repeat' (first|refine nI ?_|(refine eI aiV ?_;intro K h;simp[t0,t1,t5,ints];apply h)|fail)
   simp[Fin,aH,Tryz.f45,he]
def gC(h:ay):Bool:=decide (40<h.L.length)||decide (40<h.S.length)||decide (40<h.R.length)||decide (20<h.alike.length)||decide (20<h.tags.length)||h.alike.any (λs=>decide (40<s.length))||h.tags.any (λt=>decide (40<t.reads.length))
theorem Jp{h:ay}(hg:gC h=false):Fair h:=by
 simp only[gC,Bool.or_eq_false_iff,aac,ag8,aan] at hg;obtain⟨⟨⟨⟨⟨⟨h1,h2⟩,J⟩,I⟩,H⟩,E⟩,p⟩:=hg;exact⟨by omega,by omega,by omega,by omega,λs hs=>by have:=E s hs;omega,by omega,λt ht=>by have:=p t ht;omega⟩
theorem E_{h:ay}(hg:40<h.L.length\/40<h.S.length\/40<h.R.length\/20<h.alike.length\/20<h.tags.length):gC h=true:=by
 simp only[gC,adr,aan];rcases hg with g|g|g|g|g <;>simp[g]
theorem KY(h:ay):aq P 16 [.ag (o6 h)] (.b (gC h)):=by
 have V:(o6 h).map AV.strip=o6 h:=by simp[o6]
 refine fi (au P) func16 rfl rfl ?_;have L:=cV h.tags
 repeat' (first|refine nI ?_|(refine eI aih ?_;intro K p;simp[o6,L];first|apply p|(refine aE (λhc=>?_) (λhc=>?_) <;>(try simp only[aan,aac] at hc) <;>simp[hc,o6,L] <;>repeat' (first|apply p|(refine aE (λhc=>?_) (λhc=>?_) <;>(try simp only[aan,aac] at hc) <;>simp[hc,o6,L])|fail))|fail)|fail)
 all_goals try (have H:gC h=true:=E_ (by omega);simp[Fin,aH,Tryz.f16,H];done)
 by_cases g5:20<(h.tags.length:Int)
 ·have H:gC h=true:=E_ (by omega);have I:=g5
  repeat' (first|refine nI ?_|(refine eI aih ?_;intro K p;simp[o6,I];apply p)|fail)
  simp[Fin,aH,Tryz.f16,H]
 ·have I:=g5
  repeat' (first|refine nI ?_|(refine eI aih ?_;intro K p;simp[o6,I];apply p)|fail)
  have na:h.alike.length<=20:=by omega
  have nt:h.tags.length<=20:=by omega
  refine amF (λd T B lv nx=>∃k,k+d=h.alike.length/\T 1=.sp (o6 h)/\T 3=.i .i64 k/\∀s∈h.alike.take k,¬40<s.length) h.alike.length ?_ ?_
  ·exact⟨0,by simp,by simp[o6],by simp,by simp⟩
  rintro d T B lv nx ⟨k,hk,t1,t3,hp⟩;have w1:=aS ((k:Int)+1) (by omega) (by omega);by_cases E:k<h.alike.length
  ·have J:(h.alike.map AV.s).drop k=.s h.alike[k]::(h.alike.map AV.s).drop (k+1):=by rw[aa4 (by simpa using E)];simp
   have O:h.alike[k]?=some h.alike[k]:=aaf E;have M:h.alike.take (k+1)=h.alike.take k++ [h.alike[k]]:=aaN E;have hm:h.alike[k]∈h.alike:=abG E;generalize h.alike[k]=s at J O M hm;by_cases h40:40<(s.length:Int)
   ·have H:gC h=true:=by
     have:h.alike.any (λs=>decide (40<s.length))=true:=afl.2 ⟨s,hm,by simp;omega⟩;simp[gC,this]
    repeat' (first|refine nI ?_|(refine eI aih ?_;intro K p;simp[t1,t3,o6,E,J,O,h40,w1];apply p)|fail)
    simp[Fin,aH,Tryz.f16,H]
   ·repeat' (first|refine nI ?_|(refine eI aih ?_;intro K p;simp[t1,t3,o6,E,J,O,h40,w1];apply p)|fail)
    refine aN (d-1) (by omega) ⟨k+1,by omega,by simp[t1,o6],by simp,λx hx=>?_⟩;rw[M,abH] at hx;rcases hx with hx|hx
    ·exact hp x hx
    ·simp only[abZ,adz,aeP] at hx;subst hx;omega
  ·have N:k=h.alike.length:=by omega
   subst N;rw[aeo] at hp
   repeat' (first|refine nI ?_|(refine eI aih ?_;intro K p;simp[t1,t3,o6];apply p)|fail)
   refine amF (λd T B lv nx=>∃k,k+d=h.tags.length/\T 1=.sp (o6 h)/\T 4=.i .i64 k/\∀t∈h.tags.take k,¬40<t.reads.length) h.tags.length ?_ ?_
   ·exact⟨0,by simp,by simp[o6],by simp,by simp⟩
   rintro d T B lv nx ⟨k,hk,t1,t4,U⟩;have w1:=aS ((k:Int)+1) (by omega) (by omega);by_cases E:k<h.tags.length
   ·have J:=fA h.tags k h.tags[k] (aaf E);have hle:(k+1)*3<=h.tags.length*3:=by omega
    have M:h.tags.take (k+1)=h.tags.take k++ [h.tags[k]]:=aaN E;have hm:h.tags[k]∈h.tags:=abG E;generalize h.tags[k]=t at J M hm;by_cases h40:40<(t.reads.length:Int)
    ·have H:gC h=true:=by
      have:h.tags.any (λt=>decide (40<t.reads.length))=true:=afl.2 ⟨t,hm,by simp;omega⟩;simp[gC,this]
     repeat' (first|refine nI ?_|(refine eI aih ?_;intro K p;simp[t1,t4,o6,E,L,hle,J,h40,w1];apply p)|fail)
     simp[Fin,aH,Tryz.f16,H]
    ·repeat' (first|refine nI ?_|(refine eI aih ?_;intro K p;simp[t1,t4,o6,E,L,hle,J,h40,w1];apply p)|fail)
     refine aN (d-1) (by omega) ⟨k+1,by omega,by simp[t1,o6],by simp,λx hx=>?_⟩;rw[M,abH] at hx;rcases hx with hx|hx
     ·exact U x hx
     ·simp only[abZ,adz,aeP] at hx;subst hx;omega
   ·have N:k=h.tags.length:=by omega
    subst N;rw[aeo] at U;have H:gC h=false:=by
     simp only[gC,Bool.or_eq_false_iff,aac,ag8,aan];exact⟨⟨⟨⟨⟨⟨by omega,by omega⟩,by omega⟩,by omega⟩,by omega⟩,hp⟩,U⟩
    repeat' (first|refine nI ?_|(refine eI aih ?_;intro K p;simp[t1,t4,o6,L];apply p)|fail)
    simp[Fin,aH,Tryz.f16,H]
end
section
variable{P:Program}[l:cL P]
theorem BE(s:List UInt8)(hs:s.length<1000000):aq P 83 [.s s] (.i .i64 (aM s)):=by
 obtain⟨A,M,E⟩:=ca (VL (P:=P) s.length 1 5);obtain⟨B,L,p⟩:=ca (uA (P:=P) s 63 hs);obtain⟨C,J,hC⟩:=ca (Eg (P:=P) s 63 hs);have N:(((63:UInt8).toNat:Nat):Int)=63:=rfl;rw[N] at p hC;refine fi (ak call42 M (ak call138 L (ak call124 J (au P)))) func83 rfl rfl ?_;by_cases h1:(1:Int)<=s.length/\(s.length:Int)<=5
 ·have hb:¬(s.length<1\/5<s.length):=by omega
  have hd:(decide ((1:Int)<=s.length)&&decide ((s.length:Int)<=5))=true:=by simp;omega
  rw[hd] at E;cases h2:bA s 63 with
  |false=>
   rw[h2] at p
   repeat' (first|refine nI ?_|(refine eI [0,2,6,9,12] ?_;intro K h;simp[ab,az,E,p];apply h)|fail)
   have hv:aM s=3:=by unfold aM;rw[aat hb,aay h2]
   simp[Fin,aH,Tryz.f83,hv]
  |true=>
   rw[h2] at p;by_cases I:(2:Int)<s.count 63
   ·have H:2<s.count 63:=by omega
    repeat' (first|refine nI ?_|(refine eI [0,2,6,9,12] ?_;intro K h;simp[ab,az,E,p,hC,I];apply h)|fail)
    have hv:aM s=2:=by unfold aM;rw[aat hb,aat (by rw[h2];decide),aay H]
    simp[Fin,aH,Tryz.f83,hv]
   ·have H:¬2<s.count 63:=by omega
    repeat' (first|refine nI ?_|(refine eI [0,2,6,9,12] ?_;intro K h;simp[ab,az,E,p,hC,I];apply h)|fail)
    have hv:aM s=0:=by unfold aM;rw[aat hb,aat (by rw[h2];decide),aat H]
    simp[Fin,aH,Tryz.f83,hv]
 ·have hb:s.length<1\/5<s.length:=by omega
  have hd:(decide ((1:Int)<=s.length)&&decide ((s.length:Int)<=5))=false:=by
   cases hx:(decide ((1:Int)<=s.length)&&decide ((s.length:Int)<=5)) with
   |false=>rfl
   |true=>simp at hx;omega
  rw[hd] at E
  repeat' (first|refine nI ?_|(refine eI [0,2,6,9,12] ?_;intro K h;simp[ab,az,E];apply h)|fail)
  have hv:aM s=2:=by unfold aM;rw[aay hb]
  simp[Fin,aH,Tryz.f83,hv]
theorem Gi(a b E hi:Int):aq P 152 [.ag [.i .i64 a,.i .i64 b],.i .i64 E,.i .i64 hi] (.b (decide (E<=a/\a<=b/\b<=hi))):=by
 refine fi (au P) func152 rfl rfl ?_;by_cases h1:E<=a
 ·by_cases h2:a<=b
  ·by_cases p:b<=hi
   ·repeat' (first|refine nI ?_|(refine eI [0,1,2,3,6] ?_;intro K h;simp[h1,h2,p];apply h)|fail)
    simp[Fin,aH,Tryz.f152,h1,h2,p]
   ·repeat' (first|refine nI ?_|(refine eI [0,1,2,3,6] ?_;intro K h;simp[h1,h2,p];apply h)|fail)
    simp[Fin,aH,Tryz.f152,h1,h2,p]
  ·repeat' (first|refine nI ?_|(refine eI [0,1,2,3,6] ?_;intro K h;simp[h1,h2];apply h)|fail)
   simp[Fin,aH,Tryz.f152,h1,h2]
 ·repeat' (first|refine nI ?_|(refine eI [0,1,2,3,6] ?_;intro K h;simp[h1];apply h)|fail)
  simp[Fin,aH,Tryz.f152,h1]
theorem BG(a b:Int):aq P 110 [.ag [.i .i64 a,.i .i64 b]] (.b (dR a b)):=by
 obtain⟨A,E,p⟩:=ca (Gi (P:=P) a b 0 99999);refine fi (ak call152 E (au P)) func110 rfl rfl ?_
 repeat' (first|refine nI ?_|(refine eI [0,1,2] ?_;intro K h;simp[ab,p];apply h)|fail)
 simp[Fin,aH,Tryz.f110,dR]
end
end Go.Proofs.YtjagmhagphbfcaaGreatDoor.Dn
namespace Go.Proofs.YtjagmhagphbfcaaGreatDoor
@[simp] abbrev aia:List Nat:=[0,1,2,3,4,32,45,57,71]
end Go.Proofs.YtjagmhagphbfcaaGreatDoor
namespace Go.Proofs.YtjagmhagphbfcaaGreatDoor.Dn
open Go Go.Proofs Lo Lw
section
variable{P:Program}[l:cL P]
theorem L9{c d:UInt8}(h:(c.toNat:Int)=d.toNat):c=d:=UInt8.toNat_inj.1 (by omega)
theorem uB:∃F:List AV->Option AV,Den P 138 F/\∀(s:List UInt8) (c:UInt8),s.length<1000000->F [.s s,.i .u8 c.toNat]=some (.b (bA s c)):=by
 obtain⟨F,h1,h2⟩:=cC (P:=P) (f:=138) (ι:=List UInt8×UInt8) (λx=> [.s x.1,.i .u8 x.2.toNat]) (λx=>.b (bA x.1 x.2)) (λx=>x.1.length<1000000) (λx y _ _ e=>by
  simp only[abg,AV.s.injEq,AV.i.injEq,adM,abQ] at e;rw[e.1,L9 e.2]) (λx hx=>uA x.1 x.2 hx)
 exact⟨F,h1,λs c hs=>h2 (s,c) hs⟩
theorem Ng:∃F:List AV->Option AV,Den P 124 F/\∀(s:List UInt8) (c:UInt8),s.length<1000000->F [.s s,.i .u8 c.toNat]=some (.i .i64 (s.count c)):=by
 obtain⟨F,h1,h2⟩:=cC (P:=P) (f:=124) (ι:=List UInt8×UInt8) (λx=> [.s x.1,.i .u8 x.2.toNat]) (λx=>.i .i64 (x.1.count x.2)) (λx=>x.1.length<1000000) (λx y _ _ e=>by
  simp only[abg,AV.s.injEq,AV.i.injEq,adM,abQ] at e;rw[e.1,L9 e.2]) (λx hx=>Eg x.1 x.2 hx)
 exact⟨F,h1,λs c hs=>h2 (s,c) hs⟩
theorem D1(h:ay)(hL:h.L.length<1000)(hS:h.S.length<1000)(hR:h.R.length<1000):aq P 108 [.ag (o6 h)] (.i .i64 (bB h)):=by
 obtain⟨A,ad,W⟩:=uB (P:=P);obtain⟨C,cd,hC⟩:=Ng (P:=P);have a1:=W h.L 63 (by omega);have a2:=W h.S 65 (by omega);have a3:=W h.R 65 (by omega);have c1:=hC h.L 63 (by omega);have Gb:(((63:UInt8).toNat:Nat):Int)=63:=rfl;have e65:(((65:UInt8).toNat:Nat):Int)=65:=rfl;rw[Gb] at a1 c1;rw[e65] at a2 a3;have i10:((h.L.length:Int)==10)=(h.L.length==10):=by
  rw[adX];simp only[ac6];omega
 have V:((h.S.length:Int)==(h.L.count 63:Int))=(h.S.length==h.L.count 63):=by
  rw[adX];simp only[ac6];omega
 refine fi (ak call138 ad (ak call124 cd (au P))) func108 rfl rfl ?_;by_cases b1:h.L.length=10
 ·have E:(h.L.length==10)=true:=by simp[b1]
  cases b2:bA h.L 63 with
  |false=>
   rw[b2] at a1
   repeat' (first|refine nI ?_|(refine eI aia ?_;intro K p;simp[o6,i10,E,bne,ab,a1];apply p)|fail)
   simp[Fin,aH,Tryz.f108,bB,b1,b2]
  |true=>
   rw[b2] at a1;cases H:bA h.S 65 with
   |false=>
    rw[H] at a2
    repeat' (first|refine nI ?_|(refine eI aia ?_;intro K p;simp[o6,i10,E,bne,ab,a1,a2];apply p)|fail)
    simp[Fin,aH,Tryz.f108,bB,b1,b2,H]
   |true=>
    rw[H] at a2;by_cases b4:1<h.R.length
    ·have J:(1:Int)<h.R.length:=by omega
     repeat' (first|refine nI ?_|(refine eI aia ?_;intro K p;simp[o6,i10,E,bne,ab,a1,a2,J];apply p)|fail)
     simp[Fin,aH,Tryz.f108,bB,b1,b2,H,b4]
    ·have J:¬(1:Int)<h.R.length:=by omega
     cases I:bA h.R 65 with
     |false=>
      rw[I] at a3
      repeat' (first|refine nI ?_|(refine eI aia ?_;intro K p;simp[o6,i10,E,bne,ab,a1,a2,J,a3];apply p)|fail)
      simp[Fin,aH,Tryz.f108,bB,b1,b2,H,b4,I]
     |true=>
      rw[I] at a3;by_cases b6:h.S.length=h.L.count 63
      ·have O:(h.S.length==h.L.count 63)=true:=by simp[b6]
       by_cases b7:4<h.S.length
       ·have Y:(4:Int)<h.S.length:=by omega
        repeat' (first|refine nI ?_|(refine eI aia ?_;intro K p;simp[o6,i10,E,bne,ab,az,a1,a2,J,a3,c1,V,O,Y];apply p)|fail)
        have hv:bB h=2:=by
         unfold bB;rw[aat (by rw[b2,H,I];simp;omega),aay (by omega)]
        simp[Fin,aH,Tryz.f108,hv]
       ·have Y:¬(4:Int)<h.S.length:=by omega
        have hv:bB h=if dup (h.L++h.S++h.R)=true then 5 else 0:=by
         unfold bB;rw[aat (by rw[b2,H,I];simp;omega),aat (by omega)]
        have n1:¬(9223372036854775807:Int)<(h.L.length:Int)+h.S.length:=by omega
        have n2:¬(9223372036854775807:Int)<(h.L.length:Int)+h.S.length+h.R.length:=by omega
        repeat' (first|refine nI ?_|(refine eI aia ?_;intro K p;simp[o6,i10,E,bne,ab,az,a1,a2,J,a3,c1,V,O,Y,n1,n2];apply p)|fail)
        have F3:(h.L++h.S++h.R).length<3000:=by simp only[abj];omega
        refine amF (λd T B lv nx=>∃k,k+d=(h.L++h.S++h.R).length/\T 3=.s (h.L++h.S++h.R)/\T 4=.i .i64 k/\((h.L++h.S++h.R).take k).any (λc=>c !=63&&decide (1<(h.L++h.S++h.R).count c))=false) (h.L++h.S++h.R).length ?_ ?_
        ·exact⟨0,by simp,by simp,by simp,by simp⟩
        rintro d T B lv nx ⟨k,hk,t3,t4,hp⟩;have w1:=aS ((k:Int)+1) (by omega) (by omega);generalize h.L++h.S++h.R=w at *;by_cases N:k<w.length
        ·have LW:=hC w w[k] (by omega);have U:((w[k].toNat:Int)==63)=(w[k]==63):=kn w[k] 63 (by omega);have jF:(w.take (k+1)).any (λc=>c !=63&&decide (1<w.count c))=(w[k] !=63&&decide (1<w.count w[k])):=by
          rw[aaN N,aeC,hp];simp
         cases M:(w[k]==63) with
         |true=>
          repeat' (first|refine nI ?_|(refine eI aia ?_;intro K p;simp[t3,t4,N,bne,U,M,w1];apply p)|fail)
          refine aN (d-1) (by omega) ⟨k+1,by omega,by simp[t3],by simp,by rw[jF];simp[bne,M]⟩
         |false=>
          by_cases WX:(1:Int)<(w.count w[k]:Int)
          ·have Z:1<w.count w[k]:=by omega
           have hd:dup w=true:=by
            unfold dup;rw[afl];exact⟨w[k],abG N,by simp[bne,M,Z]⟩
           rw[hd] at hv
           repeat' (first|refine nI ?_|(refine eI aia ?_;intro K p;simp[t3,t4,N,bne,U,M,w1,ab,az,LW,WX];apply p)|fail)
           simp[Fin,aH,Tryz.f108,hv]
          ·have Z:¬1<w.count w[k]:=by omega
           repeat' (first|refine nI ?_|(refine eI aia ?_;intro K p;simp[t3,t4,N,bne,U,M,w1,ab,az,LW,WX];apply p)|fail)
           refine aN (d-1) (by omega) ⟨k+1,by omega,by simp[t3],by simp,by rw[jF];simp[Z]⟩
        ·have gg:k=w.length:=by omega
         subst gg;have hd:dup w=false:=by simpa[dup] using hp
         rw[hd] at hv
         repeat' (first|refine nI ?_|(refine eI aia ?_;intro K p;simp[t3,t4];apply p)|fail)
         simp[Fin,aH,Tryz.f108,hv]
      ·have O:(h.S.length==h.L.count 63)=false:=by simp[b6]
       repeat' (first|refine nI ?_|(refine eI aia ?_;intro K p;simp[o6,i10,E,bne,ab,az,a1,a2,J,a3,c1,V,O];apply p)|fail)
       have hv:bB h=2:=by
        unfold bB;rw[aat (by rw[b2,H,I];simp;omega),aay (by omega)]
       simp[Fin,aH,Tryz.f108,hv]
 ·have E:(h.L.length==10)=false:=by simp[b1]
  repeat' (first|refine nI ?_|(refine eI aia ?_;intro K p;simp[o6,i10,E,bne];apply p)|fail)
  simp[Fin,aH,Tryz.f108,bB,b1]
end
end Go.Proofs.YtjagmhagphbfcaaGreatDoor.Dn
namespace Go.Proofs.YtjagmhagphbfcaaGreatDoor
@[simp] abbrev ah1:List Nat:=[0,2,3,4,7,11,27,38,41,78]
end Go.Proofs.YtjagmhagphbfcaaGreatDoor
namespace Go.Proofs.YtjagmhagphbfcaaGreatDoor.Dn
open Go Go.Proofs Lo Lw
section
variable{P:Program}[l:cL P]
theorem BJ(a:List (List UInt8))(ht:∀s∈a,s.length<1000000):aq P 109 [strs a] (.i .i64 (bj a)):=by
 obtain⟨A,ad,hA⟩:=uB (P:=P);have e65:(((65:UInt8).toNat:Nat):Int)=65:=rfl;refine fi (ak call138 ad (au P)) func109 rfl rfl ?_;by_cases h5:4<a.length
 ·have E8:(4:Int)<a.length:=by omega
  repeat' (first|refine nI ?_|(refine eI ah1 ?_;intro K h;simp[strs,E8];apply h)|fail)
  simp[Fin,aH,Tryz.f109,bj,h5]
 ·have E8:¬(4:Int)<a.length:=by omega
  repeat' (first|refine nI ?_|(refine eI ah1 ?_;intro K h;simp[strs,E8];apply h)|fail)
  refine amF (λd' T B lv nx=>∃k,k+d'=a.length/\T 0=strs a/\T 3=.i .i64 k/\bj a=cb (a.take k) (a.drop k)/\∀s∈a.take k,s.length=2) a.length ?_ ?_
  ·exact⟨0,by simp,by simp[strs],by simp,by simp[bj,h5],by simp⟩
  ·rintro d' T B lv nx ⟨k,hk,t0,t3,hp,h2⟩;have w1:=aS ((k:Int)+1) (by omega) (by omega);by_cases E:k<a.length
   ·have rM:a.drop k=a[k]::a.drop (k+1):=aa4 E;have jF:a.take (k+1)=a.take k++ [a[k]]:=aaN E;rw[rM] at hp;have N:=hA a[k] 65 (ht _ (abG E));rw[e65] at N;have I:(a.map AV.s).drop k=.s a[k]::(a.map AV.s).drop (k+1):=by rw[aa4 (by simpa using E)];simp
    have H:a[k]?=some a[k]:=aaf E;by_cases hl2:a[k].length=2
    ·obtain⟨y,z,hs⟩:∃y z,a[k]= [y,z]:=by
      match a[k],hl2 with
      | [y,z],_=>exact⟨y,z,rfl⟩
     rw[hs] at N hp I H;have Jc:=dV y z;have Cp:∀s∈a.take (k+1),s.length=2:=by
      intro s U;rw[jF] at U;rcases abH.1 U with U|U
      ·exact h2 s U
      ·rw[acE.1 U];exact hl2
     cases V:bA [y,z] 65 with
     |false=>
      rw[V] at N;have hv:bj a=3:=by rw[hp];simp[cb,eR,V]
      repeat' (first|refine nI ?_|(refine eI ah1 ?_;intro K h;simp[t0,t3,strs,E,I,H,ab,N,w1,bne];apply h)|fail)
      simp[Fin,aH,Tryz.f109,hv]
     |true=>
      rw[V] at N;cases Hj:(y==z) with
      |true=>
       have Z:y=z:=by simpa using Hj
       have hv:bj a=5:=by rw[hp];subst Z;simp[cb,eR,V]
       repeat' (first|refine nI ?_|(refine eI ah1 ?_;intro K h;simp[t0,t3,strs,E,I,H,ab,N,Jc,Hj,w1,bne];apply h)|fail)
       simp[Fin,aH,Tryz.f109,hv]
      |false=>
       have Z:¬y=z:=by simpa using Hj
       repeat' (first|refine nI ?_|(refine eI ah1 ?_;intro K h;simp[t0,t3,strs,E,I,H,ab,N,Jc,Hj,w1,bne];apply h)|fail)
       refine amF (λd2 T B lv nx=>∃j,j+d2=k/\T 0=strs a/\T 3=.i .i64 k/\T 4=.i .i64 j/\(a.take j).any (cP · [y,z])=false) k ?_ ?_
       ·exact⟨0,by simp,by simp[t0,strs],by simp[t3],by simp,by simp⟩
       rintro d2 T B lv nx ⟨j,hj,t0,t3,t4,hq⟩;have w2:=aS ((j:Int)+1) (by omega) (by omega);by_cases Hx:j<k
       ·have M:j<a.length:=by omega
        have L:a[j]∈a.take k:=agD.2 ⟨j,by omega,rfl⟩;have htj:a.take (j+1)=a.take j++ [a[j]]:=aaN M;have Y:(a.map AV.s).drop j=.s a[j]::(a.map AV.s).drop (j+1):=by rw[aa4 (by simpa using M)];simp
        have W:a[j]?=some a[j]:=aaf M;have h2j:=h2 _ L;obtain⟨p,q,iJ⟩:∃p q,a[j]= [p,q]:=by
         match a[j],h2j with
         | [p,q],_=>exact⟨p,q,rfl⟩
        rw[iJ] at Y W L;have pj:(a.take (j+1)).any (cP · [y,z])=cP [p,q] [y,z]:=by
         rw[htj,aeC,hq,iJ];simp
        have gT:cP [p,q] [y,z]=true->bj a=5:=λhb=>by
         have hx:(a.take k).any (cP · [y,z])=true:=afl.2 ⟨_,L,hb⟩;rw[hp];simp[cb,eR,V,Z,hx]
        have b1:=dV p z;have b2:=dV q y;cases J:([p,q]== [y,z]) with
        |true=>
         have hv:=gT (by simp[cP,J])
         repeat' (first|refine nI ?_|(refine eI ah1 ?_;intro K h;simp[t0,t3,t4,strs,E,M,Hx,I,H,Y,W,J,w2];apply h)|fail)
         simp[Fin,aH,Tryz.f109,hv]
        |false=>
         cases O:(p==z) with
         |false=>
          have hn:cP [p,q] [y,z]=false:=by simp[cP,J,O]
          repeat' (first|refine nI ?_|(refine eI ah1 ?_;intro K h;simp[t0,t3,t4,strs,E,M,Hx,I,H,Y,W,J,b1,O,w2];apply h)|fail)
          refine aN (d2-1) (by omega) ⟨j+1,by omega,by simp[t0,strs],by simp[t3],by simp,by rw[pj];exact hn⟩
         |true=>
          cases e3:(q==y) with
          |true=>
           have hv:=gT (by simp[cP,J,O,e3])
           repeat' (first|refine nI ?_|(refine eI ah1 ?_;intro K h;simp[t0,t3,t4,strs,E,M,Hx,I,H,Y,W,J,b1,O,b2,e3,w2];apply h)|fail)
           simp[Fin,aH,Tryz.f109,hv]
          |false=>
           have hn:cP [p,q] [y,z]=false:=by simp[cP,J,O,e3]
           repeat' (first|refine nI ?_|(refine eI ah1 ?_;intro K h;simp[t0,t3,t4,strs,E,M,Hx,I,H,Y,W,J,b1,O,b2,e3,w2];apply h)|fail)
           refine aN (d2-1) (by omega) ⟨j+1,by omega,by simp[t0,strs],by simp[t3],by simp,by rw[pj];exact hn⟩
       ·have hjj:j=k:=by omega
        subst hjj;have hv:bj a=cb (a.take (j+1)) (a.drop (j+1)):=by
         rw[hp,jF,hs];simp[cb,eR,V,Z,hq]
        repeat' (first|refine nI ?_|(refine eI ah1 ?_;intro K h;simp[t0,t3,t4,strs,w1];apply h)|fail)
        refine aN (d'-1) (by omega) ⟨j+1,by omega,by simp[t0,strs],by simp,hv,Cp⟩
    ·have Wz:((a[k].length:Int)==2)=false:=by simp;omega
     have hv:bj a=3:=by rw[hp];simp[cb,eR,hl2]
     repeat' (first|refine nI ?_|(refine eI ah1 ?_;intro K h;simp[t0,t3,strs,E,I,H,Wz,w1,bne];apply h)|fail)
     simp[Fin,aH,Tryz.f109,hv]
   ·have gg:k=a.length:=by omega
    subst gg
    repeat' (first|refine nI ?_|(refine eI ah1 ?_;intro K h;simp[t0,t3,strs];apply h)|fail)
    have:bj a=0:=by rw[hp];simp[cb]
    simp[Fin,aH,Tryz.f109,this]
end
end Go.Proofs.YtjagmhagphbfcaaGreatDoor.Dn
namespace Go.Proofs.YtjagmhagphbfcaaGreatDoor
@[simp] abbrev aic:List Nat:=[0,1,2,3,4,5,6,10,16,21,26,37,46]
end Go.Proofs.YtjagmhagphbfcaaGreatDoor
namespace Go.Proofs.YtjagmhagphbfcaaGreatDoor.Dn
open Go Go.Proofs Lo Lw
section
variable{P:Program}[l:cL P]
theorem BF:∃F:List AV->Option AV,Den P 83 F/\∀(s:List UInt8),s.length<1000000->F [.s s]=some (.i .i64 (aM s)):=by
 obtain⟨F,h1,h2⟩:=cC (P:=P) (f:=83) (ι:=List UInt8) (λx=> [.s x]) (λx=>.i .i64 (aM x)) (λx=>x.length<1000000) (λx y _ _ e=>by
  simp only[abg,AV.s.injEq,abQ] at e;rw[e]) (λx hx=>BE x hx)
 exact⟨F,h1,h2⟩
theorem BH:∃F:List AV->Option AV,Den P 110 F/\∀a b:Int,F [.ag [.i .i64 a,.i .i64 b]]=some (.b (dR a b)):=by
 obtain⟨F,h1,h2⟩:=cC (P:=P) (f:=110) (ι:=Int×Int) (λx=> [.ag [.i .i64 x.1,.i .i64 x.2]]) (λx=>.b (dR x.1 x.2)) (λ_=>True) (λx y _ _ e=>by
  simp only[abg,AV.ag.injEq,AV.i.injEq,adM,abQ] at e;rw[e.1,e.2]) (λx _=>BG x.1 x.2)
 exact⟨F,h1,λa b=>h2 (a,b) trivial⟩
theorem BI(h:ay)(hf:Fair h):aq P 49 [.ag (o6 h)] (.i .i64 (aO h)):=by
 obtain⟨A,ad,W⟩:=ca (D1 (P:=P) h (by have:=hf.L;omega) (by have:=hf.S;omega) (by have:=hf.R;omega));obtain⟨B,bd,hB⟩:=ca (BJ (P:=P) h.alike (λs hs=>by have:=hf.a s hs;omega));obtain⟨C,cd,hC⟩:=BF (P:=P);obtain⟨D,dd,hD⟩:=BH (P:=P);simp only[o6,strs] at W hB;have O:=cV h.tags;refine fi (ak call108 ad (ak call109 bd (ak call83 cd (ak call110 dd (au P))))) func49 rfl rfl ?_;by_cases N:bB h=0
 ·have Y:(bB h==0)=true:=by simp[N]
  by_cases V:bj h.alike=0
  ·have H:(bj h.alike==0)=true:=by simp[V]
   by_cases q3:5<h.tags.length
   ·have J:(5:Int)<h.tags.length:=by omega
    repeat' (first|refine nI ?_|(refine eI aic ?_;intro K p;simp[o6,O,ab,az,W,hB,Y,H,J,bne];apply p)|fail)
    simp[Fin,aH,Tryz.f49,aO,N,V,q3]
   ·have J:¬(5:Int)<h.tags.length:=by omega
    repeat' (first|refine nI ?_|(refine eI aic ?_;intro K p;simp[o6,O,ab,az,W,hB,Y,H,J,bne];apply p)|fail)
    have hh:aO h=cR h.tags:=by simp[aO,N,V,q3]
    refine amF (λd T B lv nx=>∃k,k+d=h.tags.length/\T 1=.sp (o6 h)/\T 5=.i .i64 k/\cR h.tags=cR (h.tags.drop k)) h.tags.length ?_ ?_
    ·exact⟨0,by simp,by simp[o6],by simp,by simp⟩
    rintro d T B lv nx ⟨k,hk,t1,t5,hp⟩;have w1:=aS ((k:Int)+1) (by omega) (by omega);by_cases U:k<h.tags.length
    ·have da:=fA h.tags k h.tags[k] (aaf U);have hle:(k+1)*3<=h.tags.length*3:=by omega
     have rM:h.tags.drop k=h.tags[k]::h.tags.drop (k+1):=aa4 U;have hm:h.tags[k]∈h.tags:=abG U;rw[rM] at hp;generalize h.tags[k]=t at da hp hm;have M:=hC t.reads (by have:=hf.t t hm;omega);have I:=hD t.low t.high;by_cases r1:aM t.reads=0
     ·have E:(aM t.reads==0)=true:=by simp[r1]
      cases Z:dR t.low t.high with
      |true=>
       rw[Z] at I
       repeat' (first|refine nI ?_|(refine eI aic ?_;intro K p;simp[t1,t5,o6,U,O,hle,da,ab,az,M,I,E,bne,w1];apply p)|fail)
       refine aN (d-1) (by omega) ⟨k+1,by omega,by simp[t1,o6],by simp,by rw[hp];simp[cR,r1,Z]⟩
      |false=>
       rw[Z] at I;have hv:aO h=1:=by rw[hh,hp];simp[cR,r1,Z]
       repeat' (first|refine nI ?_|(refine eI aic ?_;intro K p;simp[t1,t5,o6,U,O,hle,da,ab,az,M,I,E,bne,w1];apply p)|fail)
       simp[Fin,aH,Tryz.f49,hv]
     ·have E:(aM t.reads==0)=false:=by simp[r1]
      have hv:aO h=aM t.reads:=by rw[hh,hp];simp[cR,r1]
      repeat' (first|refine nI ?_|(refine eI aic ?_;intro K p;simp[t1,t5,o6,U,O,hle,da,ab,az,M,E,bne,w1];apply p)|fail)
      simp[Fin,aH,Tryz.f49,hv]
    ·have gg:k=h.tags.length:=by omega
     subst gg;have hv:aO h=0:=by rw[hh,hp];simp[cR]
     repeat' (first|refine nI ?_|(refine eI aic ?_;intro K p;simp[t1,t5,o6,O];apply p)|fail)
     simp[Fin,aH,Tryz.f49,hv]
  ·have H:(bj h.alike==0)=false:=by simp[V]
   repeat' (first|refine nI ?_|(refine eI aic ?_;intro K p;simp[o6,ab,az,W,hB,Y,H,bne];apply p)|fail)
   simp[Fin,aH,Tryz.f49,aO,N,V]
 ·have Y:(bB h==0)=false:=by simp[N]
  repeat' (first|refine nI ?_|(refine eI aic ?_;intro K p;simp[o6,ab,az,W,Y,bne];apply p)|fail)
  simp[Fin,aH,Tryz.f49,aO,N]
def Fo(h:ay):Bool:= !gC h&&(aO h==0)
theorem Si(h:ay):aq P 30 [.ag (o6 h)] (.b (Fo h)):=by
 obtain⟨A,I,p⟩:=ca (KY (P:=P) h);simp only[o6] at p;cases hg:gC h with
 |true=>
  rw[hg] at p;refine fi (ak call16 I (au P)) func30 rfl rfl ?_
  repeat' (first|refine nI ?_|(refine eI [0,1,2] ?_;intro K E;simp[o6,ab,az,p];apply E)|fail)
  simp[Fin,aH,Tryz.f30,Fo,hg]
 |false=>
  rw[hg] at p;obtain⟨B,J,H⟩:=ca (BI (P:=P) h (Jp hg));simp only[o6] at H;refine fi (ak call16 I (ak call49 J (au P))) func30 rfl rfl ?_
  repeat' (first|refine nI ?_|(refine eI [0,1,2] ?_;intro K E;simp[o6,ab,az,p,H];apply E)|fail)
  simp[Fin,aH,Tryz.f30,Fo,hg]
end
structure Tc(h:ay)(w:List UInt8):Prop where
 len:w.length=10
 lets:∀c∈w,isLet c=true
 nod:w.Nodup
 rep:∀q∈h.R,isLet q=true/\q∉w
theorem fq(h:ay)(ts:List Tag)(w:List UInt8):∀(s:List UInt8) (last n:Int) (b:Bool),bf { h with tags:=ts } w s last n b=bf h w s last n b
 | [],_,_,_=>rfl
 |r::s,last,n,b=>by
  have p:=fq h ts w s;unfold bf;simp only[p];rfl
theorem aky(h:ay)(ts:List Tag)(w:List UInt8)(t:Tag):cF { h with tags:=ts } w t=cF h w t:=by
 unfold cF;rw[fq]
theorem K4{h:ay}(hf:Fair h):j9 h:=by
 have h1:=hf.L;have h2:=hf.S;have H:=hf.R;have E:=hf.na;have p:=hf.nt;exact⟨by omega,by omega,by omega,by omega,λs hs=>by have:=hf.a s hs;omega,by omega,λt ht=>by have:=hf.t t ht;omega⟩
theorem OO{h:ay}(hf:Fo h=true):Fair h:=by
 unfold Fo at hf;rw[aaZ] at hf;exact Jp (by simpa using hf.1)
theorem Sj{h:ay}(hf:Fo h=true):aO h=0:=by
 unfold Fo at hf;rw[aaZ] at hf;simpa using hf.2
section
variable{P:Program}[l:cL P]
end
end Go.Proofs.YtjagmhagphbfcaaGreatDoor.Dn
namespace Go.Proofs.YtjagmhagphbfcaaGreatDoor
@[simp] abbrev anr:List Nat:=[0,1,2,3,4,5,41,46,59]
end Go.Proofs.YtjagmhagphbfcaaGreatDoor
namespace Go.Proofs.YtjagmhagphbfcaaGreatDoor.Dn
open Go Go.Proofs Lo Lw
section
variable{P:Program}[l:cL P]
theorem akD:aq P 34 [.ag po,.ag po] (.b true):=by
 have h25:aq P 25 [.sq none 0 [],.sq none 0 []] (.b true):=by
  refine aq.ZE (k:=1) ?_;intro g w ys hW hr;obtain⟨y,H,rfl,h1,h2⟩:=hr.dX;refine GH (P:=P) [] [] (by simp) (by simp) g w _ hW (.cons ?_ h2);cases h1 with
  |nil=>exact .nil _ _
  |sq _ _ _ _ _ _ _ _ h0=>omega
 obtain⟨A,E,p⟩:=ca h25;refine fi (ak call25 E (au P)) func34 rfl rfl ?_
 repeat' (first|refine nI ?_|(refine eI anr ?_;intro K h;simp[po,ab,p];apply h)|fail)
 refine amF (λd T B lv nx=>T 2=.sp po/\T 5=.i .i64 0) 0 ?_ ?_
 ·exact⟨by simp[po],by simp⟩
 rintro d T B lv nx ⟨t2,t5⟩
 repeat' (first|refine nI ?_|(refine eI anr ?_;intro K h;simp[t2,t5,po];apply h)|fail)
 simp[Fin,aH,Tryz.f34]
omit l in
theorem aks{h:ay}{b:Int}(hb:bJ h []=b)(hn:b≠0):gx h=.tu [.ag po,.i .i64 b]:=by
 subst hb;unfold gx;rw[aay hn]
omit l in
theorem akM{h:ay}(hb:bJ h []=0):gx h=.tu [.ag (o6 h),.i .i64 0]:=by
 unfold gx;rw[aat (by simp[hb])]
end
end Go.Proofs.YtjagmhagphbfcaaGreatDoor.Dn
namespace Go.Proofs.YtjagmhagphbfcaaGreatDoor
@[simp] abbrev anq:List Nat:=[0,1,2,3,5,6,7,8,9,10,11,12,16,23,29,53]
end Go.Proofs.YtjagmhagphbfcaaGreatDoor
namespace Go.Proofs.YtjagmhagphbfcaaGreatDoor.Dn
open Go Go.Proofs Lo Lw
section
variable{P:Program}[l:cL P]
theorem ant(n:Int):aq P 61 [.i .i64 n] (.ag [.i .i64 n,.i .i64 n]):=by
 refine fi (au P) func61 rfl rfl ?_
 repeat' (first|refine nI ?_|(refine eI [0,2] ?_;intro K h;simp;apply h)|fail)
 simp[Fin,aH,Tryz.f61]
theorem ann(h:ay)(hm:j9 h):aq P 34 [.ag (o6 h),.ag (o6 h)] (.b true):=by
 have E:=cV h.tags;have O:=hm.m;obtain⟨A,N,I⟩:=ca (GH (P:=P) h.alike h.alike (by have:=hm.n;omega) (by have:=hm.n;omega));simp only[strs,beq_self_eq_true] at I;refine fi (ak call25 N (au P)) func34 rfl rfl ?_
 repeat' (first|refine nI ?_|(refine eI anr ?_;intro K p;simp[o6,ab,I,E];apply p)|fail)
 refine amF (λd T B lv nx=>∃k,k+d=h.tags.length/\T 2=.sp (o6 h)/\T 3=.sp (o6 h)/\T 5=.i .i64 k) h.tags.length ?_ ?_
 ·exact⟨0,by simp,by simp[o6],by simp[o6],by simp⟩
 rintro d T B lv nx ⟨k,hk,t2,t3,t5⟩;have w1:=aS ((k:Int)+1) (by omega) (by omega);by_cases J:k<h.tags.length
 ·have H:=fA h.tags k h.tags[k] (aaf J);have M:(k+1)*3<=h.tags.length*3:=by omega
  generalize h.tags[k]=t at H
  repeat' (first|refine nI ?_|(refine eI anr ?_;intro K p;simp[t2,t3,t5,o6,J,E,H,M,w1];apply p)|fail)
  refine aN (d-1) (by omega) ⟨k+1,by omega,by simp[t2,o6],by simp[t3,o6],by simp⟩
 ·have L:k=h.tags.length:=by omega
  subst L
  repeat' (first|refine nI ?_|(refine eI anr ?_;intro K p;simp[t2,t3,t5,o6,E];apply p)|fail)
  simp[Fin,aH,Tryz.f34]
def amT(h:ay)(i:Nat)(t:Tag)(p hi:Int):AV:=if max t.low p>min t.high hi then .tu [.ag po,.i .i64 9] else gx (ia h i (max t.low p) (min t.high hi))
theorem ank(h:ay)(hm:j9 h)(hc:aO h=0)(i:Nat)(t:Tag)(ht:h.tags[i]?=some t)(p hi:Int)(hp:lK p hi=0):aq P 60 [.ag (o6 h),.i .i64 i,.ag [.i .i64 p,.i .i64 hi]] (amT h i t p hi):=by
 have Z:i<h.tags.length:=(abi.1 ht).1;have U:=cV h.tags;have O:=fA h.tags i t ht;have Y:(i+1)*3<=h.tags.length*3:=by omega
 have V:j9 (ia h i (max t.low p) (min t.high hi)):=by
  refine⟨hm.L,hm.S,hm.R,hm.n,hm.a,by simpa[ia] using hm.m,λu hu=>?_⟩;obtain⟨j,hj,e⟩:=List.getElem_of_mem hu;simp only[ia,List.getElem_modify] at e;have:=hm.t (h.tags[j]'(by simpa[ia] using hj)) (abG _);rw[<-e];split <;>exact this
 have V1:iN h i=0:=by unfold iN;rw[aay (by omega)]
 obtain⟨A,ad,M⟩:=ca (tH (P:=P) h hm.L hm.S hm.R hm.n hm.a hm.m hm.t);obtain⟨B,bd,J⟩:=ca (Dw (P:=P) h i (by have:=hm.m;omega));obtain⟨C,cd,hC⟩:=ca (Kd (P:=P) p hi);obtain⟨D,dd,W⟩:=ca (GW (P:=P) h hm i Z (max t.low p) (min t.high hi));obtain⟨E,ed,H⟩:=ca (Iz (P:=P) (ia h i (max t.low p) (min t.high hi)) V);rw[hc] at M;rw[V1] at J;rw[hp] at hC;simp only[eG,o6] at M J W H;refine fi (ak call48 ad (ak call75 bd (ak call120 cd (ak call121 dd (ak call97 ed (au P)))))) func60 rfl rfl ?_;by_cases hg:max t.low p>min t.high hi
 ·have N:min t.high hi<max t.low p:=hg;rw[amT,aay hg]
  repeat' (first|refine nI ?_|(refine eI anq ?_;intro K I;simp[o6,ab,az,M,J,hC,U,O,Y,hg,N,bne];apply I)|fail)
  simp[Fin,dc,aH,Tryz.f60,po]
 ·have N:¬min t.high hi<max t.low p:=hg;rw[amT,aat hg];by_cases ho:bJ (ia h i (max t.low p) (min t.high hi)) []=0
  ·rw[akM ho] at H ⊢;simp only[o6] at H ⊢
   repeat' (first|refine nI ?_|(refine eI anq ?_;intro K I;simp[o6,ab,az,M,J,hC,W,H,U,O,Y,hg,N,bne];apply I)|fail)
   simp[Fin,dc,aH,Tryz.f60]
  ·rw[aks rfl ho] at H ⊢;simp only[po] at H ⊢
   repeat' (first|refine nI ?_|(refine eI anq ?_;intro K I;simp[o6,ab,az,M,J,hC,W,H,U,O,Y,hg,N,bne];apply I)|fail)
   simp[Fin,dc,aH,Tryz.f60]
end
section
variable{P:Program}[l:cL P]{g0:Gh}{w0:World}{fr:Nat->Prop}{g:Gh}{w:World}{m:Mem}{a:Act}{T:Nat->AV}{nx N:Nat}{o:Oper}{K:Act->World->Prop}{Q:Exit->Act->World->Prop}
theorem anl{d:Nat}(h:SR P g0 w0 fr (VS T nx N) g w m a.tmps)(J:a.defers= [])(hd:o.dst=some d)(hn:d<N)(hop:o.op=.buildSlice 23 0 #[])
  (I:∀b w' a',SR P g0 w0 fr (VS (up T d (.v (.slice (some ⟨b,0,none⟩) 0 0))) nx N) g w' m a'.tmps->a'.defers= []->cm g g w w'->w.heap.size<=b->ny w0.heap.size g w' b 51 []->K a' w'):o.wp P a w K Q:=by
 obtain⟨vs,h1,h2,M,L⟩:=MH (P:=P) (w:=w) (t:=23) (e:=51) (by simp) (by simp) (fr:=fr) (s:=VS T nx N) (g:=g) (m:=m) (ps:= []) (qs:= #[]) (l:= []) (by first|trivial|exact .nil|exact⟨rfl,by simp⟩) rfl (by simp);have p:vs= []:=h2.nE;subst p;unfold Oper.wp;rw[show(execOp a.eval o).run P w=.ok (.value (.slice (some ⟨w.heap.size,0,none⟩) 0 0)) (w.alloc (.cells #[] 51)) from by
  have h1:(Instr.buildSlice 23 0 ((#[]:Array (Nat×Operand)).map λx=>(x.1,a.eval x.2))).run P w=.ok (.slice (some ⟨w.heap.size,0,none⟩) 0 0) (w.alloc (.cells #[] 51)):=by simpa using h1
  simp only[execOp,hop,aaw,h1,aas,aaS]]
 have E:Ext g g w (w.alloc (.cells #[] 51)):=iU h.wi _ _ rfl rfl rfl rfl (λ_=>aax _) rfl;have hW:WI g (w.alloc (.cells #[] 51)):=ko h.wi _ _ rfl E (λb hb=>(h.wi.out b (by omega)).1) rfl;have H:cm g g w (w.alloc (.cells #[] 51)):=⟨λb hb _=>adx w _ hb,λ_ _=>rfl,λ_ _=>rfl⟩
 have ho:=h.wi.out w.heap.size (aax _);have h2:=(h.keep E hW H).GV hn (.slice (some ⟨w.heap.size,0,none⟩) 0 0);show K (a.put o.dst _) _;rw[hd];exact I w.heap.size _ _ h2 (put_defers _ _ _ J) H (aax _) ⟨h.ext.size,aep w _,ho.1,ho.2⟩
theorem anj{d t1 t2 b:Nat}{y:Value}{ts:List Tag}(h:SR P g0 w0 fr (VS T nx N) g w m a.tmps)(ba:a.defers= [])(hd:o.dst=some d)(hn:d<N)(hop:o.op=.call { callee:=.builtin .append,args:= #[.tmp t1,.tmp t2],argTypes:= #[23,23] })
  (hx:a.eval (.tmp t1)=.slice (some ⟨b,0,none⟩) 0 0) (hy:a.eval (.tmp t2)=y) (hb:ny w0.heap.size g w b 51 []) (hr:Rd g w (.sq none 3 (bI ts)) y) (cr:ts≠ []) (hlen:ts.length<1000000)
  (hK:∀c cap cur w' a',SR P g0 w0 fr (VS (up T d (.v (.slice (some ⟨c,0,none⟩) ts.length cap))) nx N) g w' m a'.tmps->a'.defers= []->(∀q,q<w.heap.size->q≠b->w'.heap[q]?=w.heap[q]?)->w0.heap.size<=c->(c=b\/w.heap.size<=c)->w'.heap[c]?=some (.cells cur 51 (0,0))->g.hw c=0->g.aD c=none->
   ts.length<=cap->ts.length*3<=cur.size->(∀v∈cur.toList.take (ts.length*3),v.oneCell'=true)->cS g w' (bI ts) (cur.toList.take (ts.length*3))->K a' w'):o.wp P a w K Q:=by
 have RA:=cV ts;have mM:0<ts.length:=agz.2 cr;obtain⟨v',w',g',n',ys,r1,Y,r3,p,r5,W,r7,r8,r9⟩:=oH (P:=P) h.wi (t:=23) (e:=51) (ty:=o.type) (by simp) (by simp) (B:=w0.heap.size) (v:=.slice (some ⟨b,0,none⟩) 0 0) (n:=0) (xs:= []) ⟨by simp,.inr ⟨b,0,_,rfl,hb.low,hb.cells,aax _,by decide,by simp,by simp⟩⟩ h.ext.size (λc hc=>by
  have:b=c:=by simpa[Value.ownBlock] using hc
  subst this;simpa using hb.hw) (l:= []) (.sq none _ [] b 0 0 0 [] (by simp) rfl (by simp) (aax _) (by simp) (by simp) (by simp)) hr (.inl (by simp)) (by simp[RA];omega)
 have fF:∀q,(Value.slice (some ⟨b,0,none⟩) 0 0).ownBlock≠some q↔q≠b:=λq=>by
  simp only[Value.ownBlock,ne_eq,Option.some.injEq];exact⟨λh e=>h e.symm,λh e=>h e.symm⟩
 have U:∀q,q<w.heap.size->q≠b->w'.heap[q]?=w.heap[q]?/\g'.hw q=g.hw q:=λq h1 h2=>r7 q h1 ((fF q).2 h2)
 have L:Ext g g w w':=⟨p.size,λ_=>aax _,p.cell,λ_ _ h=>h,p.os,p.tape,p.output,p.obj⟩
 have hW:WI g w':=⟨λq hq=>h.wi.out q (aaY p.size hq),λq dd hq=>by
  obtain⟨es,ck,k1,k2⟩:=h.wi.aD q dd hq;have J:q≠b:=λe=>by subst e;rw[hb.aD] at hq;cases hq
  exact⟨es,ck,by rw[(U q (aah.1 k1).1 J).1];exact k1,λe he=>by obtain⟨aa,ha,Cd⟩:=k2 e he;exact⟨aa,ha,Cd.mono L⟩⟩,h.wi.cz.mono L⟩
 have YK:cm g0 g w0 w':=by
  have M:=h.ext.size;have Ht:=hb.low;exact⟨λq hq hm=>by rw[(U q (by omega) (by omega)).1];exact h.keeps.block q hq hm,λq hq=>h.keeps.hw q hq,λq hq=>h.keeps.aD q hq⟩
 have h2:=h.grow L hW YK (λid hb=>absurd rfl hb) (λσ c I _=>absurd rfl I);unfold Oper.wp;rw[show(execOp a.eval o).run P w=.ok (.value v') w' from by
  unfold execOp;simp only[hop,resolve,invoke,builtin,aaw,aaS,aas,adt,List.map_cons,List.map_nil];rw[hx,hy,r1];rfl]
 show K (a.put o.dst v') _;rw[hd];have s3:aQ P 51=3:=by simp
 rw[aaV,s3] at W;rw[s3] at Y;have Oe:∀x∈bI ts,Jn x=true:=pS _;generalize V:bI ts=cells at *;cases W with
 |nil=>simp at RA;omega
 |sq _ _ _ b' o' n mm ys' q0 Z q2 q3 q4 q5 q6=>
  rcases Y.2 with ⟨h',_⟩|⟨c,cap,cur,h',C5,hg,O,_,M,jF⟩
  ·cases h'
  ·cases h';have yU:n'=ts.length:=by omega
   subst yU;have Af:ys'=cur.toList.take (ts.length*3):=by
    have aK:(cur.toList.take (ts.length*3)).length=ts.length*3:=by
     rw[afk,ac5 (xs:=cur)];have:=ab2 3 O;rw[Nat.min_eq_left (by rw[show cur.size=mm*3 from M];exact this)]
    apply aer;intro j;rcases adv j (ts.length*3) with hj|hj
    ·have yr:j<ys'.length:=by omega
     have E:ys'[j]?=some ys'[j]:=aaf yr;have hc:=(q5 j _ E).2;rw[E,<-hc,abY,aeg w' b' j cur 51 _ hg,aeB hj,ae2]
    ·rw[aby (by omega),aby (by omega)]
   have ec:b'=b\/w.heap.size<=b':=by
    rcases r9 b' rfl with H|H
    ·exact .inl (by simpa[Value.ownBlock] using H.symm)
    ·exact .inr H
   have hz:g.hw b'=0/\g.aD b'=none:=by
    rcases ec with rfl|H
    ·exact⟨hb.hw,hb.aD⟩
    ·exact h.wi.out b' H
   refine hK b' mm cur w' _ (h2.GV hn _) (put_defers _ _ _ ba) (λq h1 h2=>(U q h1 h2).1) C5 ec hg hz.1 hz.2 O ?_ ?_ ?_
   ·have:=ab2 3 O;rw[show cur.size=mm*3 from M];exact this
   ·rw[<-Af];exact q4
   ·rw[<-Af,<-V];rw[<-V] at Z q6 Oe;exact⟨Z,λj a y ha hy=>(q6 j a y ha hy).flat (Oe a (List.mem_of_getElem? ha))⟩
end
section
variable{P:Program}[l:cL P]
set_option maxHeartbeats 4000000 in
theorem am2(h:ay)(hm:j9 h)(i:Nat)(hi:i<h.tags.length)(p E:Int):aq P 62 [.ag (o6 h),.i .i64 i,.ag [.i .i64 p,.i .i64 E]] (.ag (o6 (ia h i p E))):=by
 have cr:h.tags≠ []:=λe=>by rw[e] at hi;simp at hi
 intro g w0 ys hW hr;refine aey (func62 (P:=P)) rfl ?_;have ve:=uV (P:=P) (n:=21) hW hr (by simp);have cq:ys.toArray.size=ys.length:=by simp
 rw[cq];generalize Ar:({ g with ex:=λ_ _ _=>True,iF:=λ_=>none } :Gh)=g0 at ve;have As:∀ {g2 w2},Ext g0 g2 w0 w2->Ext g g2 w0 w2:=by rw[<-Ar];exact λh=>⟨h.1,h.2,h.3,h.4,h.5,h.6,h.7,h.8⟩
 have N4:∀ {g2 w2},cm g0 g2 w0 w2->cm g g2 w0 w2:=by rw[<-Ar];exact λh=>⟨h.1,h.2,h.3⟩
 clear Ar;change Code.wp P _ _ { tmps:=ys.toArray++Array.replicate (21-ys.length) undef,defers:= [] } w0;have q0:Rd g w0 (.ag (o6 h)) (({ tmps:=ys.toArray++Array.replicate (21-ys.length) undef,defers:= [] } :Act).eval (.tmp 0)):=by
  obtain⟨y0,vW,rfl,k0,_⟩:=hr.dX;show Rd g w0 _ (((y0::vW).toArray++Array.replicate (21-(y0::vW).length) undef).getD 0 undef);rw[aba,Array.getElem?_append_left (by simp)];simpa using k0
 generalize ({ tmps:=ys.toArray++Array.replicate (21-ys.length) undef,defers:= [] } :Act)=a at ve q0;obtain⟨g1,m,Y,ba⟩:=ve;have q1:a.eval (.tmp 1)=.int .i64 i:=Y.Xs (by simp);have q2:a.eval (.tmp 2)=.agg #[.int .i64 p,.int .i64 E]:=by
  have h2:Rd g1 w0 (.ag [.i .i64 p,.i .i64 E]) (a.eval (.tmp 2)):=tc Y (by simp) (by simp);generalize a.eval (.tmp 2)=y2 at h2;cases h2 with
  |ag _ V h1 h4 h6=>
   obtain⟨y,Tj,rfl,k1,k2⟩:=cS.dX (⟨h1,h6⟩:cS g1 w0 [.i .i64 p,.i .i64 E] V);obtain⟨y',amf,rfl,k3,k4⟩:=k2.dX;cases k4.nE;cases k1;cases k3;rfl
 obtain⟨v0,v1,v2,v3,v4,hv,hvr,ZT⟩:∃v0 v1 v2 v3 v4,a.eval (.tmp 0)=.agg #[v0,v1,v2,v3,v4]/\cS g w0 (o6 h) [v0,v1,v2,v3,v4]/\∀y∈ [v0,v1,v2,v3,v4],y.oneCell'=true:=by
  generalize a.eval (.tmp 0)=y0 at q0;cases q0 with
  |ag _ V h1 h4 h6=>
   have hl:V.length=5:=by simpa[o6] using h1
   match V,hl with
   | [v0,v1,v2,v3,v4],_=>exact⟨v0,v1,v2,v3,v4,rfl,⟨h1,h6⟩,h4⟩
 have hr4:Rd g w0 (.sq none 3 (bI h.tags)) v4:=hvr.2 4 _ _ rfl rfl;have aar:v4.oneCell'=true:=ZT v4 (by simp);have r0:a.tmps.getD 0 undef=.agg #[v0,v1,v2,v3,v4]:=hv;have r1:a.tmps.getD 1 undef=.int .i64 i:=q1;have r2:a.tmps.getD 2 undef=.agg #[.int .i64 p,.int .i64 E]:=q2;have Y:=((Y.wM (d:=0) (z:=.v (.agg #[v0,v1,v2,v3,v4])) (by rw[r0];exact .v _) rfl).wM (d:=1) (z:=.v (.int .i64 i)) (by rw[r1];exact .v _) rfl).wM (d:=2) (z:=.v (.agg #[.int .i64 p,.int .i64 E])) (by rw[r2];exact .v _) rfl;change SR P g0 w0 _ (VS _ 0 21) g1 w0 m a.tmps at Y;generalize Um:(up (up (up (a0 [.ag (o6 h),.i .i64 i,.ag [.i .i64 p,.i .i64 E]] 21).T 0 _) 1 _) 2 _:Nat->AV)=T at Y;have T0:T 0=.v (.agg #[v0,v1,v2,v3,v4]):=by rw[<-Um];simp
 have T1:T 1=.v (.int .i64 i):=by rw[<-Um];simp
 have T2:T 2=.v (.agg #[.int .i64 p,.int .i64 E]):=by rw[<-Um];simp
 clear Um r0 r1 r2 q1 q2 hv;refine wp_seq (wp_region ?_);show wpOps P _ _ [0,1,2] a w0;rw[wpOps_cons];refine aW rfl rfl (Mt (ys:= [v0,v1,v2,v3,v4]) Y ba rfl (by decide) rfl (by rw[Y.r_ T0];rfl) (λW w1 a1 dJ jY J hK1 an7=>?_));rw[wpOps_cons];refine aW rfl rfl (Mt (ys:= [.int .i64 p,.int .i64 E]) dJ jY rfl (by decide) rfl (by rw[dJ.r_ (x:=.agg #[.int .i64 p,.int .i64 E]) (by simp[T2])];rfl) (λU w2 a2 fE jq I hK2 agU=>?_));have n35:W≠U:=by have:=J.lt;omega
 have J:=J.keep hK2;rw[wpOps_cons];refine aW rfl rfl (Dy (l:=po) fE jq rfl (by decide) rfl (by simp[po]) (λM w3 a3 V VP cU jG H Un agT=>?_));have n36:W≠M:=by have:=J.lt;omega
 have n56:U≠M:=by have:=I.lt;omega
 have J:=J.keep Un;have I:=I.keep Un;refine dv ?_;refine wp_seq (wp_region ?_);show wpOps P _ _ [0,1,2] a3 w3;rw[wpOps_cons];refine aW rfl rfl (Mu (b:=W) (ys:= [v0,v1,v2,v3,v4]) cU jG rfl (by decide) rfl (cU.r_ (by simp)) (by simp) (by simp) J ZT (λa4 l7 EX=>?_));rw[wpOps_cons];refine aW rfl rfl (Dy (l:=po) l7 EX rfl (by decide) rfl (by simp[po]) (λL w5 a5 zs7 anI d_ rK hb7 hK5 avM=>?_));have n73:L≠W:=by have:=J.lt;omega
 have n75:L≠U:=by have:=I.lt;omega
 have n76:L≠M:=by have:=H.lt;omega
 have J:=J.keep hK5;have I:=I.keep hK5;have H:=H.keep hK5;rw[wpOps_cons];refine aW rfl rfl (Ba (b:=L) (off:=0) (xs:= [v0,v1,v2,v3,v4]) d_ rK rfl rfl (d_.r_ (by simp)) hb7 (by rw[d_.r_ (x:=.agg #[v0,v1,v2,v3,v4]) (by simp)];rfl) ZT (by simp) (by simp) (by simp[anI,po]) (λw6 jm hb7 ho6=>?_));have J:=J.same (ho6 W J.lt n73);have I:=I.same (ho6 U I.lt n75);have H:=H.same (ho6 M H.lt n76);have e7:zs7.take 0++ [v0,v1,v2,v3,v4]++zs7.drop (0+ [v0,v1,v2,v3,v4].length)= [v0,v1,v2,v3,v4]:=by
  have:zs7.drop 5= []:=aeu (by rw[anI];simp[po]);simp[this]
 rw[e7] at hb7;refine dv ?_;refine wp_seq (wp_region ?_);show wpOps P _ _ [0,1,2,3,4,5] a5 w6;rw[wpOps_cons];refine aW rfl rfl (anl jm rK rfl (by decide) rfl (λbE w7 a7 gR yX O avL hbE=>?_));have nE3:W≠bE:=by have:=J.lt;omega
 have nE5:U≠bE:=by have:=I.lt;omega
 have nE6:M≠bE:=by have:=H.lt;omega
 have nE7:L≠bE:=by have:=hb7.lt;omega
 have J:=J.keep O;have I:=I.keep O;have H:=H.keep O;have hb7:=hb7.keep O;rw[wpOps_cons];refine aW rfl rfl (qZ (b:=W) (o':=0) (off:=4) (ft:=23) gR yX rfl (by decide) rfl (gR.r_ (by simp)) (by simp) (λa8 iB Ci=>?_));rw[wpOps_cons];refine aW rfl rfl (IM (b:=W) (off:=4) (y:=v4) iB Ci rfl (by decide) rfl (iB.r_ (by simp)) (by simp) J rfl aar (λa9 Z EU=>?_));have hx4:Rd g1 w7 (.sq none 3 (bI h.tags)) v4:=hr4.mono (As Z.ext);rw[wpOps_cons];refine aW rfl rfl (anj (t1:=9) (t2:=11) (b:=bE) (y:=v4) (ts:=h.tags) Z EU rfl (by decide) rfl (Z.r_ (by simp)) (Z.r_ (by simp)) hbE hx4 cr hm.m (λc cap cur Qo JD iI rL anz aoo ec arC hcz hcm ahx aho Ug WW=>?_));have n7c:L≠c:=by have:=hb7.lt;omega
 have n5c:U≠c:=by have:=I.lt;omega
 have n6c:M≠c:=by have:=H.lt;omega
 have I:=I.same (anz U I.lt nE5);have H:=H.same (anz M H.lt nE6);have hb7:=hb7.same (anz L hb7.lt nE7);have N:ny w0.heap.size g1 Qo c 51 cur.toList:=⟨aoo,by rw[arC],hcz,hcm⟩
 rw[wpOps_cons];refine aW rfl rfl (qZ (b:=L) (o':=0) (off:=4) (ft:=23) iI rL rfl (by decide) rfl (iI.r_ (by simp)) (by simp) (λaP anx aoj=>?_));rw[wpOps_cons];refine aW rfl rfl (Ba (b:=L) (off:=4) (xs:= [.slice (some ⟨c,0,none⟩) h.tags.length cap]) anx aoj rfl rfl (anx.r_ (by simp)) hb7 (by rw[anx.r_ (x:=.slice (some ⟨c,0,none⟩) h.tags.length cap) (by simp)];rfl) (by simp[Value.oneCell']) (by simp) (by simp) (by simp) (λwP anO hb7 hoP=>?_));have I:=I.same (hoP U I.lt n75);have H:=H.same (hoP M H.lt n76);have N:=N.same (hoP c N.lt n7c);simp only[List.take_succ_cons,List.take_zero,aaT,aaV,ab0,aeA,afs,List.drop_zero,List.drop_nil,acO] at hb7;refine dv ?_;have I5:∀y∈ [v0,v1,v2,v3,Value.slice (some ⟨c,0,none⟩) h.tags.length cap],y.oneCell'=true:=by
  intro y hy;simp only[abZ,adz,aeP] at hy;rcases hy with rfl|rfl|rfl|rfl|rfl
  ·exact ZT _ (by simp)
  ·exact ZT _ (by simp)
  ·exact ZT _ (by simp)
  ·exact ZT _ (by simp)
  ·rfl
 refine wp_seq (wp_region ?_);show wpOps P _ _ [0,1,2,3,4,5,6] aP wP;rw[wpOps_cons];refine aW rfl rfl (qZ (b:=L) (o':=0) (off:=4) (ft:=23) anO aoj rfl (by decide) rfl (anO.r_ (by simp)) (by simp) (λa9 Z EU=>?_));rw[wpOps_cons];refine aW rfl rfl (IM (b:=L) (off:=4) (y:=.slice (some ⟨c,0,none⟩) h.tags.length cap) Z EU rfl (by decide) rfl (Z.r_ (by simp)) (by simp) hb7 rfl rfl (λJD iI rL=>?_));rw[wpOps_cons];refine aW rfl rfl (QA (y:=.int .i64 i) iI rL rfl (by decide) rfl (iI.r_ (by simp[T1])) (λa11 uF EZ=>?_));rw[wpOps_cons];refine aW rfl rfl (Mu (b:=U) (ys:= [.int .i64 p,.int .i64 E]) uF EZ rfl (by decide) rfl (uF.r_ (by simp)) (by simp) (by simp) I (by simp[Value.oneCell']) (λa12 jo Av=>?_));rw[wpOps_cons];refine aW rfl rfl (QB (b:=c) (n:=h.tags.length) (cap:=cap) (j:=i) (k:=.i64) (e:=51) jo Av rfl (by decide) rfl (jo.r_ (by simp)) (jo.r_ (by simp)) (by simp) (by simp) hi (λa13 uE Oj=>?_));rw[wpOps_cons];refine aW rfl rfl (qZ (b:=c) (o':=i*3) (off:=1) (ft:=49) uE Oj rfl (by decide) rfl (uE.r_ (by simp)) (by simp) (λa14 uD EY=>?_));rw[wpOps_cons];refine aW rfl rfl (Ba (b:=c) (off:=i*3+1) (xs:= [.int .i64 p,.int .i64 E]) uD EY rfl rfl (uD.r_ (by simp)) N (by rw[uD.r_ (x:=.agg #[.int .i64 p,.int .i64 E]) (by simp)];rfl) (by simp[Value.oneCell']) (by simp) (by simp) (by simp;omega) (λw15 nZ N aau=>?_));have hb7:=hb7.same (aau L hb7.lt (Ne.symm n7c));have H:=H.same (aau M H.lt (Ne.symm n6c));refine dv ?_;refine wp_seq (wp_region ?_);show wpOps P _ _ [0,1] a14 w15;rw[wpOps_cons];refine aW rfl rfl (Mu (b:=L) (ys:= [v0,v1,v2,v3,.slice (some ⟨c,0,none⟩) h.tags.length cap]) nZ EY rfl (by decide) rfl (nZ.r_ (by simp)) (by simp) (by simp) hb7 I5 (λa16 rG Ja=>?_));rw[wpOps_cons];refine aW rfl rfl (Ba (b:=M) (off:=0) (xs:= [v0,v1,v2,v3,.slice (some ⟨c,0,none⟩) h.tags.length cap]) rG Ja rfl rfl (rG.r_ (by simp)) H (by rw[rG.r_ (x:=.agg #[v0,v1,v2,v3,.slice (some ⟨c,0,none⟩) h.tags.length cap]) (by simp)];rfl) I5 (by simp) (by simp) (by rw[VP];simp[po]) (λTl pJ H agH=>?_));have N:=N.same (agH c N.lt n6c);refine dv (wp_ret ?_);have hlen:=cV h.tags;have e6:V.take 0++ [v0,v1,v2,v3,.slice (some ⟨c,0,none⟩) h.tags.length cap]++V.drop (0+ [v0,v1,v2,v3,Value.slice (some ⟨c,0,none⟩) h.tags.length cap].length)= [v0,v1,v2,v3,.slice (some ⟨c,0,none⟩) h.tags.length cap]:=by
  have:V.drop 5= []:=aeu (by rw[VP];simp[po]);simp[this]
 rw[e6] at H;have q6:a16.tmps.getD 6 undef=.pointer (some ⟨M,0,none⟩):=pJ.r_ (t:=6) (by simp);have xv:=Ej (P:=P) (t:=25) (by simp) (by simp) H I5;obtain⟨hEF,hWF,hwF,agq⟩:=N.freeze pJ.wi;have aa9:=(As pJ.ext).trans hEF;have hR:cS ({ g1 with hw:=up g1.hw c (cur.toList.take (i*3+1)++ [Value.int .i64 p,.int .i64 E]++cur.toList.drop (i*3+1+ [Value.int .i64 p,Value.int .i64 E].length)).length } :Gh) Tl (bI h.tags) (cur.toList.take (h.tags.length*3)):=⟨WW.1,λj a y ha hy=>(WW.2 j a y ha hy).flat (pS _ a (List.mem_of_getElem? ha))⟩
 have vK:h.tags.length*3<=cur.toList.length:=by simpa using aho
 have xn:=Mh cur.toList (i*3+1) (h.tags.length*3) [Value.int .i64 p,.int .i64 E] (by simp;omega) vK;have agr:=agq 3 h.tags.length cap (bI (ia h i p E).tags) (by omega) (by rw[cV];simp[ia]) ahx (λy hy=>by
  rw[xn] at hy;rcases abH.1 hy with hy|hy
  ·rcases abH.1 hy with hy|hy
   ·exact Ug y (aee hy)
   ·simp only[abZ,adz,aeP] at hy;rcases hy with rfl|rfl <;>rfl
  ·exact Ug y (ac8 hy)) (by simp;omega) (by
  rw[xn];show cS _ _ (bI (h.tags.modify i λt=> { t with low:=p,high:=E })) _;rw[<-zy h.tags i p E hi];unfold lay;exact((hR.take _).append (.cons (.i _ _) (.cons (.i _ _) (.nil _ _)))).append (hR.drop _))
 refine⟨Ja,.agg #[v0,v1,v2,v3,.slice (some ⟨c,0,none⟩) h.tags.length cap],?_,_,_,rfl,aa9,hWF,?_,?_,trivial⟩
 ·rw[cX];show(do let vs<-(#[ResultVar.cell 6 25]).mapM (ey a16.tmps);pure (if h:vs.size=1 then vs[0] else .tuple vs):Sem Value).run P Tl=_;simp only[abC];simp[ey,q6,asAddr,xv]
 ·have hk:=N4 pJ.keeps;refine⟨hk.1,λb hb=>?_,hk.3⟩;have:=N.low;rw[hwF b (by omega)];exact hk.2 b hb
 ·have hh:∀(j:Nat) (a:AV) (y:Value),j<4->(o6 h)[j]?=some a-> [v0,v1,v2,v3,v4][j]?=some y->Rd ({ g1 with hw:=up g1.hw c (cur.toList.take (i*3+1)++ [Value.int .i64 p,.int .i64 E]++cur.toList.drop (i*3+1+ [Value.int .i64 p,Value.int .i64 E].length)).length } :Gh) Tl a y:=λj a y _ ha hy=>(hvr.2 j a y ha hy).mono aa9
  exact Rd.vC (l:=o6 (ia h i p E)) (.cons (hh 0 _ _ (by decide) rfl rfl) (.cons (hh 1 _ _ (by decide) rfl rfl) (.cons (hh 2 _ _ (by decide) rfl rfl) (.cons (hh 3 _ _ (by decide) rfl rfl) (.cons agr (.nil _ _)))))) I5
end
section
variable{P:Program}[l:cL P]
end
section
variable{P:Program}[l:cL P]
end
section
variable{h:ay}{w:List UInt8}(hc:aO h=0)(ho:Tc h w)
include ho
include hc
variable{n g:Int}(hb:aV n g=0)
include hb
end
theorem alh:∀l:List Tag,cR l=0->∀t∈l,aM t.reads=0/\dR t.low t.high=true
 | [],_,t,ht=>by simp at ht
 |a::l,h,t,ht=>by
  unfold cR at h;split at h
  ·rename_i h1;exact absurd h h1
  ·rename_i h1;split at h
   ·cases h
   ·rename_i h2;rcases abZ.1 ht with rfl|ht
    ·exact⟨by simpa using h1,by simpa using h2⟩
    ·exact alh l h t ht
theorem alm:∀l:List Tag,(∀t∈l,aM t.reads=0/\dR t.low t.high=true)->cR l=0
 | [],_=>rfl
 |a::l,h=>by
  obtain⟨h1,h2⟩:=h a (by simp);unfold cR;rw[aat (by simp[h1]),aat (by simp[h2])];exact alm l λt ht=>h t (by simp[ht])
theorem alN{h:ay}(hc:aO h=0):bJ h []=if aB h= [] then 9 else 0:=by
 unfold bJ;rw[aat (by simp[hc])];simp[bN]
section
variable{h:ay}(hc:aO h=0)
include hc
end
section
variable{h:ay}{i:Nat}{t:Tag}(ht:h.tags[i]?=some t){n:Int}
theorem amH{h:ay}{w:List UInt8}{t:Tag}{n:Int} :n∈(cF h w t).map (·.1)↔n∈(bf h w t.reads (-1) 0 false).map (·.1)/\t.low<=n/\n<=t.high:=by
 unfold cF;simp only[ac4,afJ,jU,aaZ,aan];constructor
 ·rintro⟨x,⟨h1,h2⟩,rfl⟩;exact⟨⟨x,h1,rfl⟩,h2⟩
 ·rintro⟨⟨x,h1,rfl⟩,h2⟩;exact⟨x,⟨h1,h2⟩,rfl⟩
theorem amL{h:ay}{w:List UInt8}{t:Tag} :(!(cF h w t).isEmpty)=true↔∃n,n∈(cF h w t).map (·.1):=by
 cases cF h w t with
 |nil=>simp
 |cons a l=>simp only[List.isEmpty_cons,Bool.not_false,List.map_cons,true_iff];exact⟨a.1,by simp⟩
include ht
theorem amG(j:Nat):(ia h i n n).tags[j]?=if i=j then some { t with low:=n,high:=n } else h.tags[j]?:=by
 unfold ia;simp only[List.getElem?_modify];by_cases e:i=j
 ·subst e;simp[ht]
 ·simp[e]
theorem am_(hl:t.low<=n)(hh:n<=t.high)(w:List UInt8):Az (ia h i n n) w=true↔Az h w=true/\n∈(bf h w t.reads (-1) 0 false).map (·.1):=by
 have hr:∀u,cF (ia h i n n) w u=cF h w u:=λu=>aky h _ w u
 have H:n∈(cF h w { t with low:=n,high:=n }).map (·.1)↔n∈(bf h w t.reads (-1) 0 false).map (·.1):=by
  rw[amH];simp
 unfold Az;rw[acp,acp];constructor
 ·intro hg;have hi:=hg { t with low:=n,high:=n } (List.mem_of_getElem? (i:=i) (by rw[amG ht];simp));rw[hr,amL] at hi;obtain⟨m,hm⟩:=hi;have E:=amH.1 hm;have:m=n:=by have:=E.2;simp only at this;omega
  subst this;refine⟨λu hu=>?_,H.1 hm⟩;obtain⟨j,p⟩:=List.mem_iff_getElem?.1 hu;by_cases e:i=j
  ·subst e;rw[ht] at p;cases p;exact amL.2 ⟨m,amH.2 ⟨E.1,hl,hh⟩⟩
  ·have:=hg u (List.mem_of_getElem? (i:=j) (by rw[amG ht];simp[e,p]));rwa[hr] at this
 ·rintro⟨hg,hn⟩ u hu;obtain⟨j,p⟩:=List.mem_iff_getElem?.1 hu;rw[amG ht] at p;rw[hr];split at p
  ·cases p;exact amL.2 ⟨n,H.2 hn⟩
  ·exact hg u (List.mem_of_getElem? p)
theorem amK(hl:t.low<=n)(hh:n<=t.high):aB (ia h i n n)=(aB h).filter λw=>decide (n∈(bf h w t.reads (-1) 0 false).map (·.1)):=by
 unfold aB;rw[List.filter_filter];refine List.filter_congr λw _=>?_
 rw[adX,am_ ht hl hh,aaZ,aan,and_comm]
theorem amM:dP h i=uI ((aB h).flatMap λw=>(cF h w t).map (·.1)):=by
 unfold dP;rw[Int.toNat_natCast,ht]
theorem amI:n∈dP h i↔∃w∈aB h,n∈(bf h w t.reads (-1) 0 false).map (·.1)/\t.low<=n/\n<=t.high:=by
 rw[amM ht];refine(lW _ n).trans ?_;simp only[aeQ,amH]
theorem amJ(hl:t.low<=n)(hh:n<=t.high):n∈dP h i↔aB (ia h i n n)≠ []:=by
 rw[amI ht,amK ht hl hh,ne_eq,List.filter_eq_nil_iff];constructor
 ·rintro⟨w,h1,h2,_⟩ hn;exact hn w h1 (by simpa using h2)
 ·intro hn;refine aaO λhc=>hn λw hw hm=>hc ⟨w,hw,by simpa using hm,hl,hh⟩
theorem am5(hl:t.low<=n)(hh:n<=t.high)(hw:aB (ia h i n n)≠ []):dP (ia h i n n) i= [n]:=by
 have E:(ia h i n n).tags[i]?=some { t with low:=n,high:=n } :=by rw[amG ht];simp
 have p:∀m∈(aB (ia h i n n)).flatMap (λw=>(cF (ia h i n n) w { t with low:=n,high:=n }).map (·.1)),m=n:=λm hm=>by
  obtain⟨_,_,h1⟩:=aeQ.1 hm;obtain⟨_,h1,h2⟩:=amH.1 h1;simp only at h1 h2;omega
 rw[amM E];refine ane M0 (λe=>?_) p;obtain⟨w,hw⟩:=List.exists_mem_of_ne_nil _ hw;have hf:=hw;rw[amK ht hl hh] at hf;have hm:=(afJ.1 hf).2;have:n∈(aB (ia h i n n)).flatMap (λw=>(cF (ia h i n n) w { t with low:=n,high:=n }).map (·.1)):=by
  refine aeQ.2 ⟨w,hw,amH.2 ⟨?_,by simp,by simp⟩⟩;unfold ia;rw[fq];simpa using hm
 rw[e] at this;cases this
theorem am0(hl:t.low<=n)(hh:n<=t.high):(aB (ia h i n n)).length<=(aB h).length:=by
 rw[amK ht hl hh];exact ael _ _
theorem amR(hc:aO h=0)(h0:0<=n)(L:n<=99999):aO (ia h i n n)=0:=by
 obtain⟨_,_,M,E⟩:=checked h hc;have hlen:(ia h i n n).tags.length=h.tags.length:=by simp[ia]
 have H:cR (ia h i n n).tags=0:=alm _ λu hu=>by
  obtain⟨j,p⟩:=List.mem_iff_getElem?.1 hu;rw[amG ht] at p;split at p
  ·cases p;exact⟨(alh _ E t (List.mem_of_getElem? ht)).1,by simp[dR];omega⟩
  ·exact alh _ E u (List.mem_of_getElem? p)
 unfold aO at hc ⊢;have J:bB (ia h i n n)=bB h:=rfl;have I:(ia h i n n).alike=h.alike:=rfl;rw[J,I,hlen,H];split at hc
 ·rename_i h;exact absurd hc h
 rename_i a1;rw[aat a1];split at hc
 ·rename_i h;exact absurd hc h
 rename_i a2;rw[aat a2,aat (by omega)]
end
theorem amO:∀(l:List Int) (a b:Int),l.Pairwise (· < ·)->(∀x∈l,a<=x/\x<b)->(l.length:Int)<=max 0 (b-a)
 | [],a,b,_,_=>by simp;omega
 |x::l,a,b,hp,hx=>by
  have h1:=hx x (by simp);have:=amO l (x+1) b (List.pairwise_cons.1 hp).2 (λy hy=>by
   have:=(List.pairwise_cons.1 hp).1 y hy;have:=hx y (by simp[hy]);omega)
  simp only[ab0];omega
theorem anf{h:ay}{i:Nat}{t:Tag}(ht:h.tags[i]?=some t)(hp:0<=t.low/\t.high<=99999):(dP h i).length<=100000/\∀x∈dP h i,0<=x/\x<=99999:=by
 have hr:∀x∈dP h i,0<=x/\x<=99999:=λx hx=>by
  obtain⟨_,_,_,h1,h2⟩:=(amI ht).1 hx;omega
 refine⟨?_,hr⟩;have hs:(dP h i).Pairwise (· < ·):=by
  rw[amM ht];exact(ua M0 _).imp λh=>by omega
 have:=amO (dP h i) 0 100000 hs λx hx=>by have:=hr x hx;omega
 omega
end Go.Proofs.YtjagmhagphbfcaaGreatDoor.Dn
namespace Go.Proofs.YtjagmhagphbfcaaGreatDoor
@[simp] abbrev am1:List Nat:=[0,1,2,3,6,7,8,9,10,11,12,13,14,15,16,17,26,60,70,80,94,96]
end Go.Proofs.YtjagmhagphbfcaaGreatDoor
namespace Go.Proofs.YtjagmhagphbfcaaGreatDoor.Dn
open Go Go.Proofs Lo Lw
theorem amU{x y:ay}(e:o6 x=o6 y):x=y:=by
 obtain⟨a,b,c,d,f⟩:=x;obtain⟨a',b',c',d',E⟩:=y;simp only[o6,abg,AV.s.injEq,AV.sq.injEq,adM,abQ] at e;obtain⟨rfl,rfl,rfl,p,h⟩:=e;rw[Tu p,oS h]
theorem ano{h:ay}(hc:aO h=0){i:Nat}{t:Tag}(ht:h.tags[i]?=some t){n:Int}(h0:0<=n)(E:n<=99999):
  amT h i t n n=if n∈dP h i then .tu [.ag (o6 (ia h i n n)),.i .i64 0] else .tu [.ag po,.i .i64 9]:=by
 unfold amT;by_cases p:t.low<=n/\n<=t.high
 ·have I:max t.low n=n:=by omega
  have H:min t.high n=n:=by omega
  have hb:=alN (amR ht hc h0 E);rw[I,H,aat (by omega)];by_cases hw:aB (ia h i n n)= []
  ·rw[aay hw] at hb;rw[aat (λhm=>(amJ ht p.1 p.2).1 hm hw),aks hb (by decide)]
  ·rw[aat hw] at hb;rw[aay ((amJ ht p.1 p.2).2 hw),akM hb]
 ·rw[aay (by omega),aat (λhm=>?_)];obtain⟨_,_,_,h1,h2⟩:=(amI ht).1 hm;exact p ⟨h1,h2⟩
section
variable{P:Program}[l:cL P]
theorem ang(i:Nat):∃F:List AV->Option AV,Den P 18 F/\∀x:ay,j9 x->F [.ag (o6 x),.i .i64 i]=some (.tu [ints (bK x [iN x i] (dP x i) []),.i .i64 (bJ x [iN x i])]):=by
 obtain⟨F,h1,h2⟩:=cC (P:=P) (f:=18) (ι:=ay) (λx=> [.ag (o6 x),.i .i64 i]) (λx=>.tu [ints (bK x [iN x i] (dP x i) []),.i .i64 (bJ x [iN x i])]) j9 (λx y _ _ e=>by
  simp only[abg,AV.ag.injEq,adM,abQ] at e;rw[amU e]) (λx hx=>wR x hx i)
 exact⟨F,h1,h2⟩
theorem anb:∃F:List AV->Option AV,Den P 36 F/\∀x:ay,j9 x->F [.ag (o6 x)]=some (.tu [.i .i64 (bK x [] ((aB x).length:Int) 0),.i .i64 (bJ x [])]):=by
 obtain⟨F,h1,h2⟩:=cC (P:=P) (f:=36) (ι:=ay) (λx=> [.ag (o6 x)]) (λx=>.tu [.i .i64 (bK x [] ((aB x).length:Int) 0),.i .i64 (bJ x [])]) j9 (λx y _ _ e=>by
  simp only[abg,AV.ag.injEq,abQ] at e;rw[amU e]) (λx hx=>Gg x hx)
 exact⟨F,h1,h2⟩
set_option maxHeartbeats 1600000 in
theorem am4(e17:Enters P 17)(Xl:aq P 17 [] (.b true))(h:ay)(b q:Int)(C6:0<=b)(hb:b<=255)(hq0:0<=q)(hq:q<=65535):aq P 12 [eG h,.i .u8 b,.i .u16 q] (.b true):=by
 obtain⟨A,ad,Y⟩:=ca (Si (P:=P) h);obtain⟨T,td,hT⟩:=ca Xl;simp only[o6] at Y;have kN:=cV h.tags;cases hf:Fo h with
 |false=>
  rw[hf] at Y;refine fi (ak call30 ad (ak e17 td (au P))) func12 rfl rfl ?_
  repeat' (first|refine nI ?_|(refine eI am1 ?_;intro K J;simp[eG,o6,ab,az,Y,hT];apply J)|fail)
  simp[Fin,aH,Tryz.f12]
 |true=>
 rw[hf] at Y;by_cases NZ:h.tags.length=0
 ·have I:((h.tags.length:Int)==0)=true:=by simp[NZ]
  refine fi (ak call30 ad (ak e17 td (au P))) func12 rfl rfl ?_
  repeat' (first|refine nI ?_|(refine eI am1 ?_;intro K J;simp[eG,o6,ab,az,Y,hT,kN,I];apply J)|fail)
  simp[Fin,aH,Tryz.f12]
 have I:((h.tags.length:Int)==0)=false:=by simp;intro e;simp[e] at NZ
 have Ru:¬h.tags= []:=λe=>NZ (by simp[e])
 have hm:=K4 (OO hf);have hc:=Sj hf;obtain⟨i,hi,M⟩:∃i:Nat,i<h.tags.length/\b.tmod h.tags.length=i:=by
  refine⟨b.toNat%h.tags.length,Nat.mod_lt _ (by omega),?_⟩;rw[ae6 C6,Int.natCast_emod,Int.toNat_of_nonneg C6]
 have ht:h.tags[i]?=some h.tags[i]:=aaf hi;generalize h.tags[i]=t at ht;have htp:=(alh _ (checked h hc).2.2.2 t (List.mem_of_getElem? ht)).2;simp only[dR,aan] at htp;obtain⟨hXl,hXr⟩:=anf ht ⟨htp.1,htp.2.2⟩;have Lq:=alN hc;have htb:iN h i=0:=by unfold iN;rw[aay (by omega)]
 have HC:bJ h [0]=bJ h []:=by simp[bJ,bN]
 obtain⟨R,rd,hR⟩:=ang (P:=P) i;obtain⟨W,wd,hW⟩:=anb (P:=P);have E:=hR h hm;have p:=hW h hm;have hX0:aB h= []->dP h i= []:=λe=>List.eq_nil_iff_forall_not_mem.2 λn hn=>by
  obtain⟨w,hw,_⟩:=(amI ht).1 hn;rw[e] at hw;cases hw
 rw[htb,HC] at E;have hif:bK h [0] (dP h i) []=dP h i:=by
  unfold bK;split
  ·rename_i cr;rw[HC,Lq] at cr;by_cases hw:aB h= []
   ·rw[hX0 hw]
   ·rw[aat hw] at cr;exact absurd rfl cr
  ·rfl
 rw[hif] at E;obtain⟨bl,fM⟩:∃bl:Int,bJ h []=bl:=⟨_,rfl⟩
 have hb9:bl=0\/bl=9:=by rw[fM] at Lq;split at Lq <;>omega
 have c1:IntKind.i64.wrap b=b:=aS b (by omega) (by omega);have c2:IntKind.i64.wrap q=q:=aS q (by omega) (by omega);have r3:Int.tmod q 3=q%3:=ae6 hq0;have N:¬(100000:Int)<(dP h i).length:=by omega
 have ani:∃n:Int,0<=n/\n<=99999/\((¬0<(dP h i).length/\n=q)\/(0<(dP h i).length/\¬0<q%3/\n=q)\/(0<(dP h i).length/\0<q%3/\n∈dP h i/\∃k:Nat,q.tmod (dP h i).length=k/\k<(dP h i).length/\((dP h i).map (AV.i .i64)).drop k=.i .i64 n::((dP h i).map (AV.i .i64)).drop (k+1))):=by
  by_cases h1:0<(dP h i).length
  ·by_cases h2:0<q%3
   ·have hk:q.toNat%(dP h i).length<(dP h i).length:=Nat.mod_lt _ h1;have qu:=abG hk;obtain⟨a1,a2⟩:=hXr _ qu;refine⟨_,a1,a2,.inr (.inr ⟨h1,h2,qu,_,?_,hk,?_⟩)⟩
    ·rw[ae6 hq0,Int.natCast_emod,Int.toNat_of_nonneg hq0]
    ·rw[aa4 (by simpa using hk)];simp
   ·exact⟨q,hq0,by omega,.inr (.inl ⟨h1,h2,rfl⟩)⟩
  ·exact⟨q,hq0,by omega,.inl ⟨h1,rfl⟩⟩
 obtain⟨n,n0,n9,ani⟩:=ani;obtain⟨L,ld,U⟩:=ca (ank (P:=P) h hm hc i t ht n n (by simp[lK,dR];omega));obtain⟨O,od,hO⟩:=ca (ant (P:=P) n);obtain⟨H,hd,hH⟩:=ca (RX (P:=P) (dP h i) n (by omega));rw[ano hc ht n0 n9] at U;rw[fM] at E p;by_cases hX:n∈dP h i
 ·obtain⟨_,hXw,_,g1,g2⟩:=(amI ht).1 hX;have hw:=(amJ ht g1 g2).1 hX;have hm2:j9 (ia h i n n):=by
   refine⟨hm.L,hm.S,hm.R,hm.n,hm.a,by simpa[ia] using hm.m,λu hu=>?_⟩;obtain⟨j,hj⟩:=List.mem_iff_getElem?.1 hu;rw[amG ht] at hj;split at hj
   ·cases hj;exact hm.t t (List.mem_of_getElem? ht)
   ·exact hm.t u (List.mem_of_getElem? hj)
  have uJ:=amR ht hc n0 n9;have anh:=alN uJ;rw[aat hw] at anh;have aq1:iN (ia h i n n) i=0:=by unfold iN;rw[aay (by simp[ia];omega)]
  have yx:bJ (ia h i n n) [0]=0:=by rw[show bJ (ia h i n n) [0]=bJ (ia h i n n) [] from by simp[bJ,bN]];exact anh
  have hRo:=hR _ hm2;have hWo:=hW _ hm2;rw[aq1,bK,yx,aat (by decide),am5 ht g1 g2 hw] at hRo;rw[bK,anh,aat (by decide)] at hWo;rw[aay hX] at U;have hwh:aB h≠ []:=λe=>by rw[hX0 e] at hX;cases hX
  rw[Lq,aat hwh] at fM;subst fM;rw[bK,Lq,aat hwh,aat (by decide)] at p;have k1:(1:Int)<=(aB (ia h i n n)).length:=by have:=agz.2 hw;omega
  have k2:((aB (ia h i n n)).length:Int)<=(aB h).length:=by have:=am0 ht g1 g2;omega
  obtain⟨S,sd,hS⟩:=ca (ann (P:=P) (ia h i n n) hm2);obtain⟨V,vd,hV⟩:=ca (Nk (P:=P) [n] [n] (by simp) (by simp));obtain⟨Z,zd,hZ⟩:=ca (am2 (P:=P) h hm i hi n n);have ahq:(dP h i).contains n=true:=by simp[hX]
  rw[ahq] at hH;simp only[o6,ia,ints,List.map_cons,List.map_nil,beq_self_eq_true] at E p hRo hWo U hO hH hS hV hZ k1 k2;generalize (aB { h with tags:=h.tags.modify i λt=> { t with low:=n,high:=n } }).length=m1 at *;generalize bI (h.tags.modify i λt=> { t with low:=n,high:=n })=tl at *;refine fi (ak call30 ad (ak e17 td (ak call18 rd (ak call36 wd (ak call42 anp (ak call60 ld (ak call61 od (ak call62 zd (ak call45 hd (ak call34 sd (ak call32 vd (au P)))))))))))) func12 rfl rfl ?_;rcases ani with ⟨f1,rfl⟩|⟨f1,f2,rfl⟩|⟨f1,f2,_,k,f3,f4,f5⟩
  ·exact absurd (List.length_pos_of_mem hX) f1
  ·repeat' (first|refine nI ?_|(refine eI am1 ?_;intro K J;simp[eG,o6,ab,az,Y,hT,kN,I,Ru,M,c1,c2,r3,E,p,N,f1,f2,dIn,n0,n9,hO,U,hH,hRo,hWo,hZ,hS,hV,k1,k2,bne];apply J)|fail)
   simp[Fin,aH,Tryz.f12]
  ·have f1':dP h i≠ []:=λe=>by simp[e] at f1
   repeat' (first|refine nI ?_|(refine eI am1 ?_;intro K J;simp[eG,o6,ab,az,Y,hT,kN,I,Ru,M,c1,c2,r3,E,p,N,f1,f1',f2,f3,f4,f5,dIn,n0,n9,hO,U,hH,hRo,hWo,hZ,hS,hV,k1,k2,bne];apply J)|fail)
   simp[Fin,aH,Tryz.f12]
 ·rw[aat hX] at U;obtain⟨S,sd,hS⟩:=ca (akD (P:=P));have ahq:(dP h i).contains n=false:=by simp[hX]
  rw[ahq] at hH;obtain⟨m2,hm2⟩:∃m2:Int,bK h [] ((aB h).length:Int) 0=m2:=⟨_,rfl⟩
  rw[hm2] at p;simp only[o6,po,ints] at E p U hO hH hS;refine fi (ak call30 ad (ak e17 td (ak call18 rd (ak call36 wd (ak call42 anp (ak call60 ld (ak call61 od (ak call45 hd (ak call34 sd (au P)))))))))) func12 rfl rfl ?_;rcases ani with ⟨f1,rfl⟩|⟨f1,f2,rfl⟩|⟨f1,f2,hX',_⟩
  ·rcases hb9 with rfl|rfl
   ·repeat' (first|refine nI ?_|(refine eI am1 ?_;intro K J;simp[eG,o6,ab,az,Y,hT,kN,I,Ru,M,c1,c2,r3,E,p,N,f1,dIn,n0,n9,hO,U,hH,hS,bne];apply J)|fail)
    simp[Fin,aH,Tryz.f12]
   ·repeat' (first|refine nI ?_|(refine eI am1 ?_;intro K J;simp[eG,o6,ab,az,Y,hT,kN,I,Ru,M,c1,c2,r3,E,p,N,f1,dIn,n0,n9,hO,U,hH,hS,bne];apply J)|fail)
    simp[Fin,aH,Tryz.f12]
  ·rcases hb9 with rfl|rfl
   ·repeat' (first|refine nI ?_|(refine eI am1 ?_;intro K J;simp[eG,o6,ab,az,Y,hT,kN,I,Ru,M,c1,c2,r3,E,p,N,f1,f2,dIn,n0,n9,hO,U,hH,hS,bne];apply J)|fail)
    simp[Fin,aH,Tryz.f12]
   ·repeat' (first|refine nI ?_|(refine eI am1 ?_;intro K J;simp[eG,o6,ab,az,Y,hT,kN,I,Ru,M,c1,c2,r3,E,p,N,f1,f2,dIn,n0,n9,hO,U,hH,hS,bne];apply J)|fail)
    simp[Fin,aH,Tryz.f12]
  ·exact absurd hX' hX
end
end Go.Proofs.YtjagmhagphbfcaaGreatDoor.Dn
