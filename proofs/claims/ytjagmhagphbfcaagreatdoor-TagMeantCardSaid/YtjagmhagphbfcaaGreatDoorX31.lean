/- Part 31 of a proof (made small by a program; blanks, names and remarks only). -/
import Derived.Conc.LeavingOf
import Derived.Carry
import Derived.LaidMore
import Derived.LaidHandle
import Derived.ChangeSame
import Derived.LaidLaws
import Derived.Test.YtjagmhagphbfcaaGreatDoorCards
import Derived.Test.YtjagmhagphbfcaaGreatDoorTie
import Derived.Test.YtjagmhagphbfcaaGreatDoorX30
set_option maxRecDepth 100000
set_option linter.all false
namespace Go.Proofs.YtjagmhagphbfcaaGreatDoor.cA
open Go Go.Proofs Go.Conc Lo Dn Lw Go.ChangeShapes Go.WideShapes Go.ChangeAt Go.RowKit
def xi:List (String×DataW Unit):= [("nosale/tag.checks",Rows.laid_nosale_tag_checks)]
def nm0:List UInt8:= [40,110,111,115,97,108,101,47,116,97,103,46,104,111,117,115,101,41,46,108,101,116,116,101,114,115]
def nm1:List UInt8:= [40,110,111,115,97,108,101,47,116,97,103,46,104,111,117,115,101,41,46,112,97,105,114,115]
def nm2:List UInt8:= [40,110,111,115,97,108,101,47,116,97,103,46,104,111,117,115,101,41,46,116,97,103,115]
theorem MY:ownKnob Tryz.prog.godebug=none:=by kernel_rfl
theorem Nu:laidOutB Tryz.prog=true:=by kernel_rfl
theorem z0:(((begin Tryz.prog (λ_ _=>0) default).world.heap[0]?).bind Obj.row?).map (λx=>(x.1.size,x.2))=some (3,140):=by kernel_rfl
theorem z1:(((begin Tryz.prog (λ_ _=>0) default).world.heap[1]?).bind Obj.row?).map (λx=>(x.1.size,x.2))=some (1,3):=by kernel_rfl
theorem z2:(((begin Tryz.prog (λ_ _=>0) default).world.heap[2]?).bind Obj.row?).map (λx=>(x.1.size,x.2))=some (256,226):=by kernel_rfl
theorem z3:(((begin Tryz.prog (λ_ _=>0) default).world.heap[3]?).bind Obj.row?).map (λx=>(x.1.size,x.2))=some (32,229):=by kernel_rfl
theorem UT:Tryz.prog.cellTypes Tryz.prog.depth 3=some [3]:=by kernel_rfl
theorem OH:Tryz.prog.globals.size=4:=rfl
theorem oW{W:World}(h:W.ShapedOpen Tryz.prog){g n t:Nat}(hg:g<4)(hz:(((begin Tryz.prog (λ_ _=>0) default).world.heap[g]?).bind Obj.row?).map (λx=>(x.1.size,x.2))=some (n,t)):
  ∃cs,W.heap[g]?=some (.cells cs t)/\cs.size=n/\(Tryz.prog.buildable t=true->Row.ok Tryz.prog W .any 0 t cs):=by
 rw[aeb] at hz;obtain⟨⟨zero,t'⟩,h1,h2⟩:=hz;cases h2;obtain⟨cs,H,E,p⟩:=h.1 g zero t' (by rw[OH];exact hg) h1;exact⟨cs,H,E,p⟩
theorem rj{W:World}{b n t:Nat}{cs:Array Value}(h:W.heap[b]?=some (.cells cs t))(hn:cs.size=n):W.shape? b=some (t,n):=by
 unfold World.shape?;rw[h,<-hn]
theorem OG{W:World}(h:W.ShapedOpen Tryz.prog):AU W/\(∃k n e fr,W.heap[1]?=some (.cells #[.int k n] e fr))/\4<=W.heap.size:=by
 obtain⟨c0,a0,b0,_⟩:=oW h (g:=0) (by decide) z0;obtain⟨c1,a1,b1,d1⟩:=oW h (g:=1) (by decide) z1;obtain⟨c2,a2,b2,_⟩:=oW h (g:=2) (by decide) z2;obtain⟨c3,a3,H,_⟩:=oW h (g:=3) (by decide) z3;refine⟨⟨rj a0 b0,rj a1 b1,rj a2 b2,rj a3 H⟩,?_,(aah.1 a3).1⟩;obtain⟨ts,p,_,E⟩:=d1 (by kernel_rfl);rw[UT] at p;cases p;obtain⟨v,rfl⟩:∃v,c1= #[v]:=⟨c1[0],by apply Array.ext <;>simp_all⟩
 obtain⟨u,hu,hv⟩:=E 0 v rfl;cases hu;unfold Cell.ok at hv;rw[aeO] at hv;cases v with
 |int k n=>exact⟨k,n,_,_,a1⟩
 |_=>exact hv.elim
theorem QZ:((List.range Tryz.prog.funcs.size).filter λf=>(Tryz.prog.funcs[f]?).any (·.name.toUTF8.data.toList==nm0))= [255]:=by kernel_rfl
theorem QY:((List.range Tryz.prog.funcs.size).filter λf=>(Tryz.prog.funcs[f]?).any (·.name.toUTF8.data.toList==nm1))= [256]:=by kernel_rfl
theorem QX:((List.range Tryz.prog.funcs.size).filter λf=>(Tryz.prog.funcs[f]?).any (·.name.toUTF8.data.toList==nm2))= [257]:=by kernel_rfl
theorem Pe:Tryz.prog.cellsOf 139=1:=by kernel_rfl
theorem Pd:Tryz.prog.cellsOf 140=3:=by kernel_rfl
theorem Jl:Tryz.prog.globalNamed "nosale/tag.checks" =some 0:=by kernel_rfl
theorem Qx:(Tryz.prog.globals[0]?).map (·.type)=some 140:=by kernel_rfl
theorem UY{W:World}(h:laidMetH Tryz.prog xi W):∃e fr,W.heap[0]?=some (.cells F0 e fr):=by
 have hf:=laidMetH.funcs h (n:= "nosale/tag.checks") (d:=.agg [.iface "func" (.lit (.string nm0)),.iface "func" (.lit (.string nm1)),.iface "func" (.lit (.string nm2))]) (by exact acE.2 rfl);obtain⟨g,t,cs,fuel,p,hg,ht,hv,hd⟩:=hf;obtain rfl:=adw (Jl.symm.trans hg);obtain rfl:=adw (Qx.symm.trans ht);obtain⟨xs,m,_,hx,hlen,hn,E⟩:=DataW.trod_array Tryz.underlying140 hd;rw[Pd] at hlen;obtain⟨I,x1,H,rfl⟩:=Ri hn;obtain⟨c0,c1,c2,L⟩:=Ri hlen;simp only[Prod.mk.injEq] at hx;have hx1:(DataW.agg [.held nm0,.held nm1,.held nm2]:DataW (List UInt8))=.agg [I.1,x1.1,H.1]:=hx.1;simp only[DataW.agg.injEq,abg,abQ] at hx1;obtain⟨O,N,M⟩:=hx1;rw[Pe,L] at E;have h0:DataW.trod (funcToken Tryz.prog) Tryz.prog W 0 (λ_=>true) true m 139 [c0]=some I:=E 0 (by decide);have h1:DataW.trod (funcToken Tryz.prog) Tryz.prog W 0 (λ_=>true) true m 139 [c1]=some x1:=E 1 (by decide);have h2:DataW.trod (funcToken Tryz.prog) Tryz.prog W 0 (λ_=>true) true m 139 [c2]=some H:=E 2 (by decide);obtain⟨Y,p0⟩:=I;obtain⟨y1,Z⟩:=x1;obtain⟨y2,p2⟩:=H;simp only at O N M;subst O N M;have r0:=func_of_trod Tryz.underlying139 QZ h0;have r1:=func_of_trod Tryz.underlying139 QY h1;have U:=func_of_trod Tryz.underlying139 QX h2;subst r0 r1 U;have J:cs=F0:=by
  rw[<-Array.toList_inj,L];rfl
 subst J;unfold World.var? at hv;rw[Jl] at hv;simp only[abN] at hv;split at hv
 ·rename_i V e fr hz;cases hv;exact⟨e,fr,hz⟩
 ·cases hv
section
variable{H:Type}{enc:TypeId×Value->H}
theorem AN{W J:World}(hb:Below W.heap.size W J):∀ {ts:List TypeId} {vs:List Value} {E:List (DataW H)} {ps:List MemPlace},(∀t∈ts,Tryz.prog.readableRec t=true/\t<Tryz.prog.types.size)->DataW.TrodAll enc Tryz.prog W 0 (λ_=>true) true ts vs E ps->
  (∀x∈ps,x.block<W.heap.size)->DataW.TrodAll enc Tryz.prog J 0 (λb=>decide (b<W.heap.size)) true ts vs E ps
 | [],vs,E,ps,_,h,_=>by
  obtain⟨rfl,rfl,rfl⟩:=trodAll_nil h;exact rfl
 |t::ts,vs,E,ps,ht,h,I=>by
  obtain⟨v,L,d,O,p,q,rfl,rfl,rfl,h1,h2⟩:=trodAll_cons h;obtain⟨r1,N⟩:=ht t (by simp);exact⟨p,q,Below.trod Nu r1 N h1 hb (λx hx=>I x (by simp[hx])),AN hb (λt M=>ht t (by simp[M])) h2 (λx hx=>I x (by simp[hx])),rfl⟩
theorem Rl{f:FuncId}{fn:Func}{cd:Code}{s:ChangeSpec}{os:Os}(started:os.Started)(Z:Tryz.prog.funcs[f]?=some fn)(L:fn.body=some cd)(hK:KL.s f=true)(Xl:f≠17)(Xj:f≠41)(J:fn.resultTypes= #[4])
  (V:∀t∈fn.params.toList,Tryz.prog.readableRec t=true/\t<Tryz.prog.types.size) (TJ:s.vars= []) (Z5:∀E:List (DataW H),E.length=fn.params.size->s.fn H E= { results:= [.lit (.bool true)],args:=E })
  (witness:∃(w:World) (tape:Tape) (i:Input),w.os=os/\(w.forCall tape i).Shaped Tryz.prog/\i.vars= []/\Input.okWide Tryz.prog (w.forCall tape i) .any w.heap.size f i/\
   ((s.pre enc Tryz.prog fn [] false (w.forCall tape i).memory i.args/\laidMetH Tryz.prog xi (w.forCall tape i).memory)/\sizedMet enc Tryz.prog fn (OpenSpec.ofChange s) false (w.forCall tape i).memory i.args)/\
    ({} :Assume).holds Tryz.prog (lone (Frame.enter Tryz.prog f i.args .normal) [] (w.forCall tape i)))
  (Y:∀(W:World) (base:Nat) (args:Array Value) (E:List (DataW H)) (ps:List MemPlace),AU W->(∀(j:Nat) t v,fn.params[j]?=some t->args[j]?=some v->Value.okWide Tryz.prog W .any base t v)->
   DataW.TrodAll enc Tryz.prog W 0 (λ_=>true) true fn.params.toList args.toList E ps->∃la,qL W args.toList la/\aq PL f la (.b true)):
  ReturnsInLeavingWide {} Tryz.checked os f .any (λw args=>(s.pre enc Tryz.prog fn [] false w args/\laidMetH Tryz.prog xi w)/\sizedMet enc Tryz.prog fn (OpenSpec.ofChange s) false w args)
   (s.post enc Tryz.prog fn false true false false):=by
 refine returnsInLeavingWide_of_good (C:=Tryz.checked) MY started witness ?_;intro w tape i _ qp _ iD Ce _;obtain⟨_,_,_,fh,U,_,_,_,_,Kz⟩:=iD;have e:fh=fn:=adw (U.symm.trans Z);subst e;obtain⟨⟨⟨E,gs,before,hw,_⟩,hl⟩,_⟩:=Ce;have cO:=DataW.Whole.of_heap (w':=w.forCall tape i) (by rfl) hw;have sM:laidMetH Tryz.prog xi (w.forCall tape i):=hl.of_heap (by rfl);generalize w.forCall tape i=W at *;obtain⟨hG,c7,h4⟩:=OG qp;have hT:sF W:=⟨UY sM,c7⟩
 have Xa:=cO;obtain⟨p,q,O,hV,N,_,_⟩:=cO;rw[TJ] at hV;obtain⟨rfl,rfl⟩:=trodVars_none hV;have aK:∀x∈p,x.block<W.heap.size:=λx hx=>Xa.lt x (by rw[N];simp[hx])
 obtain⟨la,ho,hc⟩:=Y W _ i.args E p hG Kz O;obtain⟨ws,ys,k1,_,k3⟩:=ho [];obtain⟨q1,q2⟩:=k3 [];simp only[aaV,acO] at q1 q2;have hlen:E.length=fh.params.size:=by have:=(trodAll_length O).2;simpa using this
 obtain⟨M,last,o,w',t',h1,h2,h3,Ap⟩:=Nr hK ⟨fh,cd,(MM f Xl Xj).trans Z,L⟩ hT h4 k1 (args:=i.args) (by simpa using q1) hc q2;refine⟨M,last,o,w',t',h1,h2,h3,Ap.mono λv hF=>?_⟩;refine ChangeSpec.post_blind ?_;obtain⟨rfl,E1⟩:=hF;have I:=Z5 E hlen;refine⟨E,[],before,[],p,[],Xa,?_,?_,?_,E1.frame _,λh=>by cases h⟩
 ·rw[acO,I,J];exact trodAll_mk1 (shut_bool af7 _)
 ·rw[acO,I];exact AN E1 V O aK
 ·rw[TJ,acO,I];exact rfl
end
theorem O8(os:Os)(args:Array Value):laidMetH Tryz.prog xi ((World.doorLaid Tryz.prog 40 os).forCall (λ_ _=>0) ⟨#[],args,[]⟩).memory:=
 laidMetH_of_parts3 (fuel:=8) (laidMet_of_run' 8 (by kernel_rfl) (by kernel_rfl)) (by kernel_rfl) (by kernel_rfl)
def Xv:Value:=.agg #[.string ⟨#[]⟩,.string ⟨#[]⟩,.string ⟨#[]⟩,.slice none 0 0,.slice none 0 0]
theorem Lf{s:OpenSpec}{c:OpenClaim}(hc:c.holds Tryz.pinned s)(hw:c.wfByText s=true)(p:c.laidByTextAt .later Tryz.pinned [.funcs] true)
  (I:c.start=.entering) (hnb:c.noBlocks=false/\c.again=false) (hm:Tryz.pinned.checked.prog.mainIs=some (true, "f07a5fa70ed6775463b7a086f57573263f2086de7ec9f9dbb2d285f1a5080804".toList))
  (hl:∀f fn,Tryz.pinned.checked.prog.funcNamed c.func=some f->Tryz.pinned.checked.prog.funcs[f]?=some fn->false=Tryz.pinned.checked.prog.looks []/\∀(j:Nat) t,fn.params[j]?=some t->Tryz.pinned.checked.prog.wantsStandIn t=false)
  (hg:true=c.goesBy Tryz.pinned.checked.prog):
  Claim7.holds Tryz.pinned (.plain s) { stood:= { row:=c,standIns:= [],harness:=(true, "f07a5fa70ed6775463b7a086f57573263f2086de7ec9f9dbb2d285f1a5080804"),looks:=false },kinds:= [],alts:= [],goes:=true,laidByText:=true,laidKinds:= [.funcs],laidTests:=true,laidLooks:=.later } :=by
 have H:∀r:OpenClaim,Claim7.isSixth { stood:= { row:=r,standIns:= [],harness:=(true, "f07a5fa70ed6775463b7a086f57573263f2086de7ec9f9dbb2d285f1a5080804"),looks:=false },kinds:= [] } =false:=λr=>by simp[Claim7.isSixth]
 exact⟨Claim7.tied_new_at .later [.funcs] true (Claim7.new_of_sixth hc (true, "f07a5fa70ed6775463b7a086f57573263f2086de7ec9f9dbb2d285f1a5080804") false I hnb hm (H c) hl) hw,(λD E=>by cases E),p,(λh=>by cases h),hg⟩
end Go.Proofs.YtjagmhagphbfcaaGreatDoor.cA
namespace Go.Proofs.YtjagmhagphbfcaaGreatDoor
@[simp] abbrev aih:List Nat:=[0,1,2,3,4,32,37,46,51,61]
end Go.Proofs.YtjagmhagphbfcaaGreatDoor
namespace Go.Proofs.YtjagmhagphbfcaaGreatDoor.Dn
open Go Go.Proofs Lo Lw
section
variable{P:Program}[l:cL P]
def gC(h:ay):Bool:=decide (40<h.L.length)||decide (40<h.S.length)||decide (40<h.R.length)||decide (20<h.alike.length)||decide (20<h.tags.length)||h.alike.any (λs=>decide (40<s.length))||h.tags.any (λt=>decide (40<t.reads.length))
theorem Jp{h:ay}(hg:gC h=false):Fair h:=by
 simp only[gC,Bool.or_eq_false_iff,aac,ag8,aan] at hg;obtain⟨⟨⟨⟨⟨⟨h1,h2⟩,J⟩,I⟩,H⟩,E⟩,p⟩:=hg;exact⟨by omega,by omega,by omega,by omega,λs hs=>by have:=E s hs;omega,by omega,λt ht=>by have:=p t ht;omega⟩
theorem E_{h:ay}(hg:40<h.L.length\/40<h.S.length\/40<h.R.length\/20<h.alike.length\/20<h.tags.length):gC h=true:=by
 simp only[gC,adr,aan];rcases hg with g|g|g|g|g <;>simp[g]
theorem KY(h:ay):aq P 16 [.ag (aa h)] (.b (gC h)):=by
 have V:(aa h).map AV.strip=aa h:=by simp[aa]
 refine fi (au P) func16 rfl rfl ?_;have L:=cV h.tags
 repeat' (first|refine nI ?_|(refine eI aih ?_;intro K p;simp[aa,L];first|apply p|(refine aE (λhc=>?_) (λhc=>?_) <;>(try simp only[aan,aac] at hc) <;>simp[hc,aa,L] <;>repeat' (first|apply p|(refine aE (λhc=>?_) (λhc=>?_) <;>(try simp only[aan,aac] at hc) <;>simp[hc,aa,L])|fail))|fail)|fail)
 all_goals try (have H:gC h=true:=E_ (by omega);simp[Fin,aH,Tryz.f16,H];done)
 by_cases g5:20<(h.tags.length:Int)
 ·have H:gC h=true:=E_ (by omega);have I:=g5
  repeat' (first|refine nI ?_|(refine eI aih ?_;intro K p;simp[aa,I];apply p)|fail)
  simp[Fin,aH,Tryz.f16,H]
 ·have I:=g5
  repeat' (first|refine nI ?_|(refine eI aih ?_;intro K p;simp[aa,I];apply p)|fail)
  have na:h.alike.length<=20:=by omega
  have nt:h.tags.length<=20:=by omega
  refine bE (λd T B lv nx=>∃k,k+d=h.alike.length/\T 1=.sp (aa h)/\T 3=.i .i64 k/\∀s∈h.alike.take k,¬40<s.length) h.alike.length ?_ ?_
  ·exact⟨0,by simp,by simp[aa],by simp,by simp⟩
  rintro d T B lv nx ⟨k,hk,t1,t3,hp⟩;have w1:=aS ((k:Int)+1) (by omega) (by omega);by_cases E:k<h.alike.length
  ·have J:(h.alike.map AV.s).drop k=.s h.alike[k]::(h.alike.map AV.s).drop (k+1):=by rw[aa4 (by simpa using E)];simp
   have O:h.alike[k]?=some h.alike[k]:=aaf E;have M:h.alike.take (k+1)=h.alike.take k++ [h.alike[k]]:=aaN E;have hm:h.alike[k]∈h.alike:=abG E;generalize h.alike[k]=s at J O M hm;by_cases h40:40<(s.length:Int)
   ·have H:gC h=true:=by
     have:h.alike.any (λs=>decide (40<s.length))=true:=afl.2 ⟨s,hm,by simp;omega⟩;simp[gC,this]
    repeat' (first|refine nI ?_|(refine eI aih ?_;intro K p;simp[t1,t3,aa,E,J,O,h40,w1];apply p)|fail)
    simp[Fin,aH,Tryz.f16,H]
   ·repeat' (first|refine nI ?_|(refine eI aih ?_;intro K p;simp[t1,t3,aa,E,J,O,h40,w1];apply p)|fail)
    refine aN (d-1) (by omega) ⟨k+1,by omega,by simp[t1,aa],by simp,λx hx=>?_⟩;rw[M,abH] at hx;rcases hx with hx|hx
    ·exact hp x hx
    ·simp only[abZ,adz,aeP] at hx;subst hx;omega
  ·have N:k=h.alike.length:=by omega
   subst N;rw[aeo] at hp
   repeat' (first|refine nI ?_|(refine eI aih ?_;intro K p;simp[t1,t3,aa];apply p)|fail)
   refine bE (λd T B lv nx=>∃k,k+d=h.tags.length/\T 1=.sp (aa h)/\T 4=.i .i64 k/\∀t∈h.tags.take k,¬40<t.reads.length) h.tags.length ?_ ?_
   ·exact⟨0,by simp,by simp[aa],by simp,by simp⟩
   rintro d T B lv nx ⟨k,hk,t1,t4,U⟩;have w1:=aS ((k:Int)+1) (by omega) (by omega);by_cases E:k<h.tags.length
   ·have J:=fA h.tags k h.tags[k] (aaf E);have hle:(k+1)*3<=h.tags.length*3:=by omega
    have M:h.tags.take (k+1)=h.tags.take k++ [h.tags[k]]:=aaN E;have hm:h.tags[k]∈h.tags:=abG E;generalize h.tags[k]=t at J M hm;by_cases h40:40<(t.reads.length:Int)
    ·have H:gC h=true:=by
      have:h.tags.any (λt=>decide (40<t.reads.length))=true:=afl.2 ⟨t,hm,by simp;omega⟩;simp[gC,this]
     repeat' (first|refine nI ?_|(refine eI aih ?_;intro K p;simp[t1,t4,aa,E,L,hle,J,h40,w1];apply p)|fail)
     simp[Fin,aH,Tryz.f16,H]
    ·repeat' (first|refine nI ?_|(refine eI aih ?_;intro K p;simp[t1,t4,aa,E,L,hle,J,h40,w1];apply p)|fail)
     refine aN (d-1) (by omega) ⟨k+1,by omega,by simp[t1,aa],by simp,λx hx=>?_⟩;rw[M,abH] at hx;rcases hx with hx|hx
     ·exact U x hx
     ·simp only[abZ,adz,aeP] at hx;subst hx;omega
   ·have N:k=h.tags.length:=by omega
    subst N;rw[aeo] at U;have H:gC h=false:=by
     simp only[gC,Bool.or_eq_false_iff,aac,ag8,aan];exact⟨⟨⟨⟨⟨⟨by omega,by omega⟩,by omega⟩,by omega⟩,by omega⟩,hp⟩,U⟩
    repeat' (first|refine nI ?_|(refine eI aih ?_;intro K p;simp[t1,t4,aa,L];apply p)|fail)
    simp[Fin,aH,Tryz.f16,H]
end
section
variable{P:Program}[l:cL P]
theorem BE(s:List UInt8)(hs:s.length<1000000):aq P 83 [.s s] (.i .i64 (aM s)):=by
 obtain⟨A,M,E⟩:=ca (VL (P:=P) s.length 1 5);obtain⟨B,L,p⟩:=ca (uA (P:=P) s 63 hs);obtain⟨C,J,hC⟩:=ca (Eg (P:=P) s 63 hs);have N:(((63:UInt8).toNat:Nat):Int)=63:=rfl;rw[N] at p hC;refine fi (ak call42 M (ak call138 L (ak call124 J (au P)))) func83 rfl rfl ?_;by_cases h1:(1:Int)<=s.length/\(s.length:Int)<=5
 ·have hb:¬(s.length<1\/5<s.length):=by omega
  have hd:(decide ((1:Int)<=s.length)&&decide ((s.length:Int)<=5))=true:=by simp;omega
  rw[hd] at E;cases h2:bA s 63 with
  |false=>
   rw[h2] at p
   repeat' (first|refine nI ?_|(refine eI [0,2,6,9,12] ?_;intro K h;simp[ab,az,E,p];apply h)|fail)
   have hv:aM s=3:=by unfold aM;rw[aat hb,aay h2]
   simp[Fin,aH,Tryz.f83,hv]
  |true=>
   rw[h2] at p;by_cases I:(2:Int)<s.count 63
   ·have H:2<s.count 63:=by omega
    repeat' (first|refine nI ?_|(refine eI [0,2,6,9,12] ?_;intro K h;simp[ab,az,E,p,hC,I];apply h)|fail)
    have hv:aM s=2:=by unfold aM;rw[aat hb,aat (by rw[h2];decide),aay H]
    simp[Fin,aH,Tryz.f83,hv]
   ·have H:¬2<s.count 63:=by omega
    repeat' (first|refine nI ?_|(refine eI [0,2,6,9,12] ?_;intro K h;simp[ab,az,E,p,hC,I];apply h)|fail)
    have hv:aM s=0:=by unfold aM;rw[aat hb,aat (by rw[h2];decide),aat H]
    simp[Fin,aH,Tryz.f83,hv]
 ·have hb:s.length<1\/5<s.length:=by omega
  have hd:(decide ((1:Int)<=s.length)&&decide ((s.length:Int)<=5))=false:=by
   cases hx:(decide ((1:Int)<=s.length)&&decide ((s.length:Int)<=5)) with
   |false=>rfl
   |true=>simp at hx;omega
  rw[hd] at E
  repeat' (first|refine nI ?_|(refine eI [0,2,6,9,12] ?_;intro K h;simp[ab,az,E];apply h)|fail)
  have hv:aM s=2:=by unfold aM;rw[aay hb]
  simp[Fin,aH,Tryz.f83,hv]
theorem Gi(a b E hi:Int):aq P 152 [.ag [.i .i64 a,.i .i64 b],.i .i64 E,.i .i64 hi] (.b (decide (E<=a/\a<=b/\b<=hi))):=by
 refine fi (au P) func152 rfl rfl ?_;by_cases h1:E<=a
 ·by_cases h2:a<=b
  ·by_cases p:b<=hi
   ·repeat' (first|refine nI ?_|(refine eI [0,1,2,3,6] ?_;intro K h;simp[h1,h2,p];apply h)|fail)
    simp[Fin,aH,Tryz.f152,h1,h2,p]
   ·repeat' (first|refine nI ?_|(refine eI [0,1,2,3,6] ?_;intro K h;simp[h1,h2,p];apply h)|fail)
    simp[Fin,aH,Tryz.f152,h1,h2,p]
  ·repeat' (first|refine nI ?_|(refine eI [0,1,2,3,6] ?_;intro K h;simp[h1,h2];apply h)|fail)
   simp[Fin,aH,Tryz.f152,h1,h2]
 ·repeat' (first|refine nI ?_|(refine eI [0,1,2,3,6] ?_;intro K h;simp[h1];apply h)|fail)
  simp[Fin,aH,Tryz.f152,h1]
theorem BG(a b:Int):aq P 110 [.ag [.i .i64 a,.i .i64 b]] (.b (dR a b)):=by
 obtain⟨A,E,p⟩:=ca (Gi (P:=P) a b 0 99999);refine fi (ak call152 E (au P)) func110 rfl rfl ?_
 repeat' (first|refine nI ?_|(refine eI [0,1,2] ?_;intro K h;simp[ab,p];apply h)|fail)
 simp[Fin,aH,Tryz.f110,dR]
end
end Go.Proofs.YtjagmhagphbfcaaGreatDoor.Dn
namespace Go.Proofs.YtjagmhagphbfcaaGreatDoor
@[simp] abbrev aia:List Nat:=[0,1,2,3,4,32,45,57,71]
end Go.Proofs.YtjagmhagphbfcaaGreatDoor
namespace Go.Proofs.YtjagmhagphbfcaaGreatDoor.Dn
open Go Go.Proofs Lo Lw
section
variable{P:Program}[l:cL P]
theorem L9{c d:UInt8}(h:(c.toNat:Int)=d.toNat):c=d:=UInt8.toNat_inj.1 (by omega)
theorem uB:∃F:List AV->Option AV,Den P 138 F/\∀(s:List UInt8) (c:UInt8),s.length<1000000->F [.s s,.i .u8 c.toNat]=some (.b (bA s c)):=by
 obtain⟨F,h1,h2⟩:=cC (P:=P) (f:=138) (ι:=List UInt8×UInt8) (λx=> [.s x.1,.i .u8 x.2.toNat]) (λx=>.b (bA x.1 x.2)) (λx=>x.1.length<1000000) (λx y _ _ e=>by
  simp only[abg,AV.s.injEq,AV.i.injEq,adM,abQ] at e;rw[e.1,L9 e.2]) (λx hx=>uA x.1 x.2 hx)
 exact⟨F,h1,λs c hs=>h2 (s,c) hs⟩
theorem Ng:∃F:List AV->Option AV,Den P 124 F/\∀(s:List UInt8) (c:UInt8),s.length<1000000->F [.s s,.i .u8 c.toNat]=some (.i .i64 (s.count c)):=by
 obtain⟨F,h1,h2⟩:=cC (P:=P) (f:=124) (ι:=List UInt8×UInt8) (λx=> [.s x.1,.i .u8 x.2.toNat]) (λx=>.i .i64 (x.1.count x.2)) (λx=>x.1.length<1000000) (λx y _ _ e=>by
  simp only[abg,AV.s.injEq,AV.i.injEq,adM,abQ] at e;rw[e.1,L9 e.2]) (λx hx=>Eg x.1 x.2 hx)
 exact⟨F,h1,λs c hs=>h2 (s,c) hs⟩
theorem D1(h:ay)(hL:h.L.length<1000)(hS:h.S.length<1000)(hR:h.R.length<1000):aq P 108 [.ag (aa h)] (.i .i64 (bB h)):=by
 obtain⟨A,ad,W⟩:=uB (P:=P);obtain⟨C,cd,hC⟩:=Ng (P:=P);have a1:=W h.L 63 (by omega);have a2:=W h.S 65 (by omega);have a3:=W h.R 65 (by omega);have c1:=hC h.L 63 (by omega);have Gb:(((63:UInt8).toNat:Nat):Int)=63:=rfl;have e65:(((65:UInt8).toNat:Nat):Int)=65:=rfl;rw[Gb] at a1 c1;rw[e65] at a2 a3;have i10:((h.L.length:Int)==10)=(h.L.length==10):=by
  rw[adX];simp only[ac6];omega
 have V:((h.S.length:Int)==(h.L.count 63:Int))=(h.S.length==h.L.count 63):=by
  rw[adX];simp only[ac6];omega
 refine fi (ak call138 ad (ak call124 cd (au P))) func108 rfl rfl ?_;by_cases b1:h.L.length=10
 ·have E:(h.L.length==10)=true:=by simp[b1]
  cases b2:bA h.L 63 with
  |false=>
   rw[b2] at a1
   repeat' (first|refine nI ?_|(refine eI aia ?_;intro K p;simp[aa,i10,E,bne,ab,a1];apply p)|fail)
   simp[Fin,aH,Tryz.f108,bB,b1,b2]
  |true=>
   rw[b2] at a1;cases H:bA h.S 65 with
   |false=>
    rw[H] at a2
    repeat' (first|refine nI ?_|(refine eI aia ?_;intro K p;simp[aa,i10,E,bne,ab,a1,a2];apply p)|fail)
    simp[Fin,aH,Tryz.f108,bB,b1,b2,H]
   |true=>
    rw[H] at a2;by_cases b4:1<h.R.length
    ·have J:(1:Int)<h.R.length:=by omega
     repeat' (first|refine nI ?_|(refine eI aia ?_;intro K p;simp[aa,i10,E,bne,ab,a1,a2,J];apply p)|fail)
     simp[Fin,aH,Tryz.f108,bB,b1,b2,H,b4]
    ·have J:¬(1:Int)<h.R.length:=by omega
     cases I:bA h.R 65 with
     |false=>
      rw[I] at a3
      repeat' (first|refine nI ?_|(refine eI aia ?_;intro K p;simp[aa,i10,E,bne,ab,a1,a2,J,a3];apply p)|fail)
      simp[Fin,aH,Tryz.f108,bB,b1,b2,H,b4,I]
     |true=>
      rw[I] at a3;by_cases b6:h.S.length=h.L.count 63
      ·have O:(h.S.length==h.L.count 63)=true:=by simp[b6]
       by_cases b7:4<h.S.length
       ·have Y:(4:Int)<h.S.length:=by omega
        repeat' (first|refine nI ?_|(refine eI aia ?_;intro K p;simp[aa,i10,E,bne,ab,az,a1,a2,J,a3,c1,V,O,Y];apply p)|fail)
        have hv:bB h=2:=by
         unfold bB;rw[aat (by rw[b2,H,I];simp;omega),aay (by omega)]
        simp[Fin,aH,Tryz.f108,hv]
       ·have Y:¬(4:Int)<h.S.length:=by omega
        have hv:bB h=if dup (h.L++h.S++h.R)=true then 5 else 0:=by
         unfold bB;rw[aat (by rw[b2,H,I];simp;omega),aat (by omega)]
        have n1:¬(9223372036854775807:Int)<(h.L.length:Int)+h.S.length:=by omega
        have n2:¬(9223372036854775807:Int)<(h.L.length:Int)+h.S.length+h.R.length:=by omega
        repeat' (first|refine nI ?_|(refine eI aia ?_;intro K p;simp[aa,i10,E,bne,ab,az,a1,a2,J,a3,c1,V,O,Y,n1,n2];apply p)|fail)
        have F3:(h.L++h.S++h.R).length<3000:=by simp only[abj];omega
        refine bE (λd T B lv nx=>∃k,k+d=(h.L++h.S++h.R).length/\T 3=.s (h.L++h.S++h.R)/\T 4=.i .i64 k/\((h.L++h.S++h.R).take k).any (λc=>c !=63&&decide (1<(h.L++h.S++h.R).count c))=false) (h.L++h.S++h.R).length ?_ ?_
        ·exact⟨0,by simp,by simp,by simp,by simp⟩
        rintro d T B lv nx ⟨k,hk,t3,t4,hp⟩;have w1:=aS ((k:Int)+1) (by omega) (by omega);generalize h.L++h.S++h.R=w at *;by_cases N:k<w.length
        ·have LW:=hC w w[k] (by omega);have U:((w[k].toNat:Int)==63)=(w[k]==63):=kn w[k] 63 (by omega);have jF:(w.take (k+1)).any (λc=>c !=63&&decide (1<w.count c))=(w[k] !=63&&decide (1<w.count w[k])):=by
          rw[aaN N,aeC,hp];simp
         cases M:(w[k]==63) with
         |true=>
          repeat' (first|refine nI ?_|(refine eI aia ?_;intro K p;simp[t3,t4,N,bne,U,M,w1];apply p)|fail)
          refine aN (d-1) (by omega) ⟨k+1,by omega,by simp[t3],by simp,by rw[jF];simp[bne,M]⟩
         |false=>
          by_cases WX:(1:Int)<(w.count w[k]:Int)
          ·have Z:1<w.count w[k]:=by omega
           have hd:dup w=true:=by
            unfold dup;rw[afl];exact⟨w[k],abG N,by simp[bne,M,Z]⟩
           rw[hd] at hv
           repeat' (first|refine nI ?_|(refine eI aia ?_;intro K p;simp[t3,t4,N,bne,U,M,w1,ab,az,LW,WX];apply p)|fail)
           simp[Fin,aH,Tryz.f108,hv]
          ·have Z:¬1<w.count w[k]:=by omega
           repeat' (first|refine nI ?_|(refine eI aia ?_;intro K p;simp[t3,t4,N,bne,U,M,w1,ab,az,LW,WX];apply p)|fail)
           refine aN (d-1) (by omega) ⟨k+1,by omega,by simp[t3],by simp,by rw[jF];simp[Z]⟩
        ·have gg:k=w.length:=by omega
         subst gg;have hd:dup w=false:=by simpa[dup] using hp
         rw[hd] at hv
         repeat' (first|refine nI ?_|(refine eI aia ?_;intro K p;simp[t3,t4];apply p)|fail)
         simp[Fin,aH,Tryz.f108,hv]
      ·have O:(h.S.length==h.L.count 63)=false:=by simp[b6]
       repeat' (first|refine nI ?_|(refine eI aia ?_;intro K p;simp[aa,i10,E,bne,ab,az,a1,a2,J,a3,c1,V,O];apply p)|fail)
       have hv:bB h=2:=by
        unfold bB;rw[aat (by rw[b2,H,I];simp;omega),aay (by omega)]
       simp[Fin,aH,Tryz.f108,hv]
 ·have E:(h.L.length==10)=false:=by simp[b1]
  repeat' (first|refine nI ?_|(refine eI aia ?_;intro K p;simp[aa,i10,E,bne];apply p)|fail)
  simp[Fin,aH,Tryz.f108,bB,b1]
end
end Go.Proofs.YtjagmhagphbfcaaGreatDoor.Dn
namespace Go.Proofs.YtjagmhagphbfcaaGreatDoor
@[simp] abbrev ah1:List Nat:=[0,2,3,4,7,11,27,38,41,78]
end Go.Proofs.YtjagmhagphbfcaaGreatDoor
namespace Go.Proofs.YtjagmhagphbfcaaGreatDoor.Dn
open Go Go.Proofs Lo Lw
section
variable{P:Program}[l:cL P]
theorem BJ(a:List (List UInt8))(ht:∀s∈a,s.length<1000000):aq P 109 [strs a] (.i .i64 (bj a)):=by
 obtain⟨A,ad,hA⟩:=uB (P:=P);have e65:(((65:UInt8).toNat:Nat):Int)=65:=rfl;refine fi (ak call138 ad (au P)) func109 rfl rfl ?_;by_cases h5:4<a.length
 ·have E8:(4:Int)<a.length:=by omega
  repeat' (first|refine nI ?_|(refine eI ah1 ?_;intro K h;simp[strs,E8];apply h)|fail)
  simp[Fin,aH,Tryz.f109,bj,h5]
 ·have E8:¬(4:Int)<a.length:=by omega
  repeat' (first|refine nI ?_|(refine eI ah1 ?_;intro K h;simp[strs,E8];apply h)|fail)
  refine bE (λd' T B lv nx=>∃k,k+d'=a.length/\T 0=strs a/\T 3=.i .i64 k/\bj a=cb (a.take k) (a.drop k)/\∀s∈a.take k,s.length=2) a.length ?_ ?_
  ·exact⟨0,by simp,by simp[strs],by simp,by simp[bj,h5],by simp⟩
  ·rintro d' T B lv nx ⟨k,hk,t0,t3,hp,h2⟩;have w1:=aS ((k:Int)+1) (by omega) (by omega);by_cases E:k<a.length
   ·have rM:a.drop k=a[k]::a.drop (k+1):=aa4 E;have jF:a.take (k+1)=a.take k++ [a[k]]:=aaN E;rw[rM] at hp;have N:=hA a[k] 65 (ht _ (abG E));rw[e65] at N;have I:(a.map AV.s).drop k=.s a[k]::(a.map AV.s).drop (k+1):=by rw[aa4 (by simpa using E)];simp
    have H:a[k]?=some a[k]:=aaf E;by_cases hl2:a[k].length=2
    ·obtain⟨y,z,hs⟩:∃y z,a[k]= [y,z]:=by
      match a[k],hl2 with
      | [y,z],_=>exact⟨y,z,rfl⟩
     rw[hs] at N hp I H;have Jc:=dV y z;have Cp:∀s∈a.take (k+1),s.length=2:=by
      intro s U;rw[jF] at U;rcases abH.1 U with U|U
      ·exact h2 s U
      ·rw[acE.1 U];exact hl2
     cases V:bA [y,z] 65 with
     |false=>
      rw[V] at N;have hv:bj a=3:=by rw[hp];simp[cb,eR,V]
      repeat' (first|refine nI ?_|(refine eI ah1 ?_;intro K h;simp[t0,t3,strs,E,I,H,ab,N,w1,bne];apply h)|fail)
      simp[Fin,aH,Tryz.f109,hv]
     |true=>
      rw[V] at N;cases Hj:(y==z) with
      |true=>
       have Z:y=z:=by simpa using Hj
       have hv:bj a=5:=by rw[hp];subst Z;simp[cb,eR,V]
       repeat' (first|refine nI ?_|(refine eI ah1 ?_;intro K h;simp[t0,t3,strs,E,I,H,ab,N,Jc,Hj,w1,bne];apply h)|fail)
       simp[Fin,aH,Tryz.f109,hv]
      |false=>
       have Z:¬y=z:=by simpa using Hj
       repeat' (first|refine nI ?_|(refine eI ah1 ?_;intro K h;simp[t0,t3,strs,E,I,H,ab,N,Jc,Hj,w1,bne];apply h)|fail)
       refine bE (λd2 T B lv nx=>∃j,j+d2=k/\T 0=strs a/\T 3=.i .i64 k/\T 4=.i .i64 j/\(a.take j).any (cP · [y,z])=false) k ?_ ?_
       ·exact⟨0,by simp,by simp[t0,strs],by simp[t3],by simp,by simp⟩
       rintro d2 T B lv nx ⟨j,hj,t0,t3,t4,hq⟩;have w2:=aS ((j:Int)+1) (by omega) (by omega);by_cases Hx:j<k
       ·have M:j<a.length:=by omega
        have L:a[j]∈a.take k:=agD.2 ⟨j,by omega,rfl⟩;have htj:a.take (j+1)=a.take j++ [a[j]]:=aaN M;have Y:(a.map AV.s).drop j=.s a[j]::(a.map AV.s).drop (j+1):=by rw[aa4 (by simpa using M)];simp
        have W:a[j]?=some a[j]:=aaf M;have h2j:=h2 _ L;obtain⟨p,q,iJ⟩:∃p q,a[j]= [p,q]:=by
         match a[j],h2j with
         | [p,q],_=>exact⟨p,q,rfl⟩
        rw[iJ] at Y W L;have pj:(a.take (j+1)).any (cP · [y,z])=cP [p,q] [y,z]:=by
         rw[htj,aeC,hq,iJ];simp
        have gT:cP [p,q] [y,z]=true->bj a=5:=λhb=>by
         have hx:(a.take k).any (cP · [y,z])=true:=afl.2 ⟨_,L,hb⟩;rw[hp];simp[cb,eR,V,Z,hx]
        have b1:=dV p z;have b2:=dV q y;cases J:([p,q]== [y,z]) with
        |true=>
         have hv:=gT (by simp[cP,J])
         repeat' (first|refine nI ?_|(refine eI ah1 ?_;intro K h;simp[t0,t3,t4,strs,E,M,Hx,I,H,Y,W,J,w2];apply h)|fail)
         simp[Fin,aH,Tryz.f109,hv]
        |false=>
         cases O:(p==z) with
         |false=>
          have hn:cP [p,q] [y,z]=false:=by simp[cP,J,O]
          repeat' (first|refine nI ?_|(refine eI ah1 ?_;intro K h;simp[t0,t3,t4,strs,E,M,Hx,I,H,Y,W,J,b1,O,w2];apply h)|fail)
          refine aN (d2-1) (by omega) ⟨j+1,by omega,by simp[t0,strs],by simp[t3],by simp,by rw[pj];exact hn⟩
         |true=>
          cases e3:(q==y) with
          |true=>
           have hv:=gT (by simp[cP,J,O,e3])
           repeat' (first|refine nI ?_|(refine eI ah1 ?_;intro K h;simp[t0,t3,t4,strs,E,M,Hx,I,H,Y,W,J,b1,O,b2,e3,w2];apply h)|fail)
           simp[Fin,aH,Tryz.f109,hv]
          |false=>
           have hn:cP [p,q] [y,z]=false:=by simp[cP,J,O,e3]
           repeat' (first|refine nI ?_|(refine eI ah1 ?_;intro K h;simp[t0,t3,t4,strs,E,M,Hx,I,H,Y,W,J,b1,O,b2,e3,w2];apply h)|fail)
           refine aN (d2-1) (by omega) ⟨j+1,by omega,by simp[t0,strs],by simp[t3],by simp,by rw[pj];exact hn⟩
       ·have hjj:j=k:=by omega
        subst hjj;have hv:bj a=cb (a.take (j+1)) (a.drop (j+1)):=by
         rw[hp,jF,hs];simp[cb,eR,V,Z,hq]
        repeat' (first|refine nI ?_|(refine eI ah1 ?_;intro K h;simp[t0,t3,t4,strs,w1];apply h)|fail)
        refine aN (d'-1) (by omega) ⟨j+1,by omega,by simp[t0,strs],by simp,hv,Cp⟩
    ·have Wz:((a[k].length:Int)==2)=false:=by simp;omega
     have hv:bj a=3:=by rw[hp];simp[cb,eR,hl2]
     repeat' (first|refine nI ?_|(refine eI ah1 ?_;intro K h;simp[t0,t3,strs,E,I,H,Wz,w1,bne];apply h)|fail)
     simp[Fin,aH,Tryz.f109,hv]
   ·have gg:k=a.length:=by omega
    subst gg
    repeat' (first|refine nI ?_|(refine eI ah1 ?_;intro K h;simp[t0,t3,strs];apply h)|fail)
    have:bj a=0:=by rw[hp];simp[cb]
    simp[Fin,aH,Tryz.f109,this]
end
end Go.Proofs.YtjagmhagphbfcaaGreatDoor.Dn
namespace Go.Proofs.YtjagmhagphbfcaaGreatDoor
@[simp] abbrev aic:List Nat:=[0,1,2,3,4,5,6,10,16,21,26,37,46]
end Go.Proofs.YtjagmhagphbfcaaGreatDoor
namespace Go.Proofs.YtjagmhagphbfcaaGreatDoor.Dn
open Go Go.Proofs Lo Lw
section
variable{P:Program}[l:cL P]
theorem BF:∃F:List AV->Option AV,Den P 83 F/\∀(s:List UInt8),s.length<1000000->F [.s s]=some (.i .i64 (aM s)):=by
 obtain⟨F,h1,h2⟩:=cC (P:=P) (f:=83) (ι:=List UInt8) (λx=> [.s x]) (λx=>.i .i64 (aM x)) (λx=>x.length<1000000) (λx y _ _ e=>by
  simp only[abg,AV.s.injEq,abQ] at e;rw[e]) (λx hx=>BE x hx)
 exact⟨F,h1,h2⟩
theorem BH:∃F:List AV->Option AV,Den P 110 F/\∀a b:Int,F [.ag [.i .i64 a,.i .i64 b]]=some (.b (dR a b)):=by
 obtain⟨F,h1,h2⟩:=cC (P:=P) (f:=110) (ι:=Int×Int) (λx=> [.ag [.i .i64 x.1,.i .i64 x.2]]) (λx=>.b (dR x.1 x.2)) (λ_=>True) (λx y _ _ e=>by
  simp only[abg,AV.ag.injEq,AV.i.injEq,adM,abQ] at e;rw[e.1,e.2]) (λx _=>BG x.1 x.2)
 exact⟨F,h1,λa b=>h2 (a,b) trivial⟩
theorem BI(h:ay)(hf:Fair h):aq P 49 [.ag (aa h)] (.i .i64 (aO h)):=by
 obtain⟨A,ad,W⟩:=ca (D1 (P:=P) h (by have:=hf.L;omega) (by have:=hf.S;omega) (by have:=hf.R;omega));obtain⟨B,bd,hB⟩:=ca (BJ (P:=P) h.alike (λs hs=>by have:=hf.a s hs;omega));obtain⟨C,cd,hC⟩:=BF (P:=P);obtain⟨D,dd,hD⟩:=BH (P:=P);simp only[aa,strs] at W hB;have O:=cV h.tags;refine fi (ak call108 ad (ak call109 bd (ak call83 cd (ak call110 dd (au P))))) func49 rfl rfl ?_;by_cases N:bB h=0
 ·have Y:(bB h==0)=true:=by simp[N]
  by_cases V:bj h.alike=0
  ·have H:(bj h.alike==0)=true:=by simp[V]
   by_cases q3:5<h.tags.length
   ·have J:(5:Int)<h.tags.length:=by omega
    repeat' (first|refine nI ?_|(refine eI aic ?_;intro K p;simp[aa,O,ab,az,W,hB,Y,H,J,bne];apply p)|fail)
    simp[Fin,aH,Tryz.f49,aO,N,V,q3]
   ·have J:¬(5:Int)<h.tags.length:=by omega
    repeat' (first|refine nI ?_|(refine eI aic ?_;intro K p;simp[aa,O,ab,az,W,hB,Y,H,J,bne];apply p)|fail)
    have hh:aO h=cR h.tags:=by simp[aO,N,V,q3]
    refine bE (λd T B lv nx=>∃k,k+d=h.tags.length/\T 1=.sp (aa h)/\T 5=.i .i64 k/\cR h.tags=cR (h.tags.drop k)) h.tags.length ?_ ?_
    ·exact⟨0,by simp,by simp[aa],by simp,by simp⟩
    rintro d T B lv nx ⟨k,hk,t1,t5,hp⟩;have w1:=aS ((k:Int)+1) (by omega) (by omega);by_cases U:k<h.tags.length
    ·have da:=fA h.tags k h.tags[k] (aaf U);have hle:(k+1)*3<=h.tags.length*3:=by omega
     have rM:h.tags.drop k=h.tags[k]::h.tags.drop (k+1):=aa4 U;have hm:h.tags[k]∈h.tags:=abG U;rw[rM] at hp;generalize h.tags[k]=t at da hp hm;have M:=hC t.reads (by have:=hf.t t hm;omega);have I:=hD t.low t.high;by_cases r1:aM t.reads=0
     ·have E:(aM t.reads==0)=true:=by simp[r1]
      cases Z:dR t.low t.high with
      |true=>
       rw[Z] at I
       repeat' (first|refine nI ?_|(refine eI aic ?_;intro K p;simp[t1,t5,aa,U,O,hle,da,ab,az,M,I,E,bne,w1];apply p)|fail)
       refine aN (d-1) (by omega) ⟨k+1,by omega,by simp[t1,aa],by simp,by rw[hp];simp[cR,r1,Z]⟩
      |false=>
       rw[Z] at I;have hv:aO h=1:=by rw[hh,hp];simp[cR,r1,Z]
       repeat' (first|refine nI ?_|(refine eI aic ?_;intro K p;simp[t1,t5,aa,U,O,hle,da,ab,az,M,I,E,bne,w1];apply p)|fail)
       simp[Fin,aH,Tryz.f49,hv]
     ·have E:(aM t.reads==0)=false:=by simp[r1]
      have hv:aO h=aM t.reads:=by rw[hh,hp];simp[cR,r1]
      repeat' (first|refine nI ?_|(refine eI aic ?_;intro K p;simp[t1,t5,aa,U,O,hle,da,ab,az,M,E,bne,w1];apply p)|fail)
      simp[Fin,aH,Tryz.f49,hv]
    ·have gg:k=h.tags.length:=by omega
     subst gg;have hv:aO h=0:=by rw[hh,hp];simp[cR]
     repeat' (first|refine nI ?_|(refine eI aic ?_;intro K p;simp[t1,t5,aa,O];apply p)|fail)
     simp[Fin,aH,Tryz.f49,hv]
  ·have H:(bj h.alike==0)=false:=by simp[V]
   repeat' (first|refine nI ?_|(refine eI aic ?_;intro K p;simp[aa,ab,az,W,hB,Y,H,bne];apply p)|fail)
   simp[Fin,aH,Tryz.f49,aO,N,V]
 ·have Y:(bB h==0)=false:=by simp[N]
  repeat' (first|refine nI ?_|(refine eI aic ?_;intro K p;simp[aa,ab,az,W,Y,bne];apply p)|fail)
  simp[Fin,aH,Tryz.f49,aO,N]
def Fo(h:ay):Bool:= !gC h&&(aO h==0)
theorem Si(h:ay):aq P 30 [.ag (aa h)] (.b (Fo h)):=by
 obtain⟨A,I,p⟩:=ca (KY (P:=P) h);simp only[aa] at p;cases hg:gC h with
 |true=>
  rw[hg] at p;refine fi (ak call16 I (au P)) func30 rfl rfl ?_
  repeat' (first|refine nI ?_|(refine eI [0,1,2] ?_;intro K E;simp[aa,ab,az,p];apply E)|fail)
  simp[Fin,aH,Tryz.f30,Fo,hg]
 |false=>
  rw[hg] at p;obtain⟨B,J,H⟩:=ca (BI (P:=P) h (Jp hg));simp only[aa] at H;refine fi (ak call16 I (ak call49 J (au P))) func30 rfl rfl ?_
  repeat' (first|refine nI ?_|(refine eI [0,1,2] ?_;intro K E;simp[aa,ab,az,p,H];apply E)|fail)
  simp[Fin,aH,Tryz.f30,Fo,hg]
end
theorem fq(h:ay)(ts:List Tag)(w:List UInt8):∀(s:List UInt8) (last n:Int) (b:Bool),bf { h with tags:=ts } w s last n b=bf h w s last n b
 | [],_,_,_=>rfl
 |r::s,last,n,b=>by
  have p:=fq h ts w s;unfold bf;simp only[p];rfl
theorem Lp(h:ay)(w:List UInt8):∀(s:List UInt8) (last n:Int) (b:Bool),last<=9->0<=n->∀x∈bf h w s last n b,0<=x.1/\x.1<(n+1)*10^s.length
 | [],last,n,b,_,h0,x,hx=>by
  simp[bf] at hx;subst hx;simp;omega
 |r::s,last,n,b,hl,h0,x,hx=>by
  have hp:(0:Int)<10^s.length:=Int.pow_pos (by decide);have step:∀(d:Int) (b':Bool) (l':Int),l'<=9->0<=d->d<=9->x∈bf h w s l' (10*n+d) b'->0<=x.1/\x.1<(n+1)*10^(r::s).length:=by
   intro d b' l' p hd0 hd9 hx;obtain⟨h1,h2⟩:=Lp h w s l' (10*n+d) b' p (by omega) x hx;refine⟨h1,Int.lt_of_lt_of_le h2 ?_⟩;rw[ab0,Int.pow_succ,Int.mul_comm (10^s.length) 10,<-Int.mul_assoc];exact Int.mul_le_mul_of_nonneg_right (by omega) (Int.le_of_lt hp)
  unfold bf at hx;rcases abH.1 hx with hx|hx
  ·obtain⟨d,hd,hx⟩:=aeQ.1 hx;split at hx
   ·split at hx
    ·exact step _ _ _ (by omega) (by omega) (by omega) hx
    ·cases hx
   ·cases hx
  ·split at hx
   ·cases hx
   ·split at hx
    ·split at hx
     ·exact step _ _ _ (by omega) (by omega) (by omega) hx
     ·cases hx
    ·cases hx
def bq(s:List UInt8):Tag:=⟨s,0,99999⟩
theorem akl(h:ay)(w s:List UInt8)(hs:s.length<=5):cF (qo h (bq s)) w (bq s)=bf h w s (-1) 0 false:=by
 unfold cF qo;rw[fq];refine List.filter_eq_self.2 λx hx=>?_
 obtain⟨h1,h2⟩:=Lp h w s (-1) 0 false (by decide) (by decide) x hx;have:(10:Int)^s.length<=100000:=by
  obtain h|h|h|h|h|h:s.length=0\/s.length=1\/s.length=2\/s.length=3\/s.length=4\/s.length=5:=by omega
  all_goals rw[h];decide
 unfold jU;rw[aaZ,aan,aan];show 0<=x.1/\x.1<=99999;omega
theorem aky(h:ay)(ts:List Tag)(w:List UInt8)(t:Tag):cF { h with tags:=ts } w t=cF h w t:=by
 unfold cF;rw[fq]
theorem fR(h:ay)(s:List UInt8)(hs:s.length<=5):aB (qo h (bq s))=(aB h).filter λw=> !(bf h w s (-1) 0 false).isEmpty:=by
 unfold aB;rw[List.filter_filter];refine List.filter_congr λw _=>?_
 have:Az (qo h (bq s)) w=(Az h w&& !(cF (qo h (bq s)) w (bq s)).isEmpty):=by
  simp only[Az,qo,List.all_append,List.all_cons,List.all_nil,Bool.and_true,aky]
 rw[this,akl h w s hs,Bool.and_comm]
theorem akp{α β E:Type}(f:α->List β)(g:α->List E)(hg:∀a,f a= []->g a= []):∀l:List α,(l.filter λa=> !(f a).isEmpty).flatMap g=l.flatMap g
 | []=>rfl
 |a::l=>by
  have p:=akp f g hg l;rw[List.filter_cons];split
  ·rw[aco,aco,p]
  ·rename_i h;rw[aco,p,hg a (by simpa using h),aaV]
theorem akx(h:ay)(s:List UInt8)(hs:s.length<=5):dP (qo h (bq s)) h.tags.length=f_ h s:=by
 unfold dP f_;have:(qo h (bq s)).tags[(h.tags.length:Int).toNat]?=some (bq s):=by simp[qo]
 rw[this];simp only;rw[fR h s hs];simp only[akl h _ s hs];have:=akp (λw=>bf h w s (-1) 0 false) (λw=>(bf h w s (-1) 0 false).map (·.1)) (λw hw=>by rw[show bf h w s (-1) 0 false= [] from hw];rfl) (aB h);rw[this]
theorem akK(h:ay)(s:List UInt8)(hs:s.length<=5):aB (qo h (bq s))= []↔f_ h s= []:=by
 rw[fR h s hs];have hu:f_ h s= []↔((aB h).flatMap λw=>(bf h w s (-1) 0 false).map (·.1))= []:=by
  unfold f_;constructor
  ·intro e;exact aaO λhn=>Dp hn e
  ·intro e;rw[e];exact akN
 rw[hu,List.filter_eq_nil_iff,List.flatMap_eq_nil_iff];refine forall_congr' λw=>forall_congr' λ_=>?_
 simp
theorem fS(t:Tag):∀l:List Tag,cR l=0->cR (l++ [t])=if aM t.reads≠0 then aM t.reads else if dR t.low t.high=false then 1 else 0
 | [],_=>rfl
 |a::l,h=>by
  unfold cR at h;rw[aaT]
  conv=>lhs;unfold cR
  by_cases h1:aM a.reads≠0
  ·rw[aay h1] at h;exact absurd h h1
  rw[aat h1] at h ⊢;by_cases h2:dR a.low a.high=false
  ·rw[aay h2] at h;cases h
  rw[aat h2] at h ⊢;exact fS t l h
theorem akP{h:ay}(hc:aO h=0)(hn:h.tags.length<5)(s:List UInt8):aO (qo h (bq s))=aM s:=by
 obtain⟨_,_,_,p⟩:=checked h hc;unfold aO at hc ⊢;have I:bB (qo h (bq s))=bB h:=rfl;have H:(qo h (bq s)).alike=h.alike:=rfl;have E:(qo h (bq s)).tags=h.tags++ [bq s]:=rfl;rw[I,H,E];split at hc
 ·rename_i h;exact absurd hc h
 rename_i a1;rw[aat a1];split at hc
 ·rename_i h;exact absurd hc h
 rename_i a2;rw[aat a2,aat (by simp;omega),fS _ _ p];have:dR (bq s).low (bq s).high=true:=rfl;rw[this];by_cases h:aM s=0 <;>simp[bq,h]
theorem akg{s:List UInt8}(h:aM s=0):s.length<=5:=by
 unfold aM at h;split at h
 ·cases h
 ·omega
theorem akL{h:ay}(hc:aO h=0)(hn:h.tags.length<5)(s:List UInt8):
  bJ (qo h (bq s)) []=if bJ h [aM s]≠0 then bJ h [aM s] else if f_ h s= [] then 9 else 0:=by
 unfold bJ;rw[akP hc hn s,aat (show ¬aO h≠0 by simp[hc])];by_cases hr:aM s=0
 ·have hs:=akg hr;simp only[hr,bN,ne_eq,adA,ab3];by_cases hw:aB h= []
  ·have:aB (qo h (bq s))= []:=by rw[fR h s hs,hw];rfl
   simp[hw,this]
  ·simp only[hw,ab3,akK h s hs,ne_eq,adA]
 ·simp[hr,bN]
theorem akJ(h:ay)(t:Tag):iN (qo h t) h.tags.length=0:=by
 unfold iN qo;rw[aay];simp;omega
theorem K4{h:ay}(hf:Fair h):j9 h:=by
 have h1:=hf.L;have h2:=hf.S;have H:=hf.R;have E:=hf.na;have p:=hf.nt;exact⟨by omega,by omega,by omega,by omega,λs hs=>by have:=hf.a s hs;omega,by omega,λt ht=>by have:=hf.t t ht;omega⟩
theorem OO{h:ay}(hf:Fo h=true):Fair h:=by
 unfold Fo at hf;rw[aaZ] at hf;exact Jp (by simpa using hf.1)
theorem Sj{h:ay}(hf:Fo h=true):aO h=0:=by
 unfold Fo at hf;rw[aaZ] at hf;simpa using hf.2
theorem Ee{h:ay}(hc:aO h=0){s:List UInt8}(hs:s.length<=5):(f_ h s).length<=4000000000000:=
 aaY (kX _) (fI hc _ λw _=>mI h w s hs)
section
variable{P:Program}[l:cL P]
end
end Go.Proofs.YtjagmhagphbfcaaGreatDoor.Dn
namespace Go.Proofs.YtjagmhagphbfcaaGreatDoor
@[simp] abbrev akT:List Nat:=[0,1,2,4,5,6,7,8,9,10,11,25,43,65,67,96]
end Go.Proofs.YtjagmhagphbfcaaGreatDoor
namespace Go.Proofs.YtjagmhagphbfcaaGreatDoor.Dn
open Go Go.Proofs Lo Lw
section
variable{P:Program}[l:cL P]
theorem akD:aq P 34 [.ag po,.ag po] (.b true):=by
 have h25:aq P 25 [.sq none 0 [],.sq none 0 []] (.b true):=by
  refine aq.ZE (k:=1) ?_;intro g w ys hW hr;obtain⟨y,H,rfl,h1,h2⟩:=hr.dX;refine GH (P:=P) [] [] (by simp) (by simp) g w _ hW (.cons ?_ h2);cases h1 with
  |nil=>exact .nil _ _
  |sq _ _ _ _ _ _ _ _ h0=>omega
 obtain⟨A,E,p⟩:=ca h25;refine fi (ak call25 E (au P)) func34 rfl rfl ?_
 repeat' (first|refine nI ?_|(refine eI [0,1,2,3,4,5,41,46,59] ?_;intro K h;simp[po,ab,p];apply h)|fail)
 refine bE (λd T B lv nx=>T 2=.sp po/\T 5=.i .i64 0) 0 ?_ ?_
 ·exact⟨by simp[po],by simp⟩
 rintro d T B lv nx ⟨t2,t5⟩
 repeat' (first|refine nI ?_|(refine eI [0,1,2,3,4,5,41,46,59] ?_;intro K h;simp[t2,t5,po];apply h)|fail)
 simp[Fin,aH,Tryz.f34]
omit l in
theorem aks{h:ay}{b:Int}(hb:bJ h []=b)(hn:b≠0):gx h=.tu [.ag po,.i .i64 b]:=by
 subst hb;unfold gx;rw[aay hn]
omit l in
theorem akM{h:ay}(hb:bJ h []=0):gx h=.tu [.ag (aa h),.i .i64 0]:=by
 unfold gx;rw[aat (by simp[hb])]
omit l in
theorem akG{h:ay}{r:List UInt8}(ho:bJ h [aM r]=0):aM r=0:=by
 have:=(ij ho).2.1;unfold bN at this;split at this
 ·exact this
 ·rename_i hh;simpa using hh
set_option maxHeartbeats 400000 in
theorem akI(e17:Enters P 17)(Xl:aq P 17 [] (.b true))(h:ay)(r:List UInt8):aq P 5 [eG h,.s r] (.b true):=by
 obtain⟨A,V,J⟩:=ca (Si (P:=P) h);obtain⟨T,O,U⟩:=ca Xl;simp only[aa] at J;have W:=cV h.tags;cases hf:Fo h with
 |false=>
  rw[hf] at J;refine fi (ak call30 V (ak e17 O (au P))) func5 rfl rfl ?_
  repeat' (first|refine nI ?_|(refine eI akT ?_;intro K E;simp[eG,aa,ab,az,J,U];apply E)|fail)
  simp[Fin,aH,Tryz.f5]
 |true=>
 rw[hf] at J;by_cases hn:(5:Int)<=h.tags.length
 ·refine fi (ak call30 V (ak e17 O (au P))) func5 rfl rfl ?_
  repeat' (first|refine nI ?_|(refine eI akT ?_;intro K E;simp[eG,aa,ab,az,J,U,W,hn];apply E)|fail)
  simp[Fin,aH,Tryz.f5]
 by_cases hr:(40:Int)<r.length
 ·refine fi (ak call30 V (ak e17 O (au P))) func5 rfl rfl ?_
  repeat' (first|refine nI ?_|(refine eI akT ?_;intro K E;simp[eG,aa,ab,az,J,U,W,hn,hr];apply E)|fail)
  simp[Fin,aH,Tryz.f5]
 have hm:=K4 (OO hf);have hc:=Sj hf;have Z:j9 (qo h (bq r)):=by
  refine⟨hm.L,hm.S,hm.R,hm.n,hm.a,?_,λt ht=>?_⟩
  ·simp[qo];omega
  ·rcases abH.1 ht with ht|ht
   ·exact hm.t t ht
   ·rw[acE.1 ht];show r.length<1000000;omega
 have N:=akL hc (by omega) r;obtain⟨M,md,I⟩:=ca (zX (P:=P) h hm r (by omega));have p:=Ox (P:=P) h (bq r) hm Z;rw[uK,aat (by simp[hc])] at p;obtain⟨S,sd,hS⟩:=ca (akD (P:=P));simp only[aa,po] at I hS;by_cases ho:bJ h [aM r]=0
 ·rw[aat (by simp[ho])] at N;rw[bK,aat (by simp[ho]),ho] at I;by_cases hx:f_ h r= []
  ·rw[aay hx] at N;rw[hx] at I;rw[aks N (by decide)] at p;obtain⟨H,hd,p⟩:=ca p;simp only[aa,fP,bq,po] at p;simp only[ints,List.map_nil] at I;refine fi (ak call30 V (ak e17 O (ak call21 md (ak call33 hd (ak call34 sd (au P)))))) func5 rfl rfl ?_
   repeat' (first|refine nI ?_|(refine eI akT ?_;intro K E;simp[eG,aa,ab,az,J,U,W,hn,hr,I,p,hS,bne];apply E)|fail)
   simp[Fin,aH,Tryz.f5]
  ·rw[aat hx] at N;rw[akM N] at p;obtain⟨H,hd,p⟩:=ca p;have hs:=akg (akG ho);have KN:=Ee hc hs;obtain⟨Y,yd,hY⟩:=ca (wR (P:=P) (qo h (bq r)) Z h.tags.length);have iD:bJ (qo h (bq r)) [iN (qo h (bq r)) h.tags.length]=0:=by
    rw[akJ,show bJ (qo h (bq r)) [0]=bJ (qo h (bq r)) [] from by simp[bJ,bN]];exact N
   rw[bK,iD,aat (by decide),akx h r hs] at hY;have vl:(bI (h.tags++ [(⟨r,0,99999⟩:Tag)])).drop (h.tags.length*3)= [.s r,.i .i64 0,.i .i64 99999]:=by
    have:=fA (h.tags++ [(⟨r,0,99999⟩:Tag)]) h.tags.length ⟨r,0,99999⟩ (by simp);rw[show(h.tags++ [(⟨r,0,99999⟩:Tag)]).drop (h.tags.length+1)= [] from by simp] at this;exact this
   have akV:=cV (h.tags++ [(⟨r,0,99999⟩:Tag)]);rw[abj,List.length_singleton] at akV;simp only[qo,aa,fP,bq,ints] at p hY;obtain⟨L,ld,hL⟩:=ca (GK (P:=P) (f_ h r) (f_ h r) (by omega) (by omega));simp only[ints,beq_self_eq_true] at hL I;have mM:0<(f_ h r).length:=agz.2 hx;generalize f_ h r=ms at *;generalize bI (h.tags++ [(⟨r,0,99999⟩:Tag)])=tl at *;have w1:=aS ((h.tags.length:Int)+1) (by omega) (by omega);refine fi (ak call30 V (ak e17 O (ak call21 md (ak call33 hd (ak call18 yd (ak call20 ld (au P))))))) func5 rfl rfl ?_
   repeat' (first|refine nI ?_|(refine eI akT ?_;intro K E;simp[eG,aa,ab,az,J,U,W,hn,hr,I,p,hY,hL,akV,vl,mM,w1,bne];apply E)|fail)
   simp[Fin,aH,Tryz.f5]
 ·rw[aay ho] at N;rw[bK,aay ho] at I;rw[aks N ho] at p;obtain⟨H,hd,p⟩:=ca p;simp only[aa,fP,bq,po] at p;have uH:(bJ h [aM r]==0)=false:=by simp[ho]
  simp only[ints,List.map_nil] at I;generalize bJ h [aM r]=b at *;refine fi (ak call30 V (ak e17 O (ak call21 md (ak call33 hd (ak call34 sd (au P)))))) func5 rfl rfl ?_
  repeat' (first|refine nI ?_|(refine eI akT ?_;intro K E;simp[eG,aa,ab,az,J,U,W,hn,hr,I,p,hS,bne,uH];apply E)|fail)
  simp[Fin,aH,Tryz.f5]
end
end Go.Proofs.YtjagmhagphbfcaaGreatDoor.Dn
