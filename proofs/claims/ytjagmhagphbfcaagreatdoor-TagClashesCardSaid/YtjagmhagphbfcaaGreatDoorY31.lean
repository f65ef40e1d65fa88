/- Part 31 of a proof (made small by a program; blanks, names and remarks only). -/
import Derived.Conc.LeavingOf
import Derived.Carry
import Derived.LaidMore
import Derived.LaidHandle
import Derived.ChangeSame
import Derived.LaidLaws
import Derived.Test.YtjagmhagphbfcaaGreatDoorCards
import Derived.Test.YtjagmhagphbfcaaGreatDoorTie
import Derived.Test.YtjagmhagphbfcaaGreatDoorY30
set_option maxRecDepth 100000
set_option linter.all false
namespace Go.Proofs.YtjagmhagphbfcaaGreatDoor.cA
open Go Go.Proofs Go.Conc Lo Dn Lw Go.ChangeShapes Go.WideShapes Go.ChangeAt Go.RowKit
def xi:List (String×DataW Unit):= [("nosale/tag.checks",Rows.laid_nosale_tag_checks)]
def nm0:List UInt8:= [40,110,111,115,97,108,101,47,116,97,103,46,104,111,117,115,101,41,46,108,101,116,116,101,114,115]
def nm1:List UInt8:= [40,110,111,115,97,108,101,47,116,97,103,46,104,111,117,115,101,41,46,112,97,105,114,115]
def nm2:List UInt8:= [40,110,111,115,97,108,101,47,116,97,103,46,104,111,117,115,101,41,46,116,97,103,115]
theorem MY:ownKnob Tryz.prog.godebug=none:=by kernel_rfl
theorem Nu:laidOutB Tryz.prog=true:=by kernel_rfl
theorem z0:(((begin Tryz.prog (λ_ _=>0) default).world.heap[0]?).bind Obj.row?).map (λx=>(x.1.size,x.2))=some (3,140):=by kernel_rfl
theorem z1:(((begin Tryz.prog (λ_ _=>0) default).world.heap[1]?).bind Obj.row?).map (λx=>(x.1.size,x.2))=some (1,3):=by kernel_rfl
theorem z2:(((begin Tryz.prog (λ_ _=>0) default).world.heap[2]?).bind Obj.row?).map (λx=>(x.1.size,x.2))=some (256,226):=by kernel_rfl
theorem z3:(((begin Tryz.prog (λ_ _=>0) default).world.heap[3]?).bind Obj.row?).map (λx=>(x.1.size,x.2))=some (32,229):=by kernel_rfl
theorem UT:Tryz.prog.cellTypes Tryz.prog.depth 3=some [3]:=by kernel_rfl
theorem OH:Tryz.prog.globals.size=4:=rfl
theorem oW{W:World}(h:W.ShapedOpen Tryz.prog){g n t:Nat}(hg:g<4)(hz:(((begin Tryz.prog (λ_ _=>0) default).world.heap[g]?).bind Obj.row?).map (λx=>(x.1.size,x.2))=some (n,t)):
  ∃cs,W.heap[g]?=some (.cells cs t)/\cs.size=n/\(Tryz.prog.buildable t=true->Row.ok Tryz.prog W .any 0 t cs):=by
 rw[aeb] at hz;obtain⟨⟨zero,t'⟩,h1,h2⟩:=hz;cases h2;obtain⟨cs,H,E,p⟩:=h.1 g zero t' (by rw[OH];exact hg) h1;exact⟨cs,H,E,p⟩
theorem rj{W:World}{b n t:Nat}{cs:Array Value}(h:W.heap[b]?=some (.cells cs t))(hn:cs.size=n):W.shape? b=some (t,n):=by
 unfold World.shape?;rw[h,<-hn]
theorem OG{W:World}(h:W.ShapedOpen Tryz.prog):AU W/\(∃k n e fr,W.heap[1]?=some (.cells #[.int k n] e fr))/\4<=W.heap.size:=by
 obtain⟨c0,a0,b0,_⟩:=oW h (g:=0) (by decide) z0;obtain⟨c1,a1,b1,d1⟩:=oW h (g:=1) (by decide) z1;obtain⟨c2,a2,b2,_⟩:=oW h (g:=2) (by decide) z2;obtain⟨c3,a3,H,_⟩:=oW h (g:=3) (by decide) z3;refine⟨⟨rj a0 b0,rj a1 b1,rj a2 b2,rj a3 H⟩,?_,(aah.1 a3).1⟩;obtain⟨ts,p,_,E⟩:=d1 (by kernel_rfl);rw[UT] at p;cases p;obtain⟨v,rfl⟩:∃v,c1= #[v]:=⟨c1[0],by apply Array.ext <;>simp_all⟩
 obtain⟨u,hu,hv⟩:=E 0 v rfl;cases hu;unfold Cell.ok at hv;rw[aeO] at hv;cases v with
 |int k n=>exact⟨k,n,_,_,a1⟩
 |_=>exact hv.elim
theorem QZ:((List.range Tryz.prog.funcs.size).filter λf=>(Tryz.prog.funcs[f]?).any (·.name.toUTF8.data.toList==nm0))= [255]:=by kernel_rfl
theorem QY:((List.range Tryz.prog.funcs.size).filter λf=>(Tryz.prog.funcs[f]?).any (·.name.toUTF8.data.toList==nm1))= [256]:=by kernel_rfl
theorem QX:((List.range Tryz.prog.funcs.size).filter λf=>(Tryz.prog.funcs[f]?).any (·.name.toUTF8.data.toList==nm2))= [257]:=by kernel_rfl
theorem Pe:Tryz.prog.cellsOf 139=1:=by kernel_rfl
theorem Pd:Tryz.prog.cellsOf 140=3:=by kernel_rfl
theorem Jl:Tryz.prog.globalNamed "nosale/tag.checks" =some 0:=by kernel_rfl
theorem Qx:(Tryz.prog.globals[0]?).map (·.type)=some 140:=by kernel_rfl
theorem UY{W:World}(h:laidMetH Tryz.prog xi W):∃e fr,W.heap[0]?=some (.cells F0 e fr):=by
 have hf:=laidMetH.funcs h (n:= "nosale/tag.checks") (d:=.agg [.iface "func" (.lit (.string nm0)),.iface "func" (.lit (.string nm1)),.iface "func" (.lit (.string nm2))]) (by exact acE.2 rfl);obtain⟨g,t,cs,fuel,p,hg,ht,hv,hd⟩:=hf;obtain rfl:=adw (Jl.symm.trans hg);obtain rfl:=adw (Qx.symm.trans ht);obtain⟨xs,m,_,hx,hlen,hn,E⟩:=DataW.trod_array Tryz.underlying140 hd;rw[Pd] at hlen;obtain⟨I,x1,H,rfl⟩:=Ri hn;obtain⟨c0,c1,c2,L⟩:=Ri hlen;simp only[Prod.mk.injEq] at hx;have hx1:(DataW.agg [.held nm0,.held nm1,.held nm2]:DataW (List UInt8))=.agg [I.1,x1.1,H.1]:=hx.1;simp only[DataW.agg.injEq,abg,abQ] at hx1;obtain⟨O,N,M⟩:=hx1;rw[Pe,L] at E;have h0:DataW.trod (funcToken Tryz.prog) Tryz.prog W 0 (λ_=>true) true m 139 [c0]=some I:=E 0 (by decide);have h1:DataW.trod (funcToken Tryz.prog) Tryz.prog W 0 (λ_=>true) true m 139 [c1]=some x1:=E 1 (by decide);have h2:DataW.trod (funcToken Tryz.prog) Tryz.prog W 0 (λ_=>true) true m 139 [c2]=some H:=E 2 (by decide);obtain⟨Y,p0⟩:=I;obtain⟨y1,Z⟩:=x1;obtain⟨y2,p2⟩:=H;simp only at O N M;subst O N M;have r0:=func_of_trod Tryz.underlying139 QZ h0;have r1:=func_of_trod Tryz.underlying139 QY h1;have U:=func_of_trod Tryz.underlying139 QX h2;subst r0 r1 U;have J:cs=F0:=by
  rw[<-Array.toList_inj,L];rfl
 subst J;unfold World.var? at hv;rw[Jl] at hv;simp only[abN] at hv;split at hv
 ·rename_i V e fr hz;cases hv;exact⟨e,fr,hz⟩
 ·cases hv
section
variable{H:Type}{enc:TypeId×Value->H}
theorem AN{W J:World}(hb:Below W.heap.size W J):∀ {ts:List TypeId} {vs:List Value} {E:List (DataW H)} {ps:List MemPlace},(∀t∈ts,Tryz.prog.readableRec t=true/\t<Tryz.prog.types.size)->DataW.TrodAll enc Tryz.prog W 0 (λ_=>true) true ts vs E ps->
  (∀x∈ps,x.block<W.heap.size)->DataW.TrodAll enc Tryz.prog J 0 (λb=>decide (b<W.heap.size)) true ts vs E ps
 | [],vs,E,ps,_,h,_=>by
  obtain⟨rfl,rfl,rfl⟩:=trodAll_nil h;exact rfl
 |t::ts,vs,E,ps,ht,h,I=>by
  obtain⟨v,L,d,O,p,q,rfl,rfl,rfl,h1,h2⟩:=trodAll_cons h;obtain⟨r1,N⟩:=ht t (by simp);exact⟨p,q,Below.trod Nu r1 N h1 hb (λx hx=>I x (by simp[hx])),AN hb (λt M=>ht t (by simp[M])) h2 (λx hx=>I x (by simp[hx])),rfl⟩
theorem Rl{f:FuncId}{fn:Func}{cd:Code}{s:ChangeSpec}{os:Os}(started:os.Started)(Z:Tryz.prog.funcs[f]?=some fn)(L:fn.body=some cd)(hK:KL.s f=true)(Xl:f≠17)(Xj:f≠41)(J:fn.resultTypes= #[4])
  (V:∀t∈fn.params.toList,Tryz.prog.readableRec t=true/\t<Tryz.prog.types.size) (TJ:s.vars= []) (Z5:∀E:List (DataW H),E.length=fn.params.size->s.fn H E= { results:= [.lit (.bool true)],args:=E })
  (witness:∃(w:World) (tape:Tape) (i:Input),w.os=os/\(w.forCall tape i).Shaped Tryz.prog/\i.vars= []/\Input.okWide Tryz.prog (w.forCall tape i) .any w.heap.size f i/\
   ((s.pre enc Tryz.prog fn [] false (w.forCall tape i).memory i.args/\laidMetH Tryz.prog xi (w.forCall tape i).memory)/\sizedMet enc Tryz.prog fn (OpenSpec.ofChange s) false (w.forCall tape i).memory i.args)/\
    ({} :Assume).holds Tryz.prog (lone (Frame.enter Tryz.prog f i.args .normal) [] (w.forCall tape i)))
  (Y:∀(W:World) (base:Nat) (args:Array Value) (E:List (DataW H)) (ps:List MemPlace),AU W->(∀(j:Nat) t v,fn.params[j]?=some t->args[j]?=some v->Value.okWide Tryz.prog W .any base t v)->
   DataW.TrodAll enc Tryz.prog W 0 (λ_=>true) true fn.params.toList args.toList E ps->∃la,qL W args.toList la/\aq PL f la (.b true)):
  ReturnsInLeavingWide {} Tryz.checked os f .any (λw args=>(s.pre enc Tryz.prog fn [] false w args/\laidMetH Tryz.prog xi w)/\sizedMet enc Tryz.prog fn (OpenSpec.ofChange s) false w args)
   (s.post enc Tryz.prog fn false true false false):=by
 refine returnsInLeavingWide_of_good (C:=Tryz.checked) MY started witness ?_;intro w tape i _ qp _ iD Ce _;obtain⟨_,_,_,fh,U,_,_,_,_,Kz⟩:=iD;have e:fh=fn:=adw (U.symm.trans Z);subst e;obtain⟨⟨⟨E,gs,before,hw,_⟩,hl⟩,_⟩:=Ce;have cO:=DataW.Whole.of_heap (w':=w.forCall tape i) (by rfl) hw;have sM:laidMetH Tryz.prog xi (w.forCall tape i):=hl.of_heap (by rfl);generalize w.forCall tape i=W at *;obtain⟨hG,c7,h4⟩:=OG qp;have hT:sF W:=⟨UY sM,c7⟩
 have Xa:=cO;obtain⟨p,q,O,hV,N,_,_⟩:=cO;rw[TJ] at hV;obtain⟨rfl,rfl⟩:=trodVars_none hV;have aK:∀x∈p,x.block<W.heap.size:=λx hx=>Xa.lt x (by rw[N];simp[hx])
 obtain⟨la,ho,hc⟩:=Y W _ i.args E p hG Kz O;obtain⟨ws,ys,k1,_,k3⟩:=ho [];obtain⟨q1,q2⟩:=k3 [];simp only[aaV,acO] at q1 q2;have hlen:E.length=fh.params.size:=by have:=(trodAll_length O).2;simpa using this
 obtain⟨M,last,o,w',t',h1,h2,h3,Ap⟩:=Nr hK ⟨fh,cd,(MM f Xl Xj).trans Z,L⟩ hT h4 k1 (args:=i.args) (by simpa using q1) hc q2;refine⟨M,last,o,w',t',h1,h2,h3,Ap.mono λv hF=>?_⟩;refine ChangeSpec.post_blind ?_;obtain⟨rfl,E1⟩:=hF;have I:=Z5 E hlen;refine⟨E,[],before,[],p,[],Xa,?_,?_,?_,E1.frame _,λh=>by cases h⟩
 ·rw[acO,I,J];exact trodAll_mk1 (shut_bool af7 _)
 ·rw[acO,I];exact AN E1 V O aK
 ·rw[TJ,acO,I];exact rfl
end
theorem O8(os:Os)(args:Array Value):laidMetH Tryz.prog xi ((World.doorLaid Tryz.prog 40 os).forCall (λ_ _=>0) ⟨#[],args,[]⟩).memory:=
 laidMetH_of_parts3 (fuel:=8) (laidMet_of_run' 8 (by kernel_rfl) (by kernel_rfl)) (by kernel_rfl) (by kernel_rfl)
def Xv:Value:=.agg #[.string ⟨#[]⟩,.string ⟨#[]⟩,.string ⟨#[]⟩,.slice none 0 0,.slice none 0 0]
theorem Lf{s:OpenSpec}{c:OpenClaim}(hc:c.holds Tryz.pinned s)(hw:c.wfByText s=true)(p:c.laidByTextAt .later Tryz.pinned [.funcs] true)
  (I:c.start=.entering) (hnb:c.noBlocks=false/\c.again=false) (hm:Tryz.pinned.checked.prog.mainIs=some (true, "f07a5fa70ed6775463b7a086f57573263f2086de7ec9f9dbb2d285f1a5080804".toList))
  (hl:∀f fn,Tryz.pinned.checked.prog.funcNamed c.func=some f->Tryz.pinned.checked.prog.funcs[f]?=some fn->false=Tryz.pinned.checked.prog.looks []/\∀(j:Nat) t,fn.params[j]?=some t->Tryz.pinned.checked.prog.wantsStandIn t=false)
  (hg:true=c.goesBy Tryz.pinned.checked.prog):
  Claim7.holds Tryz.pinned (.plain s) { stood:= { row:=c,standIns:= [],harness:=(true, "f07a5fa70ed6775463b7a086f57573263f2086de7ec9f9dbb2d285f1a5080804"),looks:=false },kinds:= [],alts:= [],goes:=true,laidByText:=true,laidKinds:= [.funcs],laidTests:=true,laidLooks:=.later } :=by
 have H:∀r:OpenClaim,Claim7.isSixth { stood:= { row:=r,standIns:= [],harness:=(true, "f07a5fa70ed6775463b7a086f57573263f2086de7ec9f9dbb2d285f1a5080804"),looks:=false },kinds:= [] } =false:=λr=>by simp[Claim7.isSixth]
 exact⟨Claim7.tied_new_at .later [.funcs] true (Claim7.new_of_sixth hc (true, "f07a5fa70ed6775463b7a086f57573263f2086de7ec9f9dbb2d285f1a5080804") false I hnb hm (H c) hl) hw,(λD E=>by cases E),p,(λh=>by cases h),hg⟩
end Go.Proofs.YtjagmhagphbfcaaGreatDoor.cA
namespace Go.Proofs.YtjagmhagphbfcaaGreatDoor
@[simp] abbrev aih:List Nat:=[0,1,2,3,4,32,37,46,51,61]
end Go.Proofs.YtjagmhagphbfcaaGreatDoor
namespace Go.Proofs.YtjagmhagphbfcaaGreatDoor.Dn
open Go Go.Proofs Lo Lw
section
variable{P:Program}[l:cL P]
def gC(h:ay):Bool:=decide (40<h.L.length)||decide (40<h.S.length)||decide (40<h.R.length)||decide (20<h.alike.length)||decide (20<h.tags.length)||h.alike.any (λs=>decide (40<s.length))||h.tags.any (λt=>decide (40<t.reads.length))
theorem Jp{h:ay}(hg:gC h=false):Fair h:=by
 simp only[gC,Bool.or_eq_false_iff,aac,ag8,aan] at hg;obtain⟨⟨⟨⟨⟨⟨h1,h2⟩,J⟩,I⟩,H⟩,E⟩,p⟩:=hg;exact⟨by omega,by omega,by omega,by omega,λs hs=>by have:=E s hs;omega,by omega,λt ht=>by have:=p t ht;omega⟩
theorem E_{h:ay}(hg:40<h.L.length\/40<h.S.length\/40<h.R.length\/20<h.alike.length\/20<h.tags.length):gC h=true:=by
 simp only[gC,adr,aan];rcases hg with g|g|g|g|g <;>simp[g]
theorem KY(h:ay):aq P 16 [.ag (aa h)] (.b (gC h)):=by
 have V:(aa h).map AV.strip=aa h:=by simp[aa]
 refine fi (au P) func16 rfl rfl ?_;have L:=cV h.tags
 repeat' (first|refine nI ?_|(refine eI aih ?_;intro K p;simp[aa,L];first|apply p|(refine aE (λhc=>?_) (λhc=>?_) <;>(try simp only[aan,aac] at hc) <;>simp[hc,aa,L] <;>repeat' (first|apply p|(refine aE (λhc=>?_) (λhc=>?_) <;>(try simp only[aan,aac] at hc) <;>simp[hc,aa,L])|fail))|fail)|fail)
 all_goals try (have H:gC h=true:=E_ (by omega);simp[Fin,aH,Tryz.f16,H];done)
 by_cases g5:20<(h.tags.length:Int)
 ·have H:gC h=true:=E_ (by omega);have I:=g5
  repeat' (first|refine nI ?_|(refine eI aih ?_;intro K p;simp[aa,I];apply p)|fail)
  simp[Fin,aH,Tryz.f16,H]
 ·have I:=g5
  repeat' (first|refine nI ?_|(refine eI aih ?_;intro K p;simp[aa,I];apply p)|fail)
  have na:h.alike.length<=20:=by omega
  have nt:h.tags.length<=20:=by omega
  refine bE (λd T B lv nx=>∃k,k+d=h.alike.length/\T 1=.sp (aa h)/\T 3=.i .i64 k/\∀s∈h.alike.take k,¬40<s.length) h.alike.length ?_ ?_
  ·exact⟨0,by simp,by simp[aa],by simp,by simp⟩
  rintro d T B lv nx ⟨k,hk,t1,t3,hp⟩;have w1:=aS ((k:Int)+1) (by omega) (by omega);by_cases E:k<h.alike.length
  ·have J:(h.alike.map AV.s).drop k=.s h.alike[k]::(h.alike.map AV.s).drop (k+1):=by rw[aa4 (by simpa using E)];simp
   have O:h.alike[k]?=some h.alike[k]:=aaf E;have M:h.alike.take (k+1)=h.alike.take k++ [h.alike[k]]:=aaN E;have hm:h.alike[k]∈h.alike:=abG E;generalize h.alike[k]=s at J O M hm;by_cases h40:40<(s.length:Int)
   ·have H:gC h=true:=by
     have:h.alike.any (λs=>decide (40<s.length))=true:=afl.2 ⟨s,hm,by simp;omega⟩;simp[gC,this]
    repeat' (first|refine nI ?_|(refine eI aih ?_;intro K p;simp[t1,t3,aa,E,J,O,h40,w1];apply p)|fail)
    simp[Fin,aH,Tryz.f16,H]
   ·repeat' (first|refine nI ?_|(refine eI aih ?_;intro K p;simp[t1,t3,aa,E,J,O,h40,w1];apply p)|fail)
    refine aN (d-1) (by omega) ⟨k+1,by omega,by simp[t1,aa],by simp,λx hx=>?_⟩;rw[M,abH] at hx;rcases hx with hx|hx
    ·exact hp x hx
    ·simp only[abZ,adz,aeP] at hx;subst hx;omega
  ·have N:k=h.alike.length:=by omega
   subst N;rw[aeo] at hp
   repeat' (first|refine nI ?_|(refine eI aih ?_;intro K p;simp[t1,t3,aa];apply p)|fail)
   refine bE (λd T B lv nx=>∃k,k+d=h.tags.length/\T 1=.sp (aa h)/\T 4=.i .i64 k/\∀t∈h.tags.take k,¬40<t.reads.length) h.tags.length ?_ ?_
   ·exact⟨0,by simp,by simp[aa],by simp,by simp⟩
   rintro d T B lv nx ⟨k,hk,t1,t4,U⟩;have w1:=aS ((k:Int)+1) (by omega) (by omega);by_cases E:k<h.tags.length
   ·have J:=fA h.tags k h.tags[k] (aaf E);have hle:(k+1)*3<=h.tags.length*3:=by omega
    have M:h.tags.take (k+1)=h.tags.take k++ [h.tags[k]]:=aaN E;have hm:h.tags[k]∈h.tags:=abG E;generalize h.tags[k]=t at J M hm;by_cases h40:40<(t.reads.length:Int)
    ·have H:gC h=true:=by
      have:h.tags.any (λt=>decide (40<t.reads.length))=true:=afl.2 ⟨t,hm,by simp;omega⟩;simp[gC,this]
     repeat' (first|refine nI ?_|(refine eI aih ?_;intro K p;simp[t1,t4,aa,E,L,hle,J,h40,w1];apply p)|fail)
     simp[Fin,aH,Tryz.f16,H]
    ·repeat' (first|refine nI ?_|(refine eI aih ?_;intro K p;simp[t1,t4,aa,E,L,hle,J,h40,w1];apply p)|fail)
     refine aN (d-1) (by omega) ⟨k+1,by omega,by simp[t1,aa],by simp,λx hx=>?_⟩;rw[M,abH] at hx;rcases hx with hx|hx
     ·exact U x hx
     ·simp only[abZ,adz,aeP] at hx;subst hx;omega
   ·have N:k=h.tags.length:=by omega
    subst N;rw[aeo] at U;have H:gC h=false:=by
     simp only[gC,Bool.or_eq_false_iff,aac,ag8,aan];exact⟨⟨⟨⟨⟨⟨by omega,by omega⟩,by omega⟩,by omega⟩,by omega⟩,hp⟩,U⟩
    repeat' (first|refine nI ?_|(refine eI aih ?_;intro K p;simp[t1,t4,aa,L];apply p)|fail)
    simp[Fin,aH,Tryz.f16,H]
end
section
variable{P:Program}[l:cL P]
theorem BE(s:List UInt8)(hs:s.length<1000000):aq P 83 [.s s] (.i .i64 (aM s)):=by
 obtain⟨A,M,E⟩:=ca (VL (P:=P) s.length 1 5);obtain⟨B,L,p⟩:=ca (uA (P:=P) s 63 hs);obtain⟨C,J,hC⟩:=ca (Eg (P:=P) s 63 hs);have N:(((63:UInt8).toNat:Nat):Int)=63:=rfl;rw[N] at p hC;refine fi (ak call42 M (ak call138 L (ak call124 J (au P)))) func83 rfl rfl ?_;by_cases h1:(1:Int)<=s.length/\(s.length:Int)<=5
 ·have hb:¬(s.length<1\/5<s.length):=by omega
  have hd:(decide ((1:Int)<=s.length)&&decide ((s.length:Int)<=5))=true:=by simp;omega
  rw[hd] at E;cases h2:bA s 63 with
  |false=>
   rw[h2] at p
   repeat' (first|refine nI ?_|(refine eI [0,2,6,9,12] ?_;intro K h;simp[ab,az,E,p];apply h)|fail)
   have hv:aM s=3:=by unfold aM;rw[aat hb,aay h2]
   simp[Fin,aH,Tryz.f83,hv]
  |true=>
   rw[h2] at p;by_cases I:(2:Int)<s.count 63
   ·have H:2<s.count 63:=by omega
    repeat' (first|refine nI ?_|(refine eI [0,2,6,9,12] ?_;intro K h;simp[ab,az,E,p,hC,I];apply h)|fail)
    have hv:aM s=2:=by unfold aM;rw[aat hb,aat (by rw[h2];decide),aay H]
    simp[Fin,aH,Tryz.f83,hv]
   ·have H:¬2<s.count 63:=by omega
    repeat' (first|refine nI ?_|(refine eI [0,2,6,9,12] ?_;intro K h;simp[ab,az,E,p,hC,I];apply h)|fail)
    have hv:aM s=0:=by unfold aM;rw[aat hb,aat (by rw[h2];decide),aat H]
    simp[Fin,aH,Tryz.f83,hv]
 ·have hb:s.length<1\/5<s.length:=by omega
  have hd:(decide ((1:Int)<=s.length)&&decide ((s.length:Int)<=5))=false:=by
   cases hx:(decide ((1:Int)<=s.length)&&decide ((s.length:Int)<=5)) with
   |false=>rfl
   |true=>simp at hx;omega
  rw[hd] at E
  repeat' (first|refine nI ?_|(refine eI [0,2,6,9,12] ?_;intro K h;simp[ab,az,E];apply h)|fail)
  have hv:aM s=2:=by unfold aM;rw[aay hb]
  simp[Fin,aH,Tryz.f83,hv]
theorem Gi(a b E hi:Int):aq P 152 [.ag [.i .i64 a,.i .i64 b],.i .i64 E,.i .i64 hi] (.b (decide (E<=a/\a<=b/\b<=hi))):=by
 refine fi (au P) func152 rfl rfl ?_;by_cases h1:E<=a
 ·by_cases h2:a<=b
  ·by_cases p:b<=hi
   ·repeat' (first|refine nI ?_|(refine eI [0,1,2,3,6] ?_;intro K h;simp[h1,h2,p];apply h)|fail)
    simp[Fin,aH,Tryz.f152,h1,h2,p]
   ·repeat' (first|refine nI ?_|(refine eI [0,1,2,3,6] ?_;intro K h;simp[h1,h2,p];apply h)|fail)
    simp[Fin,aH,Tryz.f152,h1,h2,p]
  ·repeat' (first|refine nI ?_|(refine eI [0,1,2,3,6] ?_;intro K h;simp[h1,h2];apply h)|fail)
   simp[Fin,aH,Tryz.f152,h1,h2]
 ·repeat' (first|refine nI ?_|(refine eI [0,1,2,3,6] ?_;intro K h;simp[h1];apply h)|fail)
  simp[Fin,aH,Tryz.f152,h1]
theorem BG(a b:Int):aq P 110 [.ag [.i .i64 a,.i .i64 b]] (.b (dR a b)):=by
 obtain⟨A,E,p⟩:=ca (Gi (P:=P) a b 0 99999);refine fi (ak call152 E (au P)) func110 rfl rfl ?_
 repeat' (first|refine nI ?_|(refine eI [0,1,2] ?_;intro K h;simp[ab,p];apply h)|fail)
 simp[Fin,aH,Tryz.f110,dR]
end
end Go.Proofs.YtjagmhagphbfcaaGreatDoor.Dn
namespace Go.Proofs.YtjagmhagphbfcaaGreatDoor
@[simp] abbrev aia:List Nat:=[0,1,2,3,4,32,45,57,71]
end Go.Proofs.YtjagmhagphbfcaaGreatDoor
namespace Go.Proofs.YtjagmhagphbfcaaGreatDoor.Dn
open Go Go.Proofs Lo Lw
section
variable{P:Program}[l:cL P]
theorem L9{c d:UInt8}(h:(c.toNat:Int)=d.toNat):c=d:=UInt8.toNat_inj.1 (by omega)
theorem uB:∃F:List AV->Option AV,Den P 138 F/\∀(s:List UInt8) (c:UInt8),s.length<1000000->F [.s s,.i .u8 c.toNat]=some (.b (bA s c)):=by
 obtain⟨F,h1,h2⟩:=cC (P:=P) (f:=138) (ι:=List UInt8×UInt8) (λx=> [.s x.1,.i .u8 x.2.toNat]) (λx=>.b (bA x.1 x.2)) (λx=>x.1.length<1000000) (λx y _ _ e=>by
  simp only[abg,AV.s.injEq,AV.i.injEq,adM,abQ] at e;rw[e.1,L9 e.2]) (λx hx=>uA x.1 x.2 hx)
 exact⟨F,h1,λs c hs=>h2 (s,c) hs⟩
theorem Ng:∃F:List AV->Option AV,Den P 124 F/\∀(s:List UInt8) (c:UInt8),s.length<1000000->F [.s s,.i .u8 c.toNat]=some (.i .i64 (s.count c)):=by
 obtain⟨F,h1,h2⟩:=cC (P:=P) (f:=124) (ι:=List UInt8×UInt8) (λx=> [.s x.1,.i .u8 x.2.toNat]) (λx=>.i .i64 (x.1.count x.2)) (λx=>x.1.length<1000000) (λx y _ _ e=>by
  simp only[abg,AV.s.injEq,AV.i.injEq,adM,abQ] at e;rw[e.1,L9 e.2]) (λx hx=>Eg x.1 x.2 hx)
 exact⟨F,h1,λs c hs=>h2 (s,c) hs⟩
theorem D1(h:ay)(hL:h.L.length<1000)(hS:h.S.length<1000)(hR:h.R.length<1000):aq P 108 [.ag (aa h)] (.i .i64 (bB h)):=by
 obtain⟨A,ad,W⟩:=uB (P:=P);obtain⟨C,cd,hC⟩:=Ng (P:=P);have a1:=W h.L 63 (by omega);have a2:=W h.S 65 (by omega);have a3:=W h.R 65 (by omega);have c1:=hC h.L 63 (by omega);have Gb:(((63:UInt8).toNat:Nat):Int)=63:=rfl;have e65:(((65:UInt8).toNat:Nat):Int)=65:=rfl;rw[Gb] at a1 c1;rw[e65] at a2 a3;have i10:((h.L.length:Int)==10)=(h.L.length==10):=by
  rw[adX];simp only[ac6];omega
 have V:((h.S.length:Int)==(h.L.count 63:Int))=(h.S.length==h.L.count 63):=by
  rw[adX];simp only[ac6];omega
 refine fi (ak call138 ad (ak call124 cd (au P))) func108 rfl rfl ?_;by_cases b1:h.L.length=10
 ·have E:(h.L.length==10)=true:=by simp[b1]
  cases b2:bA h.L 63 with
  |false=>
   rw[b2] at a1
   repeat' (first|refine nI ?_|(refine eI aia ?_;intro K p;simp[aa,i10,E,bne,ab,a1];apply p)|fail)
   simp[Fin,aH,Tryz.f108,bB,b1,b2]
  |true=>
   rw[b2] at a1;cases H:bA h.S 65 with
   |false=>
    rw[H] at a2
    repeat' (first|refine nI ?_|(refine eI aia ?_;intro K p;simp[aa,i10,E,bne,ab,a1,a2];apply p)|fail)
    simp[Fin,aH,Tryz.f108,bB,b1,b2,H]
   |true=>
    rw[H] at a2;by_cases b4:1<h.R.length
    ·have J:(1:Int)<h.R.length:=by omega
     repeat' (first|refine nI ?_|(refine eI aia ?_;intro K p;simp[aa,i10,E,bne,ab,a1,a2,J];apply p)|fail)
     simp[Fin,aH,Tryz.f108,bB,b1,b2,H,b4]
    ·have J:¬(1:Int)<h.R.length:=by omega
     cases I:bA h.R 65 with
     |false=>
      rw[I] at a3
      repeat' (first|refine nI ?_|(refine eI aia ?_;intro K p;simp[aa,i10,E,bne,ab,a1,a2,J,a3];apply p)|fail)
      simp[Fin,aH,Tryz.f108,bB,b1,b2,H,b4,I]
     |true=>
      rw[I] at a3;by_cases b6:h.S.length=h.L.count 63
      ·have O:(h.S.length==h.L.count 63)=true:=by simp[b6]
       by_cases b7:4<h.S.length
       ·have Y:(4:Int)<h.S.length:=by omega
        repeat' (first|refine nI ?_|(refine eI aia ?_;intro K p;simp[aa,i10,E,bne,ab,az,a1,a2,J,a3,c1,V,O,Y];apply p)|fail)
        have hv:bB h=2:=by
         unfold bB;rw[aat (by rw[b2,H,I];simp;omega),aay (by omega)]
        simp[Fin,aH,Tryz.f108,hv]
       ·have Y:¬(4:Int)<h.S.length:=by omega
        have hv:bB h=if dup (h.L++h.S++h.R)=true then 5 else 0:=by
         unfold bB;rw[aat (by rw[b2,H,I];simp;omega),aat (by omega)]
        have n1:¬(9223372036854775807:Int)<(h.L.length:Int)+h.S.length:=by omega
        have n2:¬(9223372036854775807:Int)<(h.L.length:Int)+h.S.length+h.R.length:=by omega
        repeat' (first|refine nI ?_|(refine eI aia ?_;intro K p;simp[aa,i10,E,bne,ab,az,a1,a2,J,a3,c1,V,O,Y,n1,n2];apply p)|fail)
        have F3:(h.L++h.S++h.R).length<3000:=by simp only[abj];omega
        refine bE (λd T B lv nx=>∃k,k+d=(h.L++h.S++h.R).length/\T 3=.s (h.L++h.S++h.R)/\T 4=.i .i64 k/\((h.L++h.S++h.R).take k).any (λc=>c !=63&&decide (1<(h.L++h.S++h.R).count c))=false) (h.L++h.S++h.R).length ?_ ?_
        ·exact⟨0,by simp,by simp,by simp,by simp⟩
        rintro d T B lv nx ⟨k,hk,t3,t4,hp⟩;have w1:=aS ((k:Int)+1) (by omega) (by omega);generalize h.L++h.S++h.R=w at *;by_cases N:k<w.length
        ·have LW:=hC w w[k] (by omega);have U:((w[k].toNat:Int)==63)=(w[k]==63):=kn w[k] 63 (by omega);have jF:(w.take (k+1)).any (λc=>c !=63&&decide (1<w.count c))=(w[k] !=63&&decide (1<w.count w[k])):=by
          rw[aaN N,aeC,hp];simp
         cases M:(w[k]==63) with
         |true=>
          repeat' (first|refine nI ?_|(refine eI aia ?_;intro K p;simp[t3,t4,N,bne,U,M,w1];apply p)|fail)
          refine aN (d-1) (by omega) ⟨k+1,by omega,by simp[t3],by simp,by rw[jF];simp[bne,M]⟩
         |false=>
          by_cases WX:(1:Int)<(w.count w[k]:Int)
          ·have Z:1<w.count w[k]:=by omega
           have hd:dup w=true:=by
            unfold dup;rw[afl];exact⟨w[k],abG N,by simp[bne,M,Z]⟩
           rw[hd] at hv
           repeat' (first|refine nI ?_|(refine eI aia ?_;intro K p;simp[t3,t4,N,bne,U,M,w1,ab,az,LW,WX];apply p)|fail)
           simp[Fin,aH,Tryz.f108,hv]
          ·have Z:¬1<w.count w[k]:=by omega
           repeat' (first|refine nI ?_|(refine eI aia ?_;intro K p;simp[t3,t4,N,bne,U,M,w1,ab,az,LW,WX];apply p)|fail)
           refine aN (d-1) (by omega) ⟨k+1,by omega,by simp[t3],by simp,by rw[jF];simp[Z]⟩
        ·have gg:k=w.length:=by omega
         subst gg;have hd:dup w=false:=by simpa[dup] using hp
         rw[hd] at hv
         repeat' (first|refine nI ?_|(refine eI aia ?_;intro K p;simp[t3,t4];apply p)|fail)
         simp[Fin,aH,Tryz.f108,hv]
      ·have O:(h.S.length==h.L.count 63)=false:=by simp[b6]
       repeat' (first|refine nI ?_|(refine eI aia ?_;intro K p;simp[aa,i10,E,bne,ab,az,a1,a2,J,a3,c1,V,O];apply p)|fail)
       have hv:bB h=2:=by
        unfold bB;rw[aat (by rw[b2,H,I];simp;omega),aay (by omega)]
       simp[Fin,aH,Tryz.f108,hv]
 ·have E:(h.L.length==10)=false:=by simp[b1]
  repeat' (first|refine nI ?_|(refine eI aia ?_;intro K p;simp[aa,i10,E,bne];apply p)|fail)
  simp[Fin,aH,Tryz.f108,bB,b1]
end
end Go.Proofs.YtjagmhagphbfcaaGreatDoor.Dn
namespace Go.Proofs.YtjagmhagphbfcaaGreatDoor
@[simp] abbrev ah1:List Nat:=[0,2,3,4,7,11,27,38,41,78]
end Go.Proofs.YtjagmhagphbfcaaGreatDoor
namespace Go.Proofs.YtjagmhagphbfcaaGreatDoor.Dn
open Go Go.Proofs Lo Lw
section
variable{P:Program}[l:cL P]
theorem BJ(a:List (List UInt8))(ht:∀s∈a,s.length<1000000):aq P 109 [strs a] (.i .i64 (bj a)):=by
 obtain⟨A,ad,hA⟩:=uB (P:=P);have e65:(((65:UInt8).toNat:Nat):Int)=65:=rfl;refine fi (ak call138 ad (au P)) func109 rfl rfl ?_;by_cases h5:4<a.length
 ·have E8:(4:Int)<a.length:=by omega
  repeat' (first|refine nI ?_|(refine eI ah1 ?_;intro K h;simp[strs,E8];apply h)|fail)
  simp[Fin,aH,Tryz.f109,bj,h5]
 ·have E8:¬(4:Int)<a.length:=by omega
  repeat' (first|refine nI ?_|(refine eI ah1 ?_;intro K h;simp[strs,E8];apply h)|fail)
  refine bE (λd' T B lv nx=>∃k,k+d'=a.length/\T 0=strs a/\T 3=.i .i64 k/\bj a=cb (a.take k) (a.drop k)/\∀s∈a.take k,s.length=2) a.length ?_ ?_
  ·exact⟨0,by simp,by simp[strs],by simp,by simp[bj,h5],by simp⟩
  ·rintro d' T B lv nx ⟨k,hk,t0,t3,hp,h2⟩;have w1:=aS ((k:Int)+1) (by omega) (by omega);by_cases E:k<a.length
   ·have rM:a.drop k=a[k]::a.drop (k+1):=aa4 E;have jF:a.take (k+1)=a.take k++ [a[k]]:=aaN E;rw[rM] at hp;have N:=hA a[k] 65 (ht _ (abG E));rw[e65] at N;have I:(a.map AV.s).drop k=.s a[k]::(a.map AV.s).drop (k+1):=by rw[aa4 (by simpa using E)];simp
    have H:a[k]?=some a[k]:=aaf E;by_cases hl2:a[k].length=2
    ·obtain⟨y,z,hs⟩:∃y z,a[k]= [y,z]:=by
      match a[k],hl2 with
      | [y,z],_=>exact⟨y,z,rfl⟩
     rw[hs] at N hp I H;have Jc:=dV y z;have Cp:∀s∈a.take (k+1),s.length=2:=by
      intro s U;rw[jF] at U;rcases abH.1 U with U|U
      ·exact h2 s U
      ·rw[acE.1 U];exact hl2
     cases V:bA [y,z] 65 with
     |false=>
      rw[V] at N;have hv:bj a=3:=by rw[hp];simp[cb,eR,V]
      repeat' (first|refine nI ?_|(refine eI ah1 ?_;intro K h;simp[t0,t3,strs,E,I,H,ab,N,w1,bne];apply h)|fail)
      simp[Fin,aH,Tryz.f109,hv]
     |true=>
      rw[V] at N;cases Hj:(y==z) with
      |true=>
       have Z:y=z:=by simpa using Hj
       have hv:bj a=5:=by rw[hp];subst Z;simp[cb,eR,V]
       repeat' (first|refine nI ?_|(refine eI ah1 ?_;intro K h;simp[t0,t3,strs,E,I,H,ab,N,Jc,Hj,w1,bne];apply h)|fail)
       simp[Fin,aH,Tryz.f109,hv]
      |false=>
       have Z:¬y=z:=by simpa using Hj
       repeat' (first|refine nI ?_|(refine eI ah1 ?_;intro K h;simp[t0,t3,strs,E,I,H,ab,N,Jc,Hj,w1,bne];apply h)|fail)
       refine bE (λd2 T B lv nx=>∃j,j+d2=k/\T 0=strs a/\T 3=.i .i64 k/\T 4=.i .i64 j/\(a.take j).any (cP · [y,z])=false) k ?_ ?_
       ·exact⟨0,by simp,by simp[t0,strs],by simp[t3],by simp,by simp⟩
       rintro d2 T B lv nx ⟨j,hj,t0,t3,t4,hq⟩;have w2:=aS ((j:Int)+1) (by omega) (by omega);by_cases Hx:j<k
       ·have M:j<a.length:=by omega
        have L:a[j]∈a.take k:=agD.2 ⟨j,by omega,rfl⟩;have htj:a.take (j+1)=a.take j++ [a[j]]:=aaN M;have Y:(a.map AV.s).drop j=.s a[j]::(a.map AV.s).drop (j+1):=by rw[aa4 (by simpa using M)];simp
        have W:a[j]?=some a[j]:=aaf M;have h2j:=h2 _ L;obtain⟨p,q,iJ⟩:∃p q,a[j]= [p,q]:=by
         match a[j],h2j with
         | [p,q],_=>exact⟨p,q,rfl⟩
        rw[iJ] at Y W L;have pj:(a.take (j+1)).any (cP · [y,z])=cP [p,q] [y,z]:=by
         rw[htj,aeC,hq,iJ];simp
        have gT:cP [p,q] [y,z]=true->bj a=5:=λhb=>by
         have hx:(a.take k).any (cP · [y,z])=true:=afl.2 ⟨_,L,hb⟩;rw[hp];simp[cb,eR,V,Z,hx]
        have b1:=dV p z;have b2:=dV q y;cases J:([p,q]== [y,z]) with
        |true=>
         have hv:=gT (by simp[cP,J])
         repeat' (first|refine nI ?_|(refine eI ah1 ?_;intro K h;simp[t0,t3,t4,strs,E,M,Hx,I,H,Y,W,J,w2];apply h)|fail)
         simp[Fin,aH,Tryz.f109,hv]
        |false=>
         cases O:(p==z) with
         |false=>
          have hn:cP [p,q] [y,z]=false:=by simp[cP,J,O]
          repeat' (first|refine nI ?_|(refine eI ah1 ?_;intro K h;simp[t0,t3,t4,strs,E,M,Hx,I,H,Y,W,J,b1,O,w2];apply h)|fail)
          refine aN (d2-1) (by omega) ⟨j+1,by omega,by simp[t0,strs],by simp[t3],by simp,by rw[pj];exact hn⟩
         |true=>
          cases e3:(q==y) with
          |true=>
           have hv:=gT (by simp[cP,J,O,e3])
           repeat' (first|refine nI ?_|(refine eI ah1 ?_;intro K h;simp[t0,t3,t4,strs,E,M,Hx,I,H,Y,W,J,b1,O,b2,e3,w2];apply h)|fail)
           simp[Fin,aH,Tryz.f109,hv]
          |false=>
           have hn:cP [p,q] [y,z]=false:=by simp[cP,J,O,e3]
           repeat' (first|refine nI ?_|(refine eI ah1 ?_;intro K h;simp[t0,t3,t4,strs,E,M,Hx,I,H,Y,W,J,b1,O,b2,e3,w2];apply h)|fail)
           refine aN (d2-1) (by omega) ⟨j+1,by omega,by simp[t0,strs],by simp[t3],by simp,by rw[pj];exact hn⟩
       ·have hjj:j=k:=by omega
        subst hjj;have hv:bj a=cb (a.take (j+1)) (a.drop (j+1)):=by
         rw[hp,jF,hs];simp[cb,eR,V,Z,hq]
        repeat' (first|refine nI ?_|(refine eI ah1 ?_;intro K h;simp[t0,t3,t4,strs,w1];apply h)|fail)
        refine aN (d'-1) (by omega) ⟨j+1,by omega,by simp[t0,strs],by simp,hv,Cp⟩
    ·have Wz:((a[k].length:Int)==2)=false:=by simp;omega
     have hv:bj a=3:=by rw[hp];simp[cb,eR,hl2]
     repeat' (first|refine nI ?_|(refine eI ah1 ?_;intro K h;simp[t0,t3,strs,E,I,H,Wz,w1,bne];apply h)|fail)
     simp[Fin,aH,Tryz.f109,hv]
   ·have gg:k=a.length:=by omega
    subst gg
    repeat' (first|refine nI ?_|(refine eI ah1 ?_;intro K h;simp[t0,t3,strs];apply h)|fail)
    have:bj a=0:=by rw[hp];simp[cb]
    simp[Fin,aH,Tryz.f109,this]
end
end Go.Proofs.YtjagmhagphbfcaaGreatDoor.Dn
namespace Go.Proofs.YtjagmhagphbfcaaGreatDoor
@[simp] abbrev aic:List Nat:=[0,1,2,3,4,5,6,10,16,21,26,37,46]
end Go.Proofs.YtjagmhagphbfcaaGreatDoor
namespace Go.Proofs.YtjagmhagphbfcaaGreatDoor.Dn
open Go Go.Proofs Lo Lw
section
variable{P:Program}[l:cL P]
theorem BF:∃F:List AV->Option AV,Den P 83 F/\∀(s:List UInt8),s.length<1000000->F [.s s]=some (.i .i64 (aM s)):=by
 obtain⟨F,h1,h2⟩:=cC (P:=P) (f:=83) (ι:=List UInt8) (λx=> [.s x]) (λx=>.i .i64 (aM x)) (λx=>x.length<1000000) (λx y _ _ e=>by
  simp only[abg,AV.s.injEq,abQ] at e;rw[e]) (λx hx=>BE x hx)
 exact⟨F,h1,h2⟩
theorem BH:∃F:List AV->Option AV,Den P 110 F/\∀a b:Int,F [.ag [.i .i64 a,.i .i64 b]]=some (.b (dR a b)):=by
 obtain⟨F,h1,h2⟩:=cC (P:=P) (f:=110) (ι:=Int×Int) (λx=> [.ag [.i .i64 x.1,.i .i64 x.2]]) (λx=>.b (dR x.1 x.2)) (λ_=>True) (λx y _ _ e=>by
  simp only[abg,AV.ag.injEq,AV.i.injEq,adM,abQ] at e;rw[e.1,e.2]) (λx _=>BG x.1 x.2)
 exact⟨F,h1,λa b=>h2 (a,b) trivial⟩
theorem BI(h:ay)(hf:Fair h):aq P 49 [.ag (aa h)] (.i .i64 (aO h)):=by
 obtain⟨A,ad,W⟩:=ca (D1 (P:=P) h (by have:=hf.L;omega) (by have:=hf.S;omega) (by have:=hf.R;omega));obtain⟨B,bd,hB⟩:=ca (BJ (P:=P) h.alike (λs hs=>by have:=hf.a s hs;omega));obtain⟨C,cd,hC⟩:=BF (P:=P);obtain⟨D,dd,hD⟩:=BH (P:=P);simp only[aa,strs] at W hB;have O:=cV h.tags;refine fi (ak call108 ad (ak call109 bd (ak call83 cd (ak call110 dd (au P))))) func49 rfl rfl ?_;by_cases N:bB h=0
 ·have Y:(bB h==0)=true:=by simp[N]
  by_cases V:bj h.alike=0
  ·have H:(bj h.alike==0)=true:=by simp[V]
   by_cases q3:5<h.tags.length
   ·have J:(5:Int)<h.tags.length:=by omega
    repeat' (first|refine nI ?_|(refine eI aic ?_;intro K p;simp[aa,O,ab,az,W,hB,Y,H,J,bne];apply p)|fail)
    simp[Fin,aH,Tryz.f49,aO,N,V,q3]
   ·have J:¬(5:Int)<h.tags.length:=by omega
    repeat' (first|refine nI ?_|(refine eI aic ?_;intro K p;simp[aa,O,ab,az,W,hB,Y,H,J,bne];apply p)|fail)
    have hh:aO h=cR h.tags:=by simp[aO,N,V,q3]
    refine bE (λd T B lv nx=>∃k,k+d=h.tags.length/\T 1=.sp (aa h)/\T 5=.i .i64 k/\cR h.tags=cR (h.tags.drop k)) h.tags.length ?_ ?_
    ·exact⟨0,by simp,by simp[aa],by simp,by simp⟩
    rintro d T B lv nx ⟨k,hk,t1,t5,hp⟩;have w1:=aS ((k:Int)+1) (by omega) (by omega);by_cases U:k<h.tags.length
    ·have da:=fA h.tags k h.tags[k] (aaf U);have hle:(k+1)*3<=h.tags.length*3:=by omega
     have rM:h.tags.drop k=h.tags[k]::h.tags.drop (k+1):=aa4 U;have hm:h.tags[k]∈h.tags:=abG U;rw[rM] at hp;generalize h.tags[k]=t at da hp hm;have M:=hC t.reads (by have:=hf.t t hm;omega);have I:=hD t.low t.high;by_cases r1:aM t.reads=0
     ·have E:(aM t.reads==0)=true:=by simp[r1]
      cases Z:dR t.low t.high with
      |true=>
       rw[Z] at I
       repeat' (first|refine nI ?_|(refine eI aic ?_;intro K p;simp[t1,t5,aa,U,O,hle,da,ab,az,M,I,E,bne,w1];apply p)|fail)
       refine aN (d-1) (by omega) ⟨k+1,by omega,by simp[t1,aa],by simp,by rw[hp];simp[cR,r1,Z]⟩
      |false=>
       rw[Z] at I;have hv:aO h=1:=by rw[hh,hp];simp[cR,r1,Z]
       repeat' (first|refine nI ?_|(refine eI aic ?_;intro K p;simp[t1,t5,aa,U,O,hle,da,ab,az,M,I,E,bne,w1];apply p)|fail)
       simp[Fin,aH,Tryz.f49,hv]
     ·have E:(aM t.reads==0)=false:=by simp[r1]
      have hv:aO h=aM t.reads:=by rw[hh,hp];simp[cR,r1]
      repeat' (first|refine nI ?_|(refine eI aic ?_;intro K p;simp[t1,t5,aa,U,O,hle,da,ab,az,M,E,bne,w1];apply p)|fail)
      simp[Fin,aH,Tryz.f49,hv]
    ·have gg:k=h.tags.length:=by omega
     subst gg;have hv:aO h=0:=by rw[hh,hp];simp[cR]
     repeat' (first|refine nI ?_|(refine eI aic ?_;intro K p;simp[t1,t5,aa,O];apply p)|fail)
     simp[Fin,aH,Tryz.f49,hv]
  ·have H:(bj h.alike==0)=false:=by simp[V]
   repeat' (first|refine nI ?_|(refine eI aic ?_;intro K p;simp[aa,ab,az,W,hB,Y,H,bne];apply p)|fail)
   simp[Fin,aH,Tryz.f49,aO,N,V]
 ·have Y:(bB h==0)=false:=by simp[N]
  repeat' (first|refine nI ?_|(refine eI aic ?_;intro K p;simp[aa,ab,az,W,Y,bne];apply p)|fail)
  simp[Fin,aH,Tryz.f49,aO,N]
def Fo(h:ay):Bool:= !gC h&&(aO h==0)
theorem Si(h:ay):aq P 30 [.ag (aa h)] (.b (Fo h)):=by
 obtain⟨A,I,p⟩:=ca (KY (P:=P) h);simp only[aa] at p;cases hg:gC h with
 |true=>
  rw[hg] at p;refine fi (ak call16 I (au P)) func30 rfl rfl ?_
  repeat' (first|refine nI ?_|(refine eI [0,1,2] ?_;intro K E;simp[aa,ab,az,p];apply E)|fail)
  simp[Fin,aH,Tryz.f30,Fo,hg]
 |false=>
  rw[hg] at p;obtain⟨B,J,H⟩:=ca (BI (P:=P) h (Jp hg));simp only[aa] at H;refine fi (ak call16 I (ak call49 J (au P))) func30 rfl rfl ?_
  repeat' (first|refine nI ?_|(refine eI [0,1,2] ?_;intro K E;simp[aa,ab,az,p,H];apply E)|fail)
  simp[Fin,aH,Tryz.f30,Fo,hg]
end
structure Tc(h:ay)(w:List UInt8):Prop where
 len:w.length=10
 lets:∀c∈w,isLet c=true
 nod:w.Nodup
 rep:∀q∈h.R,isLet q=true/\q∉w
theorem K4{h:ay}(hf:Fair h):j9 h:=by
 have h1:=hf.L;have h2:=hf.S;have H:=hf.R;have E:=hf.na;have p:=hf.nt;exact⟨by omega,by omega,by omega,by omega,λs hs=>by have:=hf.a s hs;omega,by omega,λt ht=>by have:=hf.t t ht;omega⟩
theorem OO{h:ay}(hf:Fo h=true):Fair h:=by
 unfold Fo at hf;rw[aaZ] at hf;exact Jp (by simpa using hf.1)
theorem Sj{h:ay}(hf:Fo h=true):aO h=0:=by
 unfold Fo at hf;rw[aaZ] at hf;simpa using hf.2
section
variable{P:Program}[l:cL P]
end
end Go.Proofs.YtjagmhagphbfcaaGreatDoor.Dn
namespace Go.Proofs.YtjagmhagphbfcaaGreatDoor
@[simp] abbrev amD:List Nat:=[0,1,4,5,9,19,33]
@[simp] abbrev ams:List Nat:=[0,1,4,5,15,26]
end Go.Proofs.YtjagmhagphbfcaaGreatDoor
namespace Go.Proofs.YtjagmhagphbfcaaGreatDoor.Dn
open Go Go.Proofs Lo Lw
section
variable{P:Program}[l:cL P]
theorem al1(a:List Int)(n:Int)(hn:0<=n/\n<=100)(hl:a.length<=100)(hr:∀x∈a,0<=x/\x<n)(hs:∀k,(hk:k+1<a.length)->a[k]<a[k+1]):aq P 37 [ints a,.i .i64 n] (.i .i64 0):=by
 obtain⟨F,fd,M⟩:∃F:List AV->Option AV,Den P 42 F/\∀x:Int,0<=x/\x<n->F [.i .i64 x,.i .i64 0,.i .i64 (n-1)]=some (.b true):=by
  obtain⟨F,h1,h2⟩:=cC (P:=P) (f:=42) (ι:=Int) (λx=> [.i .i64 x,.i .i64 0,.i .i64 (n-1)]) (λ_=>.b true) (λx=>0<=x/\x<n) (λx y _ _ _=>rfl) (λx hx=>by
   have:=VL (P:=P) x 0 (n-1);rwa[show(decide (0<=x)&&decide (x<=n-1))=true from by simp;omega] at this)
  exact⟨F,h1,h2⟩
 have w0:=aS (n-1) (by omega) (by omega);refine fi (ak call42 fd (au P)) func37 rfl rfl ?_
 repeat' (first|refine nI ?_|(refine eI amD ?_;intro K h;simp[ints];apply h)|fail)
 refine bE (λd T B lv nx=>∃k,k+d=a.length/\T 0=ints a/\T 1=.i .i64 n/\T 5=.i .i64 k) a.length ?_ ?_
 ·exact⟨0,by simp,by simp[ints],by simp,by simp⟩
 rintro d T B lv nx ⟨k,hk,t0,t1,t5⟩;have w1:=aS ((k:Int)+1) (by omega) (by omega);by_cases p:k<a.length
 ·have J:a[k]?=some a[k]:=aaf p;have L:(a.map (AV.i .i64)).drop k=.i .i64 a[k]::(a.map (AV.i .i64)).drop (k+1):=by rw[aa4 (by simpa using p)];simp
  have E:=M a[k] (hr _ (abG p));by_cases h0:0<k
  ·obtain⟨j,V⟩:∃j,k=j+1:=⟨k-1,by omega⟩
   have H:j<a.length:=by omega
   have O:a[j]?=some a[j]:=aaf H;have U:(a.map (AV.i .i64)).drop j=.i .i64 a[j]::(a.map (AV.i .i64)).drop (j+1):=by rw[aa4 (by simpa using H)];simp
   have W:a[j]<a[k]:=by subst V;exact hs j p
   have I:¬a[k]<=a[j]:=by omega
   have w2:IntKind.i64.wrap ((k:Int)-1)=j:=by rw[aS _ (by omega) (by omega)];omega
   generalize a[k]=x at *;generalize a[j]=y at *
   repeat' (first|refine nI ?_|(refine eI amD ?_;intro K h;simp[t0,t1,t5,ints,p,J,L,O,U,w0,w1,w2,ab,E,I,h0,H];apply h)|fail)
   refine aN (d-1) (by omega) ⟨k+1,by omega,by simp[t0,ints],by simp[t1],by simp⟩
  ·repeat' (first|refine nI ?_|(refine eI amD ?_;intro K h;simp[t0,t1,t5,ints,p,J,L,w0,w1,ab,E,h0];apply h)|fail)
   refine aN (d-1) (by omega) ⟨k+1,by omega,by simp[t0,ints],by simp[t1],by simp⟩
 ·have N:k=a.length:=by omega
  subst N
  repeat' (first|refine nI ?_|(refine eI amD ?_;intro K h;simp[t0,t1,t5,ints];apply h)|fail)
  simp[Fin,aH,Tryz.f37]
theorem amo(a:List Int)(k:Nat)(hk:k<a.length)(hl:a.length<=100):aq P 39 [ints a,.i .i64 k] (ints (a.eraseIdx k)):=by
 have w1:=aS ((k:Int)+1) (by omega) (by omega);have I:(k:Int)<=a.length:=by omega
 have H:(k:Int)+1<=a.length:=by omega
 have E:(0:Int)<=(k:Int)+1:=by omega
 have m1:min k a.length*9<=70368744177664:=by omega
 have m2:(min k a.length+(a.length-(k+1)))*9<=70368744177664:=by omega
 have h:(a.map (AV.i .i64)).take a.length=a.map (AV.i .i64):=aa1 (by simp);have he:a.eraseIdx k=a.take k++a.drop (k+1):=List.eraseIdx_eq_take_drop_succ ..;refine fi (au P) func39 rfl rfl ?_
 repeat' (first|refine nI ?_|(refine eI [0,1,4] ?_;intro K p;simp[ints,w1,I,H,E,m1,m2,h];apply p)|fail)
 simp[Fin,aH,Tryz.f39,ints,he]
theorem amd(a b:List Int)(ha:a.length<=100)(hb:b.length<=100):aq P 101 [ints a,ints b] (.b (decide (cmpL a b<0))):=by
 refine fi (au P) func101 rfl rfl ?_
 repeat' (first|refine nI ?_|(refine eI ams ?_;intro K h;simp[ints];apply h)|fail)
 refine bE (λd T B lv nx=>∃k,k+d=a.length/\T 0=ints a/\T 1=ints b/\T 5=.i .i64 k/\cmpL a b=cmpL (a.drop k) (b.drop k)/\k<=b.length) a.length ?_ ?_
 ·exact⟨0,by simp,by simp[ints],by simp[ints],by simp,by simp,by simp⟩
 rintro d T B lv nx ⟨k,hk,t0,t1,t5,hp,O⟩;have w1:=aS ((k:Int)+1) (by omega) (by omega);by_cases H:k<a.length
 ·have J:a[k]?=some a[k]:=aaf H;have M:(a.map (AV.i .i64)).drop k=.i .i64 a[k]::(a.map (AV.i .i64)).drop (k+1):=by rw[aa4 (by simpa using H)];simp
  have ea:a.drop k=a[k]::a.drop (k+1):=aa4 H;generalize a[k]=x at J M ea;by_cases p:k<b.length
  ·have I:b[k]?=some b[k]:=aaf p;have L:(b.map (AV.i .i64)).drop k=.i .i64 b[k]::(b.map (AV.i .i64)).drop (k+1):=by rw[aa4 (by simpa using p)];simp
   have E:b.drop k=b[k]::b.drop (k+1):=aa4 p;generalize b[k]=y at I L E;rw[ea,E] at hp;cases hc:(x==y) with
   |true=>
    have N:tF x y=0:=ald.2 (by simpa using hc)
    repeat' (first|refine nI ?_|(refine eI ams ?_;intro K h;simp[t0,t1,t5,ints,H,p,J,I,M,L,bne,hc,w1];apply h)|fail)
    refine aN (d-1) (by omega) ⟨k+1,by omega,by simp[t0,ints],by simp[t1,ints],by simp,by rw[hp];simp[cmpL,N],by omega⟩
   |false=>
    have N:tF x y≠0:=λe=>by simp[ald.1 e] at hc
    have hv:decide (cmpL a b<0)=decide (x<y):=by
     rw[hp,cmpL,aat N];unfold tF;by_cases h1:x<y
     ·simp[h1]
     ·by_cases h2:y<x <;>simp[h1,h2]
    repeat' (first|refine nI ?_|(refine eI ams ?_;intro K h;simp[t0,t1,t5,ints,H,p,J,I,M,L,bne,hc,w1];apply h)|fail)
    simp[Fin,aH,Tryz.f101,hv]
  ·have E:b.drop k= []:=aeu (by omega);have hv:cmpL a b=1:=by rw[hp,ea,E];rfl
   have V:¬a.length<b.length:=by omega
   repeat' (first|refine nI ?_|(refine eI ams ?_;intro K h;simp[t0,t1,t5,ints,H,p,V];apply h)|fail)
   simp[Fin,aH,Tryz.f101,hv]
 ·have U:k=a.length:=by omega
  subst U;rw[List.drop_length] at hp;by_cases p:a.length<b.length
  ·have E:b.drop a.length=b[a.length]::b.drop (a.length+1):=aa4 p;have hv:cmpL a b= -1:=by rw[hp,E];rfl
   repeat' (first|refine nI ?_|(refine eI ams ?_;intro K h;simp[t0,t1,t5,ints,p];apply h)|fail)
   simp[Fin,aH,Tryz.f101,hv]
  ·have E:b.drop a.length= []:=aeu (by omega);have hv:cmpL a b=0:=by rw[hp,E];rfl
   repeat' (first|refine nI ?_|(refine eI ams ?_;intro K h;simp[t0,t1,t5,ints,p];apply h)|fail)
   simp[Fin,aH,Tryz.f101,hv]
def akU(a b:List Int):Bool:=decide (a.length<b.length)||(a.length==b.length&&decide (cmpL a b<0))
theorem alE(a b:List Int)(ha:a.length<=100)(hb:b.length<=100):aq P 40 [ints a,ints b] (.b (akU a b)):=by
 obtain⟨A,H,E⟩:=ca (amd (P:=P) a b ha hb);simp only[ints] at E;refine fi (ak call101 H (au P)) func40 rfl rfl ?_;by_cases h1:a.length<b.length
 ·repeat' (first|refine nI ?_|(refine eI [0,1,4] ?_;intro K h;simp[ints,h1];apply h)|fail)
  simp[Fin,aH,Tryz.f40,akU,h1]
 ·by_cases h2:a.length=b.length
  ·have p:((a.length:Int)==b.length)=true:=by simp[h2]
   have I:¬(a.length:Int)<b.length:=by omega
   repeat' (first|refine nI ?_|(refine eI [0,1,4] ?_;intro K h;simp[ints,h1,p,ab,E];apply h)|fail)
   simp[Fin,aH,Tryz.f40,akU,h1,h2]
  ·have p:((a.length:Int)==b.length)=false:=by simp;omega
   repeat' (first|refine nI ?_|(refine eI [0,1,4] ?_;intro K h;simp[ints,h1,p];apply h)|fail)
   simp[Fin,aH,Tryz.f40,akU,h1,h2]
end
end Go.Proofs.YtjagmhagphbfcaaGreatDoor.Dn
namespace Go.Proofs.YtjagmhagphbfcaaGreatDoor
@[simp] abbrev amt:List Nat:=[0,1,2,4,5,6,12]
end Go.Proofs.YtjagmhagphbfcaaGreatDoor
namespace Go.Proofs.YtjagmhagphbfcaaGreatDoor.Dn
open Go Go.Proofs Lo Lw
def hM(ts:List Tag)(l:List Int):List Tag:=l.filterMap λi=>ts[i.toNat]?
def alF(ts:List Tag):AV:=if ts= [] then .sq none 0 [] else .sq none 3 (bI ts)
def ak_(h:ay)(ts:List Tag):AV:=.ag [.s h.L,.s h.S,.s h.R,.sq none 1 (h.alike.map .s),alF ts]
section
variable{P:Program}[l:cL P]
theorem amk(h:ay)(a:List Int)(hl:a.length<=20)(hr:∀x∈a,0<=x/\x<h.tags.length)(hn:h.tags.length<=20):aq P 38 [.ag (aa h),ints a] (ak_ h (hM h.tags a)):=by
 have Z:=cV h.tags;refine fi (au P) func38 rfl rfl ?_
 repeat' (first|refine nI ?_|(refine eI amt ?_;intro K p;simp[aa,ints];apply p)|fail)
 refine bE (λd T B lv nx=>∃k c,k+d=a.length/\T 1=ints a/\T 2=.sp (aa h)/\T 4=.bx 1 0/\T 5=.bx 3 0/\T 6=.i .i64 k/\B 1=some (false,[.s [],.s [],.s [],.sq none 0 [],.sq none 0 []])/\B 3=some (false,[.s h.L,.s h.S,.s h.R,.sq none 1 (h.alike.map .s),c])/\
  ((c=.sq none 0 []/\hM h.tags (a.take k)= [])\/∃o,c=.sq (some o) 3 (bI (hM h.tags (a.take k)))/\lv o=some 51/\o<nx/\hM h.tags (a.take k)≠ [])) a.length ?_ ?_
 ·exact⟨0,.sq none 0 [],by simp,by simp[ints],by simp[aa],by simp,by simp,by simp,by simp,by simp,.inl ⟨rfl,by simp[hM]⟩⟩
 rintro d T B lv nx ⟨k,c,hk,t1,t2,t4,t5,t6,b1,J,N⟩;have w1:=aS ((k:Int)+1) (by omega) (by omega);by_cases E:k<a.length
 ·have O:a[k]?=some a[k]:=aaf E;have U:(a.map (AV.i .i64)).drop k=.i .i64 a[k]::(a.map (AV.i .i64)).drop (k+1):=by rw[aa4 (by simpa using E)];simp
  obtain⟨x0,x1⟩:=hr _ (abG E);have Y:a.take (k+1)=a.take k++ [a[k]]:=aaN E;generalize a[k]=x at O U Y x0 x1;obtain⟨j,rfl⟩:∃j:Nat,x=j:=⟨x.toNat,by omega⟩
  have hj:j<h.tags.length:=by omega
  have W:=fA h.tags j h.tags[j] (aaf hj);have eu:(j+1)*3<=h.tags.length*3:=by omega
  have H:hM h.tags (a.take (k+1))=hM h.tags (a.take k)++ [h.tags[j]]:=by
   rw[Y];simp[hM,hj]
  have hlen:(hM h.tags (a.take k)).length<=20:=aaY (List.length_filterMap_le _ _) (by rw[afk];omega);generalize h.tags[j]=t at *;have I:bI (hM h.tags (a.take (k+1)))=bI (hM h.tags (a.take k))++ [.s t.reads,.i .i64 t.low,.i .i64 t.high]:=by rw[H];simp[bI,fP]
  have Rx:=cV (hM h.tags (a.take k));rcases N with ⟨rfl,M⟩|⟨o,rfl,e2,e3,e4⟩
  ·rw[M] at I
   repeat' (first|refine nI ?_|(refine eI amt ?_;intro K p;simp[t1,t2,t4,t5,t6,b1,J,ints,aa,E,O,U,Z,W,eu,w1];apply p)|fail)
   refine aN (d-1) (by omega) ⟨k+1,_,by omega,by simp[t1,ints],by simp[t2,aa],by simp[t4],by simp[t5],by simp,by simp[b1],by simp[J];rfl,.inr ⟨nx+4+11,?_,by simp,by simp,by rw[H];simp⟩⟩;rw[I];rfl
  ·have V:((hM h.tags (a.take k)).length*3+3)*33<=70368744177664:=by omega
   have m1:¬o=nx+4+10:=by omega
   have m4:o<nx+4:=by omega
   repeat' (first|refine nI ?_|(refine eI amt ?_;intro K p;simp[t1,t2,t4,t5,t6,b1,J,ints,aa,E,O,U,Z,W,eu,w1,e2,m1,m4,V,Rx];apply p)|fail)
   refine aN (d-1) (by omega) ⟨k+1,_,by omega,by simp[t1,ints],by simp[t2,aa],by simp[t4],by simp[t5],by simp,by simp[b1],by simp[J];rfl,.inr ⟨nx+4+11,?_,by simp,by simp,by rw[H];simp⟩⟩;rw[I]
 ·have gg:k=a.length:=by omega
  subst gg;rw[aeo] at N;rcases N with ⟨rfl,M⟩|⟨o,rfl,e2,e3,e4⟩
  ·repeat' (first|refine nI ?_|(refine eI amt ?_;intro K p;simp[t1,t2,t4,t5,t6,b1,J,ints,aa,E];apply p)|fail)
   simp[Fin,aH,Tryz.f38,ak_,alF,M]
  ·repeat' (first|refine nI ?_|(refine eI amt ?_;intro K p;simp[t1,t2,t4,t5,t6,b1,J,ints,aa,E];apply p)|fail)
   simp[Fin,aH,Tryz.f38,ak_,alF,e4]
end
def aju(ps:List Int):Nat->List UInt8->List UInt8->List UInt8
 |_,[],_=> []
 |i,c::L,S=>if c=63 then S.getD ((ps.getD i 0).toNat%S.length) 0::aju ps (i+1) L (S.take ((ps.getD i 0).toNat%S.length)++S.drop ((ps.getD i 0).toNat%S.length+1)) else c::aju ps (i+1) L S
theorem ajC(ps:List Int):∀(i:Nat) (L S:List UInt8),S.length=L.count 63->aju ps i L S∈e_ L S
 |_,[],S,_=>by simp[aju,e_]
 |i,c::L,S,hl=>by
  unfold aju e_;by_cases hc:c=63
  ·subst hc;rw[List.count_cons_self] at hl;rw[aay rfl,aay rfl,aeQ];have hk:(ps.getD i 0).toNat%S.length<S.length:=Nat.mod_lt _ (by omega);refine⟨_,aeh.2 hk,ac4.2 ⟨_,ajC ps (i+1) L _ ?_,rfl⟩⟩;rw[abj,afk,ahh];omega
  ·rw[List.count_cons_of_ne hc] at hl;rw[aat hc,aat hc];exact ac4.2 ⟨_,ajC ps (i+1) L S hl,rfl⟩
section
variable{h:ay}{w:List UInt8}(hc:aO h=0)(ho:Tc h w)
include ho
include hc
variable{n g:Int}(hb:aV n g=0)
include hb
end
theorem alz:∀a:List Int,cmpL a a=0
 | []=>rfl
 |x::a=>by rw[cmpL,aay (ald.2 rfl),alz a]
theorem akZ(x y:Int):(x<y/\tF x y= -1)\/(x=y/\tF x y=0)\/(y<x/\tF x y=1):=by
 unfold tF;split <;>(try split) <;>omega
theorem alj:∀a b c:List Int,cmpL a b<0->cmpL b c<=0->cmpL a c<0
 | [],[],c,h,_=>by simp[cmpL] at h
 | [],_::_,[],_,h=>by simp[cmpL] at h
 | [],_::_,_::_,_,_=>by simp[cmpL]
 |_::_,[],c,h,_=>by simp[cmpL] at h
 |_::_,_::_,[],_,h=>by simp[cmpL] at h
 |x::a,y::b,z::c,h,k=>by
  have J:=alj a b c;unfold cmpL at h k ⊢;rcases akZ x y with ⟨h1,H⟩|⟨h1,H⟩|⟨h1,H⟩ <;>rcases akZ y z with ⟨h2,E⟩|⟨h2,E⟩|⟨h2,E⟩ <;>rcases akZ x z with ⟨I,p⟩|⟨I,p⟩|⟨I,p⟩ <;>
   rw[H] at h <;>rw[E] at k <;>rw[p] <;>first|omega|(simp at h k ⊢;done)|(simp at h k ⊢;exact J h k)
theorem alO(a:List Int):akU a a=false:=by simp[akU,alz]
theorem akW(ts:List Tag)(m:Nat):gM ts m=((List.range ts.length).filter m.testBit).map λi:Nat=>(i:Int):=by
 have:((List.range ts.length).filter m.testBit)=(pF ts m).map (·.2):=by
  unfold pF;rw[show(λp:Tag×Nat=>m.testBit p.2)=m.testBit∘(·.2) from rfl,<-List.filter_map];simp[afd]
 rw[this];simp[gM]
theorem amg{ts:List Tag}{m:Nat}{p:Tag×Nat}(h:p∈pF ts m):ts[p.2]?=some p.1:=by
 have:=(afJ.1 h).1;exact List.mem_zipIdx_iff_getElem?.1 this
theorem al5(ts:List Tag)(m:Nat):hM ts (gM ts m)=fD ts m:=by
 unfold hM gM fD;have:∀l:List (Tag×Nat),(∀p∈l,ts[p.2]?=some p.1)->(l.map λp=>(p.2:Int)).filterMap (λi=>ts[i.toNat]?)=l.map (·.1):=by
  intro l
  induction l with
  |nil=>intro _;rfl
  |cons p l E=>
   intro h;have:=h p (by simp);simp[this,E λq hq=>h q (by simp[hq])]
 exact this _ λp hp=>amg hp
theorem alG(ts:List Tag)(m:Nat):∀x∈gM ts m,0<=x/\x<ts.length:=by
 intro x hx;rw[akW] at hx;obtain⟨i,hi,rfl⟩:=ac4.1 hx;have:=aeh.1 (afJ.1 hi).1;omega
theorem alc(ts:List Tag)(m:Nat):(gM ts m).length<=ts.length:=by
 unfold gM;rw[abz];exact km _ _
theorem al9(ts:List Tag)(m k:Nat)(hk:k+1<(gM ts m).length):(gM ts m)[k]<(gM ts m)[k+1]:=by
 have hp:(gM ts m).Pairwise (· < ·):=by
  rw[akW,List.pairwise_map];refine List.Pairwise.imp (λh=>by omega) ((List.pairwise_lt_range (n:=ts.length)).sublist List.filter_sublist)
 exact List.pairwise_iff_getElem.1 hp k (k+1) (by omega) hk (by omega)
theorem al8{ts:List Tag}{m m':Nat}(h:∀i<ts.length,m.testBit i=m'.testBit i):gM ts m=gM ts m'/\fD ts m=fD ts m':=by
 have:pF ts m=pF ts m':=by
  unfold pF;refine List.filter_congr λp hp=>h p.2 ?_
  have:=List.mem_zipIdx_iff_getElem?.1 hp;exact(abi.1 this).1
 unfold gM fD;rw[this];exact⟨rfl,rfl⟩
theorem ale:∀(L:List Nat) (k:Nat) (hk:k<L.length),L.Nodup->L.filter (λj=>j !=L[k])=L.eraseIdx k
 |a::L,0,_,hn=>by
  rw[List.nodup_cons] at hn;simp only[List.getElem_cons_zero,List.eraseIdx_cons_zero,List.filter_cons,bne_self_eq_false,abX,ab3];refine List.filter_eq_self.2 λj E=>?_
  have:j≠a:=λe=>hn.1 (e▸E)
  simpa using this
 |a::L,k+1,hk,hn=>by
  rw[List.nodup_cons] at hn;have h:k<L.length:=by simpa using hk
  have:a≠L[k]:=λe=>hn.1 (e▸abG h)
  have p:=ale L k h hn.2;simp only[List.getElem_cons_succ,List.eraseIdx_cons_succ,List.filter_cons];rw[aay (by simpa using this),p]
theorem al_(ts:List Tag)(m k:Nat)(hm:m<2^ts.length)(hk:k<(gM ts m).length):∃m'<2^ts.length,gM ts m'=(gM ts m).eraseIdx k:=by
 rw[akW] at hk ⊢;rw[abz] at hk;have hnd:((List.range ts.length).filter m.testBit).Nodup:=List.nodup_range.sublist List.filter_sublist;generalize p:(List.range ts.length).filter m.testBit=L at *;have hi:L[k]∈(List.range ts.length).filter m.testBit:=by rw[p];exact abG hk
 obtain⟨h1,h2⟩:=afJ.1 hi;have h1:=aeh.1 h1;refine⟨m^^^2^L[k],Nat.xor_lt_two_pow hm (Nat.pow_lt_pow_right (by decide) h1),?_⟩;rw[akW];have e:(List.range ts.length).filter (m^^^2^L[k]).testBit=L.eraseIdx k:=by
  rw[<-ale L k hk hnd];generalize L[k]=i at *;rw[<-p,List.filter_filter];refine List.filter_congr λj _=>?_
  rw[Nat.testBit_xor,Nat.testBit_two_pow];by_cases h:j=i
  ·subst h;simp[h2]
  ·have:¬i=j:=λe=>h e.symm
   simp[h,this]
 rw[e];apply aer;intro j;simp only[aeq,List.getElem?_eraseIdx];split <;>rfl
structure Found(h:ay)(k:Nat)(st:List Int×Bool):Prop where
 at_:st.2=true->∃m<k,st.1=gM h.tags m/\aB (wq h m)= []
 least:st.2=true->∀m<k,aB (wq h m)= []->akU (gM h.tags m) st.1=false
 none:st.2=false->∀m<k,aB (wq h m)≠ []
theorem ala(h:ay):∀k,Found h k (cH h k)
 |0=>⟨λe=>by simp[cH] at e,λe=>by simp[cH] at e,λ_ m hm=>by omega⟩
 |k+1=>by
  have J:=ala h k;have e:cH h (k+1)=dM h (cH h k) k:=by unfold cH;rw[agG,ag9];rfl
  rw[e];generalize cH h k=st at J;obtain⟨H,found⟩:=st;obtain⟨i1,i2,i3⟩:=J;simp only at i1 i2 i3;unfold dM;simp only;by_cases hb:gq H found (gM h.tags k)=true
  ·rw[aay hb];have hf:found=true:=by unfold gq at hb;simp only[aaZ] at hb;exact hb.1
   subst hf;refine⟨λ_=>?_,λ_ m hm hw=>?_,λh=>by cases h⟩
   ·obtain⟨m,a,b⟩:=i1 rfl;exact⟨m,by omega,b⟩
   ·by_cases p:m<k
    ·exact i2 rfl m p hw
    ·obtain rfl:m=k:=by omega
     simp only[gq,Bool.true_and,adr,aan,aaZ] at hb;simp only[akU,Bool.or_eq_false_iff,aac,Bool.and_eq_false_iff,ady];rcases hb with hb|⟨O,N⟩
     ·exact⟨by omega,.inl (by omega)⟩
     ·exact⟨by omega,.inr (by omega)⟩
  ·rw[aat hb];by_cases hw:aB (wq h k)= []
   ·rw[aay hw];refine⟨λ_=>⟨k,by omega,rfl,hw⟩,λ_ m hm E=>?_,λh=>by cases h⟩;by_cases p:m<k
    ·cases found with
     |false=>exact absurd E (i3 rfl m p)
     |true=>
      have:=i2 rfl m p E;simp only[gq,Bool.true_and,adr,aan,aaZ,not_or,not_and] at hb;simp only[akU,Bool.or_eq_false_iff,aac,Bool.and_eq_false_iff,ady] at this ⊢;obtain⟨_,M⟩:=this;refine⟨by omega,?_⟩;by_cases hl:(gM h.tags m).length=(gM h.tags k).length
      ·right;intro hc;by_cases hl2:(gM h.tags k).length=H.length
       ·have h2:=hb.2 hl2;have L:=alj _ _ _ hc (show cmpL (gM h.tags k) H<=0 by omega);rcases M with I|I
        ·exact I (by omega)
        ·exact I L
       ·omega
      ·exact .inl hl
    ·obtain rfl:m=k:=by omega
     exact alO _
   ·rw[aat hw];refine⟨λhf=>?_,λhf m hm E=>?_,λhf m hm=>?_⟩
    ·obtain⟨m,a,b⟩:=i1 hf;exact⟨m,by omega,b⟩
    ·by_cases p:m<k
     ·exact i2 hf m p E
     ·obtain rfl:m=k:=by omega
      exact absurd E hw
    ·by_cases p:m<k
     ·exact i3 hf m p
     ·obtain rfl:m=k:=by omega
      exact hw
theorem alh:∀l:List Tag,cR l=0->∀t∈l,aM t.reads=0/\dR t.low t.high=true
 | [],_,t,ht=>by simp at ht
 |a::l,h,t,ht=>by
  unfold cR at h;split at h
  ·rename_i h1;exact absurd h h1
  ·rename_i h1;split at h
   ·cases h
   ·rename_i h2;rcases abZ.1 ht with rfl|ht
    ·exact⟨by simpa using h1,by simpa using h2⟩
    ·exact alh l h t ht
theorem alm:∀l:List Tag,(∀t∈l,aM t.reads=0/\dR t.low t.high=true)->cR l=0
 | [],_=>rfl
 |a::l,h=>by
  obtain⟨h1,h2⟩:=h a (by simp);unfold cR;rw[aat (by simp[h1]),aat (by simp[h2])];exact alm l λt ht=>h t (by simp[ht])
theorem ami{h:ay}(hc:aO h=0){ts:List Tag}(hs:∀t∈ts,t∈h.tags)(hl:ts.length<=5):aO { h with tags:=ts } =0:=by
 obtain⟨_,_,_,E⟩:=checked h hc;have p:=alm ts λt ht=>alh _ E t (hs t ht)
 unfold aO at hc ⊢;have H:bB { h with tags:=ts } =bB h:=rfl;rw[H];split at hc
 ·rename_i h;exact absurd hc h
 rename_i a1;rw[aat a1];split at hc
 ·rename_i h;exact absurd hc h
 rename_i a2;rw[aat a2,aat (by simp only;omega),p]
theorem alN{h:ay}(hc:aO h=0):bJ h []=if aB h= [] then 9 else 0:=by
 unfold bJ;rw[aat (by simp[hc])];simp[bN]
def aq7(n:Nat)(l:List Int):Prop:=(∀x∈l,0<=x/\x<n)/\∀k,(hk:k+1<l.length)->l[k]<l[k+1]
section
variable{h:ay}(hc:aO h=0)
theorem amj(h:ay):wq h (2^h.tags.length-1)=h:=by
 have:fD h.tags (2^h.tags.length-1)=h.tags:=by
  unfold fD pF;rw[List.filter_eq_self.2]
  ·simp
  ·intro p hp;have:=List.mem_zipIdx_iff_getElem?.1 hp;have:=(abi.1 this).1;simp[Nat.testBit_two_pow_sub_one,this]
 unfold wq;rw[this]
theorem alg(hw:aB h= []):(cH h (2^h.tags.length)).2=true:=by
 cases hf:(cH h (2^h.tags.length)).2 with
 |true=>rfl
 |false=>
  have:=(ala h _).none hf (2^h.tags.length-1) (by have:=Nat.two_pow_pos h.tags.length;omega);rw[amj] at this;exact absurd hw this
theorem alM(hw:aB h= []):qD h=(cH h (2^h.tags.length)).1:=by unfold qD;rw[aat (by simp[hw])]
theorem alb(hw:aB h= []):∃m<2^h.tags.length,qD h=gM h.tags m/\aB (wq h m)= []:=by
 rw[alM hw];exact(ala h _).at_ (alg hw)
theorem alf(hw:aB h= [])(m:Nat)(hm:aB (wq h m)= []):akU (gM h.tags m) (qD h)=false:=by
 have hb:∀i<h.tags.length,m.testBit i=(m%2^h.tags.length).testBit i:=λi hi=>by
  rw[Nat.testBit_mod_two_pow];simp[hi]
 obtain⟨H,E⟩:=al8 hb;have p:aB (wq h (m%2^h.tags.length))= []:=by unfold wq at hm ⊢;rw[<-E];exact hm
 rw[alM hw,H];exact(ala h _).least (alg hw) _ (Nat.mod_lt _ (Nat.two_pow_pos _)) p
theorem amb(h:ay):aq7 h.tags.length (qD h):=by
 by_cases hw:aB h= []
 ·obtain⟨m,_,e,_⟩:=alb hw;rw[e];exact⟨alG _ _,al9 _ _⟩
 ·rw[show qD h= [] from by unfold qD;rw[aay hw]];exact⟨by simp,by simp⟩
include hc
theorem ama(hw:aB h= []):0<(qD h).length:=by
 obtain⟨m,_,e,hm⟩:=alb hw;rw[e];refine Nat.pos_of_ne_zero λh0=>?_
 have hp:pF h.tags m= []:=by unfold gM at h0;rw[abz] at h0;exact abA h0
 have:aju [] 0 h.L h.S∈aB (wq h m):=by
  refine afJ.2 ⟨ajC [] 0 h.L h.S (checked h hc).1.2.2.2.2.2.1,?_⟩;simp[Az,wq,fD,hp]
 rw[hm] at this;cases this
theorem amc(hw:aB h= [])(k:Nat)(hk:k<(qD h).length):∃m,gM h.tags m=(qD h).eraseIdx k/\aB (wq h m)≠ []:=by
 obtain⟨m,hm,e,_⟩:=alb hw;rw[e] at hk ⊢;obtain⟨m',_,e'⟩:=al_ h.tags m k hm hk;refine⟨m',e',λp=>?_⟩;have:=alf hw m' p;rw[e,e'] at this;simp only[akU,Bool.or_eq_false_iff,aac,List.length_eraseIdx,hk,acC] at this;omega
end
end Go.Proofs.YtjagmhagphbfcaaGreatDoor.Dn
namespace Go.Proofs.YtjagmhagphbfcaaGreatDoor
@[simp] abbrev amh:List Nat:=[0,1,2,4,5,6,7,8,10,11,13,14,15,17,20,64,66,76,80,93,98,105]
end Go.Proofs.YtjagmhagphbfcaaGreatDoor
namespace Go.Proofs.YtjagmhagphbfcaaGreatDoor.Dn
open Go Go.Proofs Lo Lw
theorem amm(ts:List Tag):cOk (alF ts) ts:=by
 unfold alF;split
 ·rename_i h;exact .inl ⟨rfl,h⟩
 ·exact .inr ⟨none,rfl⟩
section
variable{P:Program}[l:cL P]
omit l in
theorem aq.aq3{f:FuncId}(h:ay)(c:AV)(hc:cOk c h.tags){res:AV}(h0:aq P f [.ag (aa h)] res):aq P f [.ag [.s h.L,.s h.S,.s h.R,.sq none 1 (h.alike.map .s),c]] res:=by
 rcases hc with ⟨rfl,p⟩|⟨o,rfl⟩
 ·have e:aa h= [.s h.L,.s h.S,.s h.R,.sq none 1 (h.alike.map .s)]++.sq none 3 []:: []:=by simp[aa,p,bI]
  rw[e] at h0;exact aq.PJ (pre:= [.s h.L,.s h.S,.s h.R,.sq none 1 (h.alike.map .s)]) (suf:= []) h0
 ·exact aq.FP (pre:= [.s h.L,.s h.S,.s h.R,.sq none 1 (h.alike.map .s)]) (suf:= []) h0
theorem ame(h:ay)(hc:aO h=0)(hm:j9 h):∃F:List AV->Option AV,Den P 36 F/\∀ts c,(∀t∈ts,t∈h.tags)->ts.length<=5->cOk c ts->F [.ag [.s h.L,.s h.S,.s h.R,.sq none 1 (h.alike.map .s),c]]=
  some (.tu [.i .i64 (aB { h with tags:=ts }).length,.i .i64 (if aB { h with tags:=ts } = [] then 9 else 0)]):=by
 obtain⟨F,h1,h2⟩:=cC (P:=P) (f:=36) (ι:=List Tag×AV) (λx=> [.ag [.s h.L,.s h.S,.s h.R,.sq none 1 (h.alike.map .s),x.2]]) (λx=>.tu [.i .i64 (aB { h with tags:=x.1 }).length,.i .i64 (if aB { h with tags:=x.1 } = [] then 9 else 0)]) (λx=>(∀t∈x.1,t∈h.tags)/\x.1.length<=5/\cOk x.2 x.1) (λx y hx hy e=>by
  simp only[abg,AV.ag.injEq,adM,abQ] at e;have:x.1=y.1:=by
   rcases hx.2.2 with ⟨h1,h2⟩|⟨o,h1⟩ <;>rcases hy.2.2 with ⟨p,J⟩|⟨o',p⟩
   ·rw[h2,J]
   ·rw[h1,p] at e;simp at e
   ·rw[h1,p] at e;simp at e
   ·rw[h1,p] at e;simp only[AV.sq.injEq,adM] at e;exact oS e.2
  rw[this]) (λx hx=>by
  obtain⟨ts,c⟩:=x;obtain⟨E,I,H⟩:=hx;simp only at E I H;have hb:=alN (ami hc E I);have:=aq.aq3 { h with tags:=ts } c H (Gg (P:=P) { h with tags:=ts } ⟨hm.L,hm.S,hm.R,hm.n,hm.a,by simp only;omega,λt ht=>hm.t t (E t ht)⟩);rw[bK,hb] at this;by_cases hw:aB { h with tags:=ts } = []
  ·simpa[hw] using this
  ·simpa[hw] using this)
 exact⟨F,h1,λts c a b d=>h2 (ts,c) ⟨a,b,d⟩⟩
theorem aml(h:ay)(hn:h.tags.length<=5):∃F:List AV->Option AV,Den P 38 F/\∀a:List Int,a.length<=20->(∀x∈a,0<=x/\x<h.tags.length)->F [.ag (aa h),ints a]=some (ak_ h (hM h.tags a)):=by
 obtain⟨F,h1,h2⟩:=cC (P:=P) (f:=38) (ι:=List Int) (λa=> [.ag (aa h),ints a]) (λa=>ak_ h (hM h.tags a)) (λa=>a.length<=20/\∀x∈a,0<=x/\x<h.tags.length) (λx y _ _ e=>by
  simp only[ints,abg,AV.sq.injEq,adM,abQ] at e;rw[NG e]) (λa ha=>amk h a ha.1 ha.2 (by omega))
 exact⟨F,h1,λa x y=>h2 a ⟨x,y⟩⟩
theorem amr(a:List Int)(hl:a.length<=100):∃F:List AV->Option AV,Den P 39 F/\∀k:Nat,k<a.length->F [ints a,.i .i64 k]=some (ints (a.eraseIdx k)):=by
 obtain⟨F,h1,h2⟩:=cC (P:=P) (f:=39) (ι:=Nat) (λk=> [ints a,.i .i64 k]) (λk=>ints (a.eraseIdx k)) (λk=>k<a.length) (λx y _ _ e=>by
  simp only[abg,AV.i.injEq,adM,abQ,Int.natCast_inj] at e;rw[e]) (λk hk=>amo a k hk hl)
 exact⟨F,h1,h2⟩
set_option maxHeartbeats 800000 in
theorem alI(e17:Enters P 17)(Xl:aq P 17 [] (.b true))(h:ay)(b:Int)(C6:0<=b)(hb:b<=255):aq P 6 [eG h,.i .u8 b] (.b true):=by
 obtain⟨A,ad,Z⟩:=ca (Si (P:=P) h);obtain⟨T,td,Y⟩:=ca Xl;simp only[aa] at Z;have M:=cV h.tags;cases hf:Fo h with
 |false=>
  rw[hf] at Z;refine fi (ak call30 ad (ak e17 td (au P))) func6 rfl rfl ?_
  repeat' (first|refine nI ?_|(refine eI amh ?_;intro K p;simp[eG,aa,ab,az,Z,Y];apply p)|fail)
  simp[Fin,aH,Tryz.f6]
 |true=>
 rw[hf] at Z;have hm:=K4 (OO hf);have hc:=Sj hf;have Wp:=(checked h hc).2.2.1;have U:=Le (P:=P) h hm;rw[tG,aat (by simp[hc])] at U;obtain⟨C,cd,hC⟩:=ca U;obtain⟨W,wd,hW⟩:=ame (P:=P) h hc hm;have H:=hW h.tags (.sq none 3 (bI h.tags)) (λ_ h=>h) Wp (.inr ⟨none,rfl⟩);change W _=some (.tu [.i .i64 (aB h).length,.i .i64 (if aB h= [] then 9 else 0)]) at H;have vK:(qD h).length<=h.tags.length:=by
  unfold qD;split
  ·simp
  ·exact FC _ _
 have V:=amb h;obtain⟨R,rd,hR⟩:=ca (al1 (P:=P) (qD h) h.tags.length (by omega) (by omega) V.1 V.2);simp only[aa,ints] at hC hR;by_cases hw:aB h= []
 ·obtain⟨O,od,hO⟩:=aml (P:=P) h Wp;obtain⟨D,dd,hD⟩:=amr (P:=P) (qD h) (by omega);obtain⟨B,rfl⟩:∃B:Nat,b=B:=⟨b.toNat,by omega⟩
  obtain⟨S,sd,hS⟩:=ca (alE (P:=P) (gM h.tags B) (qD h) (by have:=alc h.tags B;omega) (by omega));have N:∀m,O [.ag (aa h),ints (gM h.tags m)]=some (ak_ h (fD h.tags m))/\W [ak_ h (fD h.tags m)]=some (.tu [.i .i64 (aB (wq h m)).length,.i .i64 (if aB (wq h m)= [] then 9 else 0)]):=λm=>by
   have h1:=hO (gM h.tags m) (by have:=alc h.tags m;omega) (alG _ _);rw[al5] at h1;exact⟨h1,hW _ _ (λt ht=>zZ ht) (by unfold fD;rw[abz];exact aaY (km _ _) Wp) (amm _)⟩
  have hpL:=ama hc hw;have amC:=alf hw B;have Au:=amc hc hw;obtain⟨m,_,Yz,hm2⟩:=alb hw;obtain⟨o1,o2⟩:=N m;rw[<-Yz] at o1;rw[hm2,aay rfl] at o2;obtain⟨o3,J⟩:=N B;rw[aay hw,hw] at H;clear hO hW V Yz hm2 U;generalize qD h=L at *;simp only[aa,ak_,ints] at o1 o2 o3 J hS hD;refine fi (ak call30 ad (ak e17 td (ak call35 cd (ak call36 wd (ak call37 rd (ak call38 od (ak call39 dd (ak call40 sd (au P))))))))) func6 rfl rfl ?_
  repeat' (first|refine nI ?_|(refine eI amh ?_;intro K p;simp[eG,aa,ab,az,Z,Y,hC,H,hR,M,hpL,o1,o2,bne];apply p)|fail)
  refine bE (λd T B' lv nx=>∃k,k+d=L.length/\T 1=.i .u8 B/\T 2=.sp (aa h)/\T 5=ints L/\T 11=.i .i64 k) L.length ?_ ?_
  ·exact⟨0,by simp,by simp,by simp[aa],by simp[ints],by simp⟩
  rintro d T' B' lv nx ⟨k,hk,t1,t2,t5,t11⟩;have w1:=aS ((k:Int)+1) (by omega) (by omega);by_cases aK:k<L.length
  ·have hDk:=hD k aK;obtain⟨m',q1,q2⟩:=Au k aK;obtain⟨o5,o6⟩:=N m';rw[q1] at o5;rw[aat q2] at o6;simp only[aa,ak_,ints] at o5 o6;generalize L.eraseIdx k=E at *
   repeat' (first|refine nI ?_|(refine eI amh ?_;intro K p;simp[t1,t2,t5,t11,aa,ints,aK,ab,az,hDk,o5,o6,w1,bne];apply p)|fail)
   refine aN (d-1) (by omega) ⟨k+1,by omega,by simp[t1],by simp[t2,aa],by simp[t5,ints],by simp⟩
  ·repeat' (first|refine nI ?_|(refine eI amh ?_;intro K p;simp[t1,t2,t5,t11,aa,ints,aK];apply p)|fail)
   refine bE (λd T B' lv nx=>∃j τ,j+d=h.tags.length/\T 1=.i .u8 B/\T 2=.sp (aa h)/\T 5=ints L/\T 15=.i .i64 j/\T 14=.sq (some τ) 1 ((gM (h.tags.take j) B).map (.i .i64))/\lv τ=some 3/\τ<nx) h.tags.length ?_ ?_
   ·exact⟨0,nx+4,by simp,by simp,by simp[aa],by simp[ints],by simp,by simp[gM,pF],by simp,by simp⟩
   rintro d T'' B'' lv nx ⟨j,τ,hj,t1,t2,t5,t15,t14,l14,hτ⟩;have w2:=aS ((j:Int)+1) (by omega) (by omega);by_cases Am:j<h.tags.length
   ·have P6:=G_ h.tags B j Am;have I:¬(j:Int)<0:=by omega
    obtain⟨q,hq⟩:∃q,q=B/2^j:=⟨_,rfl⟩
    have hfd:(B:Int).fdiv (2^(min j IntKind.u8.bits))=(q:Int):=by
     have e1:min j IntKind.u8.bits=j:=by
      have hb8:IntKind.u8.bits=8:=rfl;rw[hb8];omega
     have e2:(2:Int)^j=((2^j:Nat):Int):=by simp
     rw[e1,e2,Int.fdiv_eq_ediv_of_nonneg _ (Int.natCast_nonneg _),hq];simp
    have hq8:q<256:=by
     have:q<=B:=by rw[hq];exact Nat.div_le_self _ _
     omega
    have hnd:(IntKind.u8.wrap ((q%2^IntKind.u8.bits&&&1%2^IntKind.u8.bits:Nat):Int)==1)=B.testBit j:=by
     have e1:q%2^IntKind.u8.bits=q:=Nat.mod_eq_of_lt (by show q<2^8;omega);have e2:1%2^IntKind.u8.bits=1:=rfl;rw[e1,e2,Nat.and_one_is_mod,Nat.testBit_eq_decide_div_mod_eq,<-hq];rcases(by omega:q%2=0\/q%2=1) with e|e <;>rw[e] <;>rfl
    have hlen:((gM (h.tags.take j) B).length+1)*9<=70368744177664:=by
     have:=alc (h.tags.take j) B;rw[afk] at this;omega
    cases hbj:B.testBit j with
    |false=>
     rw[hbj] at hnd P6;have hI:gM (h.tags.take (j+1)) B=gM (h.tags.take j) B:=by unfold gM;rw[P6];simp
     repeat' (first|refine nI ?_|(refine eI amh ?_;intro K p;simp[t1,t2,t5,t14,t15,aa,ints,Am,M,I,hfd,hnd,w2];apply p)|fail)
     refine aN (d-1) (by omega) ⟨j+1,τ,by omega,by simp[t1],by simp[t2,aa],by simp[t5,ints],by simp,by simp[t14,hI],by simp[l14],by simp <;>omega⟩
    |true=>
     rw[hbj] at hnd P6;have hI:gM (h.tags.take (j+1)) B=gM (h.tags.take j) B++ [(j:Int)]:=by unfold gM;rw[P6];simp
     have ZO:τ<nx+5+5:=by omega
     have n9:¬τ=nx+5+5+2:=by omega
     repeat' (first|refine nI ?_|(refine eI amh ?_;intro K p;simp[t1,t2,t5,t14,t15,l14,ZO,n9,hlen,aa,ints,Am,M,I,hfd,hnd,w2];apply p)|fail)
     refine aN (d-1) (by omega) ⟨j+1,nx+5+5+3,by omega,by simp[t1],by simp[t2,aa],by simp[t5,ints],by simp,by simp[hI],by simp,by simp⟩
   ·have I:j=h.tags.length:=by omega
    subst I;rw[aeo] at t14;cases Ca:akU (gM h.tags B) L with
    |true=>
     rw[aat (λe=>by rw[amC e] at Ca;cases Ca)] at J
     repeat' (first|refine nI ?_|(refine eI amh ?_;intro K p;simp[t1,t2,t5,t14,t15,aa,ints,M,ab,az,o3,J,Y,bne];apply p)|fail)
     simp[Fin,aH,Tryz.f6]
    |false=>
     rw[Ca] at hS;by_cases hwB:aB (wq h B)= []
     ·rw[aay hwB] at J
      repeat' (first|refine nI ?_|(refine eI amh ?_;intro K p;simp[t1,t2,t5,t14,t15,aa,ints,M,ab,az,o3,J,hS,Y,bne];apply p)|fail)
      simp[Fin,aH,Tryz.f6]
     ·rw[aat hwB] at J
      repeat' (first|refine nI ?_|(refine eI amh ?_;intro K p;simp[t1,t2,t5,t14,t15,aa,ints,M,ab,az,o3,J,Y,bne];apply p)|fail)
      simp[Fin,aH,Tryz.f6]
 ·have KH:qD h= []:=by unfold qD;rw[aay hw]
  rw[KH] at hC hR;rw[aat hw] at H;have mM:0<(aB h).length:=agz.2 hw;have lq:(((aB h).length:Int)==0)=false:=by rw[ady];omega
  simp only[List.map_nil] at hC hR;refine fi (ak call30 ad (ak e17 td (ak call35 cd (ak call36 wd (ak call37 rd (au P)))))) func6 rfl rfl ?_
  repeat' (first|refine nI ?_|(refine eI amh ?_;intro K p;simp[eG,aa,ab,az,Z,Y,hC,H,hR,M,mM,lq,hw,bne];apply p)|fail)
  simp[Fin,aH,Tryz.f6]
end
end Go.Proofs.YtjagmhagphbfcaaGreatDoor.Dn
