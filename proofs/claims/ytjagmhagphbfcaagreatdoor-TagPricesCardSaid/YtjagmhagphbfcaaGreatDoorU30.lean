/- Part 30 of a proof (made small by a program; blanks, names and remarks only). -/
import Derived.Conc.LeavingOf
import Derived.Carry
import Derived.LaidMore
import Derived.LaidHandle
import Derived.ChangeSame
import Derived.LaidLaws
import Derived.Test.YtjagmhagphbfcaaGreatDoorCards
import Derived.Test.YtjagmhagphbfcaaGreatDoorTie
import Derived.Test.YtjagmhagphbfcaaGreatDoorU29
set_option maxRecDepth 100000
set_option linter.all false
namespace Go.Proofs.YtjagmhagphbfcaaGreatDoor
def af7:=@Go.Proofs.Tryz.underlying4
open Go Go.Proofs Go.Conc Go.ChangeShapes Go.WideShapes Go.ChangeAt Go.RowKit
def xi:List (String×DataW Unit):= [("nosale/tag.checks",Rows.laid_nosale_tag_checks)]
def nm0:List UInt8:= [40,110,111,115,97,108,101,47,116,97,103,46,104,111,117,115,101,41,46,108,101,116,116,101,114,115]
def nm1:List UInt8:= [40,110,111,115,97,108,101,47,116,97,103,46,104,111,117,115,101,41,46,112,97,105,114,115]
def nm2:List UInt8:= [40,110,111,115,97,108,101,47,116,97,103,46,104,111,117,115,101,41,46,116,97,103,115]
theorem MY:ownKnob Tryz.prog.godebug=none:=by kernel_rfl
theorem Nu:laidOutB Tryz.prog=true:=by kernel_rfl
theorem z0:(((begin Tryz.prog (λ_ _=>0) default).world.heap[0]?).bind Obj.row?).map (λx=>(x.1.size,x.2))=some (3,140):=by kernel_rfl
theorem z1:(((begin Tryz.prog (λ_ _=>0) default).world.heap[1]?).bind Obj.row?).map (λx=>(x.1.size,x.2))=some (1,3):=by kernel_rfl
theorem z2:(((begin Tryz.prog (λ_ _=>0) default).world.heap[2]?).bind Obj.row?).map (λx=>(x.1.size,x.2))=some (256,226):=by kernel_rfl
theorem z3:(((begin Tryz.prog (λ_ _=>0) default).world.heap[3]?).bind Obj.row?).map (λx=>(x.1.size,x.2))=some (32,229):=by kernel_rfl
theorem UT:Tryz.prog.cellTypes Tryz.prog.depth 3=some [3]:=by kernel_rfl
theorem OH:Tryz.prog.globals.size=4:=rfl
theorem oW{W:World}(h:W.ShapedOpen Tryz.prog){g n t:Nat}(hg:g<4)(hz:(((begin Tryz.prog (λ_ _=>0) default).world.heap[g]?).bind Obj.row?).map (λx=>(x.1.size,x.2))=some (n,t)):
  ∃cs,W.heap[g]?=some (.cells cs t)/\cs.size=n/\(Tryz.prog.buildable t=true->Row.ok Tryz.prog W .any 0 t cs):=by
 rw[aeb] at hz;obtain⟨⟨zero,t'⟩,h1,h2⟩:=hz;cases h2;obtain⟨cs,H,E,p⟩:=h.1 g zero t' (by rw[OH];exact hg) h1;exact⟨cs,H,E,p⟩
theorem rj{W:World}{b n t:Nat}{cs:Array Value}(h:W.heap[b]?=some (.cells cs t))(hn:cs.size=n):W.shape? b=some (t,n):=by
 unfold World.shape?;rw[h,<-hn]
theorem OG{W:World}(h:W.ShapedOpen Tryz.prog):AU W/\(∃k n e fr,W.heap[1]?=some (.cells #[.int k n] e fr))/\4<=W.heap.size:=by
 obtain⟨c0,a0,b0,_⟩:=oW h (g:=0) (by decide) z0;obtain⟨c1,a1,b1,d1⟩:=oW h (g:=1) (by decide) z1;obtain⟨c2,a2,b2,_⟩:=oW h (g:=2) (by decide) z2;obtain⟨c3,a3,H,_⟩:=oW h (g:=3) (by decide) z3;refine⟨⟨rj a0 b0,rj a1 b1,rj a2 b2,rj a3 H⟩,?_,(aah.1 a3).1⟩;obtain⟨ts,p,_,E⟩:=d1 (by kernel_rfl);rw[UT] at p;cases p;obtain⟨v,rfl⟩:∃v,c1= #[v]:=⟨c1[0],by apply Array.ext <;>simp_all⟩
 obtain⟨u,hu,hv⟩:=E 0 v rfl;cases hu;unfold Cell.ok at hv;rw[aeO] at hv;cases v with
 |int k n=>exact⟨k,n,_,_,a1⟩
 |_=>exact hv.elim
theorem QZ:((List.range Tryz.prog.funcs.size).filter λf=>(Tryz.prog.funcs[f]?).any (·.name.toUTF8.data.toList==nm0))= [255]:=by kernel_rfl
theorem QY:((List.range Tryz.prog.funcs.size).filter λf=>(Tryz.prog.funcs[f]?).any (·.name.toUTF8.data.toList==nm1))= [256]:=by kernel_rfl
theorem QX:((List.range Tryz.prog.funcs.size).filter λf=>(Tryz.prog.funcs[f]?).any (·.name.toUTF8.data.toList==nm2))= [257]:=by kernel_rfl
theorem Pe:Tryz.prog.cellsOf 139=1:=by kernel_rfl
theorem Pd:Tryz.prog.cellsOf 140=3:=by kernel_rfl
theorem Jl:Tryz.prog.globalNamed "nosale/tag.checks" =some 0:=by kernel_rfl
theorem Qx:(Tryz.prog.globals[0]?).map (·.type)=some 140:=by kernel_rfl
theorem UY{W:World}(h:laidMetH Tryz.prog xi W):∃e fr,W.heap[0]?=some (.cells F0 e fr):=by
 have hf:=laidMetH.funcs h (n:= "nosale/tag.checks") (d:=.agg [.iface "func" (.lit (.string nm0)),.iface "func" (.lit (.string nm1)),.iface "func" (.lit (.string nm2))]) (by exact acE.2 rfl);obtain⟨g,t,cs,fuel,p,hg,ht,hv,hd⟩:=hf;obtain rfl:=adw (Jl.symm.trans hg);obtain rfl:=adw (Qx.symm.trans ht);obtain⟨xs,m,_,hx,hlen,hn,E⟩:=DataW.trod_array Tryz.underlying140 hd;rw[Pd] at hlen;obtain⟨I,x1,H,rfl⟩:=Ri hn;obtain⟨c0,c1,c2,L⟩:=Ri hlen;simp only[Prod.mk.injEq] at hx;have hx1:(DataW.agg [.held nm0,.held nm1,.held nm2]:DataW (List UInt8))=.agg [I.1,x1.1,H.1]:=hx.1;simp only[DataW.agg.injEq,abg,abQ] at hx1;obtain⟨O,N,M⟩:=hx1;rw[Pe,L] at E;have h0:DataW.trod (funcToken Tryz.prog) Tryz.prog W 0 (λ_=>true) true m 139 [c0]=some I:=E 0 (by decide);have h1:DataW.trod (funcToken Tryz.prog) Tryz.prog W 0 (λ_=>true) true m 139 [c1]=some x1:=E 1 (by decide);have h2:DataW.trod (funcToken Tryz.prog) Tryz.prog W 0 (λ_=>true) true m 139 [c2]=some H:=E 2 (by decide);obtain⟨Y,p0⟩:=I;obtain⟨y1,Z⟩:=x1;obtain⟨y2,p2⟩:=H;simp only at O N M;subst O N M;have r0:=func_of_trod Tryz.underlying139 QZ h0;have r1:=func_of_trod Tryz.underlying139 QY h1;have U:=func_of_trod Tryz.underlying139 QX h2;subst r0 r1 U;have J:cs=F0:=by
  rw[<-Array.toList_inj,L];rfl
 subst J;unfold World.var? at hv;rw[Jl] at hv;simp only[abN] at hv;split at hv
 ·rename_i V e fr hz;cases hv;exact⟨e,fr,hz⟩
 ·cases hv
section
variable{H:Type}{enc:TypeId×Value->H}
theorem AN{W J:World}(hb:Below W.heap.size W J):∀ {ts:List TypeId} {vs:List Value} {E:List (DataW H)} {ps:List MemPlace},(∀t∈ts,Tryz.prog.readableRec t=true/\t<Tryz.prog.types.size)->DataW.TrodAll enc Tryz.prog W 0 (λ_=>true) true ts vs E ps->
  (∀x∈ps,x.block<W.heap.size)->DataW.TrodAll enc Tryz.prog J 0 (λb=>decide (b<W.heap.size)) true ts vs E ps
 | [],vs,E,ps,_,h,_=>by
  obtain⟨rfl,rfl,rfl⟩:=trodAll_nil h;exact rfl
 |t::ts,vs,E,ps,ht,h,I=>by
  obtain⟨v,L,d,O,p,q,rfl,rfl,rfl,h1,h2⟩:=trodAll_cons h;obtain⟨r1,N⟩:=ht t (by simp);exact⟨p,q,Below.trod Nu r1 N h1 hb (λx hx=>I x (by simp[hx])),AN hb (λt M=>ht t (by simp[M])) h2 (λx hx=>I x (by simp[hx])),rfl⟩
theorem Rl{f:FuncId}{fn:Func}{cd:Code}{s:ChangeSpec}{os:Os}(started:os.Started)(vk:Tryz.prog.funcs[f]?=some fn)(L:fn.body=some cd)(hK:KL.s f=true)(Xl:f≠17)(Xj:f≠41)(J:fn.resultTypes= #[4])
  (Y:∀t∈fn.params.toList,Tryz.prog.readableRec t=true/\t<Tryz.prog.types.size) (TJ:s.vars= []) (Z5:∀E:List (DataW H),E.length=fn.params.size->s.fn H E= { results:= [.lit (.bool true)],args:=E })
  (witness:∃(w:World) (tape:Tape) (i:Input),w.os=os/\(w.forCall tape i).Shaped Tryz.prog/\i.vars= []/\Input.okWide Tryz.prog (w.forCall tape i) .any w.heap.size f i/\
   ((s.pre enc Tryz.prog fn [] false (w.forCall tape i).memory i.args/\laidMetH Tryz.prog xi (w.forCall tape i).memory)/\sizedMet enc Tryz.prog fn (OpenSpec.ofChange s) false (w.forCall tape i).memory i.args)/\
    ({} :Assume).holds Tryz.prog (lone (Frame.enter Tryz.prog f i.args .normal) [] (w.forCall tape i)))
  (Z:∀(W:World) (base:Nat) (args:Array Value) (E:List (DataW H)) (ps:List MemPlace),AU W->(∀(j:Nat) t v,fn.params[j]?=some t->args[j]?=some v->Value.okWide Tryz.prog W .any base t v)->
   DataW.TrodAll enc Tryz.prog W 0 (λ_=>true) true fn.params.toList args.toList E ps->∃la,qL W args.toList la/\aq PL f la (.b true)):
  ReturnsInLeavingWide {} Tryz.checked os f .any (λw args=>(s.pre enc Tryz.prog fn [] false w args/\laidMetH Tryz.prog xi w)/\sizedMet enc Tryz.prog fn (OpenSpec.ofChange s) false w args)
   (s.post enc Tryz.prog fn false true false false):=by
 refine returnsInLeavingWide_of_good (C:=Tryz.checked) MY started witness ?_;intro w tape i _ qp _ iD Ce _;obtain⟨_,_,_,fh,V,_,_,_,_,Kz⟩:=iD;have e:fh=fn:=adw (V.symm.trans vk);subst e;obtain⟨⟨⟨E,gs,before,hw,_⟩,hl⟩,_⟩:=Ce;have cO:=DataW.Whole.of_heap (w':=w.forCall tape i) (by rfl) hw;have sM:laidMetH Tryz.prog xi (w.forCall tape i):=hl.of_heap (by rfl);generalize w.forCall tape i=W at *;obtain⟨hG,U,h4⟩:=OG qp;have hT:sF W:=⟨UY sM,U⟩
 have Xa:=cO;obtain⟨p,q,O,hV,N,_,_⟩:=cO;rw[TJ] at hV;obtain⟨rfl,rfl⟩:=trodVars_none hV;have aK:∀x∈p,x.block<W.heap.size:=λx hx=>Xa.lt x (by rw[N];simp[hx])
 obtain⟨la,ho,hc⟩:=Z W _ i.args E p hG Kz O;obtain⟨ws,ys,k1,_,k3⟩:=ho [];obtain⟨q1,q2⟩:=k3 [];simp only[aaV,acO] at q1 q2;have hlen:E.length=fh.params.size:=by have:=(trodAll_length O).2;simpa using this
 obtain⟨M,last,o,w',t',h1,h2,h3,Ap⟩:=Nr hK ⟨fh,cd,(MM f Xl Xj).trans vk,L⟩ hT h4 k1 (args:=i.args) (by simpa using q1) hc q2;refine⟨M,last,o,w',t',h1,h2,h3,Ap.mono λv hF=>?_⟩;refine ChangeSpec.post_blind ?_;obtain⟨rfl,E1⟩:=hF;have I:=Z5 E hlen;refine⟨E,[],before,[],p,[],Xa,?_,?_,?_,E1.frame _,λh=>by cases h⟩
 ·rw[acO,I,J];exact trodAll_mk1 (shut_bool af7 _)
 ·rw[acO,I];exact AN E1 Y O aK
 ·rw[TJ,acO,I];exact rfl
end
theorem O8(os:Os)(args:Array Value):laidMetH Tryz.prog xi ((World.doorLaid Tryz.prog 40 os).forCall (λ_ _=>0) ⟨#[],args,[]⟩).memory:=
 laidMetH_of_parts3 (fuel:=8) (laidMet_of_run' 8 (by kernel_rfl) (by kernel_rfl)) (by kernel_rfl) (by kernel_rfl)
def Xv:Value:=.agg #[.string ⟨#[]⟩,.string ⟨#[]⟩,.string ⟨#[]⟩,.slice none 0 0,.slice none 0 0]
theorem Lf{s:OpenSpec}{c:OpenClaim}(hc:c.holds Tryz.pinned s)(hw:c.wfByText s=true)(p:c.laidByTextAt .later Tryz.pinned [.funcs] true)
  (I:c.start=.entering) (hnb:c.noBlocks=false/\c.again=false) (hm:Tryz.pinned.checked.prog.mainIs=some (true, "f07a5fa70ed6775463b7a086f57573263f2086de7ec9f9dbb2d285f1a5080804".toList))
  (hl:∀f fn,Tryz.pinned.checked.prog.funcNamed c.func=some f->Tryz.pinned.checked.prog.funcs[f]?=some fn->false=Tryz.pinned.checked.prog.looks []/\∀(j:Nat) t,fn.params[j]?=some t->Tryz.pinned.checked.prog.wantsStandIn t=false)
  (hg:true=c.goesBy Tryz.pinned.checked.prog):
  Claim7.holds Tryz.pinned (.plain s) { stood:= { row:=c,standIns:= [],harness:=(true, "f07a5fa70ed6775463b7a086f57573263f2086de7ec9f9dbb2d285f1a5080804"),looks:=false },kinds:= [],alts:= [],goes:=true,laidByText:=true,laidKinds:= [.funcs],laidTests:=true,laidLooks:=.later } :=by
 have H:∀r:OpenClaim,Claim7.isSixth { stood:= { row:=r,standIns:= [],harness:=(true, "f07a5fa70ed6775463b7a086f57573263f2086de7ec9f9dbb2d285f1a5080804"),looks:=false },kinds:= [] } =false:=λr=>by simp[Claim7.isSixth]
 exact⟨Claim7.tied_new_at .later [.funcs] true (Claim7.new_of_sixth hc (true, "f07a5fa70ed6775463b7a086f57573263f2086de7ec9f9dbb2d285f1a5080804") false I hnb hm (H c) hl) hw,(λD E=>by cases E),p,(λh=>by cases h),hg⟩
@[simp] abbrev aih:List Nat:=[0,1,2,3,4,32,37,46,51,61]
end Go.Proofs.YtjagmhagphbfcaaGreatDoor
namespace Go.Proofs.YtjagmhagphbfcaaGreatDoor
open Go Go.Proofs
section
variable{P:Program}[l:cL P]
def gC(h:ay):Bool:=decide (40<h.L.length)||decide (40<h.S.length)||decide (40<h.R.length)||decide (20<h.alike.length)||decide (20<h.tags.length)||h.alike.any (λs=>decide (40<s.length))||h.tags.any (λt=>decide (40<t.reads.length))
theorem Jp{h:ay}(hg:gC h=false):Fair h:=by
 simp only[gC,Bool.or_eq_false_iff,aac,ag8,aan] at hg;obtain⟨⟨⟨⟨⟨⟨h1,h2⟩,J⟩,I⟩,H⟩,E⟩,p⟩:=hg;exact⟨by omega,by omega,by omega,by omega,λs hs=>by have:=E s hs;omega,by omega,λt ht=>by have:=p t ht;omega⟩
theorem E_{h:ay}(hg:40<h.L.length\/40<h.S.length\/40<h.R.length\/20<h.alike.length\/20<h.tags.length):gC h=true:=by
 simp only[gC,adr,aan];rcases hg with g|g|g|g|g <;>simp[g]
theorem KY(h:ay):aq P 16 [.ag (o6 h)] (.b (gC h)):=by
 have V:(o6 h).map AV.strip=o6 h:=by simp[o6]
 refine fi (au P) (lf Tryz.func16) ?_;have L:=cV h.tags
 repeat' first|apply nI|(refine eI aih ?_;intro K p;simp[o6,L];first|apply p|(refine aE (λhc=>?_) (λhc=>?_) <;>(try simp only[aan,aac] at hc) <;>simp[hc,o6,L] <;>repeat' (first|apply p|(refine aE (λhc=>?_) (λhc=>?_) <;>(try simp only[aan,aac] at hc) <;>simp[hc,o6,L])|fail))|fail)
 all_goals try (have H:gC h=true:=E_ (by omega);simp[Dn,aH,Tryz.f16,H];done)
 by_cases g5:20<(h.tags.length:Int)
 ·have H:gC h=true:=E_ (by omega);have I:=g5
  repeat' first|apply nI|(refine eI aih ?_;intro K p;simp[o6,I];apply p)
  simp[Dn,aH,Tryz.f16,H]
 ·have I:=g5
  repeat' first|apply nI|(refine eI aih ?_;intro K p;simp[o6,I];apply p)
  have na:h.alike.length<=20:=by omega
  have nt:h.tags.length<=20:=by omega
  refine amF (λd T B lv nx=>∃k,k+d=h.alike.length/\T 1=.sp (o6 h)/\T 3=.i .i64 k/\∀s∈h.alike.take k,¬40<s.length) h.alike.length ?_ ?_
  ·exact⟨0,by simp,by simp[o6],by simp,by simp⟩
  rintro d T B lv nx ⟨k,hk,t1,t3,hp⟩;have w1:=aS ((k:Int)+1);by_cases E:k<h.alike.length
  ·have J:(h.alike.map AV.s).drop k=.s h.alike[k]::(h.alike.map AV.s).drop (k+1):=by rw[aa4 (by simpa using E)];simp
   have O:h.alike[k]?=some h.alike[k]:=aaf E;have M:h.alike.take (k+1)=h.alike.take k++ [h.alike[k]]:=aaN E;have hm:h.alike[k]∈h.alike:=abG E;generalize h.alike[k]=s at J O M hm;by_cases h40:40<(s.length:Int)
   ·have H:gC h=true:=by
     have:h.alike.any (λs=>decide (40<s.length))=true:=afl.2 ⟨s,hm,by simp;omega⟩;simp[gC,this]
    repeat' first|apply nI|(refine eI aih ?_;intro K p;simp[t1,t3,o6,E,J,O,h40,w1];apply p)
    simp[Dn,aH,Tryz.f16,H]
   ·repeat' first|apply nI|(refine eI aih ?_;intro K p;simp[t1,t3,o6,E,J,O,h40,w1];apply p)
    refine aN (d-1) ⟨k+1,by omega,by simp[t1,o6],by simp,λx hx=>?_⟩;rw[M,abH] at hx;rcases hx with hx|hx
    ·exact hp x hx
    ·simp only[abZ,adz,aeP] at hx;subst hx;omega
  ·have N:k=h.alike.length:=by omega
   subst N;rw[aeo] at hp
   repeat' first|apply nI|(refine eI aih ?_;intro K p;simp[t1,t3,o6];apply p)
   refine amF (λd T B lv nx=>∃k,k+d=h.tags.length/\T 1=.sp (o6 h)/\T 4=.i .i64 k/\∀t∈h.tags.take k,¬40<t.reads.length) h.tags.length ?_ ?_
   ·exact⟨0,by simp,by simp[o6],by simp,by simp⟩
   rintro d T B lv nx ⟨k,hk,t1,t4,U⟩;have w1:=aS ((k:Int)+1);by_cases E:k<h.tags.length
   ·have J:=fA h.tags k h.tags[k] (aaf E);have hle:(k+1)*3<=h.tags.length*3:=by omega
    have M:h.tags.take (k+1)=h.tags.take k++ [h.tags[k]]:=aaN E;have hm:h.tags[k]∈h.tags:=abG E;generalize h.tags[k]=t at J M hm;by_cases h40:40<(t.reads.length:Int)
    ·have H:gC h=true:=by
      have:h.tags.any (λt=>decide (40<t.reads.length))=true:=afl.2 ⟨t,hm,by simp;omega⟩;simp[gC,this]
     repeat' first|apply nI|(refine eI aih ?_;intro K p;simp[t1,t4,o6,E,L,hle,J,h40,w1];apply p)
     simp[Dn,aH,Tryz.f16,H]
    ·repeat' first|apply nI|(refine eI aih ?_;intro K p;simp[t1,t4,o6,E,L,hle,J,h40,w1];apply p)
     refine aN (d-1) ⟨k+1,by omega,by simp[t1,o6],by simp,λx hx=>?_⟩;rw[M,abH] at hx;rcases hx with hx|hx
     ·exact U x hx
     ·simp only[abZ,adz,aeP] at hx;subst hx;omega
   ·have N:k=h.tags.length:=by omega
    subst N;rw[aeo] at U;have H:gC h=false:=by
     simp only[gC,Bool.or_eq_false_iff,aac,ag8,aan];exact⟨⟨⟨⟨⟨⟨by omega,by omega⟩,by omega⟩,by omega⟩,by omega⟩,hp⟩,U⟩
    repeat' first|apply nI|(refine eI aih ?_;intro K p;simp[t1,t4,o6,L];apply p)
    simp[Dn,aH,Tryz.f16,H]
end
section
variable{P:Program}[l:cL P]
theorem BE(s:List UInt8)(hs:s.length<1000000):aq P 83 [.s s] (.i .i64 (aM s)):=by
 obtain⟨A,N,H⟩:=ca (VL (P:=P) s.length 1 5);obtain⟨B,M,E⟩:=ca (uA (P:=P) s 63 hs);obtain⟨C,L,hC⟩:=ca (Eg (P:=P) s 63 hs);have O:(((63:UInt8).toNat:Nat):Int)=63:=rfl;rw[O] at E hC;refine fi (ak (aR Tryz.func42) N (ak (aR Tryz.func138) M (ak (aR Tryz.func124) L (au P)))) (lf Tryz.func83) ?_;by_cases h1:(1:Int)<=s.length/\(s.length:Int)<=5
 ·have hb:¬(s.length<1\/5<s.length):=by omega
  have hd:(decide ((1:Int)<=s.length)&&decide ((s.length:Int)<=5))=true:=by simp;omega
  rw[hd] at H;cases h2:bA s 63 with
  |false=>
   rw[h2] at E
   repeat' first|apply nI|(refine eI [0,2,6,9,12] ?_;intro K p;simp[ab,az,H,E];apply p)
   have hv:aM s=3:=by unfold aM;rw[aat hb,aay h2]
   simp[Dn,aH,Tryz.f83,hv]
  |true=>
   rw[h2] at E;by_cases J:(2:Int)<s.count 63
   ·have I:2<s.count 63:=by omega
    repeat' first|apply nI|(refine eI [0,2,6,9,12] ?_;intro K p;simp[ab,az,H,E,hC,J];apply p)
    have hv:aM s=2:=by unfold aM;rw[aat hb,aat (by rw[h2];decide),aay I]
    simp[Dn,aH,Tryz.f83,hv]
   ·have I:¬2<s.count 63:=by omega
    repeat' first|apply nI|(refine eI [0,2,6,9,12] ?_;intro K p;simp[ab,az,H,E,hC,J];apply p)
    have hv:aM s=0:=by unfold aM;rw[aat hb,aat (by rw[h2];decide),aat I]
    simp[Dn,aH,Tryz.f83,hv]
 ·have hb:s.length<1\/5<s.length:=by omega
  have hd:(decide ((1:Int)<=s.length)&&decide ((s.length:Int)<=5))=false:=by
   cases hx:(decide ((1:Int)<=s.length)&&decide ((s.length:Int)<=5)) with
   |false=>rfl
   |true=>simp at hx;omega
  rw[hd] at H
  repeat' first|apply nI|(refine eI [0,2,6,9,12] ?_;intro K p;simp[ab,az,H];apply p)
  have hv:aM s=2:=by unfold aM;rw[aay hb]
  simp[Dn,aH,Tryz.f83,hv]
theorem Gi(a b H hi:Int):aq P 152 [.ag [.i .i64 a,.i .i64 b],.i .i64 H,.i .i64 hi] (.b (decide (H<=a/\a<=b/\b<=hi))):=by
 refine fi (au P) (lf Tryz.func152) ?_;by_cases h1:H<=a
 ·by_cases h2:a<=b
  ·by_cases E:b<=hi
   ·repeat' first|apply nI|(refine eI [0,1,2,3,6] ?_;intro K p;simp[h1,h2,E];apply p)
    simp[Dn,aH,Tryz.f152,h1,h2,E]
   ·repeat' first|apply nI|(refine eI [0,1,2,3,6] ?_;intro K p;simp[h1,h2,E];apply p)
    simp[Dn,aH,Tryz.f152,h1,h2,E]
  ·repeat' first|apply nI|(refine eI [0,1,2,3,6] ?_;intro K p;simp[h1,h2];apply p)
   simp[Dn,aH,Tryz.f152,h1,h2]
 ·repeat' first|apply nI|(refine eI [0,1,2,3,6] ?_;intro K p;simp[h1];apply p)
  simp[Dn,aH,Tryz.f152,h1]
theorem BG(a b:Int):aq P 110 [.ag [.i .i64 a,.i .i64 b]] (.b (dR a b)):=by
 obtain⟨A,H,E⟩:=ca (Gi (P:=P) a b 0 99999);refine fi (ak (aR Tryz.func152) H (au P)) (lf Tryz.func110) ?_
 repeat' first|apply nI|(refine eI [0,1,2] ?_;intro K p;simp[ab,E];apply p)
 simp[Dn,aH,Tryz.f110,dR]
end
@[simp] abbrev aia:List Nat:=[0,1,2,3,4,32,45,57,71]
section
variable{P:Program}[l:cL P]
theorem L9{c d:UInt8}(h:(c.toNat:Int)=d.toNat):c=d:=UInt8.toNat_inj.1 (by omega)
theorem uB:∃F:List AV->Option AV,Den P 138 F/\∀(s:List UInt8) (c:UInt8),s.length<1000000->F [.s s,.i .u8 c.toNat]=some (.b (bA s c)):=by
 obtain⟨F,h1,h2⟩:=cC (P:=P) (f:=138) (ι:=List UInt8×UInt8) (λx=> [.s x.1,.i .u8 x.2.toNat]) (λx=>.b (bA x.1 x.2)) (λx=>x.1.length<1000000) (λx y _ _ e=>by
  simp only[abg,AV.s.injEq,AV.i.injEq,adM,abQ] at e;rw[e.1,L9 e.2]) (λx hx=>uA x.1 x.2 hx)
 exact⟨F,h1,λs c hs=>h2 (s,c) hs⟩
theorem Ng:∃F:List AV->Option AV,Den P 124 F/\∀(s:List UInt8) (c:UInt8),s.length<1000000->F [.s s,.i .u8 c.toNat]=some (.i .i64 (s.count c)):=by
 obtain⟨F,h1,h2⟩:=cC (P:=P) (f:=124) (ι:=List UInt8×UInt8) (λx=> [.s x.1,.i .u8 x.2.toNat]) (λx=>.i .i64 (x.1.count x.2)) (λx=>x.1.length<1000000) (λx y _ _ e=>by
  simp only[abg,AV.s.injEq,AV.i.injEq,adM,abQ] at e;rw[e.1,L9 e.2]) (λx hx=>Eg x.1 x.2 hx)
 exact⟨F,h1,λs c hs=>h2 (s,c) hs⟩
theorem apq(h:ay)(hL:h.L.length<1000)(hS:h.S.length<1000)(hR:h.R.length<1000):aq P 108 [.ag (o6 h)] (.i .i64 (bB h)):=by
 obtain⟨A,ad,W⟩:=uB (P:=P);obtain⟨C,cd,hC⟩:=Ng (P:=P);have a1:=W h.L 63 (by omega);have a2:=W h.S 65 (by omega);have a3:=W h.R 65 (by omega);have c1:=hC h.L 63 (by omega);have Gb:(((63:UInt8).toNat:Nat):Int)=63:=rfl;have e65:(((65:UInt8).toNat:Nat):Int)=65:=rfl;rw[Gb] at a1 c1;rw[e65] at a2 a3;have i10:((h.L.length:Int)==10)=(h.L.length==10):=by
  rw[adX];simp only[ac6];omega
 have V:((h.S.length:Int)==(h.L.count 63:Int))=(h.S.length==h.L.count 63):=by
  rw[adX];simp only[ac6];omega
 refine fi (ak (aR Tryz.func138) ad (ak (aR Tryz.func124) cd (au P))) (lf Tryz.func108) ?_;by_cases b1:h.L.length=10
 ·have E:(h.L.length==10)=true:=by simp[b1]
  cases b2:bA h.L 63 with
  |false=>
   rw[b2] at a1
   repeat' first|apply nI|(refine eI aia ?_;intro K p;simp[o6,i10,E,bne,ab,a1];apply p)
   simp[Dn,aH,Tryz.f108,bB,b1,b2]
  |true=>
   rw[b2] at a1;cases H:bA h.S 65 with
   |false=>
    rw[H] at a2
    repeat' first|apply nI|(refine eI aia ?_;intro K p;simp[o6,i10,E,bne,ab,a1,a2];apply p)
    simp[Dn,aH,Tryz.f108,bB,b1,b2,H]
   |true=>
    rw[H] at a2;by_cases b4:1<h.R.length
    ·have J:(1:Int)<h.R.length:=by omega
     repeat' first|apply nI|(refine eI aia ?_;intro K p;simp[o6,i10,E,bne,ab,a1,a2,J];apply p)
     simp[Dn,aH,Tryz.f108,bB,b1,b2,H,b4]
    ·have J:¬(1:Int)<h.R.length:=by omega
     cases I:bA h.R 65 with
     |false=>
      rw[I] at a3
      repeat' first|apply nI|(refine eI aia ?_;intro K p;simp[o6,i10,E,bne,ab,a1,a2,J,a3];apply p)
      simp[Dn,aH,Tryz.f108,bB,b1,b2,H,b4,I]
     |true=>
      rw[I] at a3;by_cases b6:h.S.length=h.L.count 63
      ·have O:(h.S.length==h.L.count 63)=true:=by simp[b6]
       by_cases b7:4<h.S.length
       ·have Y:(4:Int)<h.S.length:=by omega
        repeat' first|apply nI|(refine eI aia ?_;intro K p;simp[o6,i10,E,bne,ab,az,a1,a2,J,a3,c1,V,O,Y];apply p)
        have hv:bB h=2:=by
         unfold bB;rw[aat (by rw[b2,H,I];simp;omega),aay (by omega)]
        simp[Dn,aH,Tryz.f108,hv]
       ·have Y:¬(4:Int)<h.S.length:=by omega
        have hv:bB h=if dup (h.L++h.S++h.R)=true then 5 else 0:=by
         unfold bB;rw[aat (by rw[b2,H,I];simp;omega),aat (by omega)]
        have n1:¬(9223372036854775807:Int)<(h.L.length:Int)+h.S.length:=by omega
        have n2:¬(9223372036854775807:Int)<(h.L.length:Int)+h.S.length+h.R.length:=by omega
        repeat' first|apply nI|(refine eI aia ?_;intro K p;simp[o6,i10,E,bne,ab,az,a1,a2,J,a3,c1,V,O,Y,n1,n2];apply p)
        have F3:(h.L++h.S++h.R).length<3000:=by simp only[abj];omega
        refine amF (λd T B lv nx=>∃k,k+d=(h.L++h.S++h.R).length/\T 3=.s (h.L++h.S++h.R)/\T 4=.i .i64 k/\((h.L++h.S++h.R).take k).any (λc=>c !=63&&decide (1<(h.L++h.S++h.R).count c))=false) (h.L++h.S++h.R).length ?_ ?_
        ·exact⟨0,by simp,by simp,by simp,by simp⟩
        rintro d T B lv nx ⟨k,hk,t3,t4,hp⟩;have w1:=aS ((k:Int)+1);generalize h.L++h.S++h.R=w at *;by_cases N:k<w.length
        ·have LW:=hC w w[k] (by omega);have U:((w[k].toNat:Int)==63)=(w[k]==63):=kn w[k] 63 (by omega);have jF:(w.take (k+1)).any (λc=>c !=63&&decide (1<w.count c))=(w[k] !=63&&decide (1<w.count w[k])):=by
          rw[aaN N,aeC,hp];simp
         cases M:(w[k]==63) with
         |true=>
          repeat' first|apply nI|(refine eI aia ?_;intro K p;simp[t3,t4,N,bne,U,M,w1];apply p)
          refine aN (d-1) ⟨k+1,by omega,by simp[t3],by simp,by rw[jF];simp[bne,M]⟩
         |false=>
          by_cases WX:(1:Int)<(w.count w[k]:Int)
          ·have Z:1<w.count w[k]:=by omega
           have hd:dup w=true:=by
            unfold dup;rw[afl];exact⟨w[k],abG N,by simp[bne,M,Z]⟩
           rw[hd] at hv
           repeat' first|apply nI|(refine eI aia ?_;intro K p;simp[t3,t4,N,bne,U,M,w1,ab,az,LW,WX];apply p)
           simp[Dn,aH,Tryz.f108,hv]
          ·have Z:¬1<w.count w[k]:=by omega
           repeat' first|apply nI|(refine eI aia ?_;intro K p;simp[t3,t4,N,bne,U,M,w1,ab,az,LW,WX];apply p)
           refine aN (d-1) ⟨k+1,by omega,by simp[t3],by simp,by rw[jF];simp[Z]⟩
        ·have gg:k=w.length:=by omega
         subst gg;have hd:dup w=false:=by simpa[dup] using hp
         rw[hd] at hv
         repeat' first|apply nI|(refine eI aia ?_;intro K p;simp[t3,t4];apply p)
         simp[Dn,aH,Tryz.f108,hv]
      ·have O:(h.S.length==h.L.count 63)=false:=by simp[b6]
       repeat' first|apply nI|(refine eI aia ?_;intro K p;simp[o6,i10,E,bne,ab,az,a1,a2,J,a3,c1,V,O];apply p)
       have hv:bB h=2:=by
        unfold bB;rw[aat (by rw[b2,H,I];simp;omega),aay (by omega)]
       simp[Dn,aH,Tryz.f108,hv]
 ·have E:(h.L.length==10)=false:=by simp[b1]
  repeat' first|apply nI|(refine eI aia ?_;intro K p;simp[o6,i10,E,bne];apply p)
  simp[Dn,aH,Tryz.f108,bB,b1]
end
@[simp] abbrev ah1:List Nat:=[0,2,3,4,7,11,27,38,41,78]
section
variable{P:Program}[l:cL P]
theorem BJ(a:List (List UInt8))(ht:∀s∈a,s.length<1000000):aq P 109 [strs a] (.i .i64 (bj a)):=by
 obtain⟨A,ad,hA⟩:=uB (P:=P);have e65:(((65:UInt8).toNat:Nat):Int)=65:=rfl;refine fi (ak (aR Tryz.func138) ad (au P)) (lf Tryz.func109) ?_;by_cases h5:4<a.length
 ·have E8:(4:Int)<a.length:=by omega
  repeat' first|apply nI|(refine eI ah1 ?_;intro K E;simp[strs,E8];apply E)
  simp[Dn,aH,Tryz.f109,bj,h5]
 ·have E8:¬(4:Int)<a.length:=by omega
  repeat' first|apply nI|(refine eI ah1 ?_;intro K E;simp[strs,E8];apply E)
  refine amF (λd' T B lv nx=>∃k,k+d'=a.length/\T 0=strs a/\T 3=.i .i64 k/\bj a=cb (a.take k) (a.drop k)/\∀s∈a.take k,s.length=2) a.length ?_ ?_
  ·exact⟨0,by simp,by simp[strs],by simp,by simp[bj,h5],by simp⟩
  ·rintro d' T B lv nx ⟨k,hk,t0,t3,hp,h2⟩;have w1:=aS ((k:Int)+1);by_cases H:k<a.length
   ·have rM:a.drop k=a[k]::a.drop (k+1):=aa4 H;have jF:a.take (k+1)=a.take k++ [a[k]]:=aaN H;rw[rM] at hp;have O:=hA a[k] 65 (ht _ (abG H));rw[e65] at O;have J:(a.map AV.s).drop k=.s a[k]::(a.map AV.s).drop (k+1):=by rw[aa4 (by simpa using H)];simp
    have I:a[k]?=some a[k]:=aaf H;by_cases hl2:a[k].length=2
    ·obtain⟨y,z,hs⟩:∃y z,a[k]= [y,z]:=by
      match a[k],hl2 with
      | [y,z],_=>exact⟨y,z,rfl⟩
     rw[hs] at O hp J I;have Jc:=dV y z;have Cp:∀s∈a.take (k+1),s.length=2:=by
      intro s V;rw[jF] at V;rcases abH.1 V with V|V
      ·exact h2 s V
      ·rw[acE.1 V];exact hl2
     cases W:bA [y,z] 65 with
     |false=>
      rw[W] at O;have hv:bj a=3:=by rw[hp];simp[cb,eR,W]
      repeat' first|apply nI|(refine eI ah1 ?_;intro K E;simp[t0,t3,strs,H,J,I,ab,O,w1,bne];apply E)
      simp[Dn,aH,Tryz.f109,hv]
     |true=>
      rw[W] at O;cases Hj:(y==z) with
      |true=>
       have yR:y=z:=by simpa using Hj
       have hv:bj a=5:=by rw[hp];subst yR;simp[cb,eR,W]
       repeat' first|apply nI|(refine eI ah1 ?_;intro K E;simp[t0,t3,strs,H,J,I,ab,O,Jc,Hj,w1,bne];apply E)
       simp[Dn,aH,Tryz.f109,hv]
      |false=>
       have yR:¬y=z:=by simpa using Hj
       repeat' first|apply nI|(refine eI ah1 ?_;intro K E;simp[t0,t3,strs,H,J,I,ab,O,Jc,Hj,w1,bne];apply E)
       refine amF (λd2 T B lv nx=>∃j,j+d2=k/\T 0=strs a/\T 3=.i .i64 k/\T 4=.i .i64 j/\(a.take j).any (cP · [y,z])=false) k ?_ ?_
       ·exact⟨0,by simp,by simp[t0,strs],by simp[t3],by simp,by simp⟩
       rintro d2 T B lv nx ⟨j,hj,t0,t3,t4,hq⟩;have w2:=aS ((j:Int)+1);by_cases Hx:j<k
       ·have N:j<a.length:=by omega
        have M:a[j]∈a.take k:=agD.2 ⟨j,by omega,rfl⟩;have htj:a.take (j+1)=a.take j++ [a[j]]:=aaN N;have Z:(a.map AV.s).drop j=.s a[j]::(a.map AV.s).drop (j+1):=by rw[aa4 (by simpa using N)];simp
        have Y:a[j]?=some a[j]:=aaf N;have h2j:=h2 _ M;obtain⟨p,q,iJ⟩:∃p q,a[j]= [p,q]:=by
         match a[j],h2j with
         | [p,q],_=>exact⟨p,q,rfl⟩
        rw[iJ] at Z Y M;have pj:(a.take (j+1)).any (cP · [y,z])=cP [p,q] [y,z]:=by
         rw[htj,aeC,hq,iJ];simp
        have gT:cP [p,q] [y,z]=true->bj a=5:=λhb=>by
         have hx:(a.take k).any (cP · [y,z])=true:=afl.2 ⟨_,M,hb⟩;rw[hp];simp[cb,eR,W,yR,hx]
        have b1:=dV p z;have b2:=dV q y;cases L:([p,q]== [y,z]) with
        |true=>
         have hv:=gT (by simp[cP,L])
         repeat' first|apply nI|(refine eI ah1 ?_;intro K E;simp[t0,t3,t4,strs,H,N,Hx,J,I,Z,Y,L,w2];apply E)
         simp[Dn,aH,Tryz.f109,hv]
        |false=>
         cases U:(p==z) with
         |false=>
          have hn:cP [p,q] [y,z]=false:=by simp[cP,L,U]
          repeat' first|apply nI|(refine eI ah1 ?_;intro K E;simp[t0,t3,t4,strs,H,N,Hx,J,I,Z,Y,L,b1,U,w2];apply E)
          refine aN (d2-1) ⟨j+1,by omega,by simp[t0,strs],by simp[t3],by simp,by rw[pj];exact hn⟩
         |true=>
          cases e3:(q==y) with
          |true=>
           have hv:=gT (by simp[cP,L,U,e3])
           repeat' first|apply nI|(refine eI ah1 ?_;intro K E;simp[t0,t3,t4,strs,H,N,Hx,J,I,Z,Y,L,b1,U,b2,e3,w2];apply E)
           simp[Dn,aH,Tryz.f109,hv]
          |false=>
           have hn:cP [p,q] [y,z]=false:=by simp[cP,L,U,e3]
           repeat' first|apply nI|(refine eI ah1 ?_;intro K E;simp[t0,t3,t4,strs,H,N,Hx,J,I,Z,Y,L,b1,U,b2,e3,w2];apply E)
           refine aN (d2-1) ⟨j+1,by omega,by simp[t0,strs],by simp[t3],by simp,by rw[pj];exact hn⟩
       ·have hjj:j=k:=by omega
        subst hjj;have hv:bj a=cb (a.take (j+1)) (a.drop (j+1)):=by
         rw[hp,jF,hs];simp[cb,eR,W,yR,hq]
        repeat' first|apply nI|(refine eI ah1 ?_;intro K E;simp[t0,t3,t4,strs,w1];apply E)
        refine aN (d'-1) ⟨j+1,by omega,by simp[t0,strs],by simp,hv,Cp⟩
    ·have Wz:((a[k].length:Int)==2)=false:=by simp;omega
     have hv:bj a=3:=by rw[hp];simp[cb,eR,hl2]
     repeat' first|apply nI|(refine eI ah1 ?_;intro K E;simp[t0,t3,strs,H,J,I,Wz,w1,bne];apply E)
     simp[Dn,aH,Tryz.f109,hv]
   ·have gg:k=a.length:=by omega
    subst gg
    repeat' first|apply nI|(refine eI ah1 ?_;intro K E;simp[t0,t3,strs];apply E)
    have:bj a=0:=by rw[hp];simp[cb]
    simp[Dn,aH,Tryz.f109,this]
end
@[simp] abbrev aic:List Nat:=[0,1,2,3,4,5,6,10,16,21,26,37,46]
section
variable{P:Program}[l:cL P]
theorem BF:∃F:List AV->Option AV,Den P 83 F/\∀(s:List UInt8),s.length<1000000->F [.s s]=some (.i .i64 (aM s)):=by
 obtain⟨F,h1,h2⟩:=cC (P:=P) (f:=83) (ι:=List UInt8) (λx=> [.s x]) (λx=>.i .i64 (aM x)) (λx=>x.length<1000000) (λx y _ _ e=>by
  simp only[abg,AV.s.injEq,abQ] at e;rw[e]) (λx hx=>BE x hx)
 exact⟨F,h1,h2⟩
theorem BH:∃F:List AV->Option AV,Den P 110 F/\∀a b:Int,F [.ag [.i .i64 a,.i .i64 b]]=some (.b (dR a b)):=by
 obtain⟨F,h1,h2⟩:=cC (P:=P) (f:=110) (ι:=Int×Int) (λx=> [.ag [.i .i64 x.1,.i .i64 x.2]]) (λx=>.b (dR x.1 x.2)) (λ_=>True) (λx y _ _ e=>by
  simp only[abg,AV.ag.injEq,AV.i.injEq,adM,abQ] at e;rw[e.1,e.2]) (λx _=>BG x.1 x.2)
 exact⟨F,h1,λa b=>h2 (a,b) trivial⟩
theorem BI(h:ay)(hf:Fair h):aq P 49 [.ag (o6 h)] (.i .i64 (aO h)):=by
 obtain⟨A,ad,W⟩:=ca (apq (P:=P) h (by have:=hf.L;omega) (by have:=hf.S;omega) (by have:=hf.R;omega));obtain⟨B,bd,hB⟩:=ca (BJ (P:=P) h.alike (λs hs=>by have:=hf.a s hs;omega));obtain⟨C,cd,hC⟩:=BF (P:=P);obtain⟨D,dd,hD⟩:=BH (P:=P);simp only[o6,strs] at W hB;have O:=cV h.tags;refine fi (ak (aR Tryz.func108) ad (ak (aR Tryz.func109) bd (ak (aR Tryz.func83) cd (ak (aR Tryz.func110) dd (au P))))) (lf Tryz.func49) ?_;by_cases N:bB h=0
 ·have Y:(bB h==0)=true:=by simp[N]
  by_cases V:bj h.alike=0
  ·have H:(bj h.alike==0)=true:=by simp[V]
   by_cases q3:5<h.tags.length
   ·have J:(5:Int)<h.tags.length:=by omega
    repeat' first|apply nI|(refine eI aic ?_;intro K p;simp[o6,O,ab,az,W,hB,Y,H,J,bne];apply p)
    simp[Dn,aH,Tryz.f49,aO,N,V,q3]
   ·have J:¬(5:Int)<h.tags.length:=by omega
    repeat' first|apply nI|(refine eI aic ?_;intro K p;simp[o6,O,ab,az,W,hB,Y,H,J,bne];apply p)
    have hh:aO h=cR h.tags:=by simp[aO,N,V,q3]
    refine amF (λd T B lv nx=>∃k,k+d=h.tags.length/\T 1=.sp (o6 h)/\T 5=.i .i64 k/\cR h.tags=cR (h.tags.drop k)) h.tags.length ?_ ?_
    ·exact⟨0,by simp,by simp[o6],by simp,by simp⟩
    rintro d T B lv nx ⟨k,hk,t1,t5,hp⟩;have w1:=aS ((k:Int)+1);by_cases U:k<h.tags.length
    ·have da:=fA h.tags k h.tags[k] (aaf U);have hle:(k+1)*3<=h.tags.length*3:=by omega
     have rM:h.tags.drop k=h.tags[k]::h.tags.drop (k+1):=aa4 U;have hm:h.tags[k]∈h.tags:=abG U;rw[rM] at hp;generalize h.tags[k]=t at da hp hm;have M:=hC t.reads (by have:=hf.t t hm;omega);have I:=hD t.low t.high;by_cases r1:aM t.reads=0
     ·have E:(aM t.reads==0)=true:=by simp[r1]
      cases Z:dR t.low t.high with
      |true=>
       rw[Z] at I
       repeat' first|apply nI|(refine eI aic ?_;intro K p;simp[t1,t5,o6,U,O,hle,da,ab,az,M,I,E,bne,w1];apply p)
       refine aN (d-1) ⟨k+1,by omega,by simp[t1,o6],by simp,by rw[hp];simp[cR,r1,Z]⟩
      |false=>
       rw[Z] at I;have hv:aO h=1:=by rw[hh,hp];simp[cR,r1,Z]
       repeat' first|apply nI|(refine eI aic ?_;intro K p;simp[t1,t5,o6,U,O,hle,da,ab,az,M,I,E,bne,w1];apply p)
       simp[Dn,aH,Tryz.f49,hv]
     ·have E:(aM t.reads==0)=false:=by simp[r1]
      have hv:aO h=aM t.reads:=by rw[hh,hp];simp[cR,r1]
      repeat' first|apply nI|(refine eI aic ?_;intro K p;simp[t1,t5,o6,U,O,hle,da,ab,az,M,E,bne,w1];apply p)
      simp[Dn,aH,Tryz.f49,hv]
    ·have gg:k=h.tags.length:=by omega
     subst gg;have hv:aO h=0:=by rw[hh,hp];simp[cR]
     repeat' first|apply nI|(refine eI aic ?_;intro K p;simp[t1,t5,o6,O];apply p)
     simp[Dn,aH,Tryz.f49,hv]
  ·have H:(bj h.alike==0)=false:=by simp[V]
   repeat' first|apply nI|(refine eI aic ?_;intro K p;simp[o6,ab,az,W,hB,Y,H,bne];apply p)
   simp[Dn,aH,Tryz.f49,aO,N,V]
 ·have Y:(bB h==0)=false:=by simp[N]
  repeat' first|apply nI|(refine eI aic ?_;intro K p;simp[o6,ab,az,W,Y,bne];apply p)
  simp[Dn,aH,Tryz.f49,aO,N]
end
structure Tc(h:ay)(w:List UInt8):Prop where
 len:w.length=10
 lets:∀c∈w,isLet c=true
 nod:w.Nodup
 rep:∀q∈h.R,isLet q=true/\q∉w
theorem lZ{c:UInt8}(h:isLet c=true):c≠63:=by
 rintro rfl;exact absurd h (by decide)
theorem En{s:List UInt8}(h:bA s 65=true):∀c∈s,isLet c=true:=λc hc=>by
 have:=acp.1 h c hc;rcases afn.1 this with h|h
 ·exact h
 ·rw[ac6] at h;subst h;decide
theorem Nl{s:List UInt8}(h:bA s 63=true):∀c∈s,c≠63->isLet c=true:=λc hc hn=>by
 have:=acp.1 h c hc;rcases afn.1 this with h|h
 ·exact h
 ·rw[ac6] at h;exact absurd h hn
theorem nH:∀(S:List UInt8) (k:Nat),k<S.length->(S.getD k 0::(S.take k++S.drop (k+1))).Perm S
 | [],k,h=>by simp at h
 |a::S,0,h=>by simp
 |a::S,k+1,h=>by
  have p:=nH S k (by simpa using h);simp only[List.getD_cons_succ,List.take_succ_cons,afs,aaT];exact(List.Perm.swap _ _ _).trans (p.cons a)
theorem qh:∀(L S w:List UInt8),S.length=L.count 63->w∈e_ L S->w.Perm (L.filter (· !=63)++S)
 | [],S,w,hl,hw=>by
  have:S= []:=abA hl;subst this;simp[e_] at hw;subst hw;exact List.Perm.refl _
 |c::L,S,w,hl,hw=>by
  unfold e_ at hw;split at hw
  ·rename_i hc;subst hc;simp only[aeQ,ac4,aeh] at hw;obtain⟨k,hk,v,hv,rfl⟩:=hw;have hp:=nH S k hk;have p:(S.take k++S.drop (k+1)).length=L.count 63:=by
    have:=hp.length_eq;rw[List.count_cons_self] at hl;simp only[ab0] at this;omega
   have E:=qh L _ v p hv;have e:(63::L:List UInt8).filter (· !=63)=L.filter (· !=63):=by simp
   rw[e];refine(E.cons _).trans ?_;refine List.perm_middle.symm.trans ?_;exact List.Perm.append_left _ hp
  ·rename_i hc;simp only[ac4] at hw;obtain⟨v,hv,rfl⟩:=hw;rw[List.count_cons_of_ne (λe=>hc e)] at hl;have e:(c::L:List UInt8).filter (· !=63)=c::L.filter (· !=63):=by simp[hc]
   rw[e];exact(qh L S v hl hv).cons c
theorem La{a:List UInt8}(h:dup a=false):(a.filter (· !=63)).Nodup:=by
 rw[List.nodup_iff_count];intro c;by_cases hm:c∈a.filter (· !=63)
 ·obtain⟨h1,h2⟩:=afJ.1 hm;have:=ag8.1 h c h1;rw[h2,Bool.true_and,aan] at this;have p:(a.filter (· !=63)).count c<=a.count c:=List.filter_sublist.count_le c;omega
 ·rw[List.count_eq_zero_of_not_mem hm];omega
theorem aiZ{h:ay}(hc:aO h=0){w:List UInt8}(hw:w∈e_ h.L h.S):Tc h w:=by
 obtain⟨⟨h1,h2,N,W,M,J,V,I⟩,_⟩:=checked h hc;have hp:=qh h.L h.S w J hw;have p:=En N;have E:=En M;have hn:=La I;have O:h.S.filter (· !=63)=h.S:=List.filter_eq_self.2 λc hc=>by simpa using lZ (p c hc)
 have U:h.R.filter (· !=63)=h.R:=List.filter_eq_self.2 λc hc=>by simpa using lZ (E c hc)
 rw[ag2,ag2,O,U,List.nodup_append] at hn;obtain⟨n1,_,H⟩:=hn;refine⟨(th _ _ _ hw).trans h1,λc hc=>?_,hp.nodup_iff.2 n1,λq hq=>⟨E q hq,λhm=>H q (hp.mem_iff.1 hm) q hq rfl⟩⟩;rcases abH.1 (hp.mem_iff.1 hc) with hm|hm
 ·obtain⟨m1,m2⟩:=afJ.1 hm;exact Nl h2 c m1 (by simpa using m2)
 ·exact p c hm
theorem MX{h:ay}(hc:aO h=0){w:List UInt8}(hw:w∈aB h):Tc h w:=aiZ hc (afJ.1 hw).1
theorem vX{n g:Int}(h:bN [aV n g]=0):0<=n/\1<=g/\g<=5/\n<10^g.toNat:=by
 obtain⟨h1,h2,H,E,p⟩:=nz h;refine⟨h1,H,E,?_⟩;unfold aV at p;rw[aat (by omega)] at p;have hp:(0:Int)<10^g.toNat:=Int.pow_pos (by decide);split at p
 ·cases p
 ·rename_i I;have:n/10^g.toNat<=0:=by omega
  have:=Int.lt_mul_of_ediv_lt hp (show n/10^g.toNat<1 by omega);omega
theorem K4{h:ay}(hf:Fair h):j9 h:=by
 have h1:=hf.L;have h2:=hf.S;have H:=hf.R;have E:=hf.na;have p:=hf.nt;exact⟨by omega,by omega,by omega,by omega,λs hs=>by have:=hf.a s hs;omega,by omega,λt ht=>by have:=hf.t t ht;omega⟩
theorem De{h:ay}(hc:aO h=0)(n g:Int):(cM h n g).length<1000000:=by
 have h1:(cM h n g).length<=((aB h).map λw=>bS h w n g.toNat).length:=kX _;rw[abz] at h1;have:=sP hc;omega
theorem Ee{h:ay}(hc:aO h=0){s:List UInt8}(hs:s.length<=5):(f_ h s).length<=4000000000000:=
 aaY (kX _) (fI hc _ λw _=>mI h w s hs)
section
variable{P:Program}[l:cL P]
end
@[simp] abbrev apU:List Nat:=[0,1,2,6,7,8,10,15,27]
def an0(p L S:List UInt8):List (List UInt8):=(e_ L S).map (p++ ·)
theorem an_:∀(L S:List UInt8),S.length<=10->(e_ L S).length<=10^L.length
 | [],_,_=>by simp[e_]
 |c::L,S,p=>by
  unfold e_;split
  ·rw[List.length_flatMap,ab0,Nat.pow_succ];have:∀k∈List.range S.length,((e_ L (S.take k++S.drop (k+1))).map (S.getD k 0:: ·)).length<=10^L.length:=λk hk=>by
    rw[abz];exact an_ L _ (by rw[abj,afk,ahh];omega)
   have h2:((List.range S.length).map λk=>((e_ L (S.take k++S.drop (k+1))).map (S.getD k 0:: ·)).length).sum<=S.length*10^L.length:=by
    have key:∀l:List Nat,(∀k∈l,((e_ L (S.take k++S.drop (k+1))).map (S.getD k 0:: ·)).length<=10^L.length)->(l.map λk=>((e_ L (S.take k++S.drop (k+1))).map (S.getD k 0:: ·)).length).sum<=l.length*10^L.length:=by
     intro l
     induction l with
     |nil=>simp
     |cons a l E=>
      intro hl;have h1:=hl a (by simp);have h2:=E λk hk=>hl k (by simp[hk])
      simp only[List.map_cons,List.sum_cons,ab0,Nat.succ_mul];omega
    simpa using key _ this
   refine aaY h2 ?_;rw[Nat.mul_comm];exact Nat.mul_le_mul_left _ p
  ·rw[abz,ab0,Nat.pow_succ];have:=an_ L S p;omega
def an5(p L S:List UInt8)(k:Nat):List (List UInt8):=(List.range k).flatMap λj=>an0 (p++ [S.getD j 0]) L (S.take j++S.drop (j+1))
theorem apE(p L S:List UInt8):an5 p L S S.length=an0 p (63::L) S:=by
 unfold an5 an0
 conv=>rhs;unfold e_
 rw[aay rfl,List.map_flatMap];simp[Function.comp_def]
theorem aoN(p L S:List UInt8)(k:Nat):an5 p L S (k+1)=an5 p L S k++an0 (p++ [S.getD k 0]) L (S.take k++S.drop (k+1)):=by
 unfold an5;rw[agG,aft];simp
theorem aoW(p L S:List UInt8)(E:S.length<=10):∀k≤S.length,(an5 p L S k).length<=k*10^L.length
 |0,_=>by simp[an5]
 |k+1,hk=>by
  have H:=aoW p L S E k (by omega);rw[aoN,abj,Nat.succ_mul];have:(an0 (p++ [S.getD k 0]) L (S.take k++S.drop (k+1))).length<=10^L.length:=by
   unfold an0;rw[abz];exact an_ L _ (by rw[abj,afk,ahh];omega)
  omega
section
variable{P:Program}[l:cL P]
theorem aoV:∀(n:Nat) (p L S:List UInt8),L.length=n->n<=10->S.length<=10->p.length+n<=1000->aq P 182 [.s p,.s L,.s S] (strs (an0 p L S))
 |0,p,L,S,I,_,_,_=>by
  have:L= []:=abA I;subst this;refine fi (au P) (lf Tryz.func182) ?_
  repeat' first|apply nI|(refine eI apU ?_;intro K E;simp;apply E)
  simp[Dn,aH,Tryz.f182,strs,an0,e_]
 |n+1,p,L,S,I,hn,hS,hp=>by
  match L,I with
  |c::L,I=>
  have I:L.length=n:=by simpa using I
  obtain⟨F,fd,V⟩:∃F:List AV->Option AV,Den P 182 F/\∀J U,J.length+n<=1000->U.length<=10->F [.s J,.s L,.s U]=some (strs (an0 J L U)):=by
   obtain⟨F,h1,h2⟩:=cC (P:=P) (f:=182) (ι:=List UInt8×List UInt8) (λx=> [.s x.1,.s L,.s x.2]) (λx=>strs (an0 x.1 L x.2)) (λx=>x.1.length+n<=1000/\x.2.length<=10) (λx y _ _ e=>by
    simp only[abg,AV.s.injEq,adM,abQ] at e;rw[e.1,e.2]) (λx hx=>aoV n x.1 L x.2 I (by omega) hx.2 hx.1)
   exact⟨F,h1,λJ U a b=>h2 (J,U) ⟨a,b⟩⟩
  simp only[strs] at V;refine fi (ak (aR Tryz.func182) fd (au P)) (lf Tryz.func182) ?_;have Z:((c.toNat:Int)==63)=(c==63):=kn c 63 (by omega);have z1:(1:Int)<=(L.length:Int)+1:=by omega
  cases hc:(c==63) with
  |false=>
   have W:c≠63:=by simpa using hc
   have OD:=V (p++ [c]) S (by simp;omega) hS;have n1:¬(9223372036854775807:Int)<(p.length:Int)+1:=by omega
   repeat' first|apply nI|(refine eI apU ?_;intro K E;simp[Z,hc,bne,n1,z1,ab,OD];apply E)
   simp[Dn,aH,Tryz.f182,strs,an0,e_,W]
  |true=>
   have W:c=63:=by simpa using hc
   subst W
   repeat' first|apply nI|(refine eI apU ?_;intro K E;simp[Z,hc,bne];apply E)
   refine amF (λd T B lv nx=>∃k τ,k+d=S.length/\T 0=.s p/\T 1=.s (63::L)/\T 2=.s S/\T 8=.i .i64 k/\T 7=.sq (some τ) 1 ((an5 p L S k).map .s)/\lv τ=some 9/\τ<nx) S.length ?_ ?_
   ·exact⟨0,6,by simp,by simp,by simp,by simp,by simp,by simp[an5],by simp,by simp⟩
   rintro d T B lv nx ⟨k,τ,hk,t0,t1,t2,t8,t7,l7,hτ⟩;have w1:=aS ((k:Int)+1);by_cases Y:k<S.length
   ·have N:(S.take (k+1)).drop k= [S[k]]:=by
     rw[aaN Y,List.drop_append_of_le_length (by rw[afk];omega),List.drop_of_length_le (by rw[afk];omega)];rfl
    have hx:S.getD k 0=S[k]:=by rw[abM,aaf Y];rfl
    have H:=aoN p L S k;have kN:=aoW p L S hS k (by omega);have M:(an0 (p++ [S.getD k 0]) L (S.take k++S.drop (k+1))).length<=10^L.length:=by
     unfold an0;rw[abz];exact an_ L _ (by rw[abj,afk,ahh];omega)
    rw[hx] at H M;generalize S[k]=x at N H M;have O:=V (p++ [x]) (S.take k++S.drop (k+1)) (by rw[abj];simp only[ab0,aeA];omega) (by rw[abj,afk,ahh];omega);have h9:10^L.length<=1000000000:=aef (n:=10) (show 10>0 by decide) (show L.length<=9 by omega);have YD:k*10^L.length<=10*1000000000:=Nat.mul_le_mul (by omega) h9;have hlen:((an5 p L S k).length+(an0 (p++ [x]) L (S.take k++S.drop (k+1))).length)*17<=70368744177664:=by omega
    have s2:(0:Int)<=(k:Int)+1:=by omega
    have s3:(k:Int)<=(k:Int)+1:=by omega
    have s4:(k:Int)+1<=S.length:=by omega
    have s5:(k:Int)<=S.length:=by omega
    have n1:¬(9223372036854775807:Int)<(p.length:Int)+1:=by omega
    have n2:¬(9223372036854775807:Int)<((min k S.length:Nat):Int)+((S.length-(k+1):Nat):Int):=by omega
    have ZO:τ<nx+4:=by omega
    generalize an0 (p++ [x]) L (S.take k++S.drop (k+1))=ls at H O hlen
    repeat' first|apply nI|(refine eI apU ?_;intro K E;simp[t0,t1,t2,t8,t7,l7,ZO,Y,N,s2,s3,s4,s5,z1,n1,n2,w1,ab,O,hlen];apply E)
    refine aN (d-1) ⟨k+1,nx+4+19,by omega,by simp[t0],by simp[t1],by simp[t2],by simp,by simp[H],by simp,by simp⟩
   ·have gg:k=S.length:=by omega
    subst gg;rw[apE] at t7
    repeat' first|apply nI|(refine eI apU ?_;intro K E;simp[t0,t1,t2,t8,t7];apply E)
    simp[Dn,aH,Tryz.f182,strs]
theorem apC(h:ay)(H:h.L.length<=10)(E:h.S.length<=10):aq P 160 [.ag (o6 h)] (strs (e_ h.L h.S)):=by
 obtain⟨A,J,p⟩:=ca (aoV (P:=P) h.L.length [] h.L h.S rfl H E (by simp;omega));have e:an0 [] h.L h.S=e_ h.L h.S:=by simp[an0]
 rw[e] at p;simp only[strs] at p;refine fi (ak (aR Tryz.func182) J (au P)) (lf Tryz.func160) ?_
 repeat' first|apply nI|(refine eI [0,1,2] ?_;intro K I;simp[o6,ab,p];apply I)
 simp[Dn,aH,Tryz.f160,strs]
end
@[simp] abbrev apc:List Nat:=[0,2,3,4,5,9,27,44]
theorem aoD(l:List Int):(uI l).Pairwise (· < ·):=(ua M0 l).imp λh=>by omega
theorem apV{l m:List Int}(hm:m.Pairwise (· < ·))(h:∀x,x∈m↔x∈l):uI l=m:=
 nP M0 (ua M0 l) (hm.imp λh=>by omega) λx=>(lW l x).trans (h x).symm
theorem ap_(m:List Int)(x:Int)(k:Nat)(h1:∀j,(p:j<(uI m).length)->j<k->(uI m)[j]<x)(h2:∀j,(p:j<(uI m).length)->k<=j->x<=(uI m)[j]):
  uI (m++ [x])=if(uI m)[k]?=some x then uI m else(uI m).take k++ [x]++(uI m).drop k:=by
 have hs:=aoD m;have E:∀y,y∈uI m↔y∈m:=λy=>lW m y
 by_cases hx:(uI m)[k]?=some x
 ·rw[aay hx];refine apV hs λy=>?_
  rw[E,abH,acE];constructor
  ·exact .inl
  ·rintro(h|rfl)
   ·exact h
   ·exact(E _).1 (List.mem_of_getElem? hx)
 ·rw[aat hx];refine apV ?_ λy=>?_
  ·rw[ae9,List.pairwise_append];refine⟨hs.sublist (List.take_sublist _ _),?_,λy hy z hz=>?_⟩
   ·rw[List.singleton_append,List.pairwise_cons];refine⟨λz hz=>?_,hs.sublist (List.drop_sublist _ _)⟩;obtain⟨j,p,rfl⟩:=List.getElem_of_mem hz;rw[List.getElem_drop];have H:k+j<(uI m).length:=by rw[ahh] at p;omega
    have I:=h2 (k+j) H (by omega);have hk:k<(uI m).length:=by omega
    have L:(uI m)[k]≠x:=λe=>hx (by rw[aaf hk,e])
    have M:=h2 k hk (aax _);rcases Nat.eq_zero_or_pos j with rfl|hp
    ·simp only[aeS];omega
    ·have:=List.pairwise_iff_getElem.1 hs k (k+j) hk H (by omega);omega
   ·obtain⟨j,p,rfl⟩:=List.getElem_of_mem hy;rw[afk] at p;rw[List.getElem_take];have I:=h1 j (by omega) (by omega);rcases abH.1 hz with hz|hz
    ·rw[acE.1 hz];exact I
    ·obtain⟨i,hi,rfl⟩:=List.getElem_of_mem hz;rw[List.getElem_drop];have J:k+i<(uI m).length:=by rw[ahh] at hi;omega
     have:=h2 (k+i) J (by omega);omega
  ·rw[abH,abH,abH,acE,<-E y]
   conv=>rhs;rw[<-List.take_append_drop k (uI m),abH]
   constructor
   ·rintro((h|h)|h)
    ·exact .inl (.inl h)
    ·exact .inr h
    ·exact .inl (.inr h)
   ·rintro((h|h)|h)
    ·exact .inl (.inl h)
    ·exact .inr h
    ·exact .inl (.inr h)
section
variable{P:Program}[l:cL P]
theorem aoS(a:List Int)(ha:a.length<=1000000000000):aq P 116 [ints a] (ints (uI a)):=by
 refine fi (au P) (lf Tryz.func116) ?_
 repeat' first|apply nI|(refine eI apc ?_;intro K E;simp[ints];apply E)
 refine amF (λd T B lv nx=>∃i τ,i+d=a.length/\T 0=ints a/\T 4=.i .i64 i/\T 3=.sq (some τ) 1 ((uI (a.take i)).map (.i .i64))/\lv τ=some 3/\τ<nx) a.length ?_ ?_
 ·exact⟨0,1,by simp,by simp[ints],by simp,by simp[show uI []= [] from akN],by simp,by simp⟩
 rintro d T B lv nx ⟨i,τ,hi,t0,t4,t3,U,W⟩;have w1:=aS ((i:Int)+1);by_cases I:i<a.length
 ·have ga:a[i]?=some a[i]:=aaf I;have O:(a.map (AV.i .i64)).drop i=.i .i64 a[i]::(a.map (AV.i .i64)).drop (i+1):=by rw[aa4 (by simpa using I)];simp
  have ta:a.take (i+1)=a.take i++ [a[i]]:=aaN I;generalize a[i]=x at ga O ta;have hul:(uI (a.take i)).length<=1000000000000:=by
   have:(uI (a.take i)).length<=(a.take i).length:=kX _;rw[afk] at this;omega
  have V6:=λk h1 h2=>ap_ (a.take i) x k h1 h2
  have Y:=aoD (a.take i);rw[<-ta] at V6;generalize uI (a.take i)=u at *
  repeat' first|apply nI|(refine eI apc ?_;intro K E;simp[t0,t4,t3,ints,I];apply E)
  refine amF (λk T B lv nx=>T 0=ints a/\T 4=.i .i64 i/\T 3=.sq (some τ) 1 (u.map (.i .i64))/\lv τ=some 3/\τ<nx/\T 5=.i .i64 k/\k<=u.length/\∀j,(N:j<u.length)->k<=j->x<=u[j]) u.length ?_ ?_
  ·exact⟨by simp[ints],by simp,by simp,by simp[U],by omega,by simp,aax _,λj N hk=>by omega⟩
  rintro k T B lv nx ⟨t0,t4,t3,U,W,t5,hk,RJ⟩;by_cases hgo:∃j,k=j+1/\∃N:j<u.length,x<=u[j]
  ·obtain⟨j,hkj,N,hc⟩:=hgo;have h0:0<k:=by omega
   have w2:IntKind.i64.wrap ((k:Int)-1)=j:=by rw[aS _];omega
   have dj:(u.map (AV.i .i64)).drop j=.i .i64 u[j]::(u.map (AV.i .i64)).drop (j+1):=by rw[aa4 (by simpa using N)];simp
   have atE:∀q,(hq:q<u.length)->j<=q->x<=u[q]:=λq hq hjq=>by
    by_cases e:q=j
    ·subst e;exact hc
    ·exact RJ q hq (by omega)
   generalize u[j]=y at hc dj
   repeat' first|apply nI|(refine eI apc ?_;intro K E;simp[t0,t4,t3,t5,ints,h0,w2,dj,N,I,O,hc];apply E)
   exact aN j ⟨by simp[t0,ints],by simp[t4],by simp[t3],by simp[U],by simp <;>omega,by simp,by omega,atE⟩
  ·have hs:u.Pairwise (· < ·):=Y;have Ak:∀q,(hq:q<u.length)->q<k->u[q]<x:=λq hq hqk=>by
    have M:k-1<u.length:=by omega
    have h1:u[k-1]<x:=by
     refine Int.not_le.1 λhle=>hgo ⟨k-1,by omega,M,hle⟩
    by_cases e:q=k-1
    ·subst e;exact h1
    ·have:=List.pairwise_iff_getElem.1 hs q (k-1) hq M (by omega);omega
   have p:=V6 k Ak RJ;obtain⟨j,y,yw⟩:∃(j:Nat) (y:Int),(¬0<k/\True/\True/\True/\True)\/(0<k/\IntKind.i64.wrap ((k:Int)-1)=j/\j<u.length/\(u.map (AV.i .i64)).drop j=.i .i64 y::(u.map (AV.i .i64)).drop (j+1)/\¬x<=y):=by
    by_cases h0:0<k
    ·have M:k-1<u.length:=by omega
     refine⟨k-1,u[k-1],.inr ⟨h0,?_,M,?_,?_⟩⟩
     ·rw[aS _];omega
     ·rw[aa4 (by simpa using M)];simp
     ·have:=Ak (k-1) M (by omega);omega
    ·exact⟨0,0,.inl ⟨h0,trivial,trivial,trivial,trivial⟩⟩
   have m1:min k u.length*9<=70368744177664:=by omega
   have m2:(min k u.length+1)*9<=70368744177664:=by omega
   have m3:(min k u.length+1+(u.length-k))*9<=70368744177664:=by omega
   have m4:k<u.length->(min k u.length+1+(u.length-(k+1)+1))*9<=70368744177664:=λ_=>by omega
   have tl:(u.map (AV.i .i64)).take u.length=u.map (AV.i .i64):=aa1 (by simp);have e1:(k:Int)<=u.length:=by omega
   rcases yw with ⟨f1,f2,f3,f4,f5⟩|⟨f1,f2,f3,f4,f5⟩
   all_goals
    by_cases L:k<u.length
    ·have V:(u.map (AV.i .i64)).drop k=.i .i64 u[k]::(u.map (AV.i .i64)).drop (k+1):=by rw[aa4 (by simpa using L)];simp
     have Z:u[k]?=some u[k]:=aaf L;rw[Z] at p;generalize u[k]=z at p V;cases H:(z==x) with
     |true=>
      have J:z=x:=by simpa using H
      rw[aay (by rw[J])] at p
      repeat' first|apply nI|(refine eI apc ?_;intro K E;simp[t0,t4,t3,t5,ints,f1,f2,f3,f4,f5,V,L,H,I,O,w1];apply E)
      refine aN (d-1) ⟨i+1,τ,by omega,by simp[t0,ints],by simp,by simp[t3,p],by simp[U],by simp <;>omega⟩
     |false=>
      have J:z≠x:=by simpa using H
      rw[aat (λe=>J (adw e))] at p;have m4:=m4 L
      repeat' first|apply nI|(refine eI apc ?_;intro K E;simp[t0,t4,t3,t5,ints,f1,f2,f3,f4,f5,V,L,H,I,O,w1,m1,m2,m4,tl,e1];apply E)
      refine aN (d-1) ⟨i+1,nx+14+15+14,by omega,by simp[t0,ints],by simp,by simp[p,V],by simp,by simp⟩
    ·have Z:u[k]?=none:=aby (by omega);rw[Z,aat (by simp)] at p
     repeat' first|apply nI|(refine eI apc ?_;intro K E;simp[t0,t4,t3,t5,ints,f1,f2,f3,f4,f5,L,I,O,w1,m1,m2,m3,tl,e1];apply E)
     refine aN (d-1) ⟨i+1,nx+14+15+14,by omega,by simp[t0,ints],by simp,by simp[p],by simp,by simp⟩
 ·have I8:i=a.length:=by omega
  subst I8;rw[aeo] at t3
  repeat' first|apply nI|(refine eI apc ?_;intro K E;simp[t0,t4,t3,ints];apply E)
  simp[Dn,aH,Tryz.f116,ints]
end
@[simp] abbrev an3:List Nat:=[0,1,2,3,6,7,8,9,10,11,12,13,15,24,30,36,67]
def anN(h:ay)(w s:List UInt8)(r c:UInt8):Bool:=(numOf w h.R (s++ [c])).isSome&&an1 h.alike r c
def aof(h:ay)(w:List UInt8)(r:UInt8)(s:List UInt8):List (List UInt8):=((w++h.R).filter (anN h w s r)).map λc=>s++ [c]
def aP(h:ay)(w:List UInt8):List UInt8->List (List UInt8):=λrs=>rs.foldl (λout r=>out.flatMap (aof h w r)) [[]]
theorem aob(h:ay)(w rs:List UInt8)(r:UInt8):aP h w (rs++ [r])=(aP h w rs).flatMap (aof h w r):=by
 unfold aP;rw[ag9];rfl
theorem anS{α β:Type}(f:α->List β)(n:Nat):∀l:List α,(∀a∈l,(f a).length<=n)->(l.flatMap f).length<=l.length*n
 | [],_=>by simp
 |a::l,h=>by
  have h1:=h a (by simp);have h2:=anS f n l λb hb=>h b (by simp[hb])
  rw[aco,abj,ab0,Nat.succ_mul];omega
theorem ao2(h:ay)(w s:List UInt8)(r:UInt8)(hw:w.length<=10)(p:h.R.length<=1):(aof h w r s).length<=11:=by
 unfold aof;rw[abz];refine aaY (ael _ _) ?_;rw[abj];omega
theorem anR(h:ay)(w:List UInt8)(hw:w.length<=10)(p:h.R.length<=1)(rs:List UInt8):∀i≤rs.length,(aP h w (rs.take i)).length<=11^i/\∀s∈aP h w (rs.take i),s.length=i
 |0,_=>by simp[aP]
 |i+1,hi=>by
  obtain⟨h1,h2⟩:=anR h w hw p rs i (by omega);rw[aaN (by omega),aob];refine⟨?_,λs hs=>?_⟩
  ·refine aaY (anS _ 11 _ λs _=>ao2 h w s _ hw p) ?_;rw[Nat.pow_succ];exact ab2 _ h1
  ·obtain⟨t,ht,hs⟩:=aeQ.1 hs;obtain⟨c,_,rfl⟩:=ac4.1 hs;rw[abj,h2 t ht];rfl
section
variable{P:Program}[l:cL P]
theorem apT(h:ay)(hv:sH h):∃F:List AV->Option AV,Den P 171 F/\∀c x:UInt8,F [eG h,.i .u8 c.toNat,.i .u8 x.toNat]=some (.b (an1 h.alike c x)):=by
 obtain⟨F,h1,h2⟩:=cC (P:=P) (f:=171) (ι:=UInt8×UInt8) (λx=> [eG h,.i .u8 x.1.toNat,.i .u8 x.2.toNat]) (λx=>.b (an1 h.alike x.1 x.2)) (λ_=>True) (λx y _ _ e=>by
  simp only[abg,AV.i.injEq,adM,abQ] at e;rw[L9 e.1,L9 e.2]) (λx _=>apS h x.1 x.2 hv)
 exact⟨F,h1,λc x=>h2 (c,x) trivial⟩
set_option maxHeartbeats 400000 in
theorem aoR(h:ay)(w r:List UInt8)(hv:sH h)(hw:w.length<=10)(hR:h.R.length<=1)(hr:r.length<=5):aq P 139 [.ag (o6 h),.s w,.s r] (strs (aP h w r)):=by
 obtain⟨C,cd,hC⟩:=apT (P:=P) h hv;simp only[eG,o6] at hC;have hH:(w++h.R).length<=11:=by rw[abj];omega
 have n0:¬(9223372036854775807:Int)<(w.length:Int)+h.R.length:=by omega
 refine fi (ak (aR Tryz.func144) aow (ak (aR Tryz.func171) cd (au P))) (lf Tryz.func139) ?_
 repeat' first|apply nI|(refine eI an3 ?_;intro K p;simp[o6,n0];apply p)
 generalize hHd:w++h.R=H at *;refine amF (λd T B lv nx=>∃i c7,i+d=r.length/\T 1=.s w/\T 2=.s r/\T 3=.sp (o6 h)/\T 8=.s H/\T 9=.i .i64 i/\T 7=.sq c7 1 ((aP h w (r.take i)).map .s)) r.length ?_ ?_
 ·exact⟨0,_,by simp,by simp,by simp,by simp[o6],by simp,by simp,by simp[aP];rfl⟩
 rintro d T B lv nx ⟨i,c7,hi,t1,t2,t3,t8,t9,t7⟩;have w1:=aS ((i:Int)+1);by_cases V:i<r.length
 ·obtain⟨hol,LQ⟩:=anR h w hw hR r i (by omega);have aqv:aP h w (r.take (i+1))=(aP h w (r.take i)).flatMap (aof h w r[i]):=by rw[aaN V,aob]
  have h11:11^i<=161051:=aef (n:=11) (show 11>0 by decide) (show i<=5 by omega);have gr:r[i]?=some r[i]:=aaf V;generalize aP h w (r.take i)=out at *
  repeat' first|apply nI|(refine eI an3 ?_;intro K p;simp[t1,t2,t3,t8,t9,t7,V];apply p)
  generalize M:r[i]=rc at *;refine amF (λd T B lv nx=>∃k τ,k+d=out.length/\T 1=.s w/\T 2=.s r/\T 3=.sp (o6 h)/\T 8=.s H/\T 9=.i .i64 i/\T 7=.sq c7 1 (out.map .s)/\T 11=.i .i64 k/\T 10=.sq (some τ) 1 (((out.take k).flatMap (aof h w rc)).map .s)/\lv τ=some 9/\τ<nx) out.length ?_ ?_
  ·exact⟨0,nx+4,by simp,by simp,by simp,by simp,by simp,by simp,by simp,by simp,by simp,by simp,by simp⟩
  rintro d1 T B lv nx ⟨k,τ,hk,t1,t2,t3,t8,t9,t7,t11,t10,l10,hτ⟩;have w2:=aS ((k:Int)+1);by_cases J:k<out.length
  ·have Y:out[k]?=some out[k]:=aaf J;have Z:(out.map AV.s).drop k=.s out[k]::(out.map AV.s).drop (k+1):=by rw[aa4 (by simpa using J)];simp
   have tk:out.take (k+1)=out.take k++ [out[k]]:=aaN J;have Yw:=LQ _ (abG J);generalize out[k]=s at Y Z tk Yw;have Oe:((out.take k).flatMap (aof h w rc)).length<=161051*11:=by
    refine aaY (anS _ 11 _ λs _=>ao2 h w s rc hw hR) ?_;rw[afk];exact ab2 _ (by omega)
   have hnx:(out.take (k+1)).flatMap (aof h w rc)=(out.take k).flatMap (aof h w rc)++aof h w rc s:=by rw[tk,aft];simp
   generalize (out.take k).flatMap (aof h w rc)=pre at *
   repeat' first|apply nI|(refine eI an3 ?_;intro K p;simp[t1,t2,t3,t8,t9,t7,t11,t10,J];apply p)
   refine amF (λd T B lv nx=>∃j τ,j+d=H.length/\T 1=.s w/\T 2=.s r/\T 3=.sp (o6 h)/\T 8=.s H/\T 9=.i .i64 i/\T 7=.sq c7 1 (out.map .s)/\T 11=.i .i64 k/\T 12=.i .i64 j/\T 10=.sq (some τ) 1 ((pre++((H.take j).filter (anN h w s rc)).map λc=>s++ [c]).map .s)/\lv τ=some 9/\τ<nx) H.length ?_ ?_
   ·exact⟨0,τ,by simp,by simp,by simp,by simp,by simp,by simp,by simp,by simp,by simp,by simp,by simp[l10],by omega⟩
   rintro d2 T B lv nx ⟨j,τ,hj,t1,t2,t3,t8,t9,t7,t11,t12,t10,l10,hτ⟩;have w3:=aS ((j:Int)+1);by_cases W:j<H.length
   ·have L:(H.take (j+1)).drop j= [H[j]]:=by
     rw[aaN W,List.drop_append_of_le_length (by rw[afk];omega),List.drop_of_length_le (by rw[afk];omega)];rfl
    have tj:H.take (j+1)=H.take j++ [H[j]]:=aaN W;have I:=hC rc H[j];have U:aoq [.s w,.s h.R,.s (s++ [H[j]])]=some (.tu [.i .i64 ((numOf w h.R (s++ [H[j]])).getD 0),.b (numOf w h.R (s++ [H[j]])).isSome]):=by
     show(if w.length<1000000/\(s++ [H[j]]).length<=15 then _ else none)=_;rw[aay ⟨by omega,by rw[abj,List.length_singleton];omega⟩]
    have sL:(pre++((H.take j).filter (anN h w s rc)).map λc=>s++ [c]).length<=161051*11+11:=by
     rw[abj,abz];have:=ael (anN h w s rc) (H.take j);rw[afk] at this;omega
    have Ap:anN h w s rc H[j]=((numOf w h.R (s++ [H[j]])).isSome&&an1 h.alike rc H[j]):=rfl;have xn:((H.take (j+1)).filter (anN h w s rc)).map (λc=>s++ [c])=((H.take j).filter (anN h w s rc)).map (λc=>s++ [c])++(if anN h w s rc H[j] then[s++ [H[j]]] else[]):=by
     rw[tj,ag2,afD];congr 1;cases hg:anN h w s rc H[j] <;>simp[hg]
    have s2:(0:Int)<=(j:Int)+1:=by omega
    have s3:(j:Int)<=(j:Int)+1:=by omega
    have s4:(j:Int)+1<=H.length:=by omega
    have n1:¬(9223372036854775807:Int)<(s.length:Int)+1:=by omega
    have ati:((pre++((H.take j).filter (anN h w s rc)).map λc=>s++ [c]).length+1)*17<=70368744177664:=by omega
    generalize gS:(pre++((H.take j).filter (anN h w s rc)).map λc=>s++ [c])=cur at *;have E:(pre++((H.take (j+1)).filter (anN h w s rc)).map λc=>s++ [c])=cur++(if anN h w s rc H[j] then[s++ [H[j]]] else[]):=by rw[xn,<-List.append_assoc,gS]
    rw[Ap] at E;clear xn Ap gS;generalize nv:H[j]=c at *;cases N:(numOf w h.R (s++ [c])).isSome with
    |false=>
     rw[N] at U E;simp only[Bool.false_and,abX,ab3,acO] at E
     repeat' first|apply nI|(refine eI an3 ?_;intro K p;simp[t1,t2,t3,t8,t9,t7,t11,t12,t10,W,Z,Y,J,L,s2,s3,s4,n1,w3,o6,ab,az,U];apply p)
     refine aN (d2-1) ⟨j+1,τ,by omega,by simp[t1],by simp[t2],by simp[t3,o6],by simp[t8],by simp[t9],by simp[t7],by simp[t11],by simp,by simp[t10,E],by simp[l10],by simp <;>omega⟩
    |true=>
     rw[N] at U E;cases O:an1 h.alike rc c with
     |false=>
      rw[O] at I E;simp only[Bool.true_and,abX,ab3,acO] at E
      repeat' first|apply nI|(refine eI an3 ?_;intro K p;simp[t1,t2,t3,t8,t9,t7,t11,t12,t10,W,Z,Y,J,L,s2,s3,s4,n1,w3,o6,ab,az,U,V,M,nv,I];apply p)
      refine aN (d2-1) ⟨j+1,τ,by omega,by simp[t1],by simp[t2],by simp[t3,o6],by simp[t8],by simp[t9],by simp[t7],by simp[t11],by simp,by simp[t10,E],by simp[l10],by simp <;>omega⟩
     |true=>
      rw[O] at I E;simp only[Bool.true_and,acC] at E;have ZO:τ<nx+4+11+10+11:=by omega
      have n9:¬τ=nx+4+11+10+11+2:=by omega
      repeat' first|apply nI|(refine eI an3 ?_;intro K p;simp[t1,t2,t3,t8,t9,t7,t11,t12,t10,l10,ZO,n9,W,Z,Y,J,L,s2,s3,s4,n1,w3,o6,ab,az,U,V,M,nv,I,ati];apply p)
      refine aN (d2-1) ⟨j+1,nx+4+11+10+11+3,by omega,by simp[t1],by simp[t2],by simp[t3,o6],by simp[t8],by simp[t9],by simp[t7],by simp[t11],by simp,by simp[E],by simp,by simp⟩
   ·have ag5:j=H.length:=by omega
    subst ag5;rw[aeo] at t10
    repeat' first|apply nI|(refine eI an3 ?_;intro K p;simp[t1,t2,t3,t8,t9,t7,t11,t12,t10,w2];apply p)
    refine aN (d1-1) ⟨k+1,τ,by omega,by simp[t1],by simp[t2],by simp[t3],by simp[t8],by simp[t9],by simp[t7],by simp,by simp[t10,hnx,aof,hHd],by simp[l10],by simp <;>omega⟩
  ·have aaP:k=out.length:=by omega
   subst aaP;rw[aeo,<-aqv] at t10
   repeat' first|apply nI|(refine eI an3 ?_;intro K p;simp[t1,t2,t3,t8,t9,t7,t11,t10,w1];apply p)
   refine aN (d-1) ⟨i+1,some τ,by omega,by simp[t1],by simp[t2],by simp[t3],by simp[t8],by simp,by simp[t10]⟩
 ·have I8:i=r.length:=by omega
  subst I8;rw[aeo] at t7
  repeat' first|apply nI|(refine eI an3 ?_;intro K p;simp[t1,t2,t3,t8,t9,t7];apply p)
  simp[Dn,aH,Tryz.f139,strs]
end
@[simp] abbrev aqh:List Nat:=[0,1,2,3,6,7,8,9,14]
@[simp] abbrev apR:List Nat:=[0,1,2,3,5,6,7,8,9,10,20,41]
def anP(h:ay)(w s:List UInt8):Int:=(numOf w h.R s).getD 0
theorem apX{h:ay}{w s:List UInt8}(hw:w.length<=10)(hs:s.length<=15):aoq [.s w,.s h.R,.s s]=some (.tu [.i .i64 (anP h w s),.b (numOf w h.R s).isSome]):=by
 show(if w.length<1000000/\s.length<=15 then _ else none)=_;rw[aay ⟨by omega,hs⟩];rfl
def anX(h:ay)(w:List UInt8)(t:Tag)(s:List UInt8):Bool:=decide (t.low<=anP h w s)&&decide (anP h w s<=t.high)
def aa(h:ay)(w:List UInt8)(t:Tag):List (List UInt8):=(aP h w t.reads).filter (anX h w t)
section
variable{P:Program}[l:cL P]
theorem ao8(h:ay)(w:List UInt8)(p:List (List UInt8))(hw:w.length<=10)(hs:∀s∈p,s.length<=15)(hl:p.length<=1000000):aq P 134 [.ag (o6 h),.s w,strs p] (ints (p.map (anP h w))):=by
 refine fi (ak (aR Tryz.func144) aow (au P)) (lf Tryz.func134) ?_
 repeat' first|apply nI|(refine eI aqh ?_;intro K E;simp[o6,strs];apply E)
 refine amF (λd T B lv nx=>∃k τ,k+d=p.length/\T 1=.s w/\T 2=strs p/\T 3=.sp (o6 h)/\T 8=.i .i64 k/\T 7=.sq (some τ) 1 (((p.take k).map (anP h w)).map (.i .i64))/\lv τ=some 3/\τ<nx) p.length ?_ ?_
 ·exact⟨0,2,by simp,by simp,by simp[strs],by simp[o6],by simp,by simp,by simp,by simp⟩
 rintro d T B lv nx ⟨k,τ,hk,t1,t2,t3,t8,t7,N,O⟩;have w1:=aS ((k:Int)+1);by_cases H:k<p.length
 ·have L:(p.map AV.s).drop k=.s p[k]::(p.map AV.s).drop (k+1):=by rw[aa4 (by simpa using H)];simp
  have I:p.take (k+1)=p.take k++ [p[k]]:=aaN H;have J:=apX (h:=h) hw (hs _ (abG H));have hlen:(min k p.length+1)*9<=70368744177664:=by omega
  generalize p[k]=s at L I J;have V:τ<nx+4+13:=by omega
  have M:¬τ=nx+4+13+2:=by omega
  repeat' first|apply nI|(refine eI aqh ?_;intro K E;simp[t1,t2,t3,t8,t7,N,V,M,o6,strs,H,L,ab,J,hlen,w1];apply E)
  refine aN (d-1) ⟨k+1,nx+4+13+3,by omega,by simp[t1],by simp[t2,strs],by simp[t3,o6],by simp,by simp[I],by simp,by simp⟩
 ·have U:k=p.length:=by omega
  subst U;rw[aeo] at t7
  repeat' first|apply nI|(refine eI aqh ?_;intro K E;simp[t1,t2,t3,t8,t7,o6,strs];apply E)
  simp[Dn,aH,Tryz.f134,ints]
theorem apo(h:ay)(w:List UInt8)(t:Tag)(hv:sH h)(hw:w.length<=10)(Y:h.R.length<=1)(hr:t.reads.length<=5):aq P 90 [.ag (o6 h),.s w,.ag (fP t)] (strs (aa h w t)):=by
 obtain⟨S,sd,W⟩:=ca (aoR (P:=P) h w t.reads hv hw Y hr);obtain⟨L,LQ⟩:=anR h w hw Y t.reads t.reads.length (aax _);rw[aeo] at L LQ;have h11:11^t.reads.length<=161051:=aef (n:=11) (show 11>0 by decide) hr;unfold aa;generalize aP h w t.reads=p at *;simp only[o6,strs] at W;refine fi (ak (aR Tryz.func139) sd (ak (aR Tryz.func144) aow (ak (aR Tryz.func42) anp (au P)))) (lf Tryz.func90) ?_
 repeat' first|apply nI|(refine eI apR ?_;intro K H;simp[o6,fP,ab,az,W];apply H)
 refine amF (λd T B lv nx=>∃k τ,k+d=p.length/\T 1=.s w/\T 3=.sp (o6 h)/\T 5=.sp (fP t)/\T 8=strs p/\T 9=.i .i64 k/\T 7=.sq (some τ) 1 (((p.take k).filter (anX h w t)).map .s)/\lv τ=some 9/\τ<nx) p.length ?_ ?_
 ·exact⟨0,3,by simp,by simp,by simp[o6],by simp[fP],by simp[strs],by simp,by simp,by simp,by simp⟩
 rintro d T B lv nx ⟨k,τ,hk,t1,t3,t5,t8,t9,t7,V,hτ⟩;have w1:=aS ((k:Int)+1);by_cases J:k<p.length
 ·have N:(p.map AV.s).drop k=.s p[k]::(p.map AV.s).drop (k+1):=by rw[aa4 (by simpa using J)];simp
  have U:p.take (k+1)=p.take k++ [p[k]]:=aaN J;have M:=apX (h:=h) hw (show p[k].length<=15 by rw[LQ _ (abG J)];omega);have Oe:=ael (anX h w t) (p.take k);rw[afk] at Oe;have hlen:(((p.take k).filter (anX h w t)).length+1)*17<=70368744177664:=by omega
  generalize p[k]=s at N U M;have E:(p.take (k+1)).filter (anX h w t)=(p.take k).filter (anX h w t)++if anX h w t s then[s] else[]:=by
   rw[U,ag2];cases hp:anX h w t s <;>simp[hp]
  have I:anX h w t s=(decide (t.low<=anP h w s)&&decide (anP h w s<=t.high)):=rfl;by_cases O:t.low<=anP h w s/\anP h w s<=t.high
  ·have f1:=O.1;have f2:=O.2;rw[I] at E;simp only[f1,f2,decide_true,Bool.and_self,acC] at E;have ZO:τ<nx+4+13+8:=by omega
   have n9:¬τ=nx+4+13+8+5:=by omega
   repeat' first|apply nI|(refine eI apR ?_;intro K H;simp[t1,t3,t5,t8,t9,t7,V,ZO,n9,o6,fP,strs,J,N,ab,az,M,dIn,f1,f2,hlen,w1];apply H)
   refine aN (d-1) ⟨k+1,nx+4+13+8+6,by omega,by simp[t1],by simp[t3,o6],by simp[t5,fP],by simp[t8,strs],by simp,by simp[E],by simp,by simp⟩
  ·have f0:¬(t.low<=anP h w s/\anP h w s<=t.high):=O;have Z:(decide (t.low<=anP h w s)&&decide (anP h w s<=t.high))=false:=by
    rw[Bool.and_eq_false_iff,aac,aac];omega
   rw[I,Z] at E;simp only[abX,ab3,acO] at E
   repeat' first|apply nI|(refine eI apR ?_;intro K H;simp[t1,t3,t5,t8,t9,t7,o6,fP,strs,J,N,ab,az,M,dIn,Z,w1];apply H)
   refine aN (d-1) ⟨k+1,τ,by omega,by simp[t1],by simp[t3,o6],by simp[t5,fP],by simp[t8,strs],by simp,by simp[t7,E],by simp[V],by simp <;>omega⟩
 ·have gg:k=p.length:=by omega
  subst gg;rw[aeo] at t7
  repeat' first|apply nI|(refine eI apR ?_;intro K H;simp[t1,t3,t5,t8,t9,t7,o6,fP,strs];apply H)
  simp[Dn,aH,Tryz.f90,strs]
end
def agl:=@List.exists_cons_of_ne_nil
def bE:List UInt8->List UInt8->Bool
 |c::s,r::rs=>(r !=63&&r !=c)||bE s rs
 |_,_=>false
def aoh(h:ay)(w:List UInt8):Int×Int->List UInt8->List UInt8->Int×Int->Prop
 |st,[],[],p=>st=p
 |st,r::rs,c::s,p=>c∈w++h.R/\an1 h.alike r c=true/\∃st1,wP w h.R st c=some st1/\aoh h w st1 rs s p
 |_,_,_,_=>False
section
variable{h:ay}{w:List UInt8}
theorem aoe:∀(rs s:List UInt8) (st p:Int×Int),aoh h w st rs s p->anJ w h.R st s=some p
 | [],[],st,p,e=>by simp only[aoh] at e;rw[e];rfl
 |r::rs,c::s,st,p,⟨_,_,st1,h1,h2⟩=>by
  simp only[anJ,h1,abN];exact aoe rs s st1 p h2
 | [],_::_,_,_,e=>e.elim
 |_::_,[],_,_,e=>e.elim
theorem aod:∀(rs s:List UInt8) (r:UInt8) (st p:Int×Int),aoh h w st (rs++ [r]) s p↔∃s0 c st1,s=s0++ [c]/\aoh h w st rs s0 st1/\c∈w++h.R/\an1 h.alike r c=true/\wP w h.R st1 c=some p
 | [],s,r,st,p=>by
  constructor
  ·intro hc
   match s,hc with
   | [c],⟨h1,h2,st1,H,E⟩=>
    simp only[aoh] at E;exact⟨[],c,st,rfl,rfl,h1,h2,by rw[H,E]⟩
   |c::d::s,⟨_,_,_,_,E⟩=>exact E.elim
  ·rintro⟨s0,c,st1,rfl,h1,h2,H,E⟩
   match s0,h1 with
   | [],h1=>
    simp only[aoh] at h1;subst h1;exact⟨h2,H,p,E,rfl⟩
 |q::rs,s,r,st,p=>by
  constructor
  ·intro hc
   match s,hc with
   |c::s,⟨h1,h2,st1,H,E⟩=>
    obtain⟨s0,d,st2,rfl,k1,k2,J,I⟩:=(aod rs s r st1 p).1 E;exact⟨c::s0,d,st2,rfl,⟨h1,h2,st1,H,k1⟩,k2,J,I⟩
  ·rintro⟨s0,d,st2,rfl,k1,k2,J,I⟩
   match s0,k1 with
   |c::s0,⟨h1,h2,st1,H,k1⟩=>exact⟨h1,h2,st1,H,(aod rs (s0++ [d]) r st1 p).2 ⟨s0,d,st2,rfl,k1,k2,J,I⟩⟩
theorem aou:∀(n:Nat) (rs:List UInt8),rs.length=n->∀s,s∈aP h w rs↔∃p,aoh h w (0,-1) rs s p
 |0,rs,hn,s=>by
  have:rs= []:=abA hn;subst this;simp only[aP,List.foldl_nil,acE];constructor
  ·rintro rfl;exact⟨(0,-1),rfl⟩
  ·rintro⟨p,hc⟩
   match s,hc with
   | [],_=>rfl
 |n+1,rs,hn,s=>by
  obtain⟨rs,r,rfl⟩:∃l r,rs=l++ [r]:=⟨rs.dropLast,rs.getLast (by intro e;rw[e] at hn;cases hn),(List.dropLast_concat_getLast _).symm⟩
  have hn:rs.length=n:=by simpa using hn
  have H:=aou n rs hn;rw[aob,aeQ];constructor
  ·rintro⟨s0,h1,h2⟩;obtain⟨c,hc,rfl⟩:=ac4.1 h2;obtain⟨M,E⟩:=afJ.1 hc;obtain⟨st1,k1⟩:=(H s0).1 h1;unfold anN at E;rw[aaZ] at E;have hf:=aoe _ _ _ _ k1;have hs:=E.1;unfold numOf at hs;rw[anZ,hf] at hs;simp only[abN,anJ] at hs;cases I:wP w h.R st1 c with
   |none=>rw[I] at hs;simp at hs
   |some p=>exact⟨p,(aod _ _ _ _ _).2 ⟨s0,c,st1,rfl,k1,M,E.2,I⟩⟩
  ·rintro⟨p,hc⟩;obtain⟨s0,c,st1,rfl,k1,k2,L,J⟩:=(aod _ _ _ _ _).1 hc;refine⟨s0,(H s0).2 ⟨st1,k1⟩,ac4.2 ⟨c,afJ.2 ⟨k2,?_⟩,rfl⟩⟩;unfold anN numOf;rw[anZ,aoe _ _ _ _ k1];simp[anJ,L,J]
theorem aoQ{rs s:List UInt8}{p:Int×Int}(hc:aoh h w (0,-1) rs s p):anP h w s=p.1:=by
 unfold anP numOf;rw[aoe _ _ _ _ hc];rfl
theorem aon(r c:UInt8):an1 h.alike r c=fK h r c:=by
 unfold an1 fK;cases(r==c) <;>cases(r==63) <;>simp
theorem apI(ho:Tc h w){j:Nat}(p:j<w.length):placeOf w w[j]=(((j+1)%10:Nat):Int):=by
 rw[aoJ w w[j] j p (λhm=>?_) rfl]
 ·omega
 ·obtain⟨i,hi,e⟩:=agD.1 hm;have:=(List.getElem_inj ho.nod (i:=i) (j:=j) (h₀:=by omega) (h₁:=p)).1 e;omega
theorem aoP(ho:Tc h w)(n last:Int)(c:UInt8)(st:Int×Int):(c∈w++h.R/\wP w h.R (n,last) c=some st)↔
  (∃j<10,w.getD j 0=c/\((((j+1)%10:Nat):Int) !=last||h.R.isEmpty)=true/\st=(10*n+(((j+1)%10:Nat):Int),(((j+1)%10:Nat):Int)))\/(∃q I,h.R=q::I/\c=q/\0<=last/\st=(10*n+last,last)):=by
 have N:∀j,(E:j<w.length)->w.getD j 0=w[j]:=λj E=>by rw[abM,aaf E];rfl
 have V:=ho.len;have O:∀j,(E:j<w.length)->wP w h.R (n,last) w[j]=if h.R≠ []/\(((j+1)%10:Nat):Int)=last then none else some (10*n+(((j+1)%10:Nat):Int),(((j+1)%10:Nat):Int)):=λj E=>by
  have J:¬(h.R≠ []/\h.R[0]?=some w[j]):=λe=>(ho.rep _ (List.mem_of_getElem? e.2)).2 (abG E)
  unfold wP;rw[aat J,apI ho E];split
  ·rfl
  ·rw[aat (by omega)]
 constructor
 ·rintro⟨hm,hs⟩;by_cases L:c∈w
  ·obtain⟨j,E,rfl⟩:=List.getElem_of_mem L;rw[O j E] at hs;split at hs
   ·cases hs
   ·rename_i U;cases hs;refine .inl ⟨j,by omega,N j E,?_,rfl⟩;by_cases p:h.R= []
    ·simp[p]
    ·have:¬(((j+1)%10:Nat):Int)=last:=λe=>U ⟨p,e⟩
     simp only[adr,bne_iff_ne];exact .inl this
  ·have W:c∈h.R:=(abH.1 hm).resolve_left L;obtain⟨q,I,p⟩:=agl (List.ne_nil_of_mem W);by_cases hq:c=q
   ·subst hq;unfold wP at hs;rw[aay ⟨by rw[p];simp,by rw[p];rfl⟩] at hs;split at hs
    ·cases hs
    ·rename_i hl;cases hs;exact .inr ⟨c,I,p,rfl,by simpa using hl,rfl⟩
   ·unfold wP at hs;rw[aat (λe=>hq (by have:=e.2;rw[p] at this;simpa using this.symm)),aoB w c L] at hs;split at hs
    ·cases hs
    ·rw[aay (by decide)] at hs;cases hs
 ·rintro(⟨j,E,rfl,M,rfl⟩|⟨q,I,p,rfl,hl,rfl⟩)
  ·have H:j<w.length:=by omega
   rw[N j H];refine⟨List.mem_append_left _ (abG H),?_⟩;rw[O j H,aat];rintro⟨p,e⟩;simp only[adr,bne_iff_ne,List.isEmpty_iff] at M;rcases M with h1|h1
   ·exact h1 e
   ·exact p h1
  ·refine⟨List.mem_append_right _ (by rw[p];simp),?_⟩;unfold wP;rw[aay ⟨by rw[p];simp,by rw[p];rfl⟩,aat (by simpa using hl)]
theorem aoL(ho:Tc h w):∀(rs:List UInt8) (last n:Int) (b:Bool) (m:Int) (o:Bool),(m,o)∈bf h w rs last n b↔∃s p,aoh h w (n,last) rs s p/\p.1=m/\(b||bE s rs)=o
 | [],last,n,b,m,o=>by
  simp only[bf,acE,Prod.mk.injEq];constructor
  ·rintro⟨rfl,rfl⟩;exact⟨[],(m,last),rfl,rfl,by simp[bE]⟩
  ·rintro⟨s,p,hc,rfl,rfl⟩
   match s,hc with
   | [],hc=>simp only[aoh] at hc;rw[<-hc];simp[bE]
 |r::rs,last,n,b,m,o=>by
  have I:=aoL ho rs;have key:(m,o)∈bf h w (r::rs) last n b↔∃c st,(c∈w++h.R/\wP w h.R (n,last) c=some st)/\an1 h.alike r c=true/\∃s p,aoh h w st rs s p/\p.1=m/\((b||(r !=63&&r !=c))||bE s rs)=o:=by
   unfold bf;rw[abH];constructor
   ·rintro(hx|hx)
    ·obtain⟨j,H,hx⟩:=aeQ.1 hx;have H:=aeh.1 H;split at hx
     ·rename_i L;split at hx
      ·rename_i E;exact⟨w.getD j 0,_,(aoP ho n last _ _).2 (.inl ⟨j,H,rfl,L,rfl⟩),by rw[aon];exact E,(I _ _ _ _ _).1 hx⟩
      ·cases hx
     ·cases hx
    ·split at hx
     ·cases hx
     ·rename_i q V M;split at hx
      ·rename_i hl;split at hx
       ·rename_i E;exact⟨q,_,(aoP ho n last _ _).2 (.inr ⟨q,V,M,rfl,hl,rfl⟩),by rw[aon];exact E,(I _ _ _ _ _).1 hx⟩
       ·cases hx
      ·cases hx
   ·rintro⟨c,st,Y,E,U⟩;rw[aon] at E;rcases(aoP ho n last c st).1 Y with ⟨j,H,rfl,L,rfl⟩|⟨q,V,M,rfl,hl,rfl⟩
    ·left;refine aeQ.2 ⟨j,aeh.2 H,?_⟩;rw[aay L,aay E];exact(I _ _ _ _ _).2 U
    ·right;rw[M];simp only;rw[aay hl,aay E];exact(I _ _ _ _ _).2 U
  rw[key];constructor
  ·rintro⟨c,st,⟨h1,h2⟩,O,s,p,N,W,J⟩;exact⟨c::s,p,⟨h1,O,st,h2,N⟩,W,by rw[bE,<-Bool.or_assoc];exact J⟩
  ·rintro⟨s,p,hc,hm,J⟩
   match s,hc with
   |c::s,⟨h1,O,st,h2,N⟩=>exact⟨c,st,⟨h1,h2⟩,O,s,p,N,hm,by rw[bE,<-Bool.or_assoc] at J;exact J⟩
theorem aoH(ho:Tc h w)(rs:List UInt8)(x:Int×Bool):x∈bf h w rs (-1) 0 false↔∃s∈aP h w rs,(anP h w s,bE s rs)=x:=by
 obtain⟨m,o⟩:=x;rw[aoL ho];constructor
 ·rintro⟨s,p,hc,rfl,rfl⟩;exact⟨s,(aou _ rs rfl s).2 ⟨p,hc⟩,by rw[aoQ hc,ahe]⟩
 ·rintro⟨s,hs,e⟩;obtain⟨p,hc⟩:=(aou _ rs rfl s).1 hs;rw[aoQ hc,Prod.mk.injEq] at e;exact⟨s,p,hc,e.1,by rw[ahe];exact e.2⟩
theorem anY(ho:Tc h w)(rs:List UInt8)(m:Int):m∈(aP h w rs).map (anP h w)↔m∈(bf h w rs (-1) 0 false).map (·.1):=by
 simp only[ac4,aoH ho];exact⟨λ⟨s,h1,h2⟩=>⟨_,⟨s,h1,rfl⟩,h2⟩,λ⟨x,⟨s,h1,h2⟩,p⟩=>⟨s,h1,by rw[<-p,<-h2]⟩⟩
end
section
variable{P:Program}[l:cL P]
end
section
variable{P:Program}[l:cL P]
end
section
variable{h:ay}{w:List UInt8}(hc:aO h=0)(ho:Tc h w)
include ho
include hc
variable{n g:Int}(hb:aV n g=0)
include hb
end
section
variable{h:ay}(hc:aO h=0)
include hc
end
theorem akg{s:List UInt8}(h:aM s=0):s.length<=5:=by
 unfold aM at h;split at h
 ·cases h
 ·omega
section
variable{P:Program}[l:cL P]
omit l in
theorem akG{h:ay}{r:List UInt8}(ho:bJ h [aM r]=0):aM r=0:=by
 have:=(ij ho).2.1;unfold bN at this;split at this
 ·exact this
 ·rename_i hh;simpa using hh
end
section
variable{P:Program}[l:cL P]
end
section
variable{h:ay}{i:Nat}{t:Tag}(ht:h.tags[i]?=some t){n:Int}
theorem amH{h:ay}{w:List UInt8}{t:Tag}{n:Int} :n∈(cF h w t).map (·.1)↔n∈(bf h w t.reads (-1) 0 false).map (·.1)/\t.low<=n/\n<=t.high:=by
 unfold cF;simp only[ac4,afJ,jU,aaZ,aan];constructor
 ·rintro⟨x,⟨h1,h2⟩,rfl⟩;exact⟨⟨x,h1,rfl⟩,h2⟩
 ·rintro⟨⟨x,h1,rfl⟩,h2⟩;exact⟨x,⟨h1,h2⟩,rfl⟩
theorem amL{h:ay}{w:List UInt8}{t:Tag} :(!(cF h w t).isEmpty)=true↔∃n,n∈(cF h w t).map (·.1):=by
 cases cF h w t with
 |nil=>simp
 |cons a l=>simp only[List.isEmpty_cons,Bool.not_false,List.map_cons,true_iff];exact⟨a.1,by simp⟩
include ht
theorem amM:dP h i=uI ((aB h).flatMap λw=>(cF h w t).map (·.1)):=by
 unfold dP;rw[Int.toNat_natCast,ht]
end
@[simp] abbrev ao9:List Nat:=[0,1,2,3,4,5,6,7,13,20,39]
theorem ao4{h:ay}{w:List UInt8}(ho:Tc h w)(t:Tag):(!(cF h w t).isEmpty)=decide (0<(aa h w t).length):=by
 rw[adX,amL,aan,List.length_pos_iff_exists_mem];constructor
 ·rintro⟨n,hn⟩;obtain⟨h1,h2,p⟩:=amH.1 hn;obtain⟨s,hs,rfl⟩:=ac4.1 ((anY ho t.reads n).2 h1);exact⟨s,afJ.2 ⟨hs,by simp[anX,h2,p]⟩⟩
 ·rintro⟨s,hs⟩;obtain⟨h1,h2⟩:=afJ.1 hs;simp only[anX,aaZ,aan] at h2;exact⟨anP h w s,amH.2 ⟨(anY ho t.reads _).1 (ac4.2 ⟨s,h1,rfl⟩),h2⟩⟩
section
variable{P:Program}[l:cL P]
theorem aom(h:ay)(hc:aO h=0):∃F:List AV->Option AV,Den P 90 F/\∀w t,w.length=10->t∈h.tags->F [.ag (o6 h),.s w,.ag (fP t)]=some (strs (aa h w t)):=by
 have p:=checked h hc;obtain⟨F,h1,h2⟩:=cC (P:=P) (f:=90) (ι:=List UInt8×Tag) (λx=> [.ag (o6 h),.s x.1,.ag (fP x.2)]) (λx=>strs (aa h x.1 x.2)) (λx=>x.1.length=10/\x.2∈h.tags) (λx y _ _ e=>by
  simp only[fP,abg,AV.s.injEq,AV.ag.injEq,AV.i.injEq,adM,abQ] at e;obtain⟨J,I,H,E⟩:=e;obtain⟨a,⟨b,c,d⟩⟩:=x;obtain⟨a',⟨b',c',d'⟩⟩:=y;simp only at J I H E;subst J I H E;rfl) (λx hx=>apo h x.1 x.2 (dO h hc).al (by omega) p.1.2.2.2.1 (qW hc hx.2))
 exact⟨F,h1,λw t a b=>h2 (w,t) ⟨a,b⟩⟩
theorem ape(h:ay)(hc:aO h=0):aq P 125 [.ag (o6 h)] (strs (aB h)):=by
 obtain⟨⟨k1,_,_,_,_,k6,k7,_⟩,_,Wp,_⟩:=checked h hc;obtain⟨A,ad,hA⟩:=ca (apC (P:=P) h (by omega) (by omega));obtain⟨F,fd,hF⟩:=aom (P:=P) h hc;have N:=cV h.tags;have fF:∀w∈e_ h.L h.S,Tc h w:=λw hw=>aiZ hc hw
 have aqk:=an_ h.L h.S (by omega);rw[k1] at aqk;unfold aB;generalize e_ h.L h.S=ws at *;simp only[o6,strs] at hA;refine fi (ak (aR Tryz.func160) ad (ak (aR Tryz.func90) fd (au P))) (lf Tryz.func125) ?_
 repeat' first|apply nI|(refine eI ao9 ?_;intro K p;simp[o6,ab,hA];apply p)
 refine amF (λd T B lv nx=>∃i τ,i+d=ws.length/\T 1=.sp (o6 h)/\T 3=strs ws/\T 5=.i .i64 i/\T 4=.sq (some τ) 1 (((ws.take i).filter (Az h)).map .s)/\lv τ=some 9/\τ<nx) ws.length ?_ ?_
 ·exact⟨0,5,by simp,by simp[o6],by simp[strs],by simp,by simp,by simp,by simp⟩
 rintro d T B lv nx ⟨i,τ,hi,t1,t3,t5,t4,I,Y⟩;have w1:=aS ((i:Int)+1);by_cases J:i<ws.length
 ·have V:(ws.map AV.s).drop i=.s ws[i]::(ws.map AV.s).drop (i+1):=by rw[aa4 (by simpa using J)];simp
  have ti:ws.take (i+1)=ws.take i++ [ws[i]]:=aaN J;have ho:=fF _ (abG J);have Oe:=ael (Az h) (ws.take i);rw[afk] at Oe;have hlen:(((ws.take i).filter (Az h)).length+1)*17<=70368744177664:=by omega
  generalize ws[i]=w at V ti ho;have E:(ws.take (i+1)).filter (Az h)=(ws.take i).filter (Az h)++if Az h w then[w] else[]:=by
   rw[ti,ag2];cases hp:Az h w <;>simp[hp]
  repeat' first|apply nI|(refine eI ao9 ?_;intro K p;simp[t1,t3,t5,t4,strs,J];apply p)
  refine amF (λd T B lv nx=>∃k,k+d=h.tags.length/\T 1=.sp (o6 h)/\T 3=strs ws/\T 5=.i .i64 i/\T 4=.sq (some τ) 1 (((ws.take i).filter (Az h)).map .s)/\lv τ=some 9/\τ<nx/\T 7=.i .i64 k/\T 6=.b ((h.tags.take k).all λt=> !(cF h w t).isEmpty)) h.tags.length ?_ ?_
  ·exact⟨0,by simp,by simp[t1],by simp[strs],by simp,by simp,by simp[I],by omega,by simp,by simp⟩
  rintro d1 T B lv nx ⟨k,hk,t1,t3,t5,t4,I,Y,t7,t6⟩;have w2:=aS ((k:Int)+1);by_cases M:k<h.tags.length
  ·have W:=fA h.tags k h.tags[k] (aaf M);have eu:(k+1)*3<=h.tags.length*3:=by omega
   have tk:h.tags.take (k+1)=h.tags.take k++ [h.tags[k]]:=aaN M;have H:=hF w h.tags[k] ho.len (abG M);simp only[o6,fP,strs] at H;generalize h.tags[k]=t at W tk H;have aqu:=ao4 ho t;have O:(h.tags.take (k+1)).all (λt=> !(cF h w t).isEmpty)=((h.tags.take k).all (λt=> !(cF h w t).isEmpty)&&decide (0<(aa h w t).length)):=by
    rw[tk,List.all_append,<-aqu];simp
   generalize aa h w t=rl at *;cases hb:(h.tags.take k).all (λt=> !(cF h w t).isEmpty) with
   |false=>
    rw[hb] at t6 O
    repeat' first|apply nI|(refine eI ao9 ?_;intro K p;simp[t1,t3,t5,t4,t7,t6,o6,strs,N,M,w2];apply p)
    refine aN (d1-1) ⟨k+1,by omega,by simp[t1,o6],by simp[t3,strs],by simp[t5],by simp[t4],by simp[I],by simp <;>omega,by simp,by simp[O]⟩
   |true=>
    rw[hb] at t6 O;by_cases U:0<rl.length
    ·repeat' first|apply nI|(refine eI ao9 ?_;intro K p;simp[t1,t3,t5,t4,t7,t6,o6,strs,N,M,J,V,W,eu,ab,az,H,U,w2];apply p)
     refine aN (d1-1) ⟨k+1,by omega,by simp[t1,o6],by simp[t3,strs],by simp[t5],by simp[t4],by simp[I],by simp <;>omega,by simp,by simp[O,U]⟩
    ·repeat' first|apply nI|(refine eI ao9 ?_;intro K p;simp[t1,t3,t5,t4,t7,t6,o6,strs,N,M,J,V,W,eu,ab,az,H,U,w2];apply p)
     refine aN (d1-1) ⟨k+1,by omega,by simp[t1,o6],by simp[t3,strs],by simp[t5],by simp[t4],by simp[I],by simp <;>omega,by simp,by simp[O,U]⟩
  ·have aaP:k=h.tags.length:=by omega
   subst aaP;rw[aeo] at t6;have Z:(h.tags.all λt=> !(cF h w t).isEmpty)=Az h w:=rfl;rw[Z] at t6;cases hg:Az h w with
   |false=>
    rw[hg] at t6 E;simp only[abX,ab3,acO] at E
    repeat' first|apply nI|(refine eI ao9 ?_;intro K p;simp[t1,t3,t5,t4,t7,t6,o6,strs,N,w1];apply p)
    refine aN (d-1) ⟨i+1,τ,by omega,by simp[t1,o6],by simp[t3,strs],by simp,by simp[t4,E],by simp[I],by simp <;>omega⟩
   |true=>
    rw[hg] at t6 E;simp only[acC] at E;have ZO:τ<nx+5+1:=by omega
    have n9:¬τ=nx+5+1+5:=by omega
    repeat' first|apply nI|(refine eI ao9 ?_;intro K p;simp[t1,t3,t5,t4,t7,t6,I,ZO,n9,o6,strs,N,J,V,hlen,w1];apply p)
    refine aN (d-1) ⟨i+1,nx+5+1+6,by omega,by simp[t1,o6],by simp[t3,strs],by simp,by simp[E],by simp,by simp⟩
 ·have I8:i=ws.length:=by omega
  subst I8;rw[aeo] at t4
  repeat' first|apply nI|(refine eI ao9 ?_;intro K p;simp[t1,t3,t5,t4,o6,strs];apply p)
  simp[Dn,aH,Tryz.f125,strs]
end
@[simp] abbrev ap4:List Nat:=[0,1,2,4,5,6,7,11,14,20]
@[simp] abbrev ap0:List Nat:=[0,1,2,3,6,7,8,12]
theorem apf{l m:List Int}(h:∀x,x∈l↔x∈m):uI l=uI m:=apV (aoD m) λx=>(lW m x).trans (h x).symm
section
variable{P:Program}[l:cL P]
theorem aoZ(h:ay)(i:Int)(hn:h.tags.length<1000000):aq P 79 [.ag (o6 h),.i .i64 i] (.i .i64 (iN h i)):=by
 have H:=cV h.tags;have w0:IntKind.i64.wrap ((h.tags.length:Int)-1)=(h.tags.length:Int)-1:=aS _;refine fi (ak (aR Tryz.func42) anp (au P)) (lf Tryz.func79) ?_;by_cases E:0<=i/\i<h.tags.length
 ·have f1:=E.1;have f2:i<=(h.tags.length:Int)-1:=by omega
  repeat' first|apply nI|(refine eI aqg ?_;intro K p;simp[o6,H,w0,ab,dIn,f1,f2];apply p)
  simp[Dn,aH,Tryz.f79,iN,E]
 ·have I:(decide (0<=i)&&decide (i<=(h.tags.length:Int)-1))=false:=by
   rw[Bool.and_eq_false_iff,aac,aac];omega
  repeat' first|apply nI|(refine eI aqg ?_;intro K p;simp[o6,H,w0,ab,dIn,I];apply p)
  simp[Dn,aH,Tryz.f79,iN,E]
theorem an9(h:ay)(hf:Fair h)(b:Int):aq P 78 [.ag (o6 h),.i .i64 b] (.tu [strs (bK h [b] (aB h) []),.i .i64 (bJ h [b])]):=by
 obtain⟨A,I,H⟩:=ca (BI (P:=P) h hf);simp only[o6] at H;by_cases hc:aO h=0
 ·have p:bJ h [b]=if b≠0 then b else if aB h= [] then 9 else 0:=by
   unfold bJ;rw[aat (by simp[hc])];by_cases e:b=0 <;>simp[bN,e]
  by_cases hb:b=0
  ·subst hb;rw[aat (by simp)] at p;obtain⟨W,wd,hW⟩:=ca (ape (P:=P) h hc);simp only[o6,strs] at hW;rw[hc] at H;refine fi (ak (aR Tryz.func49) I (ak (aR Tryz.func125) wd (au P))) (lf Tryz.func78) ?_;by_cases hw:aB h= []
   ·rw[aay hw] at p;rw[hw] at hW
    repeat' first|apply nI|(refine eI ap4 ?_;intro K E;simp[o6,ab,az,H,hW,bne];apply E)
    simp[Dn,dc,aH,Tryz.f78,bK,p,strs]
   ·rw[aat hw] at p;have hl:(((aB h).length:Int)==0)=false:=by
     have:=agz.2 hw;rw[ady];omega
    generalize aB h=ws at *
    repeat' first|apply nI|(refine eI ap4 ?_;intro K E;simp[o6,ab,az,H,hW,bne,hl,hw];apply E)
    simp[Dn,dc,aH,Tryz.f78,bK,p,strs]
  ·rw[aay hb] at p;rw[hc] at H;have J:(b==0)=false:=by simp[hb]
   refine fi (ak (aR Tryz.func49) I (au P)) (lf Tryz.func78) ?_
   repeat' first|apply nI|(refine eI ap4 ?_;intro K E;simp[o6,ab,H,bne,J];apply E)
   simp[Dn,dc,aH,Tryz.f78,bK,p,hb,strs]
 ·have p:bJ h [b]=aO h:=by unfold bJ;rw[aay hc]
  have L:(aO h==0)=false:=by simp[hc]
  refine fi (ak (aR Tryz.func49) I (au P)) (lf Tryz.func78) ?_
  repeat' first|apply nI|(refine eI ap4 ?_;intro K E;simp[o6,ab,H,bne,L];apply E)
  simp[Dn,dc,aH,Tryz.f78,bK,p,hc,strs]
theorem aoK(h:ay):∃F:List AV->Option AV,Den P 134 F/\∀w p,w.length<=10->(∀s∈p,s.length<=15)->p.length<=1000000->F [.ag (o6 h),.s w,strs p]=some (ints (p.map (anP h w))):=by
 obtain⟨F,h1,h2⟩:=cC (P:=P) (f:=134) (ι:=List UInt8×List (List UInt8)) (λx=> [.ag (o6 h),.s x.1,strs x.2]) (λx=>ints (x.2.map (anP h x.1))) (λx=>x.1.length<=10/\(∀s∈x.2,s.length<=15)/\x.2.length<=1000000) (λx y _ _ e=>by
  simp only[strs,abg,AV.s.injEq,AV.sq.injEq,adM,abQ] at e;rw[e.1,Tu e.2]) (λx hx=>ao8 h x.1 x.2 hx.1 hx.2.1 hx.2.2)
 exact⟨F,h1,λw p a b c=>h2 (w,p) ⟨a,b,c⟩⟩
theorem aoM(h:ay)(hc:aO h=0)(r:List UInt8)(hr:r.length<=5):aq P 84 [.ag (o6 h),strs (aB h),.s r] (ints (f_ h r)):=by
 have p:=checked h hc;obtain⟨S,sd,hS⟩:∃F:List AV->Option AV,Den P 139 F/\∀w:List UInt8,w.length=10->F [.ag (o6 h),.s w,.s r]=some (strs (aP h w r)):=by
  obtain⟨F,h1,h2⟩:=cC (P:=P) (f:=139) (ι:=List UInt8) (λw=> [.ag (o6 h),.s w,.s r]) (λw=>strs (aP h w r)) (λw=>w.length=10) (λx y _ _ e=>by
   simp only[abg,AV.s.injEq,adM,abQ] at e;rw[e]) (λw hw=>aoR h w r (dO h hc).al (by omega) p.1.2.2.2.1 hr)
  exact⟨F,h1,h2⟩
 obtain⟨N,nd,hN⟩:=aoK (P:=P) h;have M:f_ h r=uI ((aB h).flatMap λw=>(aP h w r).map (anP h w)):=by
  unfold f_;refine apf λx=>?_
  simp only[aeQ];exact⟨λ⟨w,h1,h2⟩=>⟨w,h1,(anY (MX hc h1) r x).2 h2⟩,λ⟨w,h1,h2⟩=>⟨w,h1,(anY (MX hc h1) r x).1 h2⟩⟩
 have W:∀w∈aB h,(aP h w r).length<=161051/\∀s∈aP h w r,s.length=r.length:=λw hw=>by
  obtain⟨a,b⟩:=anR h w (by rw[cI hc w hw];omega) p.1.2.2.2.1 r r.length (aax _);rw[aeo] at a b;exact⟨aaY a (aef (n:=11) (show 11>0 by decide) hr),b⟩
 have aoi:(aB h).length<=1000000:=by have:=sP hc;omega
 have O:=cI hc;rw[M];clear M;generalize aB h=ws at *;have hbound:∀k,((ws.take k).flatMap λw=>(aP h w r).map (anP h w)).length<=1000000*161051:=λk=>by
  refine aaY (anS _ 161051 _ λw hw=>by rw[abz];exact(W w (aee hw)).1) ?_;exact ab2 _ (by rw[afk];omega)
 obtain⟨Z,Y,U⟩:=ca (aoS (P:=P) (ws.flatMap λw=>(aP h w r).map (anP h w)) (by have:=hbound ws.length;rw[aeo] at this;omega));simp only[ints] at U;refine fi (ak (aR Tryz.func139) sd (ak (aR Tryz.func134) nd (ak (aR Tryz.func116) Y (au P)))) (lf Tryz.func84) ?_
 repeat' first|apply nI|(refine eI ap0 ?_;intro K I;simp[o6,strs];apply I)
 refine amF (λd T B lv nx=>∃k τ,k+d=ws.length/\T 1=strs ws/\T 2=.s r/\T 3=.sp (o6 h)/\T 8=.i .i64 k/\T 7=.sq (some τ) 1 (((ws.take k).flatMap λw=>(aP h w r).map (anP h w)).map (.i .i64))/\lv τ=some 3/\τ<nx) ws.length ?_ ?_
 ·exact⟨0,2,by simp,by simp[strs],by simp,by simp[o6],by simp,by simp,by simp,by simp⟩
 rintro d T B lv nx ⟨k,τ,hk,t1,t2,t3,t8,t7,l7,hτ⟩;have w1:=aS ((k:Int)+1);by_cases J:k<ws.length
 ·have V:(ws.map AV.s).drop k=.s ws[k]::(ws.map AV.s).drop (k+1):=by rw[aa4 (by simpa using J)];simp
  have L:ws.take (k+1)=ws.take k++ [ws[k]]:=aaN J;have hm:=abG J;have hb:=hbound k;generalize ws[k]=w at V L hm;obtain⟨q1,q2⟩:=W w hm;have E:=hS w (O w hm);have H:=hN w (aP h w r) (by rw[O w hm];omega) (λs hs=>by rw[q2 s hs];omega) (by omega);have hnx:(ws.take (k+1)).flatMap (λw=>(aP h w r).map (anP h w))=(ws.take k).flatMap (λw=>(aP h w r).map (anP h w))++(aP h w r).map (anP h w):=by rw[L,aft];simp
  simp only[o6,strs,ints] at E H;generalize (ws.take k).flatMap (λw=>(aP h w r).map (anP h w))=pre at *;generalize aP h w r=ss at *;have hlen:(pre.length+ss.length)*9<=70368744177664:=by omega
  have ZO:τ<nx+4:=by omega
  repeat' first|apply nI|(refine eI ap0 ?_;intro K I;simp[t1,t2,t3,t8,t7,l7,ZO,o6,strs,J,V,ab,az,E,H,hlen,w1];apply I)
  refine aN (d-1) ⟨k+1,nx+4+14,by omega,by simp[t1,strs],by simp[t2],by simp[t3,o6],by simp,by simp[hnx],by simp,by simp⟩
 ·have gg:k=ws.length:=by omega
  subst gg;rw[aeo] at t7
  repeat' first|apply nI|(refine eI ap0 ?_;intro K I;simp[t1,t2,t3,t8,t7,o6,strs,ab,az,U];apply I)
  simp[Dn,aH,Tryz.f84,ints]
theorem apA(h:ay)(hf:Fair h)(r:List UInt8)(hr:r.length<1000000):aq P 22 [.ag (o6 h),.s r] (.tu [ints (bK h [aM r] (f_ h r) []),.i .i64 (bJ h [aM r])]):=by
 obtain⟨A,L,J⟩:=ca (BE (P:=P) r hr);obtain⟨O,H,p⟩:=ca (an9 (P:=P) h hf (aM r));simp only[o6,strs] at p;by_cases ho:bJ h [aM r]=0
 ·obtain⟨hc,_,_⟩:=ij ho;obtain⟨M,md,I⟩:=ca (aoM (P:=P) h hc r (akg (akG ho)));simp only[o6,strs,ints] at I;rw[bK,ho,aat (by decide)] at p;refine fi (ak (aR Tryz.func83) L (ak (aR Tryz.func78) H (ak (aR Tryz.func84) md (au P)))) (lf Tryz.func22) ?_
  repeat' first|apply nI|(refine eI [0,1,2,4,5,6,7,16] ?_;intro K E;simp[o6,ab,az,J,p,I,bne];apply E)
  simp[Dn,dc,aH,Tryz.f22,bK,ho,ints]
 ·have N:(bJ h [aM r]==0)=false:=by simp[ho]
  rw[bK,aay ho] at p;refine fi (ak (aR Tryz.func83) L (ak (aR Tryz.func78) H (au P))) (lf Tryz.func22) ?_
  repeat' first|apply nI|(refine eI [0,1,2,4,5,6,7,16] ?_;intro K E;simp[o6,ab,az,J,p,N,bne];apply E)
  simp[Dn,dc,aH,Tryz.f22,bK,ho,ints]
end
theorem aos{h:ay}{w:List UInt8}(ho:Tc h w)(t:Tag)(x:Int):x∈(aa h w t).map (anP h w)↔x∈(cF h w t).map (·.1):=by
 rw[amH,<-anY ho t.reads x];unfold aa;simp only[ac4,afJ,anX,aaZ,aan];constructor
 ·rintro⟨s,⟨h1,h2⟩,rfl⟩;exact⟨⟨s,h1,rfl⟩,h2⟩
 ·rintro⟨⟨s,h1,rfl⟩,h2⟩;exact⟨s,⟨h1,h2⟩,rfl⟩
theorem an4{h:ay}(hc:aO h=0){w:List UInt8}(hw:w.length=10){t:Tag}(ht:t∈h.tags):(aa h w t).length<=161051/\∀s∈aa h w t,s.length<=5:=by
 have hr:=qW hc ht;obtain⟨a,b⟩:=anR h w (by omega) (checked h hc).1.2.2.2.1 t.reads t.reads.length (aax _);rw[aeo] at a b;refine⟨aaY (ael _ _) (aaY a (aef (n:=11) (show 11>0 by decide) hr)),λs hs=>?_⟩;have:=b s (afJ.1 hs).1;omega
section
variable{P:Program}[l:cL P]
theorem ao7(h:ay)(hc:aO h=0)(i:Nat)(t:Tag)(ht:h.tags[i]?=some t):aq P 80 [.ag (o6 h),strs (aB h),.i .i64 i] (ints (dP h i)):=by
 have hi:i<h.tags.length:=(abi.1 ht).1;have L:=List.mem_of_getElem? ht;have kN:=cV h.tags;have Y:=fA h.tags i t ht;have eu:(i+1)*3<=h.tags.length*3:=by omega
 obtain⟨S,sd,hS⟩:=aom (P:=P) h hc;obtain⟨N,nd,hN⟩:=aoK (P:=P) h;have O:dP h i=uI ((aB h).flatMap λw=>(aa h w t).map (anP h w)):=by
  rw[amM ht];refine apf λx=>?_
  simp only[aeQ];exact⟨λ⟨w,h1,h2⟩=>⟨w,h1,(aos (MX hc h1) t x).2 h2⟩,λ⟨w,h1,h2⟩=>⟨w,h1,(aos (MX hc h1) t x).1 h2⟩⟩
 have aoi:(aB h).length<=1000000:=by have:=sP hc;omega
 have I:=cI hc;rw[O];clear O;generalize aB h=ws at *;have hbound:∀k,((ws.take k).flatMap λw=>(aa h w t).map (anP h w)).length<=1000000*161051:=λk=>by
  refine aaY (anS _ 161051 _ λw hw=>by rw[abz];exact(an4 hc (I w (aee hw)) L).1) ?_;exact ab2 _ (by rw[afk];omega)
 obtain⟨Z,W,U⟩:=ca (aoS (P:=P) (ws.flatMap λw=>(aa h w t).map (anP h w)) (by have:=hbound ws.length;rw[aeo] at this;omega));simp only[ints] at U;refine fi (ak (aR Tryz.func90) sd (ak (aR Tryz.func134) nd (ak (aR Tryz.func116) W (au P)))) (lf Tryz.func80) ?_
 repeat' first|apply nI|(refine eI ap0 ?_;intro K H;simp[o6,strs];apply H)
 refine amF (λd T B lv nx=>∃k τ,k+d=ws.length/\T 1=strs ws/\T 2=.i .i64 i/\T 3=.sp (o6 h)/\T 8=.i .i64 k/\T 7=.sq (some τ) 1 (((ws.take k).flatMap λw=>(aa h w t).map (anP h w)).map (.i .i64))/\lv τ=some 3/\τ<nx) ws.length ?_ ?_
 ·exact⟨0,2,by simp,by simp[strs],by simp,by simp[o6],by simp,by simp,by simp,by simp⟩
 rintro d T B lv nx ⟨k,τ,hk,t1,t2,t3,t8,t7,l7,hτ⟩;have w1:=aS ((k:Int)+1);by_cases J:k<ws.length
 ·have V:(ws.map AV.s).drop k=.s ws[k]::(ws.map AV.s).drop (k+1):=by rw[aa4 (by simpa using J)];simp
  have M:ws.take (k+1)=ws.take k++ [ws[k]]:=aaN J;have hm:=abG J;have hb:=hbound k;generalize ws[k]=w at V M hm;obtain⟨q1,q2⟩:=an4 hc (I w hm) L;have p:=hS w t (I w hm) L;have E:=hN w (aa h w t) (by rw[I w hm];omega) (λs hs=>by have:=q2 s hs;omega) (by omega);have hnx:(ws.take (k+1)).flatMap (λw=>(aa h w t).map (anP h w))=(ws.take k).flatMap (λw=>(aa h w t).map (anP h w))++(aa h w t).map (anP h w):=by rw[M,aft];simp
  simp only[o6,fP,strs,ints] at p E;generalize (ws.take k).flatMap (λw=>(aa h w t).map (anP h w))=pre at *;generalize aa h w t=ss at *;have hlen:(pre.length+ss.length)*9<=70368744177664:=by omega
  have ZO:τ<nx+4:=by omega
  repeat' first|apply nI|(refine eI ap0 ?_;intro K H;simp[t1,t2,t3,t8,t7,l7,ZO,o6,strs,kN,Y,eu,J,V,ab,az,p,E,hlen,w1];apply H)
  refine aN (d-1) ⟨k+1,nx+4+18,by omega,by simp[t1,strs],by simp[t2],by simp[t3,o6],by simp,by simp[hnx],by simp,by simp⟩
 ·have gg:k=ws.length:=by omega
  subst gg;rw[aeo] at t7
  repeat' first|apply nI|(refine eI ap0 ?_;intro K H;simp[t1,t2,t3,t8,t7,o6,strs,ab,az,U];apply H)
  simp[Dn,aH,Tryz.f80,ints]
theorem apm(h:ay)(hf:Fair h)(i:Int):aq P 19 [.ag (o6 h),.i .i64 i] (.tu [ints (bK h [iN h i] (dP h i) []),.i .i64 (bJ h [iN h i])]):=by
 obtain⟨A,L,H⟩:=ca (aoZ (P:=P) h i (by have:=hf.nt;omega));obtain⟨O,I,p⟩:=ca (an9 (P:=P) h hf (iN h i));simp only[o6,strs] at H p;by_cases ho:bJ h [iN h i]=0
 ·obtain⟨hc,hb,_⟩:=ij ho;have U:0<=i/\i<h.tags.length:=by
   refine aaO λhn=>?_
   have:iN h i=6:=by unfold iN;rw[aat hn]
   rw[this] at hb;simp[bN] at hb
  obtain⟨j,rfl⟩:∃j:Nat,i=j:=⟨i.toNat,by omega⟩
  have V:j<h.tags.length:=by omega
  obtain⟨M,md,J⟩:=ca (ao7 (P:=P) h hc j _ (aaf V));simp only[o6,strs,ints] at J;rw[bK,ho,aat (by decide)] at p;refine fi (ak (aR Tryz.func79) L (ak (aR Tryz.func78) I (ak (aR Tryz.func80) md (au P)))) (lf Tryz.func19) ?_
  repeat' first|apply nI|(refine eI [0,1,2,4,5,6,7,17] ?_;intro K E;simp[o6,ab,az,H,p,J,bne];apply E)
  simp[Dn,dc,aH,Tryz.f19,bK,ho,ints]
 ·have N:(bJ h [iN h i]==0)=false:=by simp[ho]
  rw[bK,aay ho] at p;refine fi (ak (aR Tryz.func79) L (ak (aR Tryz.func78) I (au P))) (lf Tryz.func19) ?_
  repeat' first|apply nI|(refine eI [0,1,2,4,5,6,7,17] ?_;intro K E;simp[o6,ab,az,H,p,N,bne];apply E)
  simp[Dn,dc,aH,Tryz.f19,bK,ho,ints]
end
@[simp] abbrev aoO:List Nat:=[0,1,2,3,8,9,10,11,12,13,14,17,29,49]
theorem aoX:∀(i:Nat) (n:Int),cj n (i+1)=(n/10^i%10)::cj n i
 |0,n=>by simp[cj]
 |i+1,n=>by
  have p:=aoX i (n/10);rw[cj,p,aaT];have e:n/10/10^i=n/10^(i+1):=by
   rw[Int.ediv_ediv_of_nonneg (by decide:(0:Int)<=10),Int.pow_succ,Int.mul_comm]
  rw[e];rfl
section
variable{P:Program}[l:cL P]
set_option maxHeartbeats 400000 in
theorem aor(w R:List UInt8)(n:Int)(g:Nat)(hw:w.length=10)(hR:R.length<=1)(h0:0<=n)(hn:n<=99999)(hg:g<=5):aq P 57 [.s w,.s R,.i .i64 n,.i .i64 g] (.tu [.s (dC w R (-1) (cj n g)),.b (n/10^g==0)]):=by
 refine fi (au P) (lf Tryz.func57) ?_
 repeat' first|apply nI|(refine eI aoO ?_;intro K H;simp;apply H)
 refine amF (λd T B lv nx=>∃i τ,i+d=g/\T 0=.s w/\T 1=.s R/\T 3=.i .i64 g/\T 2=.i .i64 (n/10^i)/\T 11=.i .i64 i/\T 10=.sq (some τ) 1 ((cj n i).map (.i .i64))/\lv τ=some 3/\τ<nx) g ?_ ?_
 ·exact⟨0,2,by simp,by simp,by simp,by simp,by simp,by simp,by simp[cj],by simp,by simp⟩
 rintro d T B lv nx ⟨i,τ,hi,t0,t1,t3,t2,t11,t10,l10,hτ⟩;have w1:=aS ((i:Int)+1);have hp:(0:Int)<10^i:=Int.pow_pos (by decide);have q0:0<=n/10^i:=Int.ediv_nonneg h0 (by omega);have q9:n/10^i<=99999:=Int.le_trans (Int.ediv_le_self _ h0) hn;by_cases aK:i<g
 ·have Hs:(i:Int)<g:=by omega
  have e1:(n/10^i).tmod 10=n/10^i%10:=ae6 q0;have e2:IntKind.i64.wrap ((n/10^i).tdiv 10)=n/10^(i+1):=by
   rw[Int.tdiv_eq_ediv_of_nonneg q0,aS _,Int.ediv_ediv_of_nonneg (by omega:(0:Int)<=10^i),Int.pow_succ]
  have hd:=aoX i n;have F6:=Fx n i;have hlen:(1+(cj n i).length)*9<=70368744177664:=by omega
  generalize n/10^i=a at *;generalize cj n i=E at *
  repeat' first|apply nI|(refine eI aoO ?_;intro K H;simp[t0,t1,t3,t2,t11,t10,aK,Hs,e1,e2,hlen,w1];apply H)
  refine aN (d-1) ⟨i+1,nx+3+4,by omega,by simp[t0],by simp[t1],by simp[t3],by simp,by simp,by simp[hd],by simp,by simp⟩
 ·have hig:i=g:=by omega
  subst hig;have qP:=CC n i;have F6:=Fx n i;generalize aya:cj n i=E at *;have F3:(dC w R (-1) E).length=i:=by rw[tX,F6]
  repeat' first|apply nI|(refine eI aoO ?_;intro K H;simp[t0,t1,t3,t2,t11,t10];apply H)
  refine amF (λd T B lv nx=>∃k,k+d=i/\T 0=.s w/\T 1=.s R/\T 3=.i .i64 i/\T 2=.i .i64 (n/10^i)/\T 10=.sq (some τ) 1 (E.map (.i .i64))/\T 13=.i .i64 k/\T 12=.s ((dC w R (-1) E).take k)) i ?_ ?_
  ·exact⟨0,by simp,by simp,by simp,by simp,by simp,by simp,by simp,by simp⟩
  rintro d2 T B lv nx ⟨k,hk,t0,t1,t3,t2,t10,t13,t12⟩;have w2:=aS ((k:Int)+1);by_cases V:k<i
  ·have L:(k:Int)<i:=by omega
   have M:k<E.length:=by omega
   have vi:=tY w R E (-1) k M;have J:(dC w R (-1) E).take (k+1)=(dC w R (-1) E).take k++ [Gc w R (if k=0 then -1 else E[k-1]) E[k]]:=by
    rw[List.take_succ,vi];rfl
   have O:(E.map (AV.i .i64)).drop k=.i .i64 E[k]::(E.map (AV.i .i64)).drop (k+1):=by rw[aa4 (by simpa using M)];simp
   obtain⟨b0,b9⟩:=qP _ (abG M);have kN:((dC w R (-1) E).take k).length=k:=by rw[afk,F3];omega
   obtain⟨j,y,U⟩:∃(j:Nat) (y:Int),(if k=0 then -1 else E[k-1])=y/\((¬0<k/\y= -1/\True/\True)\/(0<k/\IntKind.i64.wrap ((k:Int)-1)=j/\j<E.length/\(E.map (AV.i .i64)).drop j=.i .i64 y::(E.map (AV.i .i64)).drop (j+1))):=by
    by_cases vJ:0<k
    ·have I7:k-1<E.length:=by omega
     refine⟨k-1,E[k-1],by rw[aat (by omega)],.inr ⟨vJ,?_,I7,?_⟩⟩
     ·rw[aS _];omega
     ·rw[aa4 (by simpa using I7)];simp
    ·exact⟨0,-1,by rw[aay (by omega)],.inl ⟨vJ,rfl,trivial,trivial⟩⟩
   obtain⟨hy,U⟩:=U;rw[hy] at J;obtain⟨out,Rs⟩:∃out,(dC w R (-1) E).take k=out:=⟨_,rfl⟩
   rw[Rs] at J kN t12;clear vi;obtain⟨z,hz⟩:∃z,E[k]=z:=⟨_,rfl⟩
   rw[hz] at b0 b9 J O;obtain⟨p,atm,W⟩:∃p:Nat,p<10/\(z+9).tmod 10=p:=⟨((z+9)%10).toNat,by omega,by rw[ae6 (by omega)];omega⟩
   have hpz:((z+9)%10).toNat=p:=by rw[ae6 (by omega)] at W;omega
   have Y:=aS (z+9);have wp:=aS ((p:Int)+1);have qt:(w.take (p+1)).drop p= [w[p]]:=by
    rw[aaN (by omega),List.drop_append_of_le_length (by rw[afk];omega),List.drop_of_length_le (by rw[afk];omega)];rfl
   have hgd:w.getD p 0=w[p]:=by rw[abM,aaf (by omega)];rfl
   have s2:(0:Int)<=(p:Int)+1:=by omega
   have s3:(p:Int)<=(p:Int)+1:=by omega
   have Z:(p:Int)+1<=w.length:=by omega
   have n1:¬(9223372036854775807:Int)<(out.length:Int)+1:=by omega
   have n2:¬(9223372036854775807:Int)<(out.length:Int)+R.length:=by omega
   by_cases N:R≠ []/\z=y
   ·obtain⟨q,hq⟩:∃q,R= [q]:=by
     match R,N.1,hR with
     | [q],_,_=>exact⟨q,rfl⟩
     |q::q'::R',_,h=>simp at h
    rw[Gc,aay N] at J;subst hq;simp only[List.getD_cons_zero] at J;have I:(z==y)=true:=by rw[ac6];exact N.2
    rcases U with ⟨f1,f2,_,_⟩|⟨f1,f2,f3,f4⟩
    ·exfalso;have:=N.2;omega
    ·repeat' first|apply nI|(refine eI aoO ?_;intro K H;simp[t0,t1,t3,t2,t10,t13,t12,V,L,O,M,f1,f2,f3,f4,I,n1,bne,w2];apply H)
     refine aN (d2-1) ⟨k+1,by omega,by simp[t0],by simp[t1],by simp[t3],by simp[t2],by simp[t10],by simp,by simp[J]⟩
   ·rw[Gc,aat N,hpz,hgd] at J;rcases U with ⟨f1,f2,_,_⟩|⟨f1,f2,f3,f4⟩
    ·repeat' first|apply nI|(refine eI aoO ?_;intro K H;simp[t0,t1,t3,t2,t10,t13,t12,V,L,O,M,f1,W,Y,wp,qt,s2,s3,Z,n1,bne,w2];apply H)
     refine aN (d2-1) ⟨k+1,by omega,by simp[t0],by simp[t1],by simp[t3],by simp[t2],by simp[t10],by simp,by simp[J]⟩
    ·cases I:(z==y) with
     |false=>
      repeat' first|apply nI|(refine eI aoO ?_;intro K H;simp[t0,t1,t3,t2,t10,t13,t12,V,L,O,M,f1,f2,f3,f4,I,W,Y,wp,qt,s2,s3,Z,n1,bne,w2];apply H)
      refine aN (d2-1) ⟨k+1,by omega,by simp[t0],by simp[t1],by simp[t3],by simp[t2],by simp[t10],by simp,by simp[J]⟩
     |true=>
      have hRn:R= []:=aaO λhn=>N ⟨hn,by simpa using I⟩
      subst hRn
      repeat' first|apply nI|(refine eI aoO ?_;intro K H;simp[t0,t1,t3,t2,t10,t13,t12,V,L,O,M,f1,f2,f3,f4,I,W,Y,wp,qt,s2,s3,Z,n1,bne,w2];apply H)
      refine aN (d2-1) ⟨k+1,by omega,by simp[t0],by simp[t1],by simp[t3],by simp[t2],by simp[t10],by simp,by simp[J]⟩
  ·have N5:k=i:=by omega
   subst N5;rw[aa1 (by omega)] at t12
   repeat' first|apply nI|(refine eI aoO ?_;intro K H;simp[t0,t1,t3,t2,t10,t13,t12];apply H)
   simp[Dn,dc,aH,Tryz.f57]
end
@[simp] abbrev aqi:List Nat:=[0,1,4,6,14,22]
@[simp] abbrev aqf:List Nat:=[0,1,4,5,9,24]
section
variable{P:Program}[l:cL P]
theorem aoy(n g:Int):aq P 87 [.i .i64 n,.i .i64 g] (.i .i64 (aV n g)):=by
 by_cases hn:0<=n/\n<=99999
 ·have f1:=hn.1;have f2:=hn.2;by_cases hg:1<=g/\g<=5
  ·have f3:=hg.1;have f4:=hg.2;obtain⟨k,rfl⟩:∃k:Nat,g=k:=⟨g.toNat,by omega⟩
   obtain⟨A,I,E⟩:=ca (aor (P:=P) [65,66,67,68,69,70,71,72,73,74] [] n k rfl (by simp) f1 f2 (by omega));have hv:aV n k=if(n/10^k==0)=true then 0 else 8:=by
    unfold aV;rw[aat (by omega),Int.toNat_natCast];have hp:0<=n/10^k:=Int.ediv_nonneg f1 (Int.le_of_lt (Int.pow_pos (by decide)));by_cases e:n/10^k=0
    ·simp[e]
    ·rw[aay (by omega),aat (by simpa using e)]
   generalize dC [65,66,67,68,69,70,71,72,73,74] [] (-1) (cj n k)=s at E;refine fi (ak (aR Tryz.func42) anp (ak (aR Tryz.func57) I (au P))) (lf Tryz.func87) ?_;cases hz:(n/10^k==0) with
   |true=>
    rw[hz] at E hv
    repeat' first|apply nI|(refine eI aqi ?_;intro K p;simp[ab,az,dIn,f1,f2,f3,f4,E];apply p)
    simp[Dn,aH,Tryz.f87,hv]
   |false=>
    rw[hz] at E hv
    repeat' first|apply nI|(refine eI aqi ?_;intro K p;simp[ab,az,dIn,f1,f2,f3,f4,E];apply p)
    simp[Dn,aH,Tryz.f87,hv]
  ·have H:(decide (1<=g)&&decide (g<=5))=false:=by
    rw[Bool.and_eq_false_iff,aac,aac];omega
   have hv:aV n g=1:=by unfold aV;rw[aay (by omega)]
   refine fi (ak (aR Tryz.func42) anp (au P)) (lf Tryz.func87) ?_
   repeat' first|apply nI|(refine eI aqi ?_;intro K p;simp[ab,dIn,f1,f2,H];apply p)
   simp[Dn,aH,Tryz.f87,hv]
 ·have H:(decide (0<=n)&&decide (n<=99999))=false:=by
   rw[Bool.and_eq_false_iff,aac,aac];omega
  have hv:aV n g=1:=by unfold aV;rw[aay (by omega)]
  refine fi (ak (aR Tryz.func42) anp (au P)) (lf Tryz.func87) ?_
  repeat' first|apply nI|(refine eI aqi ?_;intro K p;simp[ab,dIn,H];apply p)
  simp[Dn,aH,Tryz.f87,hv]
theorem apM(s r:List UInt8)(hl:s.length=r.length)(hs:s.length<1000000):aq P 59 [.s s,.s r] (.b (bE s r)):=by
 refine fi (au P) (lf Tryz.func59) ?_
 repeat' first|apply nI|(refine eI aqf ?_;intro K p;simp;apply p)
 refine amF (λd T B lv nx=>∃k,k+d=s.length/\T 0=.s s/\T 1=.s r/\T 5=.i .i64 k/\bE s r=bE (s.drop k) (r.drop k)) s.length ?_ ?_
 ·exact⟨0,by simp,by simp,by simp,by simp,by simp⟩
 rintro d T B lv nx ⟨k,hk,t0,t1,t5,hp⟩;have w1:=aS ((k:Int)+1);by_cases E:k<s.length
 ·have H:k<r.length:=by omega
  have es:s.drop k=s[k]::s.drop (k+1):=aa4 E;have M:r.drop k=r[k]::r.drop (k+1):=aa4 H;rw[es,M,bE] at hp;have I:((r[k].toNat:Int)==63)=(r[k]==63):=kn r[k] 63 (by omega);have J:((r[k].toNat:Int)==(s[k].toNat:Int))=(r[k]==s[k]):=dV r[k] s[k];cases h1:(r[k]==63) with
  |true=>
   repeat' first|apply nI|(refine eI aqf ?_;intro K p;simp[t0,t1,t5,E,H,I,h1,bne,w1];apply p)
   refine aN (d-1) ⟨k+1,by omega,by simp[t0],by simp[t1],by simp,by rw[hp];simp[bne,h1]⟩
  |false=>
   cases h2:(r[k]==s[k]) with
   |true=>
    repeat' first|apply nI|(refine eI aqf ?_;intro K p;simp[t0,t1,t5,E,H,I,h1,J,h2,bne,w1];apply p)
    refine aN (d-1) ⟨k+1,by omega,by simp[t0],by simp[t1],by simp,by rw[hp];simp[bne,h2]⟩
   |false=>
    have hv:bE s r=true:=by rw[hp];simp[bne,h1,h2]
    repeat' first|apply nI|(refine eI aqf ?_;intro K p;simp[t0,t1,t5,E,H,I,h1,J,h2,bne,w1];apply p)
    simp[Dn,aH,Tryz.f59,hv]
 ·have L:k=s.length:=by omega
  subst L;rw[List.drop_length] at hp;have hv:bE s r=false:=by rw[hp];rfl
  repeat' first|apply nI|(refine eI aqf ?_;intro K p;simp[t0,t1,t5];apply p)
  simp[Dn,aH,Tryz.f59,hv]
end
@[simp] abbrev apx:List Nat:=[0,2,3,4,5,9,26,43]
theorem apF:∀a b:List UInt8,Op.bytesLess a b=decide (a<b)
 | [],[]=>by simp[Op.bytesLess]
 | [],_::_=>by simp[Op.bytesLess]
 |_::_,[]=>by simp[Op.bytesLess]
 |x::a,y::b=>by
  have p:=apF a b;unfold Op.bytesLess;rw[adX,aan,List.cons_lt_cons_iff];simp[p]
theorem apH(l:List (List UInt8)):(uS l).Pairwise (· < ·):=(ua MZ l).imp λh=>by
 rcases List.le_iff_lt_or_eq.1 h.1 with h1|h1
 ·exact h1
 ·exact absurd h1 h.2
theorem aqc{l m:List (List UInt8)}(hm:m.Pairwise (· < ·))(h:∀x,x∈m↔x∈l):uS l=m:=
 nP MZ (ua MZ l) (hm.imp λh=>⟨List.le_of_lt h,λe=>by subst e;exact List.lt_irrefl _ h⟩) λx=>(lW l x).trans (h x).symm
theorem ap9(m:List (List UInt8))(x:List UInt8)(k:Nat)(h1:∀j,(p:j<(uS m).length)->j<k->(uS m)[j]<x)(h2:∀hk:k<(uS m).length,¬(uS m)[k]<x):
  uS (m++ [x])=if(uS m)[k]?=some x then uS m else(uS m).take k++ [x]++(uS m).drop k:=by
 have hs:=apH m;have H:∀y,y∈uS m↔y∈m:=λy=>lW m y
 by_cases hx:(uS m)[k]?=some x
 ·rw[aay hx];refine aqc hs λy=>?_
  rw[H,abH,acE];constructor
  ·exact .inl
  ·rintro(h|rfl)
   ·exact h
   ·exact(H _).1 (List.mem_of_getElem? hx)
 ·rw[aat hx];have J:∀j,(p:j<(uS m).length)->k<=j->x<(uS m)[j]:=λj p L=>by
   have hk:k<(uS m).length:=by omega
   have I:x<(uS m)[k]:=by
    rcases List.le_iff_lt_or_eq.1 (List.not_lt.1 (h2 hk)) with E|E
    ·exact E
    ·exact absurd (by rw[aaf hk,E]) hx
   by_cases e:j=k
   ·subst e;exact I
   ·exact List.lt_trans I (List.pairwise_iff_getElem.1 hs k j hk p (by omega))
  refine aqc ?_ λy=>?_
  ·rw[ae9,List.pairwise_append];refine⟨hs.sublist (List.take_sublist _ _),?_,λy hy z hz=>?_⟩
   ·rw[List.singleton_append,List.pairwise_cons];refine⟨λz hz=>?_,hs.sublist (List.drop_sublist _ _)⟩;obtain⟨j,p,rfl⟩:=List.getElem_of_mem hz;rw[List.getElem_drop];exact J (k+j) (by rw[ahh] at p;omega) (by omega)
   ·obtain⟨j,p,rfl⟩:=List.getElem_of_mem hy;rw[afk] at p;rw[List.getElem_take];have E:=h1 j (by omega) (by omega);rcases abH.1 hz with hz|hz
    ·rw[acE.1 hz];exact E
    ·obtain⟨i,hi,rfl⟩:=List.getElem_of_mem hz;rw[List.getElem_drop];exact List.lt_trans E (J (k+i) (by rw[ahh] at hi;omega) (by omega))
  ·rw[abH,abH,abH,acE,<-H y]
   conv=>rhs;rw[<-List.take_append_drop k (uS m),abH]
   constructor
   ·rintro((h|h)|h)
    ·exact .inl (.inl h)
    ·exact .inr h
    ·exact .inl (.inr h)
   ·rintro((h|h)|h)
    ·exact .inl (.inl h)
    ·exact .inr h
    ·exact .inl (.inr h)
section
variable{P:Program}[l:cL P]
theorem aqb(a:List (List UInt8))(ha:a.length<=1000000):aq P 143 [strs a] (strs (uS a)):=by
 refine fi (au P) (lf Tryz.func143) ?_
 repeat' first|apply nI|(refine eI apx ?_;intro K E;simp[strs];apply E)
 refine amF (λd T B lv nx=>∃i τ,i+d=a.length/\T 0=strs a/\T 4=.i .i64 i/\T 3=.sq (some τ) 1 ((uS (a.take i)).map .s)/\lv τ=some 9/\τ<nx) a.length ?_ ?_
 ·exact⟨0,1,by simp,by simp[strs],by simp,by simp[show uS []= [] from akN],by simp,by simp⟩
 rintro d T B lv nx ⟨i,τ,hi,t0,t4,t3,U,Z⟩;have w1:=aS ((i:Int)+1);by_cases M:i<a.length
 ·have N:(a.map AV.s).drop i=.s a[i]::(a.map AV.s).drop (i+1):=by rw[aa4 (by simpa using M)];simp
  have ta:a.take (i+1)=a.take i++ [a[i]]:=aaN M;generalize a[i]=x at N ta;have hul:(uS (a.take i)).length<=1000000:=by
   have:(uS (a.take i)).length<=(a.take i).length:=kX _;rw[afk] at this;omega
  have V6:=λk h1 h2=>ap9 (a.take i) x k h1 h2
  rw[<-ta] at V6;generalize uS (a.take i)=u at *
  repeat' first|apply nI|(refine eI apx ?_;intro K E;simp[t0,t4,t3,strs,M];apply E)
  refine amF (λdd T B lv nx=>∃k,k+dd=u.length/\T 0=strs a/\T 4=.i .i64 i/\T 3=.sq (some τ) 1 (u.map .s)/\lv τ=some 9/\τ<nx/\T 5=.i .i64 k/\∀j,(V:j<u.length)->j<k->u[j]<x) u.length ?_ ?_
  ·exact⟨0,by simp,by simp[strs],by simp,by simp,by simp[U],by omega,by simp,λj V hk=>by omega⟩
  rintro dd T B lv nx ⟨k,hk,t0,t4,t3,U,Z,t5,Ak⟩;have w2:=aS ((k:Int)+1);have m1:min k u.length*17<=70368744177664:=by omega
  have m2:(min k u.length+1)*17<=70368744177664:=by omega
  have m3:(min k u.length+1+(u.length-k))*17<=70368744177664:=by omega
  have tl:(u.map AV.s).take u.length=u.map AV.s:=aa1 (by simp);have e1:(k:Int)<=u.length:=by omega
  by_cases L:k<u.length
  ·have W:(u.map AV.s).drop k=.s u[k]::(u.map AV.s).drop (k+1):=by rw[aa4 (by simpa using L)];simp
   have Y:((k:Int)==u.length)=false:=by rw[ady];omega
   have gk:u[k]?=some u[k]:=aaf L;have O:=apF u[k] x;by_cases H:u[k]<x
   ·have att:∀j,(V:j<u.length)->j<k+1->u[j]<x:=λj V Hx=>by
     by_cases e:j=k
     ·subst e;exact H
     ·exact Ak j V (by omega)
    have hl1:Op.bytesLess u[k] x=true:=by rw[O];simpa using H
    repeat' first|apply nI|(refine eI apx ?_;intro K E;simp[t0,t4,t3,t5,strs,M,L,W,N,hl1,w2];apply E)
    exact aN (dd-1) ⟨k+1,by omega,by simp[t0,strs],by simp[t4],by simp[t3],by simp[U],by simp <;>omega,by simp,att⟩
   ·have p:=V6 k Ak (λ_=>H);have hl1:Op.bytesLess u[k] x=false:=by rw[O];simpa using H
    rw[gk] at p;have m4:(min k u.length+1+(u.length-(k+1)+1))*17<=70368744177664:=by omega
    cases I:(u[k]==x) with
    |true=>
     have J:u[k]=x:=by simpa using I
     rw[aay (by rw[J])] at p
     repeat' first|apply nI|(refine eI apx ?_;intro K E;simp[t0,t4,t3,t5,strs,M,L,Y,W,N,hl1,I,w1];apply E)
     refine aN (d-1) ⟨i+1,τ,by omega,by simp[t0,strs],by simp,by simp[t3,p],by simp[U],by simp <;>omega⟩
    |false=>
     have J:u[k]≠x:=by simpa using I
     rw[aat (λe=>J (adw e))] at p
     repeat' first|apply nI|(refine eI apx ?_;intro K E;simp[t0,t4,t3,t5,strs,M,L,Y,W,N,hl1,I,w1,m1,m2,m4,tl,e1];apply E)
     refine aN (d-1) ⟨i+1,nx+15+15+14,by omega,by simp[t0,strs],by simp,by simp[p,W],by simp,by simp⟩
  ·have p:=V6 k Ak (λh=>absurd h L);have gk:u[k]?=none:=aby (by omega);have Y:((k:Int)==u.length)=true:=by rw[ac6];omega
   rw[gk,aat (by simp)] at p
   repeat' first|apply nI|(refine eI apx ?_;intro K E;simp[t0,t4,t3,t5,strs,M,L,Y,N,w1,m1,m2,m3,tl,e1];apply E)
   refine aN (d-1) ⟨i+1,nx+15+15+14,by omega,by simp[t0,strs],by simp,by simp[p],by simp,by simp⟩
 ·have I8:i=a.length:=by omega
  subst I8;rw[aeo] at t3
  repeat' first|apply nI|(refine eI apx ?_;intro K E;simp[t0,t4,t3,strs];apply E)
  simp[Dn,aH,Tryz.f143,strs]
end
@[simp] abbrev ap5:List Nat:=[0,1,2,3,4,8,9,10,11,16]
def ao0(a b:Int):Int:=if a=b then 1 else if a=0 then 2 else 0
section
variable{P:Program}[l:cL P]
theorem apW(a b:Int):aq P 91 [.i .i64 a,.i .i64 b] (.i .i64 (ao0 a b)):=by
 refine fi (au P) (lf Tryz.func91) ?_;cases h1:(a==b) with
 |true=>
  have e:a=b:=by simpa using h1
  repeat' first|apply nI|(refine eI [0,1,4,7,9] ?_;intro K p;simp[h1];apply p)
  simp[Dn,aH,Tryz.f91,ao0,e]
 |false=>
  have e:a≠b:=by simpa using h1
  cases h2:(a==0) with
  |true=>
   have E:a=0:=by simpa using h2
   repeat' first|apply nI|(refine eI [0,1,4,7,9] ?_;intro K p;simp[h1,h2];apply p)
   simp[Dn,aH,Tryz.f91,ao0,e,E]
   try (subst E;exact e)
  |false=>
   have E:a≠0:=by simpa using h2
   repeat' first|apply nI|(refine eI [0,1,4,7,9] ?_;intro K p;simp[h1,h2];apply p)
   simp[Dn,aH,Tryz.f91,ao0,e,E]
theorem aox(h:ay)(hc:aO h=0)(n:Int)(g:Nat)(h0:0<=n)(hn:n<=99999)(hg:g<=5):aq P 88 [.ag (o6 h),strs (aB h),.i .i64 n,.i .i64 g] (strs (cM h n g)):=by
 have hR:=(checked h hc).1.2.2.2.1;obtain⟨S,sd,hS⟩:∃F:List AV->Option AV,Den P 57 F/\∀w:List UInt8,w.length=10->F [.s w,.s h.R,.i .i64 n,.i .i64 g]=some (.tu [.s (bS h w n g),.b (n/10^g==0)]):=by
  obtain⟨F,h1,h2⟩:=cC (P:=P) (f:=57) (ι:=List UInt8) (λw=> [.s w,.s h.R,.i .i64 n,.i .i64 g]) (λw=>.tu [.s (bS h w n g),.b (n/10^g==0)]) (λw=>w.length=10) (λx y _ _ e=>by
   simp only[abg,AV.s.injEq,adM,abQ] at e;rw[e]) (λw hw=>aor w h.R n g hw hR h0 hn hg)
  exact⟨F,h1,h2⟩
 have p:cM h n g=uS ((aB h).map λw=>bS h w n g):=by unfold cM qT;rw[Int.toNat_natCast]
 have M:(aB h).length<=1000000:=by have:=sP hc;omega
 have V:=cI hc;rw[p];clear p;generalize aB h=ws at *;obtain⟨Z,U,L⟩:=ca (aqb (P:=P) (ws.map λw=>bS h w n g) (by rw[abz];exact M));simp only[strs] at L;refine fi (ak (aR Tryz.func57) sd (ak (aR Tryz.func143) U (au P))) (lf Tryz.func88) ?_
 repeat' first|apply nI|(refine eI ap5 ?_;intro K H;simp[o6,strs];apply H)
 refine amF (λd T B lv nx=>∃k τ,k+d=ws.length/\T 1=strs ws/\T 2=.i .i64 n/\T 3=.i .i64 g/\T 4=.sp (o6 h)/\T 10=.i .i64 k/\T 9=.sq (some τ) 1 (((ws.take k).map λw=>bS h w n g).map .s)/\lv τ=some 9/\τ<nx) ws.length ?_ ?_
 ·exact⟨0,2,by simp,by simp[strs],by simp,by simp,by simp[o6],by simp,by simp,by simp,by simp⟩
 rintro d T B lv nx ⟨k,τ,hk,t1,t2,t3,t4,t10,t9,Y,hτ⟩;have w1:=aS ((k:Int)+1);by_cases I:k<ws.length
 ·have O:(ws.map AV.s).drop k=.s ws[k]::(ws.map AV.s).drop (k+1):=by rw[aa4 (by simpa using I)];simp
  have N:ws.take (k+1)=ws.take k++ [ws[k]]:=aaN I;have E:=hS _ (V _ (abG I));generalize ws[k]=w at O N E;have hlen:(min k ws.length+1)*17<=70368744177664:=by omega
  have ZO:τ<nx+4+14:=by omega
  have W:¬τ=nx+4+14+2:=by omega
  repeat' first|apply nI|(refine eI ap5 ?_;intro K H;simp[t1,t2,t3,t4,t10,t9,Y,ZO,W,o6,strs,I,O,ab,az,E,hlen,w1];apply H)
  refine aN (d-1) ⟨k+1,nx+4+14+3,by omega,by simp[t1,strs],by simp[t2],by simp[t3],by simp[t4,o6],by simp,by simp[N],by simp,by simp⟩
 ·have gg:k=ws.length:=by omega
  subst gg;rw[aeo] at t9;have J:T 9=.sq (some τ) 1 (ws.map (AV.s∘λw=>bS h w n g)):=by rw[t9,List.map_map]
  rw[List.map_map] at L
  repeat' first|apply nI|(refine eI ap5 ?_;intro K H;simp[t1,t2,t3,t4,t10,J,o6,strs,ab,az,L];apply H)
  simp[Dn,aH,Tryz.f88,strs]
theorem apl(h:ay)(hf:Fair h)(n g:Int):aq P 24 [.ag (o6 h),.i .i64 n,.i .i64 g] (.tu [strs (bK h [aV n g] (cM h n g) []),.i .i64 (bJ h [aV n g])]):=by
 obtain⟨A,L,J⟩:=ca (aoy (P:=P) n g);obtain⟨O,H,p⟩:=ca (an9 (P:=P) h hf (aV n g));simp only[o6,strs] at p;by_cases ho:bJ h [aV n g]=0
 ·obtain⟨hc,hb,_⟩:=ij ho;obtain⟨b0,b1,U,Y⟩:=vX hb;obtain⟨b2,W,V,_,_⟩:=nz hb;obtain⟨k,rfl⟩:∃k:Nat,g=k:=⟨g.toNat,by omega⟩
  obtain⟨M,md,I⟩:=ca (aox (P:=P) h hc n k b0 (by omega) (by omega));simp only[o6,strs] at I;rw[bK,ho,aat (by decide)] at p;refine fi (ak (aR Tryz.func87) L (ak (aR Tryz.func78) H (ak (aR Tryz.func88) md (au P)))) (lf Tryz.func24) ?_
  repeat' first|apply nI|(refine eI [0,1,2,3,6,7,8,9,19] ?_;intro K E;simp[o6,ab,az,J,p,I,bne];apply E)
  simp[Dn,dc,aH,Tryz.f24,bK,ho,strs]
 ·have N:(bJ h [aV n g]==0)=false:=by simp[ho]
  rw[bK,aay ho] at p;refine fi (ak (aR Tryz.func87) L (ak (aR Tryz.func78) H (au P))) (lf Tryz.func24) ?_
  repeat' first|apply nI|(refine eI [0,1,2,3,6,7,8,9,19] ?_;intro K E;simp[o6,ab,az,J,p,N,bne];apply E)
  simp[Dn,dc,aH,Tryz.f24,bK,ho,strs]
end
@[simp] abbrev apa:List Nat:=[0,1,2,3,6,7,8,9,10,11,21,31,44]
@[simp] abbrev ao1:List Nat:=[0,1,2,4,5,6,7,8,9,10,11,12,22,27,44,59]
theorem aoT{h:ay}{w:List UInt8}(ho:Tc h w)(t:Tag)(x:Int×Bool):x∈cF h w t↔∃s∈aa h w t,(anP h w s,bE s t.reads)=x:=by
 unfold cF aa;simp only[afJ,aoH ho];constructor
 ·rintro⟨⟨s,h1,rfl⟩,h2⟩;exact⟨s,⟨h1,h2⟩,rfl⟩
 ·rintro⟨s,⟨h1,h2⟩,rfl⟩;exact⟨⟨s,h1,rfl⟩,h2⟩
theorem apy{h:ay}(t:Tag)(p:Bool->Bool)(ws:List (List UInt8))(ho:∀w∈ws,Tc h w):(allM h t ws).any (λx=>p x.2)=(ws.flatMap λw=>aa h w t).any λs=>p (bE s t.reads):=by
 rw[adX];simp only[afl,allM,aeQ];constructor
 ·rintro⟨x,⟨w,hw,hx⟩,hp⟩;obtain⟨s,hs,rfl⟩:=(aoT (ho w hw) t x).1 hx;exact⟨s,⟨w,hw,hs⟩,hp⟩
 ·rintro⟨s,⟨w,hw,hs⟩,hp⟩;exact⟨_,⟨w,hw,(aoT (ho w hw) t _).2 ⟨s,hs,rfl⟩⟩,hp⟩
theorem apY{h:ay}(t:Tag)(ws:List (List UInt8))(ho:∀w∈ws,Tc h w):VC (allM h t ws)=ao0 ((ws.flatMap λw=>aa h w t).countP λs=>bE s t.reads) (ws.flatMap λw=>aa h w t).length:=by
 unfold VC ao0;rw[apy t (λb=> !b) ws ho,apy t (λb=>b) ws ho];generalize (ws.flatMap λw=>aa h w t)=F;have E:((F.countP λs=>bE s t.reads:Nat):Int)=F.length↔(F.any λs=> !bE s t.reads)=false:=by
  rw[Int.ofNat_inj,List.countP_eq_length];simp
 have p:((F.countP λs=>bE s t.reads:Nat):Int)=0↔(F.any λs=>bE s t.reads)=false:=by
  rw[show(0:Int)=((0:Nat):Int) from rfl,Int.ofNat_inj,List.countP_eq_zero];simp
 simp only[E,p]
section
variable{P:Program}[l:cL P]
theorem apz(h:ay)(hf:Fair h)(n g:Int):aq P 29 [.ag (o6 h),.i .i64 n,.i .i64 g] (.tu [.b (bK h [aV n g] (ig h n g) false),.i .i64 (bJ h [aV n g])]):=by
 obtain⟨A,ad,hA⟩:=ca (aoy (P:=P) n g);obtain⟨O,Y,N⟩:=ca (an9 (P:=P) h hf (aV n g));simp only[o6,strs] at N;by_cases ho:bJ h [aV n g]=0
 ·obtain⟨hc,hb,_⟩:=ij ho;obtain⟨b0,b1,b5,L⟩:=vX hb;obtain⟨b2,b3,b4,_,_⟩:=nz hb;have hlen:∀s∈cM h n g,s.length<=5:=λs hs=>by
   obtain⟨w,_,rfl⟩:=ac4.1 ((lW _ s).1 hs);rw[pQ];omega
  have KN:(cM h n g).length<1000000:=by
   have h1:(cM h n g).length<=((aB h).map λw=>bS h w n g.toNat).length:=kX _;rw[abz] at h1;have:=sP hc;omega
  obtain⟨k,rfl⟩:∃k:Nat,g=k:=⟨g.toNat,by omega⟩
  obtain⟨M,md,hM⟩:=ca (aox (P:=P) h hc n k b0 (by omega) (by omega));obtain⟨R,rd,Z⟩:∃F:List AV->Option AV,Den P 84 F/\∀s:List UInt8,s.length<=5->F [.ag (o6 h),strs (aB h),.s s]=some (ints (f_ h s)):=by
   obtain⟨F,h1,h2⟩:=cC (P:=P) (f:=84) (ι:=List UInt8) (λs=> [.ag (o6 h),strs (aB h),.s s]) (λs=>ints (f_ h s)) (λs=>s.length<=5) (λx y _ _ e=>by
    simp only[abg,AV.s.injEq,adM,abQ] at e;rw[e]) (λs hs=>aoM h hc s hs)
   exact⟨F,h1,h2⟩
  obtain⟨E,ed,hE⟩:∃F:List AV->Option AV,Den P 20 F/\∀a:List Int,a.length<100000000000000->F [ints a,ints [n]]=some (.b (a== [n])):=by
   obtain⟨F,h1,h2⟩:=cC (P:=P) (f:=20) (ι:=List Int) (λa=> [ints a,ints [n]]) (λa=>.b (a== [n])) (λa=>a.length<100000000000000) (λx y _ _ e=>by
    simp only[abg,abQ] at e;rw[apZ e]) (λa ha=>GK a [n] ha (by simp))
   exact⟨F,h1,h2⟩
  have U:∀s:List UInt8,s.length<=5->(f_ h s).length<100000000000000:=λs hs=>by have:=Ee hc hs;omega
  rw[bK,ho,aat (by decide)] at N;have W:ig h n k= !(cM h n k).any λs=> !(f_ h s== [n]):=rfl
  generalize cM h n k=p at *;simp only[o6,strs,ints,List.map_cons,List.map_nil] at hM Z hE;refine fi (ak (aR Tryz.func87) ad (ak (aR Tryz.func78) Y (ak (aR Tryz.func88) md (ak (aR Tryz.func84) rd (ak (aR Tryz.func20) ed (au P)))))) (lf Tryz.func29) ?_
  repeat' first|apply nI|(refine eI apa ?_;intro K I;simp[o6,ab,az,hA,N,hM,bne];apply I)
  refine amF (λd T B lv nx=>∃j,j+d=p.length/\T 1=.i .i64 n/\T 3=.sp (o6 h)/\T 8=strs (aB h)/\T 10=strs p/\T 11=.i .i64 j/\(p.any λs=> !(f_ h s== [n]))=((p.drop j).any λs=> !(f_ h s== [n]))) p.length ?_ ?_
  ·exact⟨0,by simp,by simp,by simp[o6],by simp[strs],by simp[strs],by simp,by simp⟩
  rintro d T B lv nx ⟨j,hj,t1,t3,t8,t10,t11,hp⟩;have w1:=aS ((j:Int)+1);by_cases L:j<p.length
  ·have V:(p.map AV.s).drop j=.s p[j]::(p.map AV.s).drop (j+1):=by rw[aa4 (by simpa using L)];simp
   have hs5:=hlen _ (abG L);rw[aa4 L,List.any_cons] at hp;generalize p[j]=s at V hs5 hp;have J:=Z s hs5;have H:=hE _ (U s hs5);generalize f_ h s=ms at J H hp;cases hq:(ms== [n]) with
   |true=>
    rw[hq] at H hp
    repeat' first|apply nI|(refine eI apa ?_;intro K I;simp[t1,t3,t8,t10,t11,o6,strs,ints,L,V,ab,az,J,H,w1];apply I)
    refine aN (d-1) ⟨j+1,by omega,by simp[t1],by simp[t3,o6],by simp[t8,strs],by simp[t10,strs],by simp,by rw[hp];simp⟩
   |false=>
    rw[hq] at H hp
    repeat' first|apply nI|(refine eI apa ?_;intro K I;simp[t1,t3,t8,t10,t11,o6,strs,ints,L,V,ab,az,J,H,w1];apply I)
    simp[Dn,dc,aH,Tryz.f29,bK,ho,W,hp]
  ·have Am:j=p.length:=by omega
   subst Am;rw[List.drop_length] at hp
   repeat' first|apply nI|(refine eI apa ?_;intro K I;simp[t1,t3,t8,t10,t11,o6,strs];apply I)
   simp[Dn,dc,aH,Tryz.f29,bK,ho,W,hp]
 ·have uH:(bJ h [aV n g]==0)=false:=by simp[ho]
  rw[bK,aay ho] at N;refine fi (ak (aR Tryz.func87) ad (ak (aR Tryz.func78) Y (au P))) (lf Tryz.func29) ?_
  repeat' first|apply nI|(refine eI apa ?_;intro K I;simp[o6,ab,az,hA,N,uH,bne];apply I)
  simp[Dn,dc,aH,Tryz.f29,bK,ho]
theorem ao3(h:ay)(hf:Fair h)(i:Int):aq P 27 [.ag (o6 h),.i .i64 i] (.tu [.i .i64 (bK h [iN h i] (vE h i) 0),.i .i64 (bJ h [iN h i])]):=by
 obtain⟨A,ad,hA⟩:=ca (aoZ (P:=P) h i (by have:=hf.nt;omega));obtain⟨O,od,M⟩:=ca (an9 (P:=P) h hf (iN h i));simp only[o6,strs] at hA M;by_cases ho:bJ h [iN h i]=0
 ·obtain⟨hc,hb,_⟩:=ij ho;have htb:0<=i/\i<h.tags.length:=by
   refine aaO λhn=>?_
   have:iN h i=6:=by unfold iN;rw[aat hn]
   rw[this] at hb;simp[bN] at hb
  obtain⟨j,rfl⟩:∃j:Nat,i=j:=⟨i.toNat,by omega⟩
  have hj:j<h.tags.length:=by omega
  have vH:=aaf hj;have W:=abG hj;have J:vE h j=VC (allM h h.tags[j] (aB h)):=by unfold vE;rw[Int.toNat_natCast,vH]
  generalize h.tags[j]=t at vH W J;rw[apY t (aB h) λw hw=>MX hc hw] at J;have kN:=cV h.tags;have Y:=fA h.tags j t vH;have eu:(j+1)*3<=h.tags.length*3:=by omega
  have hr5:=qW hc W;obtain⟨S,sd,hS⟩:=aom (P:=P) h hc;obtain⟨Q,qd,hQ⟩:∃F:List AV->Option AV,Den P 59 F/\∀s:List UInt8,s.length=t.reads.length->F [.s s,.s t.reads]=some (.b (bE s t.reads)):=by
   obtain⟨F,h1,h2⟩:=cC (P:=P) (f:=59) (ι:=List UInt8) (λs=> [.s s,.s t.reads]) (λs=>.b (bE s t.reads)) (λs=>s.length=t.reads.length) (λx y _ _ e=>by
    simp only[abg,AV.s.injEq,abQ] at e;rw[e]) (λs hs=>apM s t.reads hs (by omega))
   exact⟨F,h1,h2⟩
  have aoi:(aB h).length<=1000000:=by have:=sP hc;omega
  have pc:=cI hc;rw[bK,ho,aat (by decide)] at M;have N:∀w:List UInt8,w.length=10->(aa h w t).length<=161051/\∀s∈aa h w t,s.length=t.reads.length:=λw hw=>by
   obtain⟨a,b⟩:=anR h w (by omega) (checked h hc).1.2.2.2.1 t.reads t.reads.length (aax _);rw[aeo] at b;exact⟨(an4 hc hw W).1,λs hs=>b s (afJ.1 hs).1⟩
  generalize aB h=ws at *;have hbound:∀k,((ws.take k).flatMap λw=>aa h w t).length<=1000000*161051:=λk=>by
   refine aaY (anS _ 161051 _ λw hw=>(N w (pc w (aee hw))).1) ?_;exact ab2 _ (by rw[afk];omega)
  have atO:∀k,((ws.take k).flatMap λw=>aa h w t).countP (λs=>bE s t.reads)<=((ws.take k).flatMap λw=>aa h w t).length:=λk=>List.countP_le_length
  obtain⟨Z,zd,hZ⟩:=ca (apW (P:=P) ((ws.flatMap λw=>aa h w t).countP λs=>bE s t.reads) (ws.flatMap λw=>aa h w t).length);rw[<-J] at hZ;refine fi (ak (aR Tryz.func79) ad (ak (aR Tryz.func78) od (ak (aR Tryz.func90) sd (ak (aR Tryz.func59) qd (ak (aR Tryz.func91) zd (au P)))))) (lf Tryz.func27) ?_
  repeat' first|apply nI|(refine eI ao1 ?_;intro K E;simp[o6,ab,az,hA,M,bne];apply E)
  refine amF (λd T B lv nx=>∃k,k+d=ws.length/\T 1=.i .i64 j/\T 2=.sp (o6 h)/\T 6=strs ws/\T 10=.i .i64 k/\T 8=.i .i64 (((ws.take k).flatMap λw=>aa h w t).countP λs=>bE s t.reads)/\T 9=.i .i64 ((ws.take k).flatMap λw=>aa h w t).length) ws.length ?_ ?_
  ·exact⟨0,by simp,by simp,by simp[o6],by simp[strs],by simp,by simp,by simp⟩
  rintro d T B lv nx ⟨k,hk,t1,t2,t6,t10,t8,t9⟩;have w1:=aS ((k:Int)+1);by_cases V:k<ws.length
  ·have dk:(ws.map AV.s).drop k=.s ws[k]::(ws.map AV.s).drop (k+1):=by rw[aa4 (by simpa using V)];simp
   have tk:ws.take (k+1)=ws.take k++ [ws[k]]:=aaN V;have hm:=abG V;have hb:=hbound k;have vK:=atO k;generalize ws[k]=w at dk tk hm;obtain⟨q1,q2⟩:=N w (pc w hm);have L:=hS w t (pc w hm) W;have hnx:(ws.take (k+1)).flatMap (λw=>aa h w t)=(ws.take k).flatMap (λw=>aa h w t)++aa h w t:=by rw[tk,aft];simp
   simp only[o6,fP,strs] at L;generalize (ws.take k).flatMap (λw=>aa h w t)=pre at *;generalize aa h w t=p at *;generalize hc0:pre.countP (λs=>bE s t.reads)=c0 at *
   repeat' first|apply nI|(refine eI ao1 ?_;intro K E;simp[t1,t2,t6,t8,t9,t10,o6,strs,kN,Y,eu,V,dk,ab,az,L];apply E)
   refine amF (λd' T B lv nx=>∃m,m+d'=p.length/\T 1=.i .i64 j/\T 2=.sp (o6 h)/\T 6=strs ws/\T 10=.i .i64 k/\T 11=strs p/\T 12=.i .i64 m/\T 8=.i .i64 (c0+(p.take m).countP λs=>bE s t.reads:Nat)/\T 9=.i .i64 (pre.length+m:Nat)) p.length ?_ ?_
   ·exact⟨0,by simp,by simp[t1],by simp[t2,o6],by simp[t6,strs],by simp[t10],by simp[strs],by simp,by simp[t8],by simp[t9]⟩
   rintro d' T B lv nx ⟨m,hm',t1,t2,t6,t10,t11,t12,t8,t9⟩;have w2:=aS ((m:Int)+1);by_cases H:m<p.length
   ·have dm:(p.map AV.s).drop m=.s p[m]::(p.map AV.s).drop (m+1):=by rw[aa4 (by simpa using H)];simp
    have tm:p.take (m+1)=p.take m++ [p[m]]:=aaN H;have I:=hQ _ (q2 _ (abG H));have hcm:(p.take m).countP (λs=>bE s t.reads)<=p.length:=aaY List.countP_le_length (by rw[afk];omega);generalize p[m]=s at dm tm I;have U:(p.take (m+1)).countP (λs=>bE s t.reads)=(p.take m).countP (λs=>bE s t.reads)+if bE s t.reads then 1 else 0:=by
     rw[tm,List.countP_append];simp[List.countP_cons]
    have w3:=aS (((pre.length+m:Nat):Int)+1);have w4:=aS (((c0+(p.take m).countP λs=>bE s t.reads:Nat):Int)+1) (by omega) (by omega);generalize hcv:(p.take m).countP (λs=>bE s t.reads)=cv at *;rw[Int.natCast_add] at w3 w4;cases hq:bE s t.reads with
    |true=>
     rw[hq] at I U
     repeat' first|apply nI|(refine eI ao1 ?_;intro K E;simp[t1,t2,t6,t8,t9,t10,t11,t12,o6,strs,kN,Y,eu,H,dm,ab,az,I,w2,w3,w4];apply E)
     refine aN (d'-1) ⟨m+1,by omega,by simp[t1],by simp[t2,o6],by simp[t6,strs],by simp[t10],by simp[t11,strs],by simp,by simp[U];omega,by simp;omega⟩
    |false=>
     rw[hq] at I U
     repeat' first|apply nI|(refine eI ao1 ?_;intro K E;simp[t1,t2,t6,t8,t9,t10,t11,t12,o6,strs,kN,Y,eu,H,dm,ab,az,I,w2,w3];apply E)
     refine aN (d'-1) ⟨m+1,by omega,by simp[t1],by simp[t2,o6],by simp[t6,strs],by simp[t10],by simp[t11,strs],by simp,by simp[U,t8],by simp;omega⟩
   ·have atr:m=p.length:=by omega
    subst atr;rw[aeo] at t8
    repeat' first|apply nI|(refine eI ao1 ?_;intro K E;simp[t1,t2,t6,t8,t9,t10,t11,t12,o6,strs,w1];apply E)
    refine aN (d-1) ⟨k+1,by omega,by simp[t1],by simp[t2,o6],by simp[t6,strs],by simp,by simp[hnx,hc0,t8],by simp[hnx,t9]⟩
  ·have gg:k=ws.length:=by omega
   subst gg;rw[aeo] at t8 t9;generalize ws.flatMap (λw=>aa h w t)=F at *
   repeat' first|apply nI|(refine eI ao1 ?_;intro K E;simp[t1,t2,t6,t8,t9,t10,o6,strs,ab,az,hZ];apply E)
   simp[Dn,dc,aH,Tryz.f27,bK,ho]
 ·have uH:(bJ h [iN h i]==0)=false:=by simp[ho]
  rw[bK,aay ho] at M;refine fi (ak (aR Tryz.func79) ad (ak (aR Tryz.func78) od (au P))) (lf Tryz.func27) ?_
  repeat' first|apply nI|(refine eI ao1 ?_;intro K E;simp[o6,ab,az,hA,M,uH,bne];apply E)
  simp[Dn,dc,aH,Tryz.f27,bK,ho]
end
@[simp] abbrev ao_:List Nat:=[0,1,2,3,4,5,10,11,12,13,14,15,16,17,18,19,20,27,49,70,93,113]
theorem ao6{h:ay}(hc:aO h=0)(i:Int):(dP h i).length<100000000000000:=by
 unfold dP;split
 ·rename_i t ht;have h1:=anS (λw=>(cF h w t).map (·.1)) 161051 (aB h) λw _=>kz h w t (qW hc (List.mem_of_getElem? ht))
  have p:=sP hc;have E:(aB h).length*161051<=256*161051:=ab2 _ p;exact Nat.lt_of_le_of_lt (aaY (kX _) h1) (by omega)
 ·simp
section
variable{P:Program}[l:cL P]
theorem apg(e17:Enters P 17)(Xl:aq P 17 [] (.b true))(h:ay)(i:Int)(r:List UInt8)(p g:Int):aq P 3 [eG h,.i .i64 i,.s r,.i .i64 p,.i .i64 g] (.b true):=by
 obtain⟨A,ad,H⟩:=ca (KY (P:=P) h);obtain⟨T,td,hT⟩:=ca Xl;simp only[o6] at H;cases hg:gC h with
 |true=>
  rw[hg] at H;refine fi (ak (aR Tryz.func16) ad (ak e17 td (au P))) (lf Tryz.func3) ?_
  repeat' first|apply nI|(refine eI ao_ ?_;intro K J;simp[eG,o6,ab,az,H,hT];apply J)
  simp[Dn,aH,Tryz.f3]
 |false=>
 rw[hg] at H;by_cases hr:(40:Int)<r.length
 ·refine fi (ak (aR Tryz.func16) ad (ak e17 td (au P))) (lf Tryz.func3) ?_
  repeat' first|apply nI|(refine eI ao_ ?_;intro K J;simp[eG,o6,ab,az,H,hT,hr];apply J)
  simp[Dn,aH,Tryz.f3]
 have hf:=Jp hg;have hm:=K4 hf;obtain⟨E,ed,hE⟩:∃F:List AV->Option AV,Den P 20 F/\∀a:List Int,a.length<100000000000000->F [ints a,ints a]=some (.b true):=by
  obtain⟨F,h1,h2⟩:=cC (P:=P) (f:=20) (ι:=List Int) (λa=> [ints a,ints a]) (λa=>.b true) (λa=>a.length<100000000000000) (λx y _ _ e=>rfl) (λa ha=>by have:=GK (P:=P) a a ha ha;rwa[beq_self_eq_true] at this);exact⟨F,h1,h2⟩
 obtain⟨X,xd,hX⟩:∃F:List AV->Option AV,Den P 25 F/\∀a:List (List UInt8),a.length<100000000000000->F [strs a,strs a]=some (.b true):=by
  obtain⟨F,h1,h2⟩:=cC (P:=P) (f:=25) (ι:=List (List UInt8)) (λa=> [strs a,strs a]) (λa=>.b true) (λa=>a.length<100000000000000) (λx y _ _ e=>rfl) (λa ha=>by have:=GH (P:=P) a a ha ha;rwa[beq_self_eq_true] at this);exact⟨F,h1,h2⟩
 have q1:(bK h [iN h i] (dP h i) []).length<100000000000000:=by
  unfold bK;split
  ·simp
  ·rename_i ho;exact ao6 (ij (h:=h) (bs:= [iN h i]) (by omega)).1 i
 have q2:(bK h [aM r] (f_ h r) []).length<100000000000000:=by
  unfold bK;split
  ·simp
  ·rename_i ho;have ho:bJ h [aM r]=0:=by omega
   have:=Ee (ij ho).1 (akg (akG ho));omega
 have q3:(bK h [aV p g] (cM h p g) []).length<100000000000000:=by
  unfold bK;split
  ·simp
  ·rename_i ho;have:=De (ij (h:=h) (bs:= [aV p g]) (by omega)).1 p g;omega
 have Jh:=hE _ q1;have KW:=hE _ q2;have I:=hX _ q3;obtain⟨C1,cd1,hC1⟩:=ca (wR (P:=P) h hm i);obtain⟨D1,dd1,U⟩:=ca (apm (P:=P) h hf i);obtain⟨C2,cd2,Z⟩:=ca (zX (P:=P) h hm r (by omega));obtain⟨D2,dd2,O⟩:=ca (apA (P:=P) h hf r (by omega));obtain⟨C3,cd3,Y⟩:=ca (v7 (P:=P) h hm p g);obtain⟨D3,dd3,N⟩:=ca (apl (P:=P) h hf p g);obtain⟨C4,cd4,W⟩:=ca (Ec (P:=P) h hm i);obtain⟨D4,dd4,M⟩:=ca (ao3 (P:=P) h hf i);obtain⟨C5,cd5,V⟩:=ca (aoF (P:=P) h hm p g);obtain⟨D5,dd5,L⟩:=ca (apz (P:=P) h hf p g);generalize bK h [iN h i] (dP h i) []=l1 at *;generalize bK h [aM r] (f_ h r) []=l2 at *;generalize bK h [aV p g] (cM h p g) []=l3 at *;generalize bK h [iN h i] (vE h i) 0=l4 at *;generalize bK h [aV p g] (ig h p g) false=l5 at *;generalize bJ h [iN h i]=b1 at *;generalize bJ h [aM r]=b2 at *;generalize bJ h [aV p g]=b3 at *;simp only[o6,ints,strs] at Jh KW I hC1 Z Y W V U O N M L;clear hE hX;refine fi (ak (aR Tryz.func16) ad (ak e17 td (ak (aR Tryz.func18) cd1 (ak (aR Tryz.func19) dd1 (ak (aR Tryz.func21) cd2 (ak (aR Tryz.func22) dd2 (ak (aR Tryz.func23) cd3 (ak (aR Tryz.func24) dd3 (ak (aR Tryz.func26) cd4 (ak (aR Tryz.func27) dd4 (ak (aR Tryz.func28) cd5 (ak (aR Tryz.func29) dd5 (ak (aR Tryz.func20) ed (ak (aR Tryz.func25) xd (au P))))))))))))))) (lf Tryz.func3) ?_
 repeat' first|apply nI|(refine eI ao_ ?_;intro K J;simp[eG,o6,ab,az,H,hT,hr,hC1,U,Z,O,Y,N,W,M,V,L,Jh,KW,I,bne];apply J)
 simp[Dn,aH,Tryz.f3]
end
end Go.Proofs.YtjagmhagphbfcaaGreatDoor
