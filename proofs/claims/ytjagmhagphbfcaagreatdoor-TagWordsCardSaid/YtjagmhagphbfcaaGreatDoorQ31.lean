/- Lemmas, part 31. -/
import Derived.Test.YtjagmhagphbfcaaGreatDoorQ30
set_option maxRecDepth 100000
set_option linter.all false
namespace Go.Proofs.YtjagmhagphbfcaaGreatDoor
open Go renaming Program→aC
@[simp] abbrev an3:List Nat:=[0,1,2,3,6,7,8,9,10,11,12,13,15,24,30,36,67]
open Go Go.Proofs
def anN(h:ay)(w s:List UInt8)(r c:UInt8):Bool:=(numOf w h.R (s++ [c])).isSome&&an1 h.alike r c
def aof(h:ay)(w:List UInt8)(r:UInt8)(s:List UInt8):List (List UInt8):=((w++h.R).filter (anN h w s r)).map λc=>s++ [c]
def aP(h:ay)(w:List UInt8):List UInt8->List (List UInt8):=λrs=>rs.foldl (λout r=>out.flatMap (aof h w r)) [[]]
theorem aob(h:ay)(w rs:List UInt8)(r:UInt8):aP h w (rs++ [r])=(aP h w rs).flatMap (aof h w r):=by
 unfold aP;simp_all
theorem anS{α β:Type}(f:α->List β)(n:Nat):∀l:List α,(∀a∈l,(f a).length<=n)->(l.flatMap f).length<=l.length*n
 | [],_=>by simp
 |a::l,h=>by
  have h1:=h a (by simp);have h2:=anS f n l λb hb=>h b (by grind)
  rw[aco,abj,ab0,Nat.succ_mul];omega
theorem ao2(h:ay)(w s:List UInt8)(r:UInt8)(hw:w.length<=10)(p:h.R.length<=1):(aof h w r s).length<=11:=by
 unfold aof;grind
theorem anR(h:ay)(w:List UInt8)(hw:w.length<=10)(p:h.R.length<=1)(rs:List UInt8):∀i≤rs.length,(aP h w (rs.take i)).length<=11^i/\∀s∈aP h w (rs.take i),s.length=i
 |0,_=>by simp[aP]
 |i+1,hi=>by
  obtain⟨h1,h2⟩:=anR h w hw p rs i (by omega);rw[aaN (by omega),aob];refine⟨?_,λs hs=>?_⟩
  ·refine aaY (anS _ 11 _ λs _=>ao2 h w s _ hw p) ?_;omega
  ·obtain⟨t,ht,hs⟩:=aeQ.1 hs;obtain⟨c,_,rfl⟩:=ac4.1 hs
   simp_all
section
variable{P:aC}[l:cL P]
theorem apT(h:ay)(hv:sH h):∃F:List AV->Option AV,Den P 171 F/\∀c x:UInt8,F [eG h,.i .u8 c.toNat,.i .u8 x.toNat]=some (.b (an1 h.alike c x)):=by
 obtain⟨F,h1,h2⟩:=cC (P:=P) (f:=171) (ι:=UInt8×UInt8) (λx=> [eG h,.i .u8 x.1.toNat,.i .u8 x.2.toNat]) (λx=>.b (an1 h.alike x.1 x.2)) (λ_=>True) (λx y _ _ e=>by
  simp only[abg,AV.i.injEq,adM,abQ] at e
  grind [L9]) (λx _=>apS h x.1 x.2 hv)
 exact⟨F,h1,λc x=>h2 (c,x) trivial⟩
set_option maxHeartbeats 400000 in
theorem aoR(h:ay)(w r:List UInt8)(hv:sH h)(hw:w.length<=10)(hR:h.R.length<=1)(hr:r.length<=5):aq P 139 [.ag (o6 h),.s w,.s r] (strs (aP h w r)):=by
 obtain⟨C,cd,hC⟩:=apT (P:=P) h hv;simp only[eG,o6] at hC;have hH:(w++h.R).length<=11:=by grind
 have n0:¬(9223372036854775807:Int)<(w.length:Int)+h.R.length:=by omega
 refine fi (ak (aR Tryz.func144) aow (ak (aR Tryz.func171) cd (au P))) (lf Tryz.func139) ?_
 repeat' first|apply nI|(refine eI an3 λK p=>?_;simp[o6,n0];apply p)
 generalize hHd:w++h.R=H at *;refine amF (λd T B lv nx=>∃i Z,i+d=r.length/\T 1=.s w/\T 2=.s r/\T 3=.sp (o6 h)/\T 8=.s H/\T 9=.i .i64 i/\T 7=.sq Z 1 ((aP h w (r.take i)).map .s)) r.length ?_ ?_
 ·exact⟨0,_,by simp,by simp,by simp,by rfl,by simp,by simp,by simp[aP];rfl⟩
 rintro d T B lv nx ⟨i,Z,hi,t1,t2,t3,t8,t9,t7⟩;have w1:=aS ((i:Int)+1);by_cases V:i<r.length
 ·obtain⟨hol,LQ⟩:=anR h w hw hR r i (by omega);have aqv:aP h w (r.take (i+1))=(aP h w (r.take i)).flatMap (aof h w r[i]):=by rw[aaN V,aob]
  have h11:11^i<=161051:=aef (n:=11) (show 11>0 by decide) (show i<=5 by omega);have gr:r[i]?=some r[i]:=aaf V;generalize aP h w (r.take i)=out at *
  repeat' first|apply nI|(refine eI an3 λK p=>?_;simp[t1,t2,t3,t8,t9,t7,V];apply p)
  generalize M:r[i]=rc at *;refine amF (λd T B lv nx=>∃k τ,k+d=out.length/\T 1=.s w/\T 2=.s r/\T 3=.sp (o6 h)/\T 8=.s H/\T 9=.i .i64 i/\T 7=.sq Z 1 (out.map .s)/\T 11=.i .i64 k/\T 10=.sq (some τ) 1 (((out.take k).flatMap (aof h w rc)).map .s)/\lv τ=some 9/\τ<nx) out.length ?_ ?_
  ·simp_all
  rintro d1 T B lv nx ⟨k,τ,hk,t1,t2,t3,t8,t9,t7,t11,t10,l10,hτ⟩;have w2:=aS ((k:Int)+1);by_cases L:k<out.length
  ·have W:out[k]?=some out[k]:=aaf L;have Y:(out.map AV.s).drop k=.s out[k]::(out.map AV.s).drop (k+1):=by grind [List.drop_eq_getElem_cons]
   have tk:out.take (k+1)=out.take k++ [out[k]]:=aaN L;have Yw:=LQ _ (abG L);generalize out[k]=s at W Y tk Yw;have Oe:((out.take k).flatMap (aof h w rc)).length<=161051*11:=by
    refine aaY (anS _ 11 _ λs _=>ao2 h w s rc hw hR) ?_
    grind
   have hnx:(out.take (k+1)).flatMap (aof h w rc)=(out.take k).flatMap (aof h w rc)++aof h w rc s:=by simp_all
   generalize (out.take k).flatMap (aof h w rc)=pre at *
   repeat' first|apply nI|(refine eI an3 λK p=>?_;simp[t1,t2,t3,t8,t9,t7,t11,t10,L];apply p)
   refine amF (λd T B lv nx=>∃j τ,j+d=H.length/\T 1=.s w/\T 2=.s r/\T 3=.sp (o6 h)/\T 8=.s H/\T 9=.i .i64 i/\T 7=.sq Z 1 (out.map .s)/\T 11=.i .i64 k/\T 12=.i .i64 j/\T 10=.sq (some τ) 1 ((pre++((H.take j).filter (anN h w s rc)).map λc=>s++ [c]).map .s)/\lv τ=some 9/\τ<nx) H.length ?_ ?_
   ·exact⟨0,τ,by simp,by simp,by simp,by simp,by simp,by simp,by simp,by simp,by simp,by simp,by omega,by omega⟩
   rintro d2 T B lv nx ⟨j,τ,hj,t1,t2,t3,t8,t9,t7,t11,t12,t10,l10,hτ⟩;have w3:=aS ((j:Int)+1);by_cases Am:j<H.length
   ·have J:(H.take (j+1)).drop j= [H[j]]:=by
     grind [List.take_succ_eq_append_getElem]
    have tj:H.take (j+1)=H.take j++ [H[j]]:=aaN Am;have I:=hC rc H[j];have U:aoq [.s w,.s h.R,.s (s++ [H[j]])]=some (.tu [.i .i64 ((numOf w h.R (s++ [H[j]])).getD 0),.b (numOf w h.R (s++ [H[j]])).isSome]):=by
     show(if w.length<1000000/\(s++ [H[j]]).length<=15 then _ else none)=_;rw[aay ⟨by omega,by grind⟩]
    have sL:(pre++((H.take j).filter (anN h w s rc)).map λc=>s++ [c]).length<=161051*11+11:=by
     grind
    have Ap:anN h w s rc H[j]=((numOf w h.R (s++ [H[j]])).isSome&&an1 h.alike rc H[j]):=rfl;have xn:((H.take (j+1)).filter (anN h w s rc)).map (λc=>s++ [c])=((H.take j).filter (anN h w s rc)).map (λc=>s++ [c])++(if anN h w s rc H[j] then[s++ [H[j]]] else[]):=by
     grind
    have s2:(0:Int)<=(j:Int)+1:=by omega
    have s3:(j:Int)<=(j:Int)+1:=by omega
    have s4:(j:Int)+1<=H.length:=by omega
    have n1:¬(9223372036854775807:Int)<(s.length:Int)+1:=by omega
    have ati:((pre++((H.take j).filter (anN h w s rc)).map λc=>s++ [c]).length+1)*17<=70368744177664:=by omega
    generalize gS:(pre++((H.take j).filter (anN h w s rc)).map λc=>s++ [c])=cur at *;have E:(pre++((H.take (j+1)).filter (anN h w s rc)).map λc=>s++ [c])=cur++(if anN h w s rc H[j] then[s++ [H[j]]] else[]):=by grind
    rw[Ap] at E;clear xn Ap gS;generalize nv:H[j]=c at *;cases N:(numOf w h.R (s++ [c])).isSome with
    |false=>
     rw[N] at U E;simp only[Bool.false_and,abX,ab3,acO] at E
     repeat' first|apply nI|(refine eI an3 λK p=>?_;simp[t1,t2,t3,t8,t9,t7,t11,t12,t10,Am,Y,W,L,J,s2,s3,s4,n1,w3,o6,ab,az,U];apply p)
     refine aN (d2-1) ⟨j+1,τ,by omega,by rfl,by rfl,by rfl,by rfl,by rfl,by rfl,by rfl,by simp,by simp[t10,E],by omega,by simp <;>omega⟩
    |true=>
     rw[N] at U E;cases O:an1 h.alike rc c with
     |false=>
      rw[O] at I E;simp only[Bool.true_and,abX,ab3,acO] at E
      repeat' first|apply nI|(refine eI an3 λK p=>?_;simp[t1,t2,t3,t8,t9,t7,t11,t12,t10,Am,Y,W,L,J,s2,s3,s4,n1,w3,o6,ab,az,U,V,M,nv,I];apply p)
      refine aN (d2-1) ⟨j+1,τ,by omega,by rfl,by rfl,by rfl,by rfl,by rfl,by rfl,by rfl,by simp,by simp[t10,E],by omega,by simp <;>omega⟩
     |true=>
      rw[O] at I E;simp only[Bool.true_and,acC] at E;have ZO:τ<nx+4+11+10+11:=by omega
      have n9:¬τ=nx+4+11+10+11+2:=by omega
      repeat' first|apply nI|(refine eI an3 λK p=>?_;simp[t1,t2,t3,t8,t9,t7,t11,t12,t10,l10,ZO,n9,Am,Y,W,L,J,s2,s3,s4,n1,w3,o6,ab,az,U,V,M,nv,I,ati];apply p)
      refine aN (d2-1) ⟨j+1,nx+4+11+10+11+3,by omega,by rfl,by rfl,by rfl,by rfl,by rfl,by rfl,by rfl,by simp,by simp[E],by simp,by simp⟩
   ·have ag5:j=H.length:=by omega
    subst ag5;rw[aeo] at t10
    repeat' first|apply nI|(refine eI an3 λK p=>?_;simp[t1,t2,t3,t8,t9,t7,t11,t12,t10,w2];apply p)
    refine aN (d1-1) ⟨k+1,τ,by omega,by rfl,by rfl,by rfl,by rfl,by rfl,by rfl,by simp,by simp[t10,hnx,aof,hHd],by omega,by grind⟩
  ·have aaP:k=out.length:=by omega
   subst aaP;rw[aeo,<-aqv] at t10
   repeat' first|apply nI|(refine eI an3 λK p=>?_;simp[t1,t2,t3,t8,t9,t7,t11,t10,w1];apply p)
   refine aN (d-1) ⟨i+1,some τ,by omega,by rfl,by rfl,by rfl,by rfl,by simp,by rfl⟩
 ·have I8:i=r.length:=by omega
  subst I8;rw[aeo] at t7
  repeat' first|apply nI|(refine eI an3 λK p=>?_;simp[t1,t2,t3,t8,t9,t7];apply p)
  simp[Dn,aH,Tryz.f139,strs]
end
@[simp] abbrev apR:List Nat:=[0,1,2,3,5,6,7,8,9,10,20,41]
def anP(h:ay)(w s:List UInt8):Int:=(numOf w h.R s).getD 0
theorem apX{h:ay}{w s:List UInt8}(hw:w.length<=10)(hs:s.length<=15):aoq [.s w,.s h.R,.s s]=some (.tu [.i .i64 (anP h w s),.b (numOf w h.R s).isSome]):=by
 show(if w.length<1000000/\s.length<=15 then _ else none)=_;rw[aay ⟨by omega,hs⟩];rfl
def anX(h:ay)(w:List UInt8)(t:Tag)(s:List UInt8):Bool:=decide (t.low<=anP h w s)&&decide (anP h w s<=t.high)
def aa(h:ay)(w:List UInt8)(t:Tag):List (List UInt8):=(aP h w t.reads).filter (anX h w t)
section
variable{P:aC}[l:cL P]
theorem apo(h:ay)(w:List UInt8)(t:Tag)(hv:sH h)(hw:w.length<=10)(Y:h.R.length<=1)(hr:t.reads.length<=5):aq P 90 [.ag (o6 h),.s w,.ag (fP t)] (strs (aa h w t)):=by
 obtain⟨S,sd,W⟩:=ca (aoR (P:=P) h w t.reads hv hw Y hr);obtain⟨L,Z⟩:=anR h w hw Y t.reads t.reads.length (aax _);rw[aeo] at L Z;have h11:11^t.reads.length<=161051:=aef (n:=11) (show 11>0 by decide) hr;unfold aa;generalize aP h w t.reads=p at *;simp only[o6,strs] at W;refine fi (ak (aR Tryz.func139) sd (ak (aR Tryz.func144) aow (ak (aR Tryz.func42) anp (au P)))) (lf Tryz.func90) ?_
 repeat' first|apply nI|(refine eI apR λK H=>?_;simp[o6,fP,ab,az,W];apply H)
 refine amF (λd T B lv nx=>∃k τ,k+d=p.length/\T 1=.s w/\T 3=.sp (o6 h)/\T 5=.sp (fP t)/\T 8=strs p/\T 9=.i .i64 k/\T 7=.sq (some τ) 1 (((p.take k).filter (anX h w t)).map .s)/\lv τ=some 9/\τ<nx) p.length ?_ ?_
 ·exact⟨0,3,by simp,by simp,by simp[o6],by simp[fP],by simp[strs],by simp,by simp,by simp,by simp⟩
 rintro d T B lv nx ⟨k,τ,hk,t1,t3,t5,t8,t9,t7,V,hτ⟩;have w1:=aS ((k:Int)+1);by_cases J:k<p.length
 ·have N:(p.map AV.s).drop k=.s p[k]::(p.map AV.s).drop (k+1):=by rw[aa4 (by simpa using J)];simp
  have U:p.take (k+1)=p.take k++ [p[k]]:=aaN J;have M:=apX (h:=h) hw (show p[k].length<=15 by rw[Z _ (abG J)];omega);have Oe:=ael (anX h w t) (p.take k);rw[afk] at Oe;have hlen:(((p.take k).filter (anX h w t)).length+1)*17<=70368744177664:=by omega
  generalize p[k]=s at N U M;have E:(p.take (k+1)).filter (anX h w t)=(p.take k).filter (anX h w t)++if anX h w t s then[s] else[]:=by
   rw[U,ag2];cases hp:anX h w t s <;>simp[hp]
  have I:anX h w t s=(decide (t.low<=anP h w s)&&decide (anP h w s<=t.high)):=rfl;by_cases O:t.low<=anP h w s/\anP h w s<=t.high
  ·have f1:=O.1;have f2:=O.2;rw[I] at E;simp only[f1,f2,decide_true,Bool.and_self,acC] at E;have ZO:τ<nx+4+13+8:=by omega
   have n9:¬τ=nx+4+13+8+5:=by omega
   repeat' first|apply nI|(refine eI apR λK H=>?_;simp[t1,t3,t5,t8,t9,t7,V,ZO,n9,o6,fP,strs,J,N,ab,az,M,dIn,f1,f2,hlen,w1];apply H)
   refine aN (d-1) ⟨k+1,nx+4+13+8+6,by omega,by simp[t1],by simp[t3,o6],by simp[t5,fP],by simp[t8,strs],by simp,by simp[E],by simp,by simp⟩
  ·have f0:¬(t.low<=anP h w s/\anP h w s<=t.high):=O;have fb:(decide (t.low<=anP h w s)&&decide (anP h w s<=t.high))=false:=by
    rw[Bool.and_eq_false_iff,aac,aac];omega
   rw[I,fb] at E;simp only[abX,ab3,acO] at E
   repeat' first|apply nI|(refine eI apR λK H=>?_;simp[t1,t3,t5,t8,t9,t7,o6,fP,strs,J,N,ab,az,M,dIn,fb,w1];apply H)
   refine aN (d-1) ⟨k+1,τ,by omega,by simp[t1],by simp[t3,o6],by simp[t5,fP],by simp[t8,strs],by simp,by simp[t7,E],by simp[V],by simp <;>omega⟩
 ·have gg:k=p.length:=by omega
  subst gg;rw[aeo] at t7
  repeat' first|apply nI|(refine eI apR λK H=>?_;simp[t1,t3,t5,t8,t9,t7,o6,fP,strs];apply H)
  simp[Dn,aH,Tryz.f90,strs]
end
def agl:=@List.exists_cons_of_ne_nil
def bE:List UInt8->List UInt8->Bool
 |c::s,r::rs=>(r !=63&&r !=c)||bE s rs
 |_,_=>false
def aoh(h:ay)(w:List UInt8):Int×Int->List UInt8->List UInt8->Int×Int->Prop
 |st,[],[],p=>st=p
 |st,r::rs,c::s,p=>c∈w++h.R/\an1 h.alike r c=true/\∃st1,wP w h.R st c=some st1/\aoh h w st1 rs s p
 |_,_,_,_=>False
section
variable{h:ay}{w:List UInt8}
theorem aoe:∀(rs s:List UInt8) (st p:Int×Int),aoh h w st rs s p->anJ w h.R st s=some p
 | [],[],st,p,e=>by simp only[aoh] at e;rw[e];rfl
 |r::rs,c::s,st,p,⟨_,_,st1,h1,h2⟩=>by
  simp only[anJ,h1,abN];exact aoe rs s st1 p h2
 | [],_::_,_,_,e=>e.elim
 |_::_,[],_,_,e=>e.elim
theorem aod:∀(rs s:List UInt8) (r:UInt8) (st p:Int×Int),aoh h w st (rs++ [r]) s p↔∃s0 c st1,s=s0++ [c]/\aoh h w st rs s0 st1/\c∈w++h.R/\an1 h.alike r c=true/\wP w h.R st1 c=some p
 | [],s,r,st,p=>by
  constructor
  ·intro hc
   match s,hc with
   | [c],⟨h1,h2,st1,H,E⟩=>
    simp only[aoh] at E;exact⟨[],c,st,rfl,rfl,h1,h2,by rw[H,E]⟩
   |c::d::s,⟨_,_,_,_,E⟩=>exact E.elim
  ·rintro⟨s0,c,st1,rfl,h1,h2,H,E⟩
   match s0,h1 with
   | [],h1=>
    simp only[aoh] at h1;subst h1;exact⟨h2,H,p,E,rfl⟩
 |q::rs,s,r,st,p=>by
  constructor
  ·intro hc
   match s,hc with
   |c::s,⟨h1,h2,st1,H,E⟩=>
    obtain⟨s0,d,st2,rfl,k1,k2,J,I⟩:=(aod rs s r st1 p).1 E;exact⟨c::s0,d,st2,rfl,⟨h1,h2,st1,H,k1⟩,k2,J,I⟩
  ·rintro⟨s0,d,st2,rfl,k1,k2,J,I⟩
   match s0,k1 with
   |c::s0,⟨h1,h2,st1,H,k1⟩=>exact⟨h1,h2,st1,H,(aod rs (s0++ [d]) r st1 p).2 ⟨s0,d,st2,rfl,k1,k2,J,I⟩⟩
theorem aou:∀(n:Nat) (rs:List UInt8),rs.length=n->∀s,s∈aP h w rs↔∃p,aoh h w (0,-1) rs s p
 |0,rs,hn,s=>by
  have:rs= []:=abA hn;subst this;simp only[aP,List.foldl_nil,acE];constructor
  ·rintro rfl;exact⟨(0,-1),rfl⟩
  ·rintro⟨p,hc⟩
   match s,hc with
   | [],_=>rfl
 |n+1,rs,hn,s=>by
  obtain⟨rs,r,rfl⟩:∃l r,rs=l++ [r]:=⟨rs.dropLast,rs.getLast (by intro e;rw[e] at hn;cases hn),(List.dropLast_concat_getLast _).symm⟩
  have hn:rs.length=n:=by simpa using hn
  have H:=aou n rs hn;rw[aob,aeQ];constructor
  ·rintro⟨s0,h1,h2⟩;obtain⟨c,hc,rfl⟩:=ac4.1 h2;obtain⟨M,E⟩:=afJ.1 hc;obtain⟨st1,k1⟩:=(H s0).1 h1;unfold anN at E;rw[aaZ] at E;have hf:=aoe _ _ _ _ k1;have hs:=E.1;unfold numOf at hs;rw[anZ,hf] at hs;simp only[abN,anJ] at hs;cases I:wP w h.R st1 c with
   |none=>rw[I] at hs;simp at hs
   |some p=>exact⟨p,(aod _ _ _ _ _).2 ⟨s0,c,st1,rfl,k1,M,E.2,I⟩⟩
  ·rintro⟨p,hc⟩;obtain⟨s0,c,st1,rfl,k1,k2,L,J⟩:=(aod _ _ _ _ _).1 hc;refine⟨s0,(H s0).2 ⟨st1,k1⟩,ac4.2 ⟨c,afJ.2 ⟨k2,?_⟩,rfl⟩⟩;unfold anN numOf;rw[anZ,aoe _ _ _ _ k1];simp[anJ,L,J]
theorem aoQ{rs s:List UInt8}{p:Int×Int}(hc:aoh h w (0,-1) rs s p):anP h w s=p.1:=by
 unfold anP numOf;rw[aoe _ _ _ _ hc];rfl
theorem aon(r c:UInt8):an1 h.alike r c=fK h r c:=by
 unfold an1 fK;cases(r==c) <;>cases(r==63) <;>simp
theorem apI(ho:Tc h w){j:Nat}(p:j<w.length):placeOf w w[j]=(((j+1)%10:Nat):Int):=by
 rw[aoJ w w[j] j p (λhm=>?_) rfl]
 ·omega
 ·obtain⟨i,hi,e⟩:=agD.1 hm;have:=(List.getElem_inj ho.nod (i:=i) (j:=j) (h₀:=by omega) (h₁:=p)).1 e;omega
theorem aoP(ho:Tc h w)(n last:Int)(c:UInt8)(st:Int×Int):(c∈w++h.R/\wP w h.R (n,last) c=some st)↔
  (∃j<10,w.getD j 0=c/\((((j+1)%10:Nat):Int) !=last||h.R.isEmpty)=true/\st=(10*n+(((j+1)%10:Nat):Int),(((j+1)%10:Nat):Int)))\/(∃q I,h.R=q::I/\c=q/\0<=last/\st=(10*n+last,last)):=by
 have N:∀j,(E:j<w.length)->w.getD j 0=w[j]:=λj E=>by rw[abM,aaf E];rfl
 have V:=ho.len;have O:∀j,(E:j<w.length)->wP w h.R (n,last) w[j]=if h.R≠ []/\(((j+1)%10:Nat):Int)=last then none else some (10*n+(((j+1)%10:Nat):Int),(((j+1)%10:Nat):Int)):=λj E=>by
  have J:¬(h.R≠ []/\h.R[0]?=some w[j]):=λe=>(ho.rep _ (List.mem_of_getElem? e.2)).2 (abG E)
  unfold wP;rw[aat J,apI ho E];split
  ·rfl
  ·rw[aat (by omega)]
 constructor
 ·rintro⟨hm,hs⟩;by_cases L:c∈w
  ·obtain⟨j,E,rfl⟩:=List.getElem_of_mem L;rw[O j E] at hs;split at hs
   ·cases hs
   ·rename_i U;cases hs;refine .inl ⟨j,by omega,N j E,?_,rfl⟩;by_cases p:h.R= []
    ·simp[p]
    ·have:¬(((j+1)%10:Nat):Int)=last:=λe=>U ⟨p,e⟩
     simp only[adr,bne_iff_ne];exact .inl this
  ·have W:c∈h.R:=(abH.1 hm).resolve_left L;obtain⟨q,I,p⟩:=agl (List.ne_nil_of_mem W);by_cases hq:c=q
   ·subst hq;unfold wP at hs;rw[aay ⟨by rw[p];simp,by rw[p];rfl⟩] at hs;split at hs
    ·cases hs
    ·rename_i hl;cases hs;exact .inr ⟨c,I,p,rfl,by simpa using hl,rfl⟩
   ·unfold wP at hs;rw[aat (λe=>hq (by have:=e.2;rw[p] at this;simpa using this.symm)),aoB w c L] at hs;split at hs
    ·cases hs
    ·rw[aay (by decide)] at hs;cases hs
 ·rintro(⟨j,E,rfl,M,rfl⟩|⟨q,I,p,rfl,hl,rfl⟩)
  ·have H:j<w.length:=by omega
   rw[N j H];refine⟨List.mem_append_left _ (abG H),?_⟩;rw[O j H,aat];rintro⟨p,e⟩;simp only[adr,bne_iff_ne,List.isEmpty_iff] at M;rcases M with h1|h1
   ·exact h1 e
   ·exact p h1
  ·refine⟨List.mem_append_right _ (by rw[p];simp),?_⟩;unfold wP;rw[aay ⟨by rw[p];simp,by rw[p];rfl⟩,aat (by simpa using hl)]
theorem aoL(ho:Tc h w):∀(rs:List UInt8) (last n:Int) (b:Bool) (m:Int) (o:Bool),(m,o)∈bf h w rs last n b↔∃s p,aoh h w (n,last) rs s p/\p.1=m/\(b||bE s rs)=o
 | [],last,n,b,m,o=>by
  simp only[bf,acE,Prod.mk.injEq];constructor
  ·rintro⟨rfl,rfl⟩;exact⟨[],(m,last),rfl,rfl,by simp[bE]⟩
  ·rintro⟨s,p,hc,rfl,rfl⟩
   match s,hc with
   | [],hc=>simp only[aoh] at hc;rw[<-hc];simp[bE]
 |r::rs,last,n,b,m,o=>by
  have I:=aoL ho rs;have key:(m,o)∈bf h w (r::rs) last n b↔∃c st,(c∈w++h.R/\wP w h.R (n,last) c=some st)/\an1 h.alike r c=true/\∃s p,aoh h w st rs s p/\p.1=m/\((b||(r !=63&&r !=c))||bE s rs)=o:=by
   unfold bf;rw[abH];constructor
   ·rintro(hx|hx)
    ·obtain⟨j,H,hx⟩:=aeQ.1 hx;have H:=aeh.1 H;split at hx
     ·rename_i L;split at hx
      ·rename_i E;exact⟨w.getD j 0,_,(aoP ho n last _ _).2 (.inl ⟨j,H,rfl,L,rfl⟩),by rw[aon];exact E,(I _ _ _ _ _).1 hx⟩
      ·cases hx
     ·cases hx
    ·split at hx
     ·cases hx
     ·rename_i q V M;split at hx
      ·rename_i hl;split at hx
       ·rename_i E;exact⟨q,_,(aoP ho n last _ _).2 (.inr ⟨q,V,M,rfl,hl,rfl⟩),by rw[aon];exact E,(I _ _ _ _ _).1 hx⟩
       ·cases hx
      ·cases hx
   ·rintro⟨c,st,Y,E,U⟩;rw[aon] at E;rcases(aoP ho n last c st).1 Y with ⟨j,H,rfl,L,rfl⟩|⟨q,V,M,rfl,hl,rfl⟩
    ·left;refine aeQ.2 ⟨j,aeh.2 H,?_⟩;rw[aay L,aay E];exact(I _ _ _ _ _).2 U
    ·right;rw[M];simp only;rw[aay hl,aay E];exact(I _ _ _ _ _).2 U
  rw[key];constructor
  ·rintro⟨c,st,⟨h1,h2⟩,O,s,p,N,W,J⟩;exact⟨c::s,p,⟨h1,O,st,h2,N⟩,W,by rw[bE,<-Bool.or_assoc];exact J⟩
  ·rintro⟨s,p,hc,hm,J⟩
   match s,hc with
   |c::s,⟨h1,O,st,h2,N⟩=>exact⟨c,st,⟨h1,h2⟩,O,s,p,N,hm,by rw[bE,<-Bool.or_assoc] at J;exact J⟩
theorem aoH(ho:Tc h w)(rs:List UInt8)(x:Int×Bool):x∈bf h w rs (-1) 0 false↔∃s∈aP h w rs,(anP h w s,bE s rs)=x:=by
 obtain⟨m,o⟩:=x;rw[aoL ho];constructor
 ·rintro⟨s,p,hc,rfl,rfl⟩;exact⟨s,(aou _ rs rfl s).2 ⟨p,hc⟩,by rw[aoQ hc,ahe]⟩
 ·rintro⟨s,hs,e⟩;obtain⟨p,hc⟩:=(aou _ rs rfl s).1 hs;rw[aoQ hc,Prod.mk.injEq] at e;exact⟨s,p,hc,e.1,by rw[ahe];exact e.2⟩
theorem anY(ho:Tc h w)(rs:List UInt8)(m:Int):m∈(aP h w rs).map (anP h w)↔m∈(bf h w rs (-1) 0 false).map (·.1):=by
 simp only[ac4,aoH ho];exact⟨λ⟨s,h1,h2⟩=>⟨_,⟨s,h1,rfl⟩,h2⟩,λ⟨x,⟨s,h1,h2⟩,p⟩=>⟨s,h1,by rw[<-p,<-h2]⟩⟩
end
section
variable{P:aC}[l:cL P]
end
section
variable{P:aC}[l:cL P]
end
section
variable{h:ay}{w:List UInt8}(hc:aO h=0)(ho:Tc h w)
include ho
include hc
variable{n g:Int}(hb:aV n g=0)
include hb
end
section
variable{h:ay}(hc:aO h=0)
include hc
end
section
variable{P:aC}[l:cL P]
end
section
variable{P:aC}[l:cL P]
end
section
variable{h:ay}{i:Nat}{t:Tag}(ht:h.tags[i]?=some t){n:Int}
theorem amH{h:ay}{w:List UInt8}{t:Tag}{n:Int} :n∈(cF h w t).map (·.1)↔n∈(bf h w t.reads (-1) 0 false).map (·.1)/\t.low<=n/\n<=t.high:=by
 unfold cF;simp only[ac4,afJ,jU,aaZ,aan];constructor
 ·rintro⟨x,⟨h1,h2⟩,rfl⟩;exact⟨⟨x,h1,rfl⟩,h2⟩
 ·rintro⟨⟨x,h1,rfl⟩,h2⟩;exact⟨x,⟨h1,h2⟩,rfl⟩
theorem amL{h:ay}{w:List UInt8}{t:Tag} :(!(cF h w t).isEmpty)=true↔∃n,n∈(cF h w t).map (·.1):=by
 cases cF h w t with
 |nil=>simp
 |cons a l=>simp only[List.isEmpty_cons,Bool.not_false,List.map_cons,true_iff];exact⟨a.1,by simp⟩
include ht
end
@[simp] abbrev ao9:List Nat:=[0,1,2,3,4,5,6,7,13,20,39]
theorem ao4{h:ay}{w:List UInt8}(ho:Tc h w)(t:Tag):(!(cF h w t).isEmpty)=decide (0<(aa h w t).length):=by
 rw[adX,amL,aan,List.length_pos_iff_exists_mem];constructor
 ·rintro⟨n,hn⟩;obtain⟨h1,h2,p⟩:=amH.1 hn;obtain⟨s,hs,rfl⟩:=ac4.1 ((anY ho t.reads n).2 h1);exact⟨s,afJ.2 ⟨hs,by grind [anX]⟩⟩
 ·rintro⟨s,hs⟩;obtain⟨h1,h2⟩:=afJ.1 hs;simp only[anX,aaZ,aan] at h2;exact⟨anP h w s,amH.2 ⟨(anY ho t.reads _).1 (ac4.2 ⟨s,h1,rfl⟩),h2⟩⟩
section
variable{P:aC}[l:cL P]
theorem aom(h:ay)(hc:aO h=0):∃F:List AV->Option AV,Den P 90 F/\∀w t,w.length=10->t∈h.tags->F [.ag (o6 h),.s w,.ag (fP t)]=some (strs (aa h w t)):=by
 have p:=checked h hc;obtain⟨F,h1,h2⟩:=cC (P:=P) (f:=90) (ι:=List UInt8×Tag) (λx=> [.ag (o6 h),.s x.1,.ag (fP x.2)]) (λx=>strs (aa h x.1 x.2)) (λx=>x.1.length=10/\x.2∈h.tags) (λx y _ _ e=>by
  simp only[fP,abg,AV.s.injEq,AV.ag.injEq,AV.i.injEq,adM,abQ] at e;obtain⟨J,I,H,E⟩:=e;obtain⟨a,⟨b,c,d⟩⟩:=x
  simp_all) (λx hx=>apo h x.1 x.2 (dO h hc).al (by omega) p.1.2.2.2.1 (qW hc hx.2))
 exact⟨F,h1,λw t a b=>h2 (w,t) ⟨a,b⟩⟩
theorem ape(h:ay)(hc:aO h=0):aq P 125 [.ag (o6 h)] (strs (aB h)):=by
 obtain⟨⟨k1,_,_,_,_,k6,k7,_⟩,_,Wp,_⟩:=checked h hc;obtain⟨A,ad,hA⟩:=ca (apC (P:=P) h (by omega) (by omega));obtain⟨F,fd,hF⟩:=aom (P:=P) h hc;have M:=cV h.tags;have fF:∀w∈e_ h.L h.S,Tc h w:=λw hw=>aiZ hc hw
 have Z:=an_ h.L h.S (by omega);rw[k1] at Z;unfold aB;generalize e_ h.L h.S=ws at *;simp only[o6,strs] at hA;refine fi (ak (aR Tryz.func160) ad (ak (aR Tryz.func90) fd (au P))) (lf Tryz.func125) ?_
 repeat' first|apply nI|(refine eI ao9 λK p=>?_;simp[o6,ab,hA];apply p)
 refine amF (λd T B lv nx=>∃i τ,i+d=ws.length/\T 1=.sp (o6 h)/\T 3=strs ws/\T 5=.i .i64 i/\T 4=.sq (some τ) 1 (((ws.take i).filter (Az h)).map .s)/\lv τ=some 9/\τ<nx) ws.length ?_ ?_
 ·exact⟨0,5,by simp,by rfl,by rfl,by simp,by simp,by simp,by simp⟩
 rintro d T B lv nx ⟨i,τ,hi,t1,t3,t5,t4,l4,W⟩;have w1:=aS ((i:Int)+1);by_cases J:i<ws.length
 ·have U:(ws.map AV.s).drop i=.s ws[i]::(ws.map AV.s).drop (i+1):=by grind [List.drop_eq_getElem_cons]
  have ti:ws.take (i+1)=ws.take i++ [ws[i]]:=aaN J;have ho:=fF _ (abG J);have Oe:=ael (Az h) (ws.take i);rw[afk] at Oe;have hlen:(((ws.take i).filter (Az h)).length+1)*17<=70368744177664:=by omega
  generalize ws[i]=w at U ti ho;have E:(ws.take (i+1)).filter (Az h)=(ws.take i).filter (Az h)++if Az h w then[w] else[]:=by
   grind
  repeat' first|apply nI|(refine eI ao9 λK p=>?_;simp[t1,t3,t5,t4,strs,J];apply p)
  refine amF (λd T B lv nx=>∃k,k+d=h.tags.length/\T 1=.sp (o6 h)/\T 3=strs ws/\T 5=.i .i64 i/\T 4=.sq (some τ) 1 (((ws.take i).filter (Az h)).map .s)/\lv τ=some 9/\τ<nx/\T 7=.i .i64 k/\T 6=.b ((h.tags.take k).all λt=> !(cF h w t).isEmpty)) h.tags.length ?_ ?_
  ·exact⟨0,by simp,by rfl,by rfl,by simp,by simp,by omega,by omega,by simp,by simp⟩
  rintro d1 T B lv nx ⟨k,hk,t1,t3,t5,t4,l4,W,t7,t6⟩;have w2:=aS ((k:Int)+1);by_cases I:k<h.tags.length
  ·have V:=fA h.tags k h.tags[k] (aaf I);have eu:(k+1)*3<=h.tags.length*3:=by omega
   have tk:h.tags.take (k+1)=h.tags.take k++ [h.tags[k]]:=aaN I;have H:=hF w h.tags[k] ho.len (abG I);simp only[o6,fP,strs] at H;generalize h.tags[k]=t at V tk H;have aqu:=ao4 ho t;have N:(h.tags.take (k+1)).all (λt=> !(cF h w t).isEmpty)=((h.tags.take k).all (λt=> !(cF h w t).isEmpty)&&decide (0<(aa h w t).length)):=by
    simp_all
   generalize aa h w t=rl at *;cases hb:(h.tags.take k).all (λt=> !(cF h w t).isEmpty) with
   |false=>
    rw[hb] at t6 N
    repeat' first|apply nI|(refine eI ao9 λK p=>?_;simp[t1,t3,t5,t4,t7,t6,o6,strs,M,I,w2];apply p)
    refine aN (d1-1) ⟨k+1,by omega,by rfl,by rfl,by rfl,by rfl,by omega,by grind,by simp,by simp[N]⟩
   |true=>
    rw[hb] at t6 N;by_cases O:0<rl.length
    ·repeat' first|apply nI|(refine eI ao9 λK p=>?_;simp[t1,t3,t5,t4,t7,t6,o6,strs,M,I,J,U,V,eu,ab,az,H,O,w2];apply p)
     refine aN (d1-1) ⟨k+1,by omega,by rfl,by rfl,by rfl,by rfl,by omega,by grind,by simp,by simp[N,O]⟩
    ·repeat' first|apply nI|(refine eI ao9 λK p=>?_;simp[t1,t3,t5,t4,t7,t6,o6,strs,M,I,J,U,V,eu,ab,az,H,O,w2];apply p)
     refine aN (d1-1) ⟨k+1,by omega,by rfl,by rfl,by rfl,by rfl,by omega,by grind,by simp,by simp[N,O]⟩
  ·have aaP:k=h.tags.length:=by omega
   subst aaP;rw[aeo] at t6;have Y:(h.tags.all λt=> !(cF h w t).isEmpty)=Az h w:=rfl;rw[Y] at t6;cases hg:Az h w with
   |false=>
    rw[hg] at t6 E;simp only[abX,ab3,acO] at E
    repeat' first|apply nI|(refine eI ao9 λK p=>?_;simp[t1,t3,t5,t4,t7,t6,o6,strs,M,w1];apply p)
    refine aN (d-1) ⟨i+1,τ,by omega,by rfl,by rfl,by simp,by simp[t4,E],by omega,by grind⟩
   |true=>
    rw[hg] at t6 E;simp only[acC] at E;have ZO:τ<nx+5+1:=by omega
    have n9:¬τ=nx+5+1+5:=by omega
    repeat' first|apply nI|(refine eI ao9 λK p=>?_;simp[t1,t3,t5,t4,t7,t6,l4,ZO,n9,o6,strs,M,J,U,hlen,w1];apply p)
    refine aN (d-1) ⟨i+1,nx+5+1+6,by omega,by rfl,by rfl,by simp,by simp[E],by simp,by simp⟩
 ·have I8:i=ws.length:=by omega
  subst I8;rw[aeo] at t4
  repeat' first|apply nI|(refine eI ao9 λK p=>?_;simp[t1,t3,t5,t4,o6,strs];apply p)
  simp[Dn,aH,Tryz.f125,strs]
end
@[simp] abbrev ap4:List Nat:=[0,1,2,4,5,6,7,11,14,20]
section
variable{P:aC}[l:cL P]
theorem an9(h:ay)(hf:Fair h)(b:Int):aq P 78 [.ag (o6 h),.i .i64 b] (.tu [strs (bK h [b] (aB h) []),.i .i64 (bJ h [b])]):=by
 obtain⟨A,J,H⟩:=ca (BI (P:=P) h hf);simp only[o6] at H;by_cases hc:aO h=0
 ·have p:bJ h [b]=if b≠0 then b else if aB h= [] then 9 else 0:=by
   unfold bJ;rw[aat (by simp[hc])];by_cases e:b=0 <;>simp[bN,e]
  by_cases hb:b=0
  ·subst hb;rw[aat (by simp)] at p;obtain⟨W,wd,hW⟩:=ca (ape (P:=P) h hc);simp only[o6,strs] at hW;rw[hc] at H;refine fi (ak (aR Tryz.func49) J (ak (aR Tryz.func125) wd (au P))) (lf Tryz.func78) ?_;by_cases hw:aB h= []
   ·rw[aay hw] at p;rw[hw] at hW
    repeat' first|apply nI|(refine eI ap4 λK E=>?_;simp[o6,ab,az,H,hW,bne];apply E)
    simp[Dn,dc,aH,Tryz.f78,bK,p,strs]
   ·rw[aat hw] at p;have hl:(((aB h).length:Int)==0)=false:=by
     have:=agz.2 hw;rw[ady];omega
    generalize aB h=ws at *
    repeat' first|apply nI|(refine eI ap4 λK E=>?_;simp[o6,ab,az,H,hW,bne,hl,hw];apply E)
    simp[Dn,dc,aH,Tryz.f78,bK,p,strs]
  ·rw[aay hb] at p;rw[hc] at H;have I:(b==0)=false:=by simp[hb]
   refine fi (ak (aR Tryz.func49) J (au P)) (lf Tryz.func78) ?_
   repeat' first|apply nI|(refine eI ap4 λK E=>?_;simp[o6,ab,H,bne,I];apply E)
   simp[Dn,dc,aH,Tryz.f78,bK,p,hb,strs]
 ·have p:bJ h [b]=aO h:=by unfold bJ;rw[aay hc]
  have L:(aO h==0)=false:=by simp[hc]
  refine fi (ak (aR Tryz.func49) J (au P)) (lf Tryz.func78) ?_
  repeat' first|apply nI|(refine eI ap4 λK E=>?_;simp[o6,ab,H,bne,L];apply E)
  simp[Dn,dc,aH,Tryz.f78,bK,p,hc,strs]
end
@[simp] abbrev aqA:List Nat:=[0,1,2,4,5,6,7,8,9,10,21,32]
@[simp] abbrev aql:List Nat:=[0,1,2,4,5,6,7,8,9,10,19,22,28,38]
def b9(ws:List (List UInt8))(d:Int)(n:Nat):List UInt8:=((List.range n).map λi=>UInt8.ofNat (65+i)).filter λc=>ws.any λw=>placeOf w c==d
theorem arK(ws:List (List UInt8))(d:Int)(n:Nat)(h:∃w∈ws,placeOf w (UInt8.ofNat (65+n))=d):b9 ws d (n+1)=b9 ws d n++ [UInt8.ofNat (65+n)]:=by
 grind [List.range_succ,b9]
theorem ar3(ws:List (List UInt8))(d:Int)(n:Nat)(h:∀w∈ws,placeOf w (UInt8.ofNat (65+n))≠d):b9 ws d (n+1)=b9 ws d n:=by
 grind [List.range_succ,b9]
theorem arJ(ws:List (List UInt8))(d:Int)(n:Nat):(b9 ws d n).length<=n:=by
 unfold b9
 grind
section
variable{P:aC}[l:cL P]
theorem asi(h:ay)(hf:Fair h):aq P 47 [.ag (o6 h)] (.tu [.i .i64 (bK h [0] (aB h) []).length,.i .i64 (bJ h [0])]):=by
 obtain⟨A,H,p⟩:=ca (an9 (P:=P) h hf 0);simp only[o6,strs] at p;refine fi (ak (aR Tryz.func78) H (au P)) (lf Tryz.func47) ?_
 repeat' first|apply nI|(refine eI aiX λK E=>?_;simp[o6,ab,p];apply E)
 simp[Dn,dc,aH,Tryz.f47]
theorem arE(h:ay)(hf:Fair h):aq P 54 [.ag (o6 h)] (.tu [.b (((bK h [0] (aB h) []).length:Int)==1),.i .i64 (bJ h [0])]):=by
 obtain⟨A,H,p⟩:=ca (an9 (P:=P) h hf 0);simp only[o6,strs] at p;refine fi (ak (aR Tryz.func78) H (au P)) (lf Tryz.func54) ?_
 repeat' first|apply nI|(refine eI aiX λK E=>?_;simp[o6,ab,p];apply E)
 simp[Dn,dc,aH,Tryz.f54]
theorem ar4(n:Int):aq P 111 [.i .i64 n] (.i .i64 (mT n)):=by
 refine fi (ak (aR Tryz.func42) anp (au P)) (lf Tryz.func111) ?_;by_cases E:0<=n/\n<=9
 ·have f1:=E.1;have f2:=E.2
  repeat' first|apply nI|(refine eI [0,2,5] λK p=>?_;simp[ab,dIn,f1,f2];apply p)
  simp_all [Dn,aH,mT]
 ·have fb:(decide (0<=n)&&decide (n<=9))=false:=by
   simp_all
  repeat' first|apply nI|(refine eI [0,2,5] λK p=>?_;simp[ab,dIn,fb];apply p)
  simp_all [Dn,aH,mT]
theorem asF(s:List UInt8)(hs:s.length<1000000):aq P 115 [.s s] (.i .i64 (eN s)):=by
 obtain⟨A,I,E⟩:=ca (uA (P:=P) s 65 hs);rw[show((65:UInt8).toNat:Int)=65 from rfl] at E;have hi:((s.length:Int)==1)=(s.length==1):=by
  grind
 refine fi (ak (aR Tryz.func138) I (au P)) (lf Tryz.func115) ?_;by_cases h1:s.length=1
 ·have H:(s.length==1)=true:=by grind
  cases h2:bA s 65 with
  |false=>
   rw[h2] at E
   repeat' first|apply nI|(refine eI [0,2,10] λK p=>?_;simp[ab,bne,hi,H,E];apply p)
   simp_all [Dn,aH,eN]
  |true=>
   rw[h2] at E
   repeat' first|apply nI|(refine eI [0,2,10] λK p=>?_;simp[ab,bne,hi,H,E];apply p)
   simp_all [Dn,aH,eN]
 ·have H:(s.length==1)=false:=by grind
  repeat' first|apply nI|(refine eI [0,2,10] λK p=>?_;simp[ab,bne,hi,H];apply p)
  simp_all [Dn,aH,eN]
theorem arV(h:ay)(hf:Fair h)(s:List UInt8)(hs:s.length<1000000):aq P 52 [.ag (o6 h),.s s] (.tu [ints (bK h [eN s] (CD h s) []),.i .i64 (bJ h [eN s])]):=by
 obtain⟨A,ad,Y⟩:=ca (asF (P:=P) s hs);obtain⟨O,V,J⟩:=ca (an9 (P:=P) h hf (eN s));simp only[o6,strs] at J;by_cases ho:bJ h [eN s]=0
 ·obtain⟨hc,hb,_⟩:=ij ho;have Yw:s.length=1:=by
   refine aaO λhn=>?_
   grind [eN,bN]
  obtain⟨c,rfl⟩:=aeR.1 Yw;rw[bK,ho,aat (by decide)] at J;have aoi:(aB h).length<=1000000:=by grind [sP]
  have pc:=cI hc;have N:CD h [c]=uI ((aB h).flatMap λw=>digitsOf w c):=rfl;rw[bK,ho,aat (by decide),N];generalize aB h=ws at *;have hbound:∀k,((ws.take k).flatMap λw=>digitsOf w c).length<=1000000*1:=λk=>by
   refine aaY (anS _ 1 _ λw hw=>by unfold digitsOf;grind) ?_
   grind
  obtain⟨Z,M,I⟩:=ca (aoS (P:=P) (ws.flatMap λw=>digitsOf w c) (by have:=hbound ws.length;grind));simp only[ints] at I;have sL:∀w∈ws,an6 [.s w,.i .u8 c.toNat]=some (.i .i64 (placeOf w c)):=λw hw=>by
   have:=pc w hw;have uJ:=c.toNat_lt;simp only[an6];rw[aay (by omega)];simp
  refine fi (ak (aR Tryz.func115) ad (ak (aR Tryz.func78) V (ak (aR Tryz.func112) apL (ak (aR Tryz.func116) M (au P))))) (lf Tryz.func52) ?_
  repeat' first|apply nI|(refine eI aqA λK E=>?_;simp[o6,ab,az,Y,J];apply E)
  refine amF (λd T B lv nx=>∃k τ,k+d=ws.length/\T 1=.s [c]/\T 6=strs ws/\T 7=.i .i64 0/\T 9=.i .i64 k/\T 8=.sq (some τ) 1 (((ws.take k).flatMap λw=>digitsOf w c).map (.i .i64))/\lv τ=some 3/\τ<nx) ws.length ?_ ?_
  ·exact⟨0,12,by simp,by simp,by rfl,by simp,by simp,by simp,by simp,by simp⟩
  rintro d T B lv nx ⟨k,τ,hk,t1,t6,t7,t9,t8,W,hτ⟩;have w1:=aS ((k:Int)+1);by_cases L:k<ws.length
  ·have U:(ws.map AV.s).drop k=.s ws[k]::(ws.map AV.s).drop (k+1):=by grind [List.drop_eq_getElem_cons]
   have tk:ws.take (k+1)=ws.take k++ [ws[k]]:=aaN L;have hm:=abG L;have hb:=hbound k;have H:=sL _ hm;generalize ws[k]=w at U tk hm H;have hnx:(ws.take (k+1)).flatMap (λw=>digitsOf w c)=(ws.take k).flatMap (λw=>digitsOf w c)++digitsOf w c:=by simp_all
   generalize (ws.take k).flatMap (λw=>digitsOf w c)=pre at *;have hd1:0<=placeOf w c->digitsOf w c= [placeOf w c]:=λh=>by unfold digitsOf;grind
   have hd2:¬0<=placeOf w c->digitsOf w c= []:=λh=>by unfold digitsOf;grind
   generalize placeOf w c=p at H hd1 hd2;have hlen:(pre.length+1)*9<=70368744177664:=by omega
   have ZO:Lo lv (nx+4+8+2+2) (some 3) τ=some 3:=by grind [aL]
   have hτ3:τ<nx+4+8+2:=by omega
   by_cases hp:0<=p
   ·rw[hd1 hp] at hnx
    repeat' first|apply nI|(refine eI aqA λK E=>?_;simp[t1,t6,t7,t9,t8,W,ZO,hτ3,strs,L,U,ab,az,H,hlen,hp,w1];apply E)
    refine aN (d-1) ⟨k+1,nx+4+8+2+3,by omega,by rfl,by rfl,by rfl,by simp,by simp[hnx],by simp,by simp⟩
   ·rw[hd2 hp,acO] at hnx
    repeat' first|apply nI|(refine eI aqA λK E=>?_;simp[t1,t6,t7,t9,t8,W,ZO,hτ3,strs,L,U,ab,az,H,hlen,hp,w1];apply E)
    refine aN (d-1) ⟨k+1,τ,by omega,by rfl,by rfl,by rfl,by simp,by simp[hnx,t8],by omega,by grind⟩
  ·have gg:k=ws.length:=by omega
   subst gg;rw[aeo] at t8
   repeat' first|apply nI|(refine eI aqA λK E=>?_;simp[t1,t6,t7,t9,t8,strs,ab,az,I];apply E)
   simp[Dn,dc,aH,Tryz.f52,ints]
 ·have uH:(bJ h [eN s]==0)=false:=by grind
  rw[bK,aay ho] at J ⊢;obtain⟨Z,M,I⟩:=ca (aoS (P:=P) [] (by simp));simp only[ints,List.map_nil,show uI []= [] from akN] at I;refine fi (ak (aR Tryz.func115) ad (ak (aR Tryz.func78) V (ak (aR Tryz.func116) M (au P)))) (lf Tryz.func52) ?_
  repeat' first|apply nI|(refine eI aqA λK E=>?_;simp[o6,ab,az,Y,J];apply E)
  refine amF (λd T B lv nx=>T 6=strs []/\T 7=.i .i64 (bJ h [eN s])/\T 8=.sq (some 12) 1 []/\T 9=.i .i64 0) 0 ?_ ?_
  ·exact⟨by rfl,by simp,by simp,by simp⟩
  rintro d T B lv nx ⟨t6,t7,t8,t9⟩
  repeat' first|apply nI|(refine eI aqA λK E=>?_;simp[t6,t7,t8,t9,strs,ab,az,I];apply E)
  simp_all [Dn,dc,aH,ints]
theorem arF(h:ay)(hf:Fair h)(d:Int):aq P 50 [.ag (o6 h),.i .i64 d] (.tu [.s (bK h [mT d] (b9 (aB h) d 26) []),.i .i64 (bJ h [mT d])]):=by
 obtain⟨A,Z,Y⟩:=ca (ar4 (P:=P) d);obtain⟨O,W,I⟩:=ca (an9 (P:=P) h hf (mT d));simp only[o6,strs] at I;by_cases ho:bJ h [mT d]=0
 ·obtain⟨hc,hb,_⟩:=ij ho;rw[bK,ho,aat (by decide)] at I ⊢;have pc:=cI hc;have aoi:(aB h).length<=1000000:=by grind [sP]
  generalize aB h=ws at *;have sL:∀w∈ws,∀c:Nat,c<256->an6 [.s w,.i .u8 (c:Int)]=some (.i .i64 (placeOf w (UInt8.ofNat c))):=λw hw c uJ=>by
   grind [an6]
  refine fi (ak (aR Tryz.func111) Z (ak (aR Tryz.func78) W (ak (aR Tryz.func112) apL (au P)))) (lf Tryz.func50) ?_
  repeat' first|apply nI|(refine eI aql λK p=>?_;simp[o6,ab,az,Y,I,bne];apply p)
  refine amF (λq T B lv nx=>∃k:Nat,k+q=26/\T 1=.i .i64 d/\T 6=strs ws/\T 9=.i .u8 ((65+k:Nat):Int)/\T 8=.s (b9 ws d k)) 26 ?_ ?_
  ·exact⟨0,by simp,by simp,by rfl,by simp,by rfl⟩
  rintro q T B lv nx ⟨k,hk,t1,t6,t9,t8⟩;obtain⟨n,hn⟩:∃n,65+k=n:=⟨_,rfl⟩
  have J:=arK ws d k;have L:=ar3 ws d k;have TW:=arJ ws d k;rw[hn] at J L t9;have V:IntKind.u8.wrap ((n:Int)+1)=((65+(k+1):Nat):Int):=by
   rw[show((n:Int)+1)=((65+(k+1):Nat):Int) by omega];simp only[IntKind.wrap,show IntKind.u8.bits=8 from rfl,show IntKind.u8.signed=false from rfl,Bool.false_and,abX,ab3];omega
  by_cases aK:k<26
  ·have c90:(n:Int)<=90:=by omega
   have fT:(n:Int)<256:=by omega
   have hl2:¬9223372036854775807<((b9 ws d k).length:Int)+1:=by omega
   repeat' first|apply nI|(refine eI aql λK p=>?_;simp[t1,t6,t9,t8,c90,strs];apply p)
   refine amF (λr T B lv nx=>∃j:Nat,j+r=ws.length/\T 1=.i .i64 d/\T 6=strs ws/\T 9=.i .u8 (n:Int)/\T 8=.s (b9 ws d k)/\T 10=.i .i64 j/\∀w∈ws.take j,placeOf w (UInt8.ofNat n)≠d) ws.length ?_ ?_
   ·exact⟨0,by simp,by simp,by rfl,by simp,by simp,by simp,by simp⟩
   rintro r T B lv nx ⟨j,hj,t1,t6,t9,t8,t10,H⟩;have w1:=aS ((j:Int)+1);by_cases M:j<ws.length
   ·have N:(ws.map AV.s).drop j=.s ws[j]::(ws.map AV.s).drop (j+1):=by grind [List.drop_eq_getElem_cons]
    have tk:ws.take (j+1)=ws.take j++ [ws[j]]:=aaN M;have hm:=abG M;have E:=sL _ hm n (by omega);generalize ws[j]=w at N tk hm E;by_cases hp:placeOf w (UInt8.ofNat n)=d
    ·have hs:=J ⟨w,hm,hp⟩;rw[hp] at E
     repeat' first|apply nI|(refine eI aql λK p=>?_;simp[t1,t6,t9,t8,t10,strs,M,N,ab,az,E,fT,hl2,V];apply p)
     refine aN (q-1) ⟨k+1,by omega,by rfl,by rfl,by simp,by simp[hs]⟩
    ·repeat' first|apply nI|(refine eI aql λK p=>?_;simp[t1,t6,t9,t8,t10,strs,M,N,ab,az,E,hp,w1];apply p)
     refine aN (r-1) ⟨j+1,by omega,by rfl,by rfl,by rfl,by rfl,by simp,λx hx=>?_⟩
     grind
   ·have ag5:j=ws.length:=by omega
    subst ag5;rw[aeo] at H;have hs:=L H
    repeat' first|apply nI|(refine eI aql λK p=>?_;simp[t1,t6,t9,t8,t10,strs,V];apply p)
    refine aN (q-1) ⟨k+1,by omega,by rfl,by rfl,by simp,by simp_all⟩
  ·have U:k=26:=by omega
   subst U;have c90:¬(n:Int)<=90:=by omega
   repeat' first|apply nI|(refine eI aql λK p=>?_;simp[t1,t6,t9,t8,c90,strs];apply p)
   simp[Dn,dc,aH,Tryz.f50]
 ·have uH:(bJ h [mT d]==0)=false:=by grind
  rw[bK,aay ho] at I ⊢;refine fi (ak (aR Tryz.func111) Z (ak (aR Tryz.func78) W (au P))) (lf Tryz.func50) ?_
  repeat' first|apply nI|(refine eI aql λK p=>?_;simp[o6,ab,az,Y,I,bne,uH];apply p)
  simp[Dn,dc,aH,Tryz.f50]
end
theorem aqQ:∀(L S:List UInt8),S.Nodup->(e_ L S).Nodup
 | [],S,_=>by simp[e_]
 |c::L,S,h=>by
  unfold e_;split
  ·refine List.pairwise_flatMap.2 ⟨λk hk=>?_,?_⟩
   ·refine List.pairwise_map.2 ((aqQ L _ ?_).imp λp e=>p (List.cons.inj e).2);have:(S.take k++S.drop (k+1))=S.eraseIdx k:=(List.eraseIdx_eq_take_drop_succ ..).symm;rw[this];exact h.sublist (List.eraseIdx_sublist ..)
   ·refine(List.pairwise_lt_range).imp_of_mem fun {a b} ha hb H x hx y hy e=>?_
    simp only[ac4] at hx hy;obtain⟨x',_,rfl⟩:=hx;obtain⟨E,_,rfl⟩:=hy;have:=getD_inj h (aeh.1 ha) (aeh.1 hb) (List.cons.inj e).1;omega
  ·exact List.pairwise_map.2 ((aqQ L S h).imp λp e=>p (List.cons.inj e).2)
theorem arQ{h:ay}(hc:aO h=0):(aB h).Nodup:=by
 have h1:=(checked h hc).1;have p:h.S.Nodup:=by
  have hd:=La h1.2.2.2.2.2.2.2;have hf:h.S.filter (· !=63)=h.S:=List.filter_eq_self.2 λc hc=>by simpa using lZ (En h1.2.2.1 c hc)
  rw[ag2,ag2,hf] at hd;exact(List.nodup_append.1 (List.nodup_append.1 hd).1).2.1
 exact(aqQ _ _ p).sublist List.filter_sublist
def aqT(ws:List (List UInt8)):Bool:= !(ws.any λv=> !(v==ws.headD []))
theorem asT{ws:List (List UInt8)}(hn:ws.Nodup)(p:ws≠ []):aqT ws=((ws.length:Int)==1):=by
 match ws,hn,p with
 | [],_,p=>exact absurd rfl p
 | [w],_,_=>simp[aqT]
 |w::v::r,hn,_=>
  have h1:v≠w:=λe=>(List.nodup_cons.1 hn).1 (by simp[e])
  have h2:((((w::v::r).length:Nat):Int)==1)=false:=by
   rw[ady,ab0,ab0];omega
  rw[h2];simp[aqT,h1]
theorem arz{w:List UInt8}(hl:w.length=10)(hn:w.Nodup){d:Int}(h0:0<=d)(I:d<=9)(c:UInt8):placeOf w c=d↔c=nX w d:=by
 have H:∀j,(p:j<w.length)->w[j]∉w.take j:=λj p hm=>by
  obtain⟨k,hk,e⟩:=agD.1 hm;have:=(List.getElem_inj hn).1 e;omega
 have hi:((d+9)%10).toNat<w.length:=by omega
 have E:nX w d=w[((d+9)%10).toNat]:=by simp[nX,List.getD,aaf hi]
 rw[E];constructor
 ·intro e;by_cases hc:c∈w
  ·obtain⟨j,p,rfl⟩:=List.mem_iff_getElem.1 hc;rw[aoJ w _ j p (H j p) rfl] at e;have:((d+9)%10).toNat=j:=by omega
   simp only[this]
  ·rw[aoB w c hc] at e;omega
 ·rintro rfl;rw[aoJ w _ _ hi (H _ hi) rfl];omega
theorem asn{w:List UInt8}(hl:w.length=10)(d:Int):nX w d∈w:=by
 have hi:((d+9)%10).toNat<w.length:=by omega
 have p:nX w d=w[((d+9)%10).toNat]:=by simp[nX,List.getD,aaf hi]
 rw[p];exact abG hi
theorem aul{l m:List UInt8}(hm:m.Pairwise (· < ·))(h:∀x,x∈m↔x∈l):uB l=m:=
 nP asq (ua asq l) (hm.imp λh=>⟨UInt8.le_of_lt h,UInt8.ne_of_lt h⟩) λx=>(lW l x).trans (h x).symm
theorem arI{h:ay}(hc:aO h=0){d:Int}(h0:0<=d)(p:d<=9):b9 (aB h) d 26=aqH h d:=by
 refine(aul ?_ λx=>?_).symm
 ·refine List.Pairwise.filter _ (List.pairwise_map.2 ((List.pairwise_lt_range).imp_of_mem fun {a b} ha hb E=>?_));have h1:=aeh.1 ha;have h2:=aeh.1 hb;rw[UInt8.lt_iff_toNat_lt,UInt8.toNat_ofNat',UInt8.toNat_ofNat'];omega
 ·unfold b9;simp only[afJ,ac4,aeh,afl,ac6,aeQ,acE];constructor
  ·rintro⟨_,w,hw,hp⟩;have ho:=MX hc hw;exact⟨w,hw,(arz ho.len ho.nod h0 p x).1 hp⟩
  ·rintro⟨w,hw,e⟩;have ho:=MX hc hw;refine⟨?_,w,hw,(arz ho.len ho.nod h0 p x).2 e⟩;have hx:=ho.lets x (e▸asn ho.len d);simp only[isLet,aan] at hx;obtain⟨h1,h2⟩:=hx;refine⟨x.toNat-65,?_,?_⟩
   ·omega
   ·rw[show 65+(x.toNat-65)=x.toNat by omega];simp
section
variable{P:aC}[l:cL P]
theorem aru{tb:Tbl}(Y:jw P tb)(W:pN tb)(f:FuncId)(O:List AV)(ws:List (List UInt8))(p:List UInt8->Bool)(hw:∀w∈ws,w.length=10)(hp:∀s∈ws,tb.fn f ([.ag (ao s)]++O)=some (.b (p s)))(hl:ws.length<100000000):
  aq P 154 [.sq none 10 (amE ws),.fn f [] O] (.i .i64 (idx p ws)):=by
 have hlen:(amE ws).length=ws.length*10:=by rw[fy ws hw];omega
 refine o7 (tb:=tb) (mt:=λ_=>false) Y mixed (lf (P:=P) Tryz.func154) rfl (Nat.le_of_ble_eq_true rfl) ?_
 repeat' first|apply nI|(refine eI aib λK H=>?_;simp[hlen];apply H)
 refine amF (λd T B lv nx=>∃k,k+d=ws.length/\T 0=.sq none 10 (amE ws)/\T 1=.fn f [] O/\T 7=.i .i64 ws.length/\T 8=.i .i64 k/\(ws.take k).any p=false) ws.length ?_ ?_
 ·exact⟨0,by simp,by simp,by simp,by simp,by simp,by simp⟩
 ·rintro d T B lv nx ⟨k,hk,t0,t1,t7,t8,U⟩;have w1:=aS ((k:Int)+1);by_cases E:k<ws.length
  ·have I:=hp ws[k] (abG E);have V:(ws.take (k+1)).any p=p ws[k]:=by
    rw[aaN E,aeC,U];simp
   have L:=zr ws hw k E;have hle:(k+1)*10<=ws.length*10:=by omega
   have J:=ND p ws k E U;have M:(ao ws[k]++amE (ws.drop (k+1))).take 10=ao ws[k]:=by
    rw[aec (by simp[ao,hw _ (abG E)]),aa1 (by simp[ao,hw _ (abG E)])]
   have N:9<(ao ws[k]).length+(amE (ws.drop (k+1))).length:=by simp[ao,hw _ (abG E)];omega
   generalize ws[k]=v at I V L J M N;simp only[aaT,aaV] at I;cases hc:p v with
   |true=>
    rw[hc] at I
    repeat' first|apply nI|(refine eI aib λK H=>?_;simp[t0,t1,t7,t8,E,hlen,L,hle,M,N,I];apply H)
    simp[Dn,aH,Tryz.f154,J hc]
   |false=>
    rw[hc] at I
    repeat' first|apply nI|(refine eI aib λK H=>?_;simp[t0,t1,t7,t8,E,hlen,L,hle,M,N,I,w1];apply H)
    refine aN (d-1) ⟨k+1,by omega,by simp[t0],by simp[t1],by simp[t7],by simp,by rw[V,hc]⟩
  ·have Z:k=ws.length:=by omega
   subst Z;have hf:ws.any p=false:=by simpa using U
   repeat' first|apply nI|(refine eI aib λK H=>?_;simp[t7,t8];apply H)
   simp[Dn,aH,Tryz.f154,idx,hf]
theorem aq5{tb:Tbl}(I:jw P tb)(E:pN tb)(f:FuncId)(H:List AV)(ws:List (List UInt8))(p:List UInt8->Bool)(hw:∀w∈ws,w.length=10)(hp:∀s∈ws,tb.fn f ([.ag (ao s)]++H)=some (.b (p s)))(hl:ws.length<100000000):
  aq P 117 [.sq none 10 (amE ws),.fn f [] H] (.b (ws.any p)):=by
 obtain⟨F,hd,L⟩:=ca (aru I E f H ws p hw hp hl);refine fi (ak (aR Tryz.func154) hd (au P)) (lf Tryz.func117) ?_;have h0:decide (idx p ws>=0)=ws.any p:=by
  unfold idx;cases ws.any p <;>simp
 simp only[ge_iff_le] at h0
 repeat' first|apply nI|(refine eI [0,1,4] λK J=>?_;simp[ab,L,h0];apply J)
 simp[Dn,aH,Tryz.f117]
theorem arD(ws:List (List UInt8))(w v:List UInt8)(hw:w.length=10)(hv:v.length=10):aq P 118 [.ag (ao v),.sp [.sq none 10 (amE (w::ws))]] (.b (!(v==w))):=by
 have O:(ao v).length=10:=by simp[ao,hv]
 have E:(ao w).length=10:=by simp[ao,hw]
 have U:=bY v;have I:amE (w::ws)=ao w++amE ws:=rfl;have J:(ao w++amE ws).take 10=ao w:=by
  rw[aec (by omega),aa1 (by omega)]
 have hle:10<=(ao w++amE ws).length:=by rw[abj];omega
 have M:9<10+(amE ws).length:=by omega
 have p:(ao v).take 10=ao v:=aa1 (by omega);have N:0<(ao w++amE ws).length/10:=by omega
 have a1:=mZ v;have a2:=mZ w;have H:=bY w;rw[I];refine fi (au P) (lf Tryz.func118) ?_;generalize amE ws=r at *
 repeat' first|apply nI|(refine eI [0,1,2,3] λK L=>?_;simp[U,H,J,p,hle,N,M,a1,a2,hv,hw,O,E];apply L)
 simp[Dn,aH,Tryz.f118]
theorem arU(h:ay)(hm:j9 h):aq P 53 [.ag (o6 h)] (.tu [.b (bJ h []==0&&aqT (aB h)),.i .i64 (bJ h [])]):=by
 obtain⟨A,J,p⟩:=apw (P:=P) h hm;simp only[o6] at p;by_cases ho:bJ h []=0
 ·have hr:bZ h []=opened h:=by simp[bZ,ho]
  rw[hr] at p;simp only[opened,aj,o6,aaT,aaV] at p;have hc:=(ij ho).1;have E:=cI hc;have I:(aB h).length<100000000:=jc hc;have N:aB h≠ []:=(ij ho).2.2;generalize aB h=ws at *;obtain⟨w,rs,rfl⟩:∃w rs,ws=w::rs:=by cases ws with|nil=>exact absurd rfl N|cons w rs=>exact⟨w,rs,rfl⟩
  obtain⟨S,sd,M⟩:=cC (P:=P) (f:=118) (ι:= {v:List UInt8//v.length=10}) (λv=> [.ag (ao v.1),.sp [.sq none 10 (amE (w::rs))]]) (λv=>.b (!(v.1==w))) (λ_=>True) (λx y _ _ e=>by
   simp only[abg,AV.ag.injEq,abQ] at e;rw[Subtype.ext (sQ e)]) (λv _=>arD rs w v.1 (E w (by simp)) v.2)
  have hC:=aq5 (ak (aR Tryz.func118) sd (au P)) ⟨λ_ _=>rfl,λ_ _ _=>rfl⟩ 118 [.sp [.sq none 10 (amE (w::rs))]] (w::rs) (λv=> !(v==w)) E (λs hs=>by
   have:=M ⟨s,E s hs⟩ trivial;simp only[ab,aaT,aaV];exact this) I
  obtain⟨C,O,hC⟩:=ca hC;refine fi (ak (aR Tryz.func74) J (ak (aR Tryz.func117) O (au P))) (lf Tryz.func53) ?_
  repeat' first|apply nI|(refine eI aqN λK H=>?_;simp[o6,ab,az,p,hC];apply H)
  simp[Dn,dc,aH,Tryz.f53,aqT,ho]
 ·have hr:bZ h []=cG (bJ h []):=by simp[bZ,ho]
  rw[hr] at p;simp only[cG,dQ] at p;have L:(bJ h []==0)=false:=by simp[ho]
  refine fi (ak (aR Tryz.func74) J (au P)) (lf Tryz.func53) ?_
  repeat' first|apply nI|(refine eI aqN λK H=>?_;simp[o6,ab,az,p,L];apply H)
  simp[Dn,dc,aH,Tryz.f53,ho]
end
section
variable{P:aC}[l:cL P]
end
section
variable{P:aC}[l:cL P]
end
section
variable{P:aC}[l:cL P]
end
section
variable{P:aC}[l:cL P]
end
section
variable{P:aC}[l:cL P]
end
section
variable{P:aC}[l:cL P]
end
section
variable{P:aC}[l:cL P]
end
@[simp] abbrev aqI:List Nat:=[0,1,2,3,6,7,8,9,10,11,12,13,14,15,16,23,49,69,90]
section
variable{P:aC}[l:cL P]
theorem asf(e17:Enters P 17)(Xl:aq P 17 [] (.b true))(h:ay)(d:Int)(s:List UInt8):aq P 10 [eG h,.i .i64 d,.s s] (.b true):=by
 obtain⟨A,ad,M⟩:=ca (KY (P:=P) h);obtain⟨T,td,hT⟩:=ca Xl;simp only[o6] at M;cases hg:gC h with
 |true=>
  rw[hg] at M;refine fi (ak (aR Tryz.func16) ad (ak e17 td (au P))) (lf Tryz.func10) ?_
  repeat' first|apply nI|(refine eI aqI λK N=>?_;simp[eG,o6,ab,az,M,hT];apply N)
  simp[Dn,aH,Tryz.f10]
 |false=>
 rw[hg] at M;by_cases hs:(40:Int)<s.length
 ·refine fi (ak (aR Tryz.func16) ad (ak e17 td (au P))) (lf Tryz.func10) ?_
  repeat' first|apply nI|(refine eI aqI λK N=>?_;simp[eG,o6,ab,az,M,hT,hs];apply N)
  simp[Dn,aH,Tryz.f10]
 have hf:=Jp hg;have hm:=K4 hf;have q1:(bK h [eN s] (CD h s) []).length<100000000000000:=by
  unfold bK;split
  ·simp
  ·rename_i ho;have hc:=(ij (h:=h) (bs:= [eN s]) (by omega)).1;unfold CD;split
   ·simp
   ·rename_i c _;have h1:=anS (λw=>digitsOf w c) 1 (aB h) λw _=>by unfold digitsOf;split <;>simp
    have h3:=sP hc;exact Nat.lt_of_le_of_lt (aaY (kX _) h1) (by omega)
 have e0:bJ h [0]=bJ h []:=by simp[bJ,bN]
 have e1:((bK h [0] (aB h) []).length:Int)=bK h [] ((aB h).length:Int) 0:=by
  unfold bK;rw[e0];split <;>simp
 have e2:bK h [mT d] (b9 (aB h) d 26) []=bK h [mT d] (aqH h d) []:=by
  unfold bK;split
  ·rfl
  ·rename_i ho;obtain⟨hc,hb,_⟩:=ij (h:=h) (bs:= [mT d]) (by omega);have hd:0<=d/\d<=9:=by
    refine aaO λhn=>?_
    have:mT d=1:=by unfold mT;rw[aat hn]
    rw[this] at hb;simp[bN] at hb
   exact arI hc hd.1 hd.2
 have e3:(bJ h []==0&&aqT (aB h))=(bK h [] ((aB h).length:Int) 0==1):=by
  unfold bK;by_cases ho:bJ h []=0
  ·obtain⟨hc,_,cr⟩:=ij ho;rw[asT (arQ hc) cr,aat (by simp[ho]),ho];simp
  ·rw[aay ho];simp[ho]
 obtain⟨E,ed,hE⟩:=ca (GK (P:=P) (bK h [eN s] (CD h s) []) _ q1 q1);obtain⟨C1,cd1,Z⟩:=ca (Gg (P:=P) h hm);obtain⟨D1,dd1,I⟩:=ca (asi (P:=P) h hf);obtain⟨C2,cd2,Y⟩:=ca (tH (P:=P) h hm.L hm.S hm.R hm.n hm.a hm.m hm.t);obtain⟨D2,dd2,U⟩:=ca (BI (P:=P) h hf);obtain⟨C3,cd3,W⟩:=ca (ar2 (P:=P) h hm d);obtain⟨D3,dd3,H⟩:=ca (arF (P:=P) h hf d);obtain⟨C4,cd4,V⟩:=ca (HX (P:=P) h hm s (by omega));obtain⟨D4,dd4,O⟩:=ca (arV (P:=P) h hf s (by omega));obtain⟨C5,cd5,J⟩:=ca (arU (P:=P) h hm);obtain⟨D5,dd5,p⟩:=ca (arE (P:=P) h hf);rw[beq_self_eq_true] at hE;rw[e0,e1] at I p;rw[e2] at H;rw[e3] at J;generalize bK h [] ((aB h).length:Int) 0=n1 at *;generalize bK h [mT d] (aqH h d) []=l2 at *;generalize bK h [eN s] (CD h s) []=l3 at *;generalize bJ h []=b1 at *;generalize bJ h [mT d]=b2 at *;generalize bJ h [eN s]=b3 at *;simp only[o6,ints] at hE Z Y W V J I U H O p;refine fi (ak (aR Tryz.func16) ad (ak e17 td (ak (aR Tryz.func36) cd1 (ak (aR Tryz.func47) dd1 (ak (aR Tryz.func48) cd2 (ak (aR Tryz.func49) dd2 (ak (aR Tryz.func46) cd3 (ak (aR Tryz.func50) dd3 (ak (aR Tryz.func51) cd4 (ak (aR Tryz.func52) dd4 (ak (aR Tryz.func53) cd5 (ak (aR Tryz.func54) dd5 (ak (aR Tryz.func20) ed (au P)))))))))))))) (lf Tryz.func10) ?_
 repeat' first|apply nI|(refine eI aqI λK N=>?_;simp[eG,o6,ab,az,M,hT,hs,Z,I,Y,U,W,H,V,O,J,p,hE,bne];apply N)
 simp[Dn,aH,Tryz.f10]
end
end Go.Proofs.YtjagmhagphbfcaaGreatDoor
