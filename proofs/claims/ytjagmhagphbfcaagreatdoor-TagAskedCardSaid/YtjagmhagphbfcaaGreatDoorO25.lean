/- Lemmas, part 25. -/
import Derived.Lib.Bytealg
import Derived.Test.YtjagmhagphbfcaaGreatDoorO24
set_option maxRecDepth 100000
set_option linter.all false
namespace Go.Proofs.YtjagmhagphbfcaaGreatDoor
@[simp] abbrev aiU:List Nat:=[0,1,4,5,6,9,15,24]
@[simp] abbrev ain:List Nat:=[0,1,4,5,7,8,9,14,15,17,19,22]
@[simp] abbrev aif:List Nat:=[0,1,2,4,5,6,11,14,15,16,17,24,30]
open Go Go.Proofs
section
variable{P:Program}[l:cL P]
theorem Sl:Extern.findNext Tryz.f166=none:=by kernel_rfl
theorem Xq:Extern.find Tryz.f166=some Extern.BytealgCount.count:=by kernel_rfl
theorem J4(s:List UInt8)(c:UInt8)(w:World):(callFunc 166 #[sv s,.int .u8 c.toNat]).run P w=.ok (.value (.int .i64 (s.count c))) w:=by
 have h1:program.run P w=.ok P w:=rfl;have hb:Tryz.f166.body.isNone=true:=rfl;have hn:(Tryz.f166.name== "runtime.NumGoroutine")=false:=by decide
 have hm:(mark (.extern 166)).run P w=.ok () w:=rfl;have hc:=Lib.run_countString (P:=P) ⟨s.toArray⟩ (c.toNat:Int) w;have p:(Extern.BytealgCount.count #[sv s,.int .u8 c.toNat]).run P w=.ok (.int .i64 (s.count c)) w:=by
  simp_all [Lib.countByte]
 unfold callFunc
 simp_all [(lf Tryz.func166),Sl,Xq]
theorem Lc(s:List UInt8)(c:UInt8):aq P 136 [.s s,.s [c]] (.i .i64 (s.count c)):=by
 refine gG (lf (P:=P) Tryz.func136) rfl (Nat.le_of_ble_eq_true rfl) (λg0 w0=>?_);have p:jb P a_ g0:=.of (au P) ⟨λ_ _=>rfl,λ_ _ _=>rfl⟩;refine bO ?_;refine bD ?_ (aY (tb:=a_) (mt:=λ_=>false) (Q:=λe s1=>e=.normal/\s1.T 0=.s s/\s1.T 1=.s [c]/\s1.n=34) p mixed ?_)
 rotate_left
 ·
  repeat apply nI
  refine eI aiU ?_;simp_all
 rintro e ⟨T,B,lv,nx,n⟩ ⟨rfl,t0,t1,rfl⟩;simp only at t0 t1;refine bO (bD ?_ (aY (tb:=a_) (mt:=λ_=>false) (Q:=λe s1=>e=.normal/\s1.T 0=.s s/\s1.T 1=.s [c]/\s1.n=34) p mixed ?_))
 rotate_left
 ·
  repeat' first|apply nI|(refine eI aiU λK E=>?_;simp[t1];apply E)
  simp_all
 rintro e ⟨T,B,lv,nx,n⟩ ⟨rfl,t0,t1,rfl⟩;simp only at t0 t1;refine bO (bO (bD ?_ (aY (tb:=a_) (mt:=λ_=>false) (Q:=λe s1=>e=.normal/\s1.T 0=.s s/\s1.T 1=.s [c]/\s1.T 15=.b true/\s1.n=34) p mixed ?_)))
 rotate_left
 ·
  repeat apply nI
  refine eI aiU ?_;simp_all
 rintro e ⟨T,B,lv,nx,n⟩ ⟨rfl,t0,t1,t15,rfl⟩;simp only at t0 t1 t15;refine wo (by simp_all) (bO ?_);refine je (tb:=a_) (mt:=λ_=>false) (o:=?o) 3 p ?hk ?hg ?hh
 case hk=>exact rfl
 case hg=>exact rfl
 intro K E;simp[t0,t1];refine E _ ⟨_,xC (z:=.i .i64 (s.count c)) rfl rfl ?hd ?hrun,?post⟩
 case hd=>simp_all
 case hrun=>
  intro g w m a H;have e16:=H.ev (.tmp 16);have e18:=H.ev (.tmp 18);rw[bg,show jz _ (.tmp 16)=AV.s s from by simp] at e16;rw[bg,show jz _ (.tmp 18)=AV.i .u8 c.toNat from by simp] at e18;have q16:a.eval (.tmp 16)=sv s:=e16.s;have q18:a.eval (.tmp 18)=.int .u8 c.toNat:=e18.i;show ∃y,(execOp a.eval ({ dst:=some 19,op:=Op.call { callee:=Callee.value (Operand.func 166),args:= #[Operand.tmp 16,Operand.tmp 18],argTypes:= #[9,5] },type:=3,pos:= "strings.go:48",after:=_,guard:=none } :Oper)).run P w=_/\_;refine⟨.int .i64 (s.count c),?_,.i _ _⟩;have I:a.eval (.func 166)=.func (.func 166) #[] #[]:=rfl;simp only[execOp,resolve,adt,List.map_cons,List.map_nil,q16,q18,I,Deferred.ofValue,aaw,aaS,aas,invoke];exact J4 s c w
 case post=>
  rintro s2 rfl;refine⟨rfl,?_⟩;simp[upd];refine aY (tb:=a_) (mt:=λ_=>false) p mixed (L0 ?_)
  simp_all [Dn,aH]
def pk(p:Bool)(s:List UInt8):Bool:=bA s (if p then 63 else 65)
theorem xj(c:UInt8)(h:isLet c=true):c.toNat<128:=by grind [isLet]
theorem SY(s:List UInt8)(p:Bool)(hs:s.length<1000000):aq P 135 [.s s,.b p] (.b (pk p s)):=by
 refine qF (lf (P:=P) Tryz.func135) rfl (Nat.le_of_ble_eq_true rfl) (λg0 w0 a w' Y hex M=>?_);refine Bz (g1:=g0) rfl rfl ?_ a w' M;clear M;have J:jb P (bW 164 pM a_) g0:=.of (ak (aR Tryz.func164) Nw (au P)) ⟨λ_ _=>rfl,λ_ _ _=>rfl⟩;refine bO ?_;refine bD ?_ (aY (tb:=bW 164 pM a_) (mt:=λ_=>false) (Q:=λe s1=>e=.normal/\s1.T 0=.s s/\s1.T 1=.b p/\s1.n=23) J mixed ?_)
 rotate_left
 ·
  repeat apply nI
  refine eI ain ?_;simp_all
 rintro e ⟨T,B,lv,nx,n⟩ ⟨rfl,t0,t1,rfl⟩;simp only at t0 t1;refine bO (bD ?_ (Dx (tb:=bW 164 pM a_) (mt:=λ_=>false) J mixed hex (l:=s) (t:=9) u9 (x:=.tmp 0) (xa:=6) (it:=7) (nt:=8) (et:=9) rfl rfl rfl (by simp_all) rfl rfl rfl rfl rfl rfl rfl rfl rfl (by simp_all) (by simp_all) (by simp_all) (by simp_all)
  (λb pos s1=>s1.n=23/\s1.T 7=.v (.pointer (some ⟨b,0,none⟩))/\s1.T 0=.s s/\s1.T 1=.b p/\pk p (s.take pos)=true) (λb pos s1 h=>⟨h.1,h.2.1⟩) (λb=>⟨rfl,by simp,by simp[t0],by simp[t1],by rfl⟩)
  (Qn:=λs1=>s1.n=23/\pk p s=true) (Qr:=λs1=>s1.T 4=.b false/\pk p s=false) ?step ?last))
 case step=>
  rintro b pos I ⟨T,B,lv,nx,n⟩ r ⟨rfl,t7,t0,t1,hp⟩ hr;simp only at t7 t0 t1;have hk:0<=(s[pos].toNat:Int)/\(s[pos].toNat:Int)<256:=by have:=s[pos].toNat_lt;omega
  have Z:(UInt8.ofNat (s[pos].toNat:Int).toNat)=s[pos]:=by simp
  have ht:=uC s (if p then 63 else 65) pos I;have N:=Ae s (if p then 63 else 65) pos I;unfold pk at hp;cases L:isLet s[pos] with
  |true=>
   have H:ni s[pos]=0:=by grind [ni]
   have O:=xj _ L
   repeat' first|apply nI|(refine eI ain λK E=>?_;simp[t0,t1,I,ab,pM,hk.1,hk.2,H];apply E)
   simp_all [pk]
  |false=>
   by_cases U:s[pos]=63
   ·have H:ni s[pos]=1:=by unfold ni;simp_all
    have O:s[pos].toNat<128:=by simp_all
    cases p with
    |true=>
     repeat' first|apply nI|(refine eI ain λK E=>?_;simp[t0,t1,I,ab,pM,hk.1,hk.2,H];apply E)
     simp_all [pk]
    |false=>
     have hf:=N (by simp_all)
     repeat' first|apply nI|(refine eI ain λK E=>?_;simp[t0,t1,I,ab,pM,hk.1,hk.2,H];apply E)
     exact .inr ⟨rfl,by simp,hf⟩
   ·have H:ni s[pos]=2:=by unfold ni;simp_all
    have hf:bA s (if p then 63 else 65)=false:=N (by
     rw[L];cases p with
     |true=>grind
     |false=>
      simp only[ahe,abX,ab3,ady];intro e;simp_all [isLet])
    repeat' first|apply nI|(refine eI ain λK E=>?_;simp[t0,t1,I,ab,pM,hk.1,hk.2,H];apply E)
    all_goals exact .inr ⟨rfl,by simp,hf⟩
 case last=>
  rintro b ⟨T,B,lv,nx,n⟩ ⟨rfl,t7,t0,t1,hp⟩;simp only at t7 t0 t1
  repeat' first|apply nI|(refine eI ain λK E=>?_;simp;apply E)
  simp_all
 rintro e ⟨T,B,lv,nx,n⟩ (⟨rfl,rfl,hq⟩|⟨rfl,W,hq⟩)
 ·refine aY (tb:=bW 164 pM a_) (mt:=λ_=>false) J mixed ?_
  repeat' first|apply nI|(refine eI ain λK E=>?_;simp;apply E)
  simp_all [Dn,aH]
 simp_all [Dn,aH]
theorem vR:∃F:List AV->Option AV,Den P 135 F/\∀(s:List UInt8) (p:Bool),s.length<1000000->F [.s s,.b p]=some (.b (pk p s)):=by
 obtain⟨F,h1,h2⟩:=cC (P:=P) (f:=135) (ι:=List UInt8×Bool) (λx=> [.s x.1,.b x.2]) (λx=>.b (pk x.2 x.1)) (λx=>x.1.length<1000000) (λx y _ _ e=>by
  simp_all) (λx hx=>SY x.1 x.2 hx)
 exact⟨F,h1,λs p hs=>h2 (s,p) hs⟩
theorem AK:∃F:List AV->Option AV,Den P 136 F/\∀(s:List UInt8) (c:UInt8),F [.s s,.s [c]]=some (.i .i64 (s.count c)):=by
 obtain⟨F,h1,h2⟩:=cC (P:=P) (f:=136) (ι:=List UInt8×UInt8) (λx=> [.s x.1,.s [x.2]]) (λx=>.i .i64 (x.1.count x.2)) (λ_=>True) (λx y _ _ e=>by
  simp_all) (λx _=>Lc x.1 x.2)
 exact⟨F,h1,λs c=>h2 (s,c) trivial⟩
theorem zK(s:List UInt8)(hs:s.length<1000000):aq P 81 [.s s] (.i .i64 (aM s)):=by
 obtain⟨A,L,p⟩:=vR (P:=P);obtain⟨C,J,hC⟩:=AK (P:=P);have p:=p s true hs;have hC:=hC s 63;refine fi (ak (aR Tryz.func130) kB (ak (aR Tryz.func135) L (ak (aR Tryz.func136) J (au P)))) (lf Tryz.func81) ?_;have I:pk true s=bA s 63:=rfl;rw[I] at p;by_cases h1:(1:Int)<=s.length/\(s.length:Int)<=5
 ·have hb:¬(s.length<1\/5<s.length):=by omega
  cases h2:bA s 63 with
  |false=>
   rw[h2] at p
   repeat' first|apply nI|(refine eI [0,2,3,8,12] λK E=>?_;simp[ab,az,dF,h1.1,h1.2,p];apply E)
   simp_all [aM,Dn,aH]
  |true=>
   rw[h2] at p;by_cases H:(2:Int)<s.count 63
   ·have M:2<s.count 63:=by omega
    repeat' first|apply nI|(refine eI [0,2,3,8,12] λK E=>?_;simp[ab,az,dF,h1.1,h1.2,p,hC,H];apply E)
    simp_all [aM,Dn,aH]
   ·have M:¬2<s.count 63:=by omega
    repeat' first|apply nI|(refine eI [0,2,3,8,12] λK E=>?_;simp[ab,az,dF,h1.1,h1.2,p,hC,H];apply E)
    have hv:aM s=0:=by unfold aM;grind
    simp_all [Dn,aH]
 ·have hb:(s.length<1\/5<s.length):=by omega
  have N:(decide ((1:Int)<=s.length)&&decide ((s.length:Int)<=5))=false:=by grind
  repeat' first|apply nI|(refine eI [0,2,3,8,12] λK E=>?_;simp[ab,dF,N];apply E)
  simp_all [aM,Dn,aH]
theorem Ka:∃F:List AV->Option AV,Den P 81 F/\∀(s:List UInt8),s.length<1000000->F [.s s]=some (.i .i64 (aM s)):=by
 obtain⟨F,h1,h2⟩:=cC (P:=P) (f:=81) (ι:=List UInt8) (λx=> [.s x]) (λx=>.i .i64 (aM x)) (λx=>x.length<1000000) (λx y _ _ e=>by
  simp_all) (λx hx=>zK x hx)
 grind
def eN(s:List UInt8):Int:=if s.length≠1\/bA s 65=false then 3 else 0
theorem Em(s:List UInt8)(hs:s.length<1000000):aq P 113 [.s s] (.i .i64 (eN s)):=by
 obtain⟨A,J,p⟩:=vR (P:=P);have p:=p s false hs;refine fi (ak (aR Tryz.func135) J (au P)) (lf Tryz.func113) ?_;have I:pk false s=bA s 65:=rfl;rw[I] at p;have hi:((s.length:Int)==1)=(s.length==1):=by
  grind
 by_cases h1:s.length=1
 ·have H:(s.length==1)=true:=by grind
  cases h2:bA s 65 with
  |false=>
   rw[h2] at p
   repeat' first|apply nI|(refine eI [0,2,10] λK E=>?_;simp[ab,bne,hi,H,p];apply E)
   simp_all [Dn,aH,eN]
  |true=>
   rw[h2] at p
   repeat' first|apply nI|(refine eI [0,2,10] λK E=>?_;simp[ab,bne,hi,H,p];apply E)
   simp_all [Dn,aH,eN]
 ·have H:(s.length==1)=false:=by grind
  repeat' first|apply nI|(refine eI [0,2,10] λK E=>?_;simp[bne,hi,H];apply E)
  simp_all [Dn,aH,eN]
theorem Mj(h:ay)(d:AV)(hd:d.strip=d)(hn:h.tags.length<1000000)(ht:∀t∈h.tags,t.reads.length<1000000):aq P 257 [.ag (o6 h++ [d])] (.i .i64 (if 5<h.tags.length then 2 else cR h.tags)):=by
 obtain⟨R,rd,Y⟩:=Ka (P:=P);have I:=cV h.tags;refine fi (ak (aR Tryz.func81) rd (ak (aR Tryz.func120) Ke (au P))) (lf Tryz.func257) ?_
 repeat apply nI
 refine eI aif ?_;intro K p;simp[o6,hd]
 repeat' (first|apply p|(refine aE (λhc=>?_) (λhc=>?_) <;>(try simp only[aan,aac] at hc) <;>simp[hc,o6,hd])|fail)
 by_cases U:5<h.tags.length
 ·have N:(5:Int)<h.tags.length:=by omega
  repeat' first|apply nI|(refine eI aif λK p=>?_;simp[I,N];apply p)
  simp_all [Dn,aH]
 ·have N:¬(5:Int)<h.tags.length:=by omega
  repeat' first|apply nI|(refine eI aif λK p=>?_;simp[I,N];apply p)
  refine amF (λd T B lv nx=>∃k,k+d=h.tags.length/\T 14=.sq none 3 (bI h.tags)/\T 15=.i .i64 h.tags.length/\T 16=.i .i64 k/\cR h.tags=cR (h.tags.drop k)) h.tags.length ?_ ?_
  ·simp_all
  ·rintro d T B lv nx ⟨k,hk,t14,t15,t16,hp⟩;have w1:=aS ((k:Int)+1);by_cases J:k<h.tags.length
   ·have L:=fA h.tags k h.tags[k] (by grind);have hle:(k+1)*3<=h.tags.length*3:=by omega
    have H:=Y h.tags[k].reads (ht _ (abG J));have W:h.tags.drop k=h.tags[k]::h.tags.drop (k+1):=aa4 J;rw[W] at hp;by_cases hr:aM h.tags[k].reads=0
    ·have O:(aM h.tags[k].reads==0)=true:=by grind
     cases M:dR h.tags[k].low h.tags[k].high with
     |true=>
      have E:lK h.tags[k].low h.tags[k].high=0:=by grind [lK]
      repeat' first|apply nI|(refine eI aif λK p=>?_;simp[t14,t15,t16,J,L,hle,I,ab,az,H,hr,CE,E,w1,bne];apply p)
      refine aN (d-1) ⟨k+1,by omega,by simp,by simp,by simp,by grind [cR]⟩
     |false=>
      have E:lK h.tags[k].low h.tags[k].high=1:=by grind [lK]
      repeat' first|apply nI|(refine eI aif λK p=>?_;simp[t14,t15,t16,J,L,hle,I,ab,az,H,hr,CE,E,bne];apply p)
      simp[Dn,aH,Tryz.f257,U,hp,cR,hr,M]
    ·have O:(aM h.tags[k].reads==0)=false:=by grind
     repeat' first|apply nI|(refine eI aif λK p=>?_;simp[t14,t15,t16,J,L,hle,I,ab,H,O,bne];apply p)
     simp[Dn,aH,Tryz.f257,U,hp,cR,hr]
   ·have Z:k=h.tags.length:=by omega
    subst Z
    repeat' first|apply nI|(refine eI aif λK p=>?_;simp[t15,t16];apply p)
    simp_all [Dn,aH,cR]
end
@[simp] abbrev ah2:List Nat:=[0,1,2,3,4,9,12,13,14,15,26,53]
@[simp] abbrev ahY:List Nat:=[0,1,2,3,5,6,32,59,60,61,71]
theorem map_inj{α β:Type}{f:α->β}(hf:∀a b,f a=f b->a=b):∀(l m:List α),l.map f=m.map f->l=m
 | [],[],_=>rfl
 | [],_::_,h=>by simp at h
 |_::_,[],h=>by simp at h
 |a::l,b::m,h=>by
  simp only[List.map_cons,abg] at h;rw[hf a b h.1,map_inj hf l m h.2]
theorem XP{α:Type}(l:List α)(p q r:α->Bool)(h:∀a∈l,p a=(q a||r a)):l.any p=(l.any q||l.any r):=by
 grind
theorem yL(a:List UInt8)(y z:UInt8)(h:a.length=2):cP a [y,z]=([y,z]==a|| [z,y]==a):=by
 obtain⟨p,q,rfl⟩:∃p q,a= [p,q]:=by
  match a,h with
  | [p,q],_=>simp_all
 rw[adX]
 grind [cP]
section
variable{P:Program}[l:cL P]
theorem Hh(l:List (List UInt8))(v:List UInt8)(hl:l.length<1000000):
  aq P 259 [strs l,.s v] (.i .i64 (idx (v== ·) l)):=by
 refine fi (au P) (lf Tryz.func259) ?_
 repeat apply nI
 refine eI aib ?_;intro K p;simp
 repeat' (first|apply p|(refine aE (λhc=>?_) (λhc=>?_) <;>(try simp only[aan,aac] at hc) <;>simp[hc])|fail)
 repeat apply nI
 refine eI aib ?_;intro K p;simp[strs]
 repeat' (first|apply p|(refine aE (λhc=>?_) (λhc=>?_) <;>(try simp only[aan,aac] at hc) <;>simp[hc,strs])|fail)
 repeat apply nI
 refine amF (λd T B lv nx=>∃k,k+d=l.length/\T 0=strs l/\T 1=.s v/\T 7=.i .i64 l.length/\T 8=.i .i64 k/\(l.take k).any (v== ·)=false) l.length ?_ ?_
 ·exact⟨0,by simp,by rfl,by simp,by simp,by simp,by simp⟩
 ·rintro d T B lv nx ⟨k,hk,t0,t1,t7,t8,I⟩;have w1:=aS ((k:Int)+1);by_cases E:k<l.length
  ·have J:(l.take (k+1)).any (v== ·)=(v==l[k]):=by
    grind [List.take_succ_eq_append_getElem]
   cases hc:v==l[k] with
   |true=>
    repeat' first|apply nI|(refine eI aib λK p=>?_;simp[t0,t1,t7,t8,strs,E,hc];apply p)
    simp[Dn,aH,Tryz.f259,ND (v== ·) l k E I hc]
   |false=>
    repeat' first|apply nI|(refine eI aib λK p=>?_;simp[t0,t1,t7,t8,strs,E,hc,w1];apply p)
    refine aN (d-1) ⟨k+1,by omega,by rfl,by simp,by simp,by simp,by simp_all⟩
  ·have H:k=l.length:=by omega
   subst H;have hf:l.any (v== ·)=false:=by grind
   repeat' first|apply nI|(refine eI aib λK p=>?_;simp[t7,t8];apply p)
   simp[Dn,aH,Tryz.f259,idx,hf]
theorem zg(l:List (List UInt8))(v:List UInt8)(hl:l.length<1000000):
  aq P 258 [strs l,.s v] (.b (l.any (v== ·))):=by
 have hi:=Hh (P:=P) l v hl;obtain⟨F,hd,p⟩:=cC (P:=P) (f:=259) (ι:=Unit) (λ_=> [strs l,.s v]) (λ_=>.i .i64 (idx (v== ·) l)) (λ_=>True) (λ_ _ _ _ _=>rfl) (λ_ _=>hi);have p:=p () trivial;simp only[strs] at p;refine fi (ak (aR Tryz.func259) hd (au P)) (lf Tryz.func258) ?_;have h0:decide (idx (v== ·) l>=0)=l.any (v== ·):=by
  unfold idx
  grind
 simp only[ge_iff_le] at h0
 repeat' first|apply nI|(refine eI [0,1,4] λK E=>?_;simp[strs,ab,p,h0];apply E)
 simp[Dn,aH,Tryz.f258]
theorem CF:∃F:List AV->Option AV,Den P 258 F/\∀(l:List (List UInt8)) (v:List UInt8),l.length<1000000->F [.sq none 1 (l.map .s),.s v]=some (.b (l.any (v== ·))):=by
 obtain⟨F,h1,h2⟩:=cC (P:=P) (f:=258) (ι:=List (List UInt8)×List UInt8) (λx=> [strs x.1,.s x.2]) (λx=>.b (x.1.any (x.2== ·))) (λx=>x.1.length<1000000) (λx y _ _ e=>by
  simp only[strs,abg,AV.sq.injEq,AV.s.injEq,adM,abQ] at e
  grind [map_inj]) (λx hx=>zg x.1 x.2 hx)
 exact⟨F,h1,λl v hl=>h2 (l,v) hl⟩
theorem Ki(h:ay)(d:AV)(hd:d.strip=d)(hn:h.alike.length<1000000)(ht:∀s∈h.alike,s.length<1000000):aq P 256 [.ag (o6 h++ [d])] (.i .i64 (bj h.alike)):=by
 obtain⟨A,ad,Z⟩:=vR (P:=P);obtain⟨C,cd,hC⟩:=CF (P:=P);refine fi (ak (aR Tryz.func135) ad (ak (aR Tryz.func258) cd (au P))) (lf Tryz.func256) ?_
 repeat apply nI
 refine eI ah2 ?_;intro K p;simp[o6,hd]
 repeat' (first|apply p|(refine aE (λhc=>?_) (λhc=>?_) <;>(try simp only[aan,aac] at hc) <;>simp[hc,o6,hd])|fail)
 by_cases h5:4<h.alike.length
 ·have N:(4:Int)<h.alike.length:=by omega
  repeat' first|apply nI|(refine eI ah2 λK p=>?_;simp[N];apply p)
  simp_all [Dn,aH,bj]
 ·have N:¬(4:Int)<h.alike.length:=by omega
  repeat' first|apply nI|(refine eI ah2 λK p=>?_;simp[N];apply p)
  refine amF (λd' T B lv nx=>∃k,k+d'=h.alike.length/\T 1=.sp (o6 h++ [d])/\T 12=.sq none 1 (h.alike.map .s)/\T 13=.i .i64 h.alike.length/\T 14=.i .i64 k/\bj h.alike=cb (h.alike.take k) (h.alike.drop k)/\∀s∈h.alike.take k,s.length=2) h.alike.length ?_ ?_
  ·exact⟨0,by simp,by rfl,by simp,by simp,by simp,by grind [bj],by simp⟩
  ·rintro d' T B lv nx ⟨k,hk,t1,t12,t13,t14,hp,h2⟩;have w1:=aS ((k:Int)+1);by_cases E:k<h.alike.length
   ·have Y:h.alike.drop k=h.alike[k]::h.alike.drop (k+1):=aa4 E;have jF:h.alike.take (k+1)=h.alike.take k++ [h.alike[k]]:=aaN E;rw[Y] at hp;have H:=Z h.alike[k] false (ht _ (abG E));have e1:pk false h.alike[k]=bA h.alike[k] 65:=rfl;rw[e1] at H;have hle:(k:Int)<=h.alike.length:=by omega
    by_cases hl2:h.alike[k].length=2
    ·obtain⟨y,z,hs⟩:∃y z,h.alike[k]= [y,z]:=by
      match h.alike[k],hl2 with
      | [y,z],_=>grind
     have I:=hC (h.alike.take k) [y,z] (by grind);have J:=hC (h.alike.take k) [z,y] (by grind);rw[List.map_take] at I J;rw[hs] at H hp;have L:=dV y z;have pj:(h.alike.take k).any (cP · [y,z])=((h.alike.take k).any ([y,z]== ·)||(h.alike.take k).any ([z,y]== ·)):=XP _ _ _ _ λa ha=>yL a y z (h2 a ha)
     have hlen:([y,z]:List UInt8).length=2:=rfl;have Cp:∀s∈h.alike.take (k+1),s.length=2:=by
      grind
     cases U:bA [y,z] 65 with
     |false=>
      rw[U] at H;have hv:bj h.alike=3:=by simp_all [cb,eR]
      repeat' first|apply nI|(refine eI ah2 λK p=>?_;simp[t1,t12,t13,t14,o6,E,hs,ab,H,bne];apply p)
      simp[Dn,aH,Tryz.f256,hv]
     |true=>
      rw[U] at H;cases M:(y==z) with
      |true=>
       have W:y=z:=by grind
       have hv:bj h.alike=5:=by simp_all [cb,eR]
       repeat' first|apply nI|(refine eI ah2 λK p=>?_;simp[t1,t12,t13,t14,o6,E,hs,ab,H,L,M,bne];apply p)
       simp[Dn,aH,Tryz.f256,hv]
      |false=>
       have W:¬y=z:=by grind
       cases ha1:(h.alike.take k).any ([y,z]== ·) with
       |true=>
        rw[ha1] at I;have hv:bj h.alike=5:=by simp_all [cb,eR]
        repeat' first|apply nI|(refine eI ah2 λK p=>?_;simp[t1,t12,t13,t14,o6,E,hle,hs,ab,az,H,I,L,M,bne];apply p)
        simp[Dn,aH,Tryz.f256,hv]
       |false=>
        rw[ha1] at I;cases O:(h.alike.take k).any ([z,y]== ·) with
        |true=>
         rw[O] at J;have hv:bj h.alike=5:=by simp_all [cb,eR]
         repeat' first|apply nI|(refine eI ah2 λK p=>?_;simp[t1,t12,t13,t14,o6,E,hle,hs,ab,az,H,I,J,L,M,bne];apply p)
         simp[Dn,aH,Tryz.f256,hv]
        |false=>
         rw[O] at J;have hv:bj h.alike=cb (h.alike.take (k+1)) (h.alike.drop (k+1)):=by
          simp_all [cb,eR]
         repeat' first|apply nI|(refine eI ah2 λK p=>?_;simp[t1,t12,t13,t14,o6,E,hle,hs,ab,az,H,I,J,L,M,w1,bne];apply p)
         refine aN (d'-1) ⟨k+1,by omega,by rfl,by simp,by simp,by simp,hv,Cp⟩
    ·have Wz:((h.alike[k].length:Int)==2)=false:=by grind
     have hv:bj h.alike=3:=by grind [cb,eR]
     repeat' first|apply nI|(refine eI ah2 λK p=>?_;simp[t1,t12,t13,t14,E,Wz,bne];apply p)
     simp[Dn,aH,Tryz.f256,hv]
   ·have gg:k=h.alike.length:=by omega
    subst gg
    repeat' first|apply nI|(refine eI ah2 λK p=>?_;simp[t13,t14];apply p)
    simp_all [cb,Dn,aH]
theorem Df(h:ay)(d:AV)(hd:d.strip=d)(hL:h.L.length<1000000)(hS:h.S.length<1000000)(hR:h.R.length<1000000):aq P 255 [.ag (o6 h++ [d])] (.i .i64 (bB h)):=by
 obtain⟨A,ad,U⟩:=vR (P:=P);obtain⟨C,cd,hC⟩:=AK (P:=P);refine qF (lf (P:=P) Tryz.func255) rfl (Nat.le_of_ble_eq_true rfl) (λg0 w0 a w' eF hex bH=>?_);refine Bz (g1:=g0) rfl rfl ?_ a w' bH;clear bH;have I:jb P (bW 135 A (bW 136 C a_)) g0:=.of (ak (aR Tryz.func135) ad (ak (aR Tryz.func136) cd (au P))) ⟨λ_ _=>rfl,λ_ _ _=>rfl⟩;have a1:=U h.L true hL;have a2:=U h.S false hS;have a3:=U h.R false hR;rw[show pk true h.L=bA h.L 63 from rfl] at a1;rw[show pk false h.S=bA h.S 65 from rfl] at a2;rw[show pk false h.R=bA h.R 65 from rfl] at a3;have c1:=hC h.L 63;refine bO ?_;refine bD ?_ (aY (tb:=bW 135 A (bW 136 C a_)) (mt:=λ_=>false) (Q:=λe s1=>e=.normal/\s1.T 1=.sp (o6 h++ [d])/\s1.T 2=.i .i64 0/\s1.n=72) I mixed ?_)
 rotate_left
 ·
  repeat apply nI
  refine eI ahY ?_;simp_all [o6]
 rintro e ⟨T,B,lv,nx,n⟩ ⟨rfl,t1,t2,rfl⟩;simp only at t1 t2;have i10:((h.L.length:Int)==10)=(h.L.length==10):=by
  grind
 have O:((h.S.length:Int)==(h.L.count 63:Int))=(h.S.length==h.L.count 63):=by
  grind
 refine bO ?_;refine bD ?_ (aY (tb:=bW 135 A (bW 136 C a_)) (mt:=λ_=>false) (Q:=λe s1=>(e=.normal/\s1.T 1=.sp (o6 h++ [d])/\s1.n=72/\h.L.length=10/\bA h.L 63=true/\bA h.S 65=true/\h.R.length<=1/\bA h.R 65=true/\h.S.length=h.L.count 63/\h.S.length<=4)\/(e=.ret/\s1.T 2=.i .i64 (bB h))) I mixed ?_)
 rotate_left
 ·
  by_cases b1:h.L.length=10
  ·have E:(h.L.length==10)=true:=by grind
   cases b2:bA h.L 63 with
   |false=>
    rw[b2] at a1
    repeat' first|apply nI|(refine eI ahY λK p=>?_;simp[t1,o6,i10,E,bne,ab,a1];apply p)
    simp_all [bB]
   |true=>
    rw[b2] at a1;cases Z:bA h.S 65 with
    |false=>
     rw[Z] at a2
     repeat' first|apply nI|(refine eI ahY λK p=>?_;simp[t1,o6,i10,E,bne,ab,a1,a2];apply p)
     simp_all [bB]
    |true=>
     rw[Z] at a2;by_cases b4:1<h.R.length
     ·have H:(1:Int)<h.R.length:=by omega
      repeat' first|apply nI|(refine eI ahY λK p=>?_;simp[t1,o6,i10,E,bne,ab,a1,a2,H];apply p)
      simp_all [bB]
     ·have H:¬(1:Int)<h.R.length:=by omega
      cases Y:bA h.R 65 with
      |false=>
       rw[Y] at a3
       repeat' first|apply nI|(refine eI ahY λK p=>?_;simp[t1,o6,i10,E,bne,ab,a1,a2,H,a3];apply p)
       simp_all [bB]
      |true=>
       rw[Y] at a3;by_cases b6:h.S.length=h.L.count 63
       ·have M:(h.S.length==h.L.count 63)=true:=by grind
        by_cases b7:4<h.S.length
        ·have XH:(4:Int)<h.S.length:=by omega
         repeat' first|apply nI|(refine eI ahY λK p=>?_;simp[t1,o6,i10,E,bne,ab,az,a1,a2,H,a3,c1,O,M,XH];apply p)
         have hv:bB h=2:=by
          unfold bB;simp_all
         simp[hv]
        ·have XH:¬(4:Int)<h.S.length:=by omega
         repeat' first|apply nI|(refine eI ahY λK p=>?_;simp[t1,o6,i10,E,bne,ab,az,a1,a2,H,a3,c1,O,M,XH];apply p)
         exact .inl ⟨rfl,by rfl,rfl,b1,rfl,rfl,by omega,rfl,b6,by omega⟩
       ·have M:(h.S.length==h.L.count 63)=false:=by grind
        repeat' first|apply nI|(refine eI ahY λK p=>?_;simp[t1,o6,i10,E,bne,ab,az,a1,a2,H,a3,c1,O,M];apply p)
        simp_all [bB]
  ·have E:(h.L.length==10)=false:=by grind
   repeat' first|apply nI|(refine eI ahY λK p=>?_;simp[t1,o6,i10,E,bne];apply p)
   simp_all [bB]
 rintro e ⟨T,B,lv,nx,n⟩ (⟨rfl,t1,rfl,b1,b2,Z,b4,Y,b6,b7⟩|⟨rfl,h2⟩)
 rotate_left
 ·simp_all [Dn,aH]
 simp only at t1;have hv:bB h=if dup (h.L++h.S++h.R)=true then 5 else 0:=by
  unfold bB;grind
 have Ou:∀c∈h.L++h.S++h.R,c.toNat<128:=by
  have ha:∀(s:List UInt8) (o:UInt8),o.toNat<128->bA s o=true->∀c∈s,c.toNat<128:=by
   intro s o ho hs c hc;have:=acp.1 hs c hc;rcases adr _ _▸this with h1|h1
   ·exact xj c h1
   simp_all
  grind
 have n1:¬(9223372036854775807:Int)<(h.L.length:Int)+h.S.length:=by omega
 have n2:¬(9223372036854775807:Int)<(h.L.length:Int)+h.S.length+h.R.length:=by omega
 refine bO ?_;refine bD ?_ (aY (tb:=bW 135 A (bW 136 C a_)) (mt:=λ_=>false) (Q:=λe s1=>e=.normal/\s1.T 3=.s (h.L++h.S++h.R)/\s1.n=72) I mixed ?_)
 rotate_left
 ·
  repeat' first|apply nI|(refine eI ahY λK p=>?_;simp[t1,o6,n1,n2];apply p)
  simp_all
 rintro e ⟨T,B,lv,nx,n⟩ ⟨rfl,t3,rfl⟩;simp only at t3;have J:=hC (h.L++h.S++h.R);generalize hw:h.L++h.S++h.R=w at t3 Ou hv J;refine bO (bD ?_ (Dx (tb:=bW 135 A (bW 136 C a_)) (mt:=λ_=>false) I mixed hex (l:=w) (t:=9) u9 (x:=.tmp 3) (xa:=58) (it:=59) (nt:=60) (et:=61) rfl rfl rfl (by simp_all) rfl rfl rfl rfl rfl rfl rfl rfl rfl (by simp_all) (by simp_all) (by simp_all) (by simp_all)
  (λb pos s1=>s1.n=72/\s1.T 59=.v (.pointer (some ⟨b,0,none⟩))/\s1.T 3=.s w/\(w.take pos).any (λc=>c !=63&&decide (1<w.count c))=false) (λb pos s1 h=>⟨h.1,h.2.1⟩) (λb=>⟨rfl,by simp,by simp[t3],by simp⟩)
  (Qn:=λs1=>s1.n=72/\dup w=false) (Qr:=λs1=>s1.T 2=.i .i64 5/\dup w=true) ?step ?last))
 case step=>
  rintro b pos aK ⟨T,B,lv,nx,n⟩ r ⟨rfl,t59,t3,hp⟩ hr;simp only at t59 t3;have Ck:=Ou _ (abG aK);have hr:=hr Ck;have ab1:(w[pos].toNat:Int)<128:=by omega
  have LW:=J w[pos];have N:((w[pos].toNat:Int)==63)=(w[pos]==63):=kn w[pos] 63 (by omega);have jF:(w.take (pos+1)).any (λc=>c !=63&&decide (1<w.count c))=(w[pos] !=63&&decide (1<w.count w[pos])):=by
   rw[aaN aK,aeC,hp];simp
  subst hr;cases W:(w[pos]==63) with
  |true=>
   repeat' first|apply nI|(refine eI ahY λK p=>?_;simp[t3,bne,N,W];apply p)
   simp_all
  |false=>
   by_cases WX:(1:Int)<(w.count w[pos]:Int)
   ·have Hz:1<w.count w[pos]:=by omega
    repeat' first|apply nI|(refine eI ahY λK p=>?_;simp[t3,bne,N,W,ab1,ab,az,LW,WX];apply p)
    refine .inr ⟨rfl,by simp,?_⟩;unfold dup
    grind
   ·have Hz:¬1<w.count w[pos]:=by omega
    repeat' first|apply nI|(refine eI ahY λK p=>?_;simp[t3,bne,N,W,ab1,ab,az,LW,WX];apply p)
    simp_all
 case last=>
  rintro b ⟨T,B,lv,nx,n⟩ ⟨rfl,t59,t3,hp⟩;simp only at t59 t3
  repeat' first|apply nI|(refine eI ahY λK p=>?_;simp;apply p)
  simp_all [dup]
 rintro e ⟨T,B,lv,nx,n⟩ (⟨rfl,rfl,hq⟩|⟨rfl,h4,hq⟩)
 ·refine aY (tb:=bW 135 A (bW 136 C a_)) (mt:=λ_=>false) I mixed ?_;rw[hq] at hv
  repeat' first|apply nI|(refine eI ahY λK p=>?_;simp;apply p)
  simp_all [Dn,aH]
 simp_all [Dn,aH]
end
@[simp] abbrev air:List Nat:=[0,1,2,4,5,6,7,8,15]
@[simp] abbrev ah9:List Nat:=[0,1,2,4,5,6,7,9,10,11,15,18,19,20,21,25,35]
section
variable{P:Program}[l:cL P]
theorem Cm(d:Value->Option AV){g0:Gh}{w0:World}{nx k:Nat}{o:Oper}{t:TypeId}{s1:AS}(hop:o.op=.makeMap t none)(hnx:s1.nx=nx)(hd:∀x,o.dst=some x->x<s1.n):Hand P g0 w0 nx k o s1 (λs2=>s2=upd s1 k o.dst (.mm d) {}):=by
 subst hnx;intro g w m a KK Q p N H
 let g':Gh:= { g with aD:=Lo g.aD w.heap.size (some d) }
 have hold:∀b,b<w.heap.size->(w.alloc (.map #[] 0)).heap[b]?=w.heap[b]?:=λb hb=>adx w _ hb
 have E:Lw g g' w (w.alloc (.map #[] 0)):=by
  have M:(w.alloc (.map #[] 0)).heap.size=w.heap.size+1:=agA ..;refine⟨by omega,λ_=>aax _,λb o hb=>?_,λb d' h=>?_,rfl,rfl,rfl,λb o e _=>by grind⟩
  ·have:=p.wi.lt (b:=b) (by omega);unfold World.cell?
   simp_all
  ·have hb:b≠w.heap.size:=λe=>by
    have:=(p.wi.out b (by omega)).2
    simp_all
   grind [Lo]
 have hW:WI g' (w.alloc (.map #[] 0)):=by
  refine⟨λb hb=>?_,λb d' h=>?_,p.wi.cz.mono E⟩
  ·have M:(w.alloc (.map #[] 0)).heap.size=w.heap.size+1:=agA ..;have O:w.heap.size<b:=by omega
   refine⟨(p.wi.out b (by omega)).1,?_⟩;show Lo g.aD w.heap.size (some d) b=_;rw[aL _ _ _ _ (by omega)];exact(p.wi.out b (by omega)).2
  ·by_cases hb:b=w.heap.size
   ·grind [heap_alloc_new]
   ·have h':g.aD b=some d':=by
     grind [Lo]
    obtain⟨es,ck,W,L⟩:=p.wi.aD b d' h';exact⟨es,ck,by grind,λe he=>by obtain⟨a',k1,k2⟩:=L e he;exact⟨a',k1,k2.mono E⟩⟩
 have J:=p.keep E hW ⟨λb hb _=>hold b hb,λ_ _=>rfl,λb hb=>by
  grind [aL]⟩
 have hrun:(execOp a.eval o).run P w=.ok (.value (.map (some w.heap.size))) (w.alloc (.map #[] 0)):=by
  unfold execOp;rw[hop];rfl
 unfold Oper.wp;rw[hrun];refine H _ g' _ m _ rfl ?_ (put_defers _ _ _ N);have I:=J.iR (dst:=o.dst) hd (z:=.mm d) (y:=.map (some w.heap.size)) (.cw (.mm d _ (by grind [bc])) rfl) a rfl;exact I.sub λj U=>(by omega)
theorem ca{f:FuncId}{args:List AV}{res:AV}(h:aq P f args res):∃F:List AV->Option AV,Den P f F/\F args=some res:=by
 obtain⟨F,h1,h2⟩:=cC (P:=P) (f:=f) (ι:=Unit) (λ_=>args) (λ_=>res) (λ_=>True) (λ_ _ _ _ _=>rfl) (λ_ _=>h);exact⟨F,h1,h2 () trivial⟩
def qY:AV:=.ag [.fn 255 [] [],.fn 256 [] [],.fn 257 [] []]
theorem QH{g:Gh}{w:World}(hW:WI g w):∃y,(Instr.loadAt 140 (.pointer (some ⟨0,0,none⟩))).run P w=.ok y w/\Rd g w qY y:=by
 have c (o:Nat) (v:Value) (h:KX 0 o=some v):=(hW.cz 0 o v h).2
 let ys:List Value:= [.func (.func 255) #[] #[],.func (.func 256) #[] #[],.func (.func 257) #[] #[]]
 have hr:cS g w [.fn 255 [] [],.fn 256 [] [],.fn 257 [] []] ys:=by
  refine .cons ?_ (.cons ?_ (.cons ?_ (.nil g w)))
  all_goals exact .fn _ [] [] [] [] rfl rfl (λj a y h=>by simp at h) (λj a y h=>by simp at h)
 obtain⟨Z,z1,z2⟩:=run_load (P:=P) (t:=140) (b:=0) (o:=0) (z:=qY) hr (by intro y hy;simp[ys] at hy;rcases hy with rfl|rfl|rfl <;>rfl) (λj y p=>by
  rw[abY]
  match j with
  |0=>simp[ys] at p;subst p;exact c 0 _ rfl
  |1=>simp[ys] at p;subst p;exact c 1 _ rfl
  |2=>simp[ys] at p;subst p;exact c 2 _ rfl
  |j+3=>grind) (by simp[AO,qY])
 grind [Instr.loadAt,Instr.sureAddr]
def uc(h:ay):Int:=if 5<h.tags.length then 2 else cR h.tags
theorem js(h:ay):aO h=if bB h≠0 then bB h else if bj h.alike≠0 then bj h.alike else uc h:=rfl
theorem tH(h:ay)(O:h.L.length<1000000)(M:h.S.length<1000000)(N:h.R.length<1000000)(hn:h.alike.length<1000000)(ht:∀s∈h.alike,s.length<1000000)(Wq:h.tags.length<1000000)(ht2:∀t∈h.tags,t.reads.length<1000000):
  aq P 48 [.ag (o6 h)] (.i .i64 (aO h)):=by
 obtain⟨A,Y,H⟩:=ca (Df (P:=P) h (.v (.map none)) rfl O M N);obtain⟨B,W,E⟩:=ca (Ki (P:=P) h (.v (.map none)) rfl hn ht);obtain⟨C,U,hC⟩:=ca (Mj (P:=P) h (.v (.map none)) rfl Wq ht2);rw[show(if 5<h.tags.length then(2:Int) else cR h.tags)=uc h from rfl] at hC;simp only[o6,aaT,aaV] at H E hC;refine gG (lf (P:=P) Tryz.func48) rfl (Nat.le_of_ble_eq_true rfl) (λg0 w0=>?_);have J:jb P (bW 255 A (bW 256 B (bW 257 C a_))) g0:=.of (ak (aR Tryz.func255) Y (ak (aR Tryz.func256) W (ak (aR Tryz.func257) U (au P)))) ⟨λ_ _=>rfl,λ_ _ _=>rfl⟩;refine bO ?_;refine bD ?_ (aY (tb:=a_) (mt:=λ_=>false) (Q:=λe s1=>e=.normal/\s1.T 1=.sp (o6 h)/\s1.n=18) (.of (au P) ⟨λ_ _=>rfl,λ_ _ _=>rfl⟩) mixed ?_)
 rotate_left
 ·
  repeat apply nI
  refine eI air ?_;simp_all [o6]
 rintro e ⟨T,B',lv,nx,n⟩ ⟨rfl,t1,rfl⟩;simp only at t1;refine bO (bO ?_);refine je (tb:=a_) (mt:=λ_=>false) (o:=?o) 0 (.of (au P) ⟨λ_ _=>rfl,λ_ _ _=>rfl⟩) ?hk ?hg ?hh
 case hk=>exact rfl
 case hg=>exact rfl
 intro K p;simp;refine p _ ⟨_,xC (z:=qY) rfl rfl ?hd ?hrun,?post⟩
 case hd=>simp_all
 case hrun=>
  intro g w m a Z;obtain⟨y,y1,y2⟩:=QH (P:=P) Z.wi;refine⟨y,?_,y2⟩;show(execOp a.eval ({ dst:=some 6,op:=.load 140 (.global 0),type:=140,pos:=_,after:=_,guard:=none } :Oper)).run P w=_;have q0:a.eval (.global 0)=.pointer (some ⟨0,0,none⟩):=rfl
  simp_all [execOp]
 case post=>
  rintro s2 rfl;refine⟨rfl,?_⟩;simp[upd];refine bD ?_ (aY (tb:=bW 255 A (bW 256 B (bW 257 C a_))) (mt:=λ_=>false) (Q:=λe s1=>(e=.normal/\s1.n=18/\aO h=0)\/(e=.ret/\s1.T 2=.i .i64 (aO h))) J mixed ?_)
  ·rintro e ⟨T,B',lv,nx,n⟩ (⟨rfl,rfl,hv⟩|⟨rfl,h2⟩)
   ·refine aY (tb:=a_) (mt:=λ_=>false) (.of (au P) ⟨λ_ _=>rfl,λ_ _ _=>rfl⟩) mixed ?_
    repeat' first|apply nI|(refine eI air λK p=>?_;simp;apply p)
    simp_all [Dn,aH]
   simp_all [Dn,aH]
  refine kW ?_;refine amF (λd T B lv nx=>∃k,k+d=3/\T 6=qY/\T 7=.i .i64 (k:Nat)/\T 1=.sp (o6 h)/\(1<=k->bB h=0)/\(2<=k->bj h.alike=0)/\(3<=k->uc h=0)) 3 ?_ ?_
  ·simp_all
  ·rintro d T B lv nx ⟨k,hk,t6,t7,t1,I,p2,p3⟩;have w1:IntKind.i64.wrap 1=1:=by decide
   have w2:IntKind.i64.wrap 2=2:=by decide
   have w3:IntKind.i64.wrap 3=3:=by decide
   match k with
   |0=>
    by_cases c:bB h=0
    ·have c':(bB h==0)=true:=by simp[c]
     repeat' first|apply nI|(refine eI air λK p=>?_;simp[t6,t7,t1,qY,o6,ab,H,bne,c',w1];apply p)
     refine aN 2 ⟨1,by omega,by rfl,by simp,by rfl,λ_=>c,by simp,by simp⟩
    ·have c':(bB h==0)=false:=by simp[c]
     have hv:aO h=bB h:=by rw[js,aay c]
     repeat' first|apply nI|(refine eI air λK p=>?_;simp[t6,t7,t1,qY,o6,ab,H,bne,c'];apply p)
     simp[hv]
   |1=>
    have c0:=I (by omega);by_cases c:bj h.alike=0
    ·have c':(bj h.alike==0)=true:=by simp[c]
     repeat' first|apply nI|(refine eI air λK p=>?_;simp[t6,t7,t1,qY,o6,ab,az,E,bne,c',w2];apply p)
     refine aN 1 ⟨2,by omega,by rfl,by simp,by rfl,λ_=>c0,λ_=>c,by simp⟩
    ·have c':(bj h.alike==0)=false:=by simp[c]
     have hv:aO h=bj h.alike:=by simp_all [js]
     repeat' first|apply nI|(refine eI air λK p=>?_;simp[t6,t7,t1,qY,o6,ab,az,E,bne,c'];apply p)
     simp[hv]
   |2=>
    have c0:=I (by omega);have c1:=p2 (by omega);by_cases c:uc h=0
    ·have c':(uc h==0)=true:=by simp[c]
     repeat' first|apply nI|(refine eI air λK p=>?_;simp[t6,t7,t1,qY,o6,ab,az,hC,bne,c',w3];apply p)
     refine aN 0 ⟨3,by omega,by rfl,by simp,by rfl,λ_=>c0,λ_=>c1,λ_=>c⟩
    ·have c':(uc h==0)=false:=by simp[c]
     have hv:aO h=uc h:=by simp_all [js]
     repeat' first|apply nI|(refine eI air λK p=>?_;simp[t6,t7,t1,qY,o6,ab,az,hC,bne,c'];apply p)
     simp[hv]
   |3=>
    have hv:aO h=0:=by simp_all [js]
    repeat' first|apply nI|(refine eI air λK p=>?_;simp[t7];apply p)
    simp_all
   |k+4=>omega
theorem akX(h:ay):aq P 98 [.ag (o6 h)] (.ag (aj h (bF h))):=by
 refine gG (lf (P:=P) Tryz.func98) rfl (Nat.le_of_ble_eq_true rfl) (λg0 w0=>?_);have p:jb P a_ g0:=.of (au P) ⟨λ_ _=>rfl,λ_ _ _=>rfl⟩;refine bO ?_;refine bD ?_ (aY (tb:=a_) (mt:=λ_=>false) (Q:=λe s1=>e=.normal/\s1.T 1=.sp (o6 h)/\s1.T 2=.bx 1 0/\s1.B 1=some (false,[.s [],.s [],.s [],.sq none 0 [],.sq none 0 [],.v (.map none)])/\s1.n=6) p mixed ?_)
 rotate_left
 ·
  repeat apply nI
  refine eI [0,1,2] ?_;simp_all [o6]
 rintro e ⟨T,H,lv,nx,n⟩ ⟨rfl,t1,t2,b1,rfl⟩;simp only at t1 t2 b1;refine bO ?_;refine je (tb:=a_) (mt:=λ_=>false) (o:=?o) 1 p ?hk ?hg ?hh
 case hk=>exact rfl
 case hg=>exact rfl
 intro K E;simp[t1,o6];refine E _ ⟨_,Cm (bF h) rfl rfl ?hd,?post⟩
 case hd=>simp_all
 case post=>
  rintro s2 rfl;refine⟨rfl,?_⟩;simp[upd,t2,b1];refine aY (tb:=a_) (mt:=λ_=>false) p mixed ?_
  repeat' first|apply nI|(refine eI [0,1,2] λK E=>?_;simp[b1];apply E)
  simp_all [Dn,aH,aj,o6]
theorem Ku{s:List UInt8}{o:UInt8}(ho:o.toNat<128)(hs:bA s o=true):∀c∈s,c.toNat<128:=by
 intro c hc;have:=acp.1 hs c hc;rcases adr _ _▸this with h1|h1
 ·exact xj c h1
 simp_all
theorem sg:∀(l pre:List (List UInt8)),cb pre l=0->∀s∈l,s.length=2
 | [],_,_,s,h=>by simp at h
 |a::l,pre,h,s,hs=>by
  unfold cb at h;by_cases h0:eR pre a=0
  ·rw[aat (by omega)] at h;rcases abZ.1 hs with rfl|hs
   ·grind [eR]
   ·exact sg l _ h s hs
  omega
theorem oE:∀(l:List Tag),cR l=0->∀t∈l,t.reads.length<=5
 | [],_,s,h=>by simp at h
 |a::l,h,s,hs=>by
  unfold cR at h;by_cases h0:aM a.reads=0
  ·rw[aat (by omega)] at h;by_cases h1:dR a.low a.high=false
   ·simp_all
   ·rw[aat h1] at h;rcases abZ.1 hs with rfl|hs
    ·grind [aM]
    ·exact oE l h s hs
  omega
theorem checked(h:ay)(hc:aO h=0):(h.L.length=10/\bA h.L 63=true/\bA h.S 65=true/\h.R.length<=1/\bA h.R 65=true/\h.S.length=h.L.count 63/\h.S.length<=4/\dup (h.L++h.S++h.R)=false)/\(h.alike.length<=4/\cb [] h.alike=0)/\h.tags.length<=5/\cR h.tags=0:=by
 rw[js] at hc;have c1:bB h=0:=by
  omega
 rw[aat (by omega)] at hc;have c2:bj h.alike=0:=by
  omega
 rw[aat (by omega)] at hc;refine⟨?_,?_,?_⟩
 ·grind [bB]
 ·grind [bj]
 grind [uc]
theorem dO(h:ay)(hc:aO h=0):Sound h:=by
 obtain⟨⟨h1,h2,E,N,M,L,p,J⟩,⟨I,H⟩,h11,h12⟩:=checked h hc;exact⟨h1,p,Ku (by decide) E,⟨by omega,sg _ _ H⟩,by omega,λt ht=>by grind [oE]⟩
def bN:List Int->Int
 | []=>0
 |b::l=>if b≠0 then b else bN l
def dQ:List AV:= [.s [],.s [],.s [],.sq none 0 [],.sq none 0 [],.v (.map none)]
def cG(b:Int):AV:=.tu [.ag dQ,.sq none 10 [],.i .i64 b]
noncomputable def opened(h:ay):AV:=.tu [.ag (aj h (bF h)),.sq none 10 (amE (aB h)),.i .i64 0]
def bJ(h:ay)(p:List Int):Int:=if aO h≠0 then aO h else if bN p≠0 then bN p else if aB h= [] then 9 else 0
noncomputable def bZ(h:ay)(p:List Int):AV:=if bJ h p≠0 then cG (bJ h p) else opened h
theorem wT(h:ay)(p:List Int)(Y:h.L.length<1000000)(U:h.S.length<1000000)(W:h.R.length<1000000)(hn:h.alike.length<1000000)(ht:∀s∈h.alike,s.length<1000000)(Wq:h.tags.length<1000000)(ht2:∀t∈h.tags,t.reads.length<1000000)(fM:p.length<1000000):
  aq P 74 [.ag (o6 h),.sq none 1 (p.map (.i .i64))] (bZ h p):=by
 obtain⟨A,N,H⟩:=ca (tH (P:=P) h Y U W hn ht Wq ht2);obtain⟨B,bd,I⟩:=ca (akX (P:=P) h);simp only[o6] at H I;by_cases hc:aO h=0
 ·obtain⟨C,cd,hC⟩:=ca (sO (P:=P) h (dO h hc));simp only[aj,o6,aaT,aaV] at I hC;rw[hc] at H;refine fi (ak (aR Tryz.func48) N (ak (aR Tryz.func98) bd (ak (aR Tryz.func99) cd (au P)))) (lf Tryz.func74) ?_;have hlen:(amE (aB h)).length=(aB h).length*10:=by
   rw[fy _ (λw hw=>j_ h (dO h hc).L w hw)];omega
  repeat' refine t_ ?_
  repeat apply nI
  refine eI ah9 ?_;intro K E;simp[o6]
  repeat' (first|apply E|(refine aE (λhc=>?_) (λhc=>?_) <;>(try simp only[aan,aac] at hc) <;>simp[hc,o6,ab,H])|fail)
  repeat' first|apply nI|(refine eI ah9 λK E=>?_;simp[ab,H,bne];apply E)
  refine amF (λd T B lv nx=>∃k,k+d=p.length/\T 2=.sp (o6 h)/\T 4=.bx 1 0/\B 1=some (false,dQ)/\2<=nx/\T 18=.sq none 1 (p.map (.i .i64))/\T 19=.i .i64 p.length/\T 20=.i .i64 (k:Nat)/\bN p=bN (p.drop k)) p.length ?_ ?_
  ·refine⟨0,by simp,by rfl,by simp,by rfl,by simp,by simp,by simp,by simp,by simp⟩
  ·rintro d T B lv nx ⟨k,hk,t2,t4,b1,hnx,t18,t19,t20,hp⟩;have w1:=aS ((k:Int)+1);have n3:¬1=nx+1+2:=by omega
   by_cases M:k<p.length
   ·have O:p.drop k=p[k]::p.drop (k+1):=aa4 M;rw[O] at hp;by_cases hb:p[k]=0
    ·have J:(p[k]==0)=true:=by grind
     repeat' first|apply nI|(refine eI ah9 λK E=>?_;simp[t18,t19,t20,M,bne,J,w1];apply E)
     refine aN (d-1) ⟨k+1,by omega,by simp[t2],by simp[t4],by omega,aaY hnx (by grind),by rfl,by rfl,by simp,by grind [bN]⟩
    ·have J:(p[k]==0)=false:=by grind
     have hv:bZ h p=cG p[k]:=by
      grind [bN,bZ,bJ]
     rw[hv]
     repeat' first|apply nI|(refine eI ah9 λK E=>?_;simp[t4,b1,dQ,t18,t19,t20,M,bne,J];apply E)
     simp[Dn,dc,aH,Tryz.f74,cG,dQ]
   ·have Z:k=p.length:=by omega
    subst Z;have P8:bN p=0:=by grind [bN]
    by_cases hw:aB h= []
    ·have hv:bZ h p=cG 9:=by grind [bZ,bJ]
     rw[hv];rw[hw] at hC
     repeat' first|apply nI|(refine eI ah9 λK E=>?_;simp[t2,o6,t4,b1,dQ,t18,t19,t20,ab,az,I,hC,amE];apply E)
     simp[Dn,dc,aH,Tryz.f74,cG,dQ]
    ·have hv:bZ h p=opened h:=by grind [bZ,bJ]
     rw[hv];have cO:(((aB h).length:Int)==0)=false:=by
      have:(aB h).length≠0:=λe=>hw (abA e)
      grind
     repeat' first|apply nI|(refine eI ah9 λK E=>?_;simp[t2,o6,t4,b1,dQ,t18,t19,t20,ab,az,I,hC,hlen,cO];apply E)
     simp[Dn,dc,aH,Tryz.f74,opened,aj,o6]
 ·have dK:(aO h==0)=false:=by grind
  have hv:bZ h p=cG (aO h):=by grind [bZ,bJ]
  rw[hv];refine fi (ak (aR Tryz.func48) N (au P)) (lf Tryz.func74) ?_
  repeat' first|apply nI|(refine eI ah9 λK E=>?_;simp[o6,ab,H,bne,dK];apply E)
  simp[Dn,dc,aH,Tryz.f74,cG,dQ]
end
@[simp] abbrev aiw:List Nat:=[0,1,2,6,7,12,30]
@[simp] abbrev ahT:List Nat:=[0,1,2,3,8,9,10,11,12,13,14,15,16,17,18,23,29,35,50,68,72,87,113]
section
variable{P:Program}[l:cL P]
theorem BW(n:Nat)(hn:n<=1):aq P 163 [.i .u64 n] (.i .i64 n):=by
 intro g w ys hW hr;obtain⟨y,ys',rfl,h1,h2⟩:=hr.dX;cases h2.nE;cases h1;have p:Calls P 163 #[.int .u64 n] w λe w'=>e=.returned (.int .i64 (Lib.bitLen (n:Int).toNat))/\w'=w:=
  calls_of_every_depth λD=>AnyS.bits_LenIn { Nq (P:=P) with } D n w (by omega) (by omega)
 refine p.mono ?_;rintro e w' ⟨rfl,rfl⟩;have hb:((Lib.bitLen (n:Int).toNat:Nat):Int)=n:=by
  have:n=0\/n=1:=by omega
  rcases this with rfl|rfl <;>decide
 rw[hb];exact⟨_,g,rfl,.refl _ _,hW,.refl _ _,.i _ _,trivial⟩
theorem Hg(l:List AV)(hl:l.length<=1):aq P 183 [.sq none 1 l,.i .i64 0,.i .i64 l.length] (.tu []):=by
 refine fi (au P) (lf Tryz.func183) ?_;have h1:¬(1:Int)<l.length:=by omega
 have w1:IntKind.i64.wrap 1=1:=by decide
 repeat apply nI
 refine eI aiw ?_;intro K p;simp[w1]
 repeat' (first|apply p|(refine aE (λhc=>?_) (λhc=>?_) <;>(try simp only[aan,aac] at hc) <;>simp[hc,w1])|fail)
 repeat apply nI
 refine amF (λd T B lv nx=>T 6=.i .i64 1/\T 2=.i .i64 l.length) 0 ?_ ?_
 ·exact⟨by simp[w1],by simp⟩
 ·rintro d T B lv nx ⟨t6,t2⟩
  repeat' first|apply nI|(refine eI aiw λK p=>?_;simp[t6,t2,h1];apply p)
  simp[Dn,dc,Tryz.f183]
theorem G3(l:List AV)(hl:l.length<=1):aq P 162 [.sq none 1 l,.i .i64 0,.i .i64 l.length,.i .i64 l.length] (.tu []):=by
 obtain⟨A,H,E⟩:=ca (Hg (P:=P) l hl);refine fi (ak (aR Tryz.func183) H (au P)) (lf Tryz.func162) ?_;have h1:(l.length:Int)<=12:=by omega
 have w1:IntKind.i64.wrap (l.length:Int)=l.length:=aS _
 repeat (first|with_reducible refine kW ?_|with_reducible refine t_ ?_)
 repeat apply nI
 refine eI ahT ?_;intro K p;simp
 repeat' (first|apply p|(refine aE (λhc=>?_) (λhc=>?_) <;>(try simp only[aan,aac] at hc) <;>simp[hc])|fail)
 repeat apply nI
 refine eI ahT ?_;intro K p;simp
 repeat' (first|apply p|(refine aE (λhc=>?_) (λhc=>?_) <;>(try simp only[aan,aac] at hc) <;>simp[hc])|fail)
 repeat (first|with_reducible refine kW ?_|with_reducible refine t_ ?_)
 refine amF (λd T B lv nx=>T 0=.sq none 1 l/\T 1=.i .i64 0/\T 2=.i .i64 l.length) 0 ?_ ?_
 ·exact⟨by simp,by simp,by simp⟩
 ·rintro d T B lv nx ⟨t0,t1,t2⟩
  repeat' first|apply nI|(refine eI ahT λK p=>?_;simp[t0,t1,t2,h1,w1,ab,E];apply p)
  simp[Dn,dc,Tryz.f162]
theorem DN(l:List AV)(hl:l.length<=1):aq P 131 [.sq none 1 l] (.tu []):=by
 obtain⟨A,J,H⟩:=ca (G3 (P:=P) l hl);obtain⟨B,I,E⟩:=ca (BW (P:=P) l.length hl);have w1:IntKind.u64.wrap (l.length:Int)=l.length:=by
  have:l.length=0\/l.length=1:=by omega
  rcases this with h|h <;>rw[h] <;>decide
 refine fi (ak (aR Tryz.func162) J (ak (aR Tryz.func163) I (au P))) (lf Tryz.func131) ?_
 repeat' first|apply nI|(refine eI [0,2] λK p=>?_;simp[w1,ab,az,H,E];apply p)
 simp[Dn,dc,Tryz.f131]
theorem Hf(l:List AV)(hl:l.length<=1):aq P 196 [.sq none 1 l,.i .i64 0,.i .i64 l.length] (.tu []):=by
 refine fi (au P) (lf Tryz.func196) ?_;have h1:¬(1:Int)<l.length:=by omega
 have w1:IntKind.i64.wrap 1=1:=by decide
 repeat apply nI
 refine eI aiw ?_;intro K p;simp[w1]
 repeat' (first|apply p|(refine aE (λhc=>?_) (λhc=>?_) <;>(try simp only[aan,aac] at hc) <;>simp[hc,w1])|fail)
 repeat apply nI
 refine amF (λd T B lv nx=>T 6=.i .i64 1/\T 2=.i .i64 l.length) 0 ?_ ?_
 ·exact⟨by simp[w1],by simp⟩
 ·rintro d T B lv nx ⟨t6,t2⟩
  repeat' first|apply nI|(refine eI aiw λK p=>?_;simp[t6,t2,h1];apply p)
  simp[Dn,dc,Tryz.f196]
theorem ark(l:List AV)(hl:l.length<=1):aq P 176 [.sq none 1 l,.i .i64 0,.i .i64 l.length,.i .i64 l.length] (.tu []):=by
 obtain⟨A,H,E⟩:=ca (Hf (P:=P) l hl);refine fi (ak (aR Tryz.func196) H (au P)) (lf Tryz.func176) ?_;have h1:(l.length:Int)<=12:=by omega
 have w1:IntKind.i64.wrap (l.length:Int)=l.length:=aS _
 repeat (first|with_reducible refine kW ?_|with_reducible refine t_ ?_)
 repeat apply nI
 refine eI ahT ?_;intro K p;simp
 repeat' (first|apply p|(refine aE (λhc=>?_) (λhc=>?_) <;>(try simp only[aan,aac] at hc) <;>simp[hc])|fail)
 repeat apply nI
 refine eI ahT ?_;intro K p;simp
 repeat' (first|apply p|(refine aE (λhc=>?_) (λhc=>?_) <;>(try simp only[aan,aac] at hc) <;>simp[hc])|fail)
 repeat (first|with_reducible refine kW ?_|with_reducible refine t_ ?_)
 refine amF (λd T B lv nx=>T 0=.sq none 1 l/\T 1=.i .i64 0/\T 2=.i .i64 l.length) 0 ?_ ?_
 ·exact⟨by simp,by simp,by simp⟩
 ·rintro d T B lv nx ⟨t0,t1,t2⟩
  repeat' first|apply nI|(refine eI ahT λK p=>?_;simp[t0,t1,t2,h1,w1,ab,E];apply p)
  simp[Dn,dc,Tryz.f176]
theorem DM(l:List AV)(hl:l.length<=1):aq P 150 [.sq none 1 l] (.tu []):=by
 obtain⟨A,J,H⟩:=ca (ark (P:=P) l hl);obtain⟨B,I,E⟩:=ca (BW (P:=P) l.length hl);have w1:IntKind.u64.wrap (l.length:Int)=l.length:=by
  have:l.length=0\/l.length=1:=by omega
  rcases this with h|h <;>rw[h] <;>decide
 refine fi (ak (aR Tryz.func176) J (ak (aR Tryz.func163) I (au P))) (lf Tryz.func150) ?_
 repeat' first|apply nI|(refine eI [0,2] λK p=>?_;simp[w1,ab,az,H,E];apply p)
 simp[Dn,dc,Tryz.f150]
theorem He(l:List AV)(hl:l.length<=1):aq P 216 [.sq none 1 l,.i .i64 0,.i .i64 l.length] (.tu []):=by
 refine fi (au P) (lf Tryz.func216) ?_;have h1:¬(1:Int)<l.length:=by omega
 have w1:IntKind.i64.wrap 1=1:=by decide
 repeat apply nI
 refine eI aiw ?_;intro K p;simp[w1]
 repeat' (first|apply p|(refine aE (λhc=>?_) (λhc=>?_) <;>(try simp only[aan,aac] at hc) <;>simp[hc,w1])|fail)
 repeat apply nI
 refine amF (λd T B lv nx=>T 6=.i .i64 1/\T 2=.i .i64 l.length) 0 ?_ ?_
 ·exact⟨by simp[w1],by simp⟩
 ·rintro d T B lv nx ⟨t6,t2⟩
  repeat' first|apply nI|(refine eI aiw λK p=>?_;simp[t6,t2,h1];apply p)
  simp[Dn,dc,Tryz.f216]
theorem G1(l:List AV)(hl:l.length<=1):aq P 195 [.sq none 1 l,.i .i64 0,.i .i64 l.length,.i .i64 l.length] (.tu []):=by
 obtain⟨A,H,E⟩:=ca (He (P:=P) l hl);refine fi (ak (aR Tryz.func216) H (au P)) (lf Tryz.func195) ?_;have h1:(l.length:Int)<=12:=by omega
 have w1:IntKind.i64.wrap (l.length:Int)=l.length:=aS _
 repeat (first|with_reducible refine kW ?_|with_reducible refine t_ ?_)
 repeat apply nI
 refine eI ahT ?_;intro K p;simp
 repeat' (first|apply p|(refine aE (λhc=>?_) (λhc=>?_) <;>(try simp only[aan,aac] at hc) <;>simp[hc])|fail)
 repeat apply nI
 refine eI ahT ?_;intro K p;simp
 repeat' (first|apply p|(refine aE (λhc=>?_) (λhc=>?_) <;>(try simp only[aan,aac] at hc) <;>simp[hc])|fail)
 repeat (first|with_reducible refine kW ?_|with_reducible refine t_ ?_)
 refine amF (λd T B lv nx=>T 0=.sq none 1 l/\T 1=.i .i64 0/\T 2=.i .i64 l.length) 0 ?_ ?_
 ·exact⟨by simp,by simp,by simp⟩
 ·rintro d T B lv nx ⟨t0,t1,t2⟩
  repeat' first|apply nI|(refine eI ahT λK p=>?_;simp[t0,t1,t2,h1,w1,ab,E];apply p)
  simp[Dn,dc,Tryz.f195]
theorem DL(l:List AV)(hl:l.length<=1):aq P 172 [.sq none 1 l] (.tu []):=by
 obtain⟨A,J,H⟩:=ca (G1 (P:=P) l hl);obtain⟨B,I,E⟩:=ca (BW (P:=P) l.length hl);have w1:IntKind.u64.wrap (l.length:Int)=l.length:=by
  have:l.length=0\/l.length=1:=by omega
  rcases this with h|h <;>rw[h] <;>decide
 refine fi (ak (aR Tryz.func195) J (ak (aR Tryz.func163) I (au P))) (lf Tryz.func172) ?_
 repeat' first|apply nI|(refine eI [0,2] λK p=>?_;simp[w1,ab,az,H,E];apply p)
 simp[Dn,dc,Tryz.f172]
theorem U4:kK P 131 3 (Value.int .i64) [] []:=mB se (by simpa using DN (P:=P) [] (by simp))
theorem U3:kK P 172 9 sv [] []:=mB Jr (by simpa using DL (P:=P) [] (by simp))
theorem zD(l:List Int)(hl:l.length<4611686018427387904):kK P 131 3 (Value.int .i64) l (l.mergeSort λx y=>decide (x<=y)):=MD U4 l hl
theorem J0(l:List (List UInt8))(hl:l.length<4611686018427387904):kK P 172 9 sv l (l.mergeSort λx y=>decide (x<=y)):=MC U3 l hl
theorem J1(l:List UInt8)(hl:l.length<=1):kK P 150 5 (λc:UInt8=>Value.int .u8 c.toNat) l l:=mB CB (by simpa using DM (P:=P) (l.map _) (by simpa using hl))
end
def adz:=@List.not_mem_nil
def ae9:=@List.append_assoc
def aeo:=@List.take_length
@[simp] abbrev ait:List Nat:=[0,1,4,5,7,8,9,10,11]
section
variable{P:Program}[l:cL P]
theorem K8{g0:Gh}{w0:World}{fr:Nat->Prop}{s:AS}{g:Gh}{w:World}{m:Mem}{a:Act}{t:Nat}{x:Value}(h:SR P g0 w0 fr s g w m a.tmps)(ht:s.T t=.v x):a.eval (.tmp t)=x:=by
 have h1:=h.tmps t;rw[ht] at h1;exact s_ (h1.rd (by simp))
theorem HR{g0:Gh}{w0:World}{fr:Nat->Prop}{s:AS}{g:Gh}{w:World}{m:Mem}{a:Act}{t:Nat}{x:Bool}(h:SR P g0 w0 fr s g w m a.tmps)(ht:s.T t=.b x):a.eval (.tmp t)=.bool x:=by
 have h1:=h.ev (.tmp t);rw[HQ,ht] at h1;exact h1.b
theorem aqs{g0:Gh}{w0:World}{fr:Nat->Prop}{s:AS}{g:Gh}{w:World}{m:Mem}{a:Act}{t:Nat}{z:AV}(h:SR P g0 w0 fr s g w m a.tmps)(ht:s.T t=z)(hz:∀id off,z≠.bx id off):Rd g w z (a.eval (.tmp t)):=by
 have h1:=h.ev (.tmp t);rw[HQ,ht] at h1;exact h1.rd hz
theorem SR.wM {g0 : Gh} {w0 : World} {fr : Nat -> Prop} {s : AS} {g : Gh} {w : World} {m : Mem} {tmps : Array Value} (h : SR P g0 w0 fr s g w m tmps) {d : Nat} {z : AV} (hr : Rd g w z (tmps.getD d undef)) (hz : z.strip = z) : SR P g0 w0 fr { s with T := Lo s.T d z } g w m tmps :=
  { h with
    tmps := fun t => by
      by_cases e : t = d
      · subst e
        show RV _ _ _ _ _ (Lo s.T t z t) _
        rw [bc]; exact .cw hr hz
      · show RV _ _ _ _ _ (Lo s.T d z t) _
        rw [aL _ _ _ _ e]; exact h.tmps t }
theorem zr(ws:List (List UInt8))(hw:∀w∈ws,w.length=10)(k:Nat)(hk:k<ws.length):(amE ws).drop (k*10)=ao ws[k]++amE (ws.drop (k+1)):=by
 induction ws generalizing k with
 |nil=>grind
 |cons v ws p=>
  have hv:=hw v (by simp);cases k with
  |zero=>rfl
  |succ k=>
   have:=p (λw h=>hw w (by simp[h])) k (by grind);rw[show(k+1)*10=10+k*10 by omega,<-List.drop_drop]
   grind [amE,ao]
theorem JL(j:TypeInfo)(z:Value)(p:P.info? 3=some j)(hz:j.zero=some z):∀u∈z.cells.toList,Yu u:=by
 obtain⟨it,v,h1,h2,E,_⟩:=kr (Y0 (P:=P));rw[p] at h1;cases h1;rw[hz] at h2;cases h2;intro u hu;have:vV u∈ [AV.i .i64 0]:=by grind
 simp only[abZ,adz,aeP] at this;unfold vV at this;split at this <;>simp at this
 obtain⟨rfl,rfl⟩:=this;exact⟨0,rfl⟩
structure S9(n:Nat):Prop
abbrev S9.n{n:Nat}(_:S9 n):Nat:=n
theorem mP{F S C E TY BY:Nat}{A:Type}{EA:A->AV}{EV:A->Value}(hk:(F=76/\S=131/\C=132/\E=3/\TY=28/\BY=8)\/(F=105/\S=150/\C=151/\E=5/\TY=91/\BY=1)\/F=140/\S=172/\C=173/\E=9/\TY=22/\BY=16)(hI:E=3->∀a,Yu (EV a))(abL:LX EA EV)(eS:S9 S)(eC:S9 C)(eE:S9 E)(eT:S9 TY)(eB:S9 BY)
  (ws:List (List UInt8)) (hw:∀w∈ws,w.length=10) (hn:ws.length<100000000) (Y:List UInt8->List A) (p:FuncId) (l1 l2:List AV) (lM:Enters P p) (hl1:l1.map AV.strip=l1) (hl2:l2.map AV.strip=l2)
  (hY:∀w∈ws,aq P p (l1++ [.ag (ao w)]++l2) (.sq none 1 ((Y w).map EA))) (hb:(ws.flatMap Y).length<=4000000000000)
  {r q:List A} (hS:kK P S E EV (ws.flatMap Y) r) (hC:CY P C E EV r q):∀g w ys,WI g w->cS g w [.sq none 10 (amE ws),.fn p l1 l2] ys->Calls P F ys.toArray w λe w'=>∃y g',e=.returned y/\Lw g g' w w'/\WI g' w'/\anw g g' w w'/\Rd g' w' (.sq none 1 (q.map EA)) y/\∃g2,Row w.heap.size E g2 w' y (q.map EV):=by
 rcases hk with ⟨rfl,rfl,rfl,rfl,rfl,rfl⟩|⟨rfl,rfl,rfl,rfl,rfl,rfl⟩|⟨rfl,rfl,rfl,rfl,rfl,rfl⟩
 all_goals
  obtain⟨F,hFd,hF⟩:=cC (P:=P) (f:=p) (ι:=List UInt8) (λw=>l1++ [.ag (ao w)]++l2) (λw=>.sq none 1 ((Y w).map EA)) (λw=>w∈ws) (λx y _ _ e=>by
   have e1:=List.append_cancel_left (ahw e);simp only[abg,AV.ag.injEq,abQ] at e1;rw[sQ e1]) (λx hx=>hY x hx)
  have hlen:(amE ws).length=ws.length*10:=by rw[fy ws hw];omega
  have L:∀g:Gh,jb P (bW p F a_) g:=λg=>.of (ak lM hFd (au P)) ⟨λ_ _=>rfl,λ_ _ _=>rfl⟩
  intro g w ys hW hr
  first|refine aey (lf (P:=P) Tryz.func76) rfl ?_|refine aey (lf (P:=P) Tryz.func105) rfl ?_|refine aey (lf (P:=P) Tryz.func140) rfl ?_
  have bH:=uV (P:=P) (n:=24) hW hr (by simp);have cq:ys.toArray.size=ys.length:=by simp
  rw[cq];generalize Ar:({ g with ex:=λ_ _ _=>True,iF:=λ_=>none } :Gh)=g0 at bH;have O:∀id,g0.iF id=none:=by rw[<-Ar];simp_all
  have As:∀ {g2 w2},Lw g0 g2 w w2->Lw g g2 w w2:=by rw[<-Ar];exact λh=>⟨h.1,h.2,h.3,h.4,h.5,h.6,h.7,h.8⟩
  have N4:∀ {g2 w2},anw g0 g2 w w2->anw g g2 w w2:=by rw[<-Ar];exact λh=>⟨h.1,h.2,h.3⟩
  clear Ar;change Code.wp P _ _ { tmps:=ys.toArray++Array.replicate (24-ys.length) undef,defers:= [] } w;generalize ({ tmps:=ys.toArray++Array.replicate (24-ys.length) undef,defers:= [] } :Act)=a at bH;refine wp_seq (wp_mono (fj (mt:=λ_=>false) (L g0) mixed _ (λe s1=>e=.normal/\s1.T 0=.sq none 10 (amE ws)/\s1.T 1=.fn p l1 l2/\s1.n=24) _ a w ?_ bH) ?_)
  ·repeat apply nI
   refine eI ait ?_;simp_all
  rintro e1 a1 w1 ⟨x1,⟨T,B,lv,nx,n⟩,he1,⟨rfl,t0,t1,rfl⟩,Ez⟩;cases e1 <;>simp only[c8,Option.some.injEq,reduceCtorEq] at he1
  simp only at t0 t1;obtain⟨g1,m1,dJ,jY⟩:=Ez;have dJ:=dJ.VG O 4;dsimp only at dJ;refine wp_seq (wp_region ?_);show wpOps P _ _ [0] a1 w1;rw[wpOps_cons];refine aW rfl rfl (i_ rfl ?_);refine dv ?_;have hx0:a1.eval (.const (.slice none 0 0))=.slice none 0 0:=rfl;rw[hx0];have fE:=dJ.iR (dst:=some 5) (λd hd=>by grind) (z:=.v (.slice none 0 0)) (y:=.slice none 0 0) (.cw (.v _) rfl) a1 rfl;dsimp only[sI] at fE;have H:=(fE.nx (nx+1)).sub (fr':=λj=>nx+1<=j) (λj hj=>by omega);have jq:=put_defers a1 (some 5) (.slice none 0 0) jY;show Code.wp P _ _ (a1.put (some 5) (.slice none 0 0)) w1;have t0':Lo (mG T 4 (a1.tmps.getD 4 undef)) 5 (.v (.slice none 0 0)) 0=.sq none 10 (amE ws):=by simp_all [mG]
  have Tr:Lo (mG T 4 (a1.tmps.getD 4 undef)) 5 (.v (.slice none 0 0)) 1=.fn p l1 l2:=by simp_all [mG]
  have Yf:Lo (mG T 4 (a1.tmps.getD 4 undef)) 5 (.v (.slice none 0 0)) 5=.v (.slice none 0 0):=by simp
  have NT:Row w.heap.size eE.n g1 w1 (.slice none 0 0) []:=⟨World.ownsRow_nil _ _ _ _,λc hc=>(by cases hc),λ_ c cur fr hc=>(by cases hc)⟩
  generalize Lo (mG T 4 (a1.tmps.getD 4 undef)) 5 (.v (.slice none 0 0))=T' at H t0' Tr Yf;generalize (a1.put (some 5) (.slice none 0 0))=a2 at H jq;generalize af3:Value.slice none 0 0=x0 at NT Yf;generalize hnx2:nx+1=nx2 at H;clear dJ fE hx0 af3 hnx2 t0 t1 bH;refine wp_seq (wp_seq (wp_mono (piece (s:=⟨T',λ_=>none,λ_=>none,nx2,24⟩) (mt:=λ_=>false) (Q':=λe s1=>e=.normal/\s1.n=24/\(∀τ,s1.lv τ=none)/\s1.T 1=.fn p l1 l2/\s1.T 5=.v x0/\s1.T 8=.sq none 10 (amE ws)/\s1.T 9=.i .i64 ws.length/\s1.T 10=.i .i64 (0:Nat)) (λg=>L (base g)) mixed H jq (λ_=>rfl) (λ_=>rfl) O ?_ (λ_ _ h=>h.2.2.1) NT) ?_))
  ·repeat apply nI
   refine eI ait ?_;simp_all
  rintro e3 a3 w3 ⟨x3,⟨T,B3,lv,Yr,n⟩,g3,m3,he3,⟨rfl,U,N,t1,t5,t8,t9,t10⟩,H,jG,Ai⟩;simp only at U N t1 t5 t8 t9 t10;subst U;cases e3 <;>simp only[c8,Option.some.injEq,reduceCtorEq] at he3
  have M:lv=λ_=>none:=funext N
  subst M;simp only at H
  let GI:Nat->Act->World->Prop:=λk a w'=>∃T nx g m x,SR P g0 w (λj=>nx<=j) ⟨T,λ_=>none,λ_=>none,nx,24⟩ g w' m a.tmps/\a.defers= []/\Row w.heap.size eE.n g w' x (((ws.take k).flatMap Y).map EV)/\
   T 1=.fn p l1 l2/\T 5=.v x/\T 8=.sq none 10 (amE ws)/\T 9=.i .i64 ws.length/\T 10=.i .i64 k
  have ah8:GI 0 a3 w3:=⟨T,Yr,g3,m3,x0,H,jG,by grind,t1,t5,t8,t9,t10⟩
  clear H jG Ai t1 t5 t8 t9 t10 N NT;refine af6 (wp_mono (Q:=λe a w'=>e=.exit 0/\GI ws.length a w') (afX (ws.length+1) ?hl) ?fin)
  case hl=>
   refine(?_:∀(d k:Nat) (a:Act) (w':World),k+d=ws.length->GI k a w'->Code.rounds P _ _ (d+1) a w') ws.length 0 a3 w3 (by omega) ah8;intro d
   induction d with
   |zero=>
    intro k a w' hk hG;have hk:k=ws.length:=by omega
    subst hk;obtain⟨T,nx,g1,m1,x,aJ,ba,eO,t1,t5,t8,t9,t10⟩:=hG;rw[afe];refine wp_seq (wp_mono (piece (s:=⟨T,λ_=>none,λ_=>none,nx,24⟩) (mt:=λ_=>false) (Q':=λe s1=>e=.normal/\s1.n=24/\(∀τ,s1.lv τ=none)/\s1.T 1=.fn p l1 l2/\s1.T 5=.v x/\s1.T 8=.sq none 10 (amE ws)/\s1.T 9=.i .i64 ws.length/\s1.T 10=.i .i64 ws.length/\s1.T 11=.b false) (λg=>L (base g)) mixed aJ ba (λ_=>rfl) (λ_=>rfl) O ?_ (λ_ _ h=>h.2.2.1) eO) ?_)
    ·repeat apply nI
     refine eI ait ?_;simp_all
    rintro e3 a3 w3 ⟨x3,⟨T,B3,lv,Yr,n⟩,g3,m3,he3,⟨rfl,U,N,t1,t5,t8,t9,t10,t11⟩,H,jG,Ai⟩;simp only at U N t1 t5 t8 t9 t10 t11;subst U;cases e3 <;>simp only[c8,Option.some.injEq,reduceCtorEq] at he3
    have M:lv=λ_=>none:=funext N
    subst M;have h11:a3.eval (.tmp 11)=.bool false:=HR H t11;refine wp_seq (agh h11 (wp_exit ?_));exact⟨rfl,T,Yr,g3,m3,x,H,jG,Ai,t1,t5,t8,t9,t10⟩
   |succ d ihd=>
    intro k a w' hk hG;have aK:k<ws.length:=by omega
    have Hs:(k:Int)<ws.length:=by omega
    have hwk:=hw ws[k] (abG aK);have C7:=zr ws hw k aK;have hle:(k+1)*10<=ws.length*10:=by omega
    have hYk:=hF ws[k] (abG aK);simp only[ae9,aaT,aaV] at hYk;have lr:(ao ws[k]).length=10:=by grind [ao]
    have h9:9<10+(amE (ws.drop (k+1))).length:=by omega
    have jF:(ao ws[k]++amE (ws.drop (k+1))).take 10=ao ws[k]:=by simp_all
    obtain⟨T,nx,g1,m1,x,aJ,ba,eO,t1,t5,t8,t9,t10⟩:=hG;rw[afe];refine wp_seq (wp_mono (piece (s:=⟨T,λ_=>none,λ_=>none,nx,24⟩) (mt:=λ_=>false) (Q':=λe s1=>e=.normal/\s1.n=24/\(∀τ,s1.lv τ=none)/\s1.T 1=.fn p l1 l2/\s1.T 5=.v x/\s1.T 8=.sq none 10 (amE ws)/\s1.T 9=.i .i64 ws.length/\s1.T 10=.i .i64 k/\s1.T 11=.b true) (λg=>L (base g)) mixed aJ ba (λ_=>rfl) (λ_=>rfl) O ?_ (λ_ _ h=>h.2.2.1) eO) ?_)
    ·repeat apply nI
     refine eI ait ?_;simp_all
    rintro e3 a3 w3 ⟨x3,⟨T,B3,lv,Yr,n⟩,g3,m3,he3,⟨rfl,U,N,t1,t5,t8,t9,t10,t11⟩,H,jG,Ai⟩;simp only at U N t1 t5 t8 t9 t10 t11;subst U;cases e3 <;>simp only[c8,Option.some.injEq,reduceCtorEq] at he3
    have M:lv=λ_=>none:=funext N
    subst M;have h11:a3.eval (.tmp 11)=.bool true:=HR H t11;refine wp_seq (ag1 h11 (wp_skip ?_));refine wp_seq (af6 ?_);have Hr:=H.mF (λ_=>rfl) (λ_=>rfl);simp only at Hr;refine wp_seq (wp_mono (fj (mt:=λ_=>false) (L (base g3)) mixed _ (λe s1=>e=.normal/\s1.n=24/\s1.T 1=.fn p l1 l2/\s1.T 5=.v x/\s1.T 8=.sq none 10 (amE ws)/\s1.T 9=.i .i64 ws.length/\s1.T 10=.i .i64 k/\(∀τ,s1.lv τ=none)/\∃id,s1.T 7=.bx id 0/\s1.B id=some (false,ao ws[k])) ⟨T,λ_=>none,λ_=>none,Yr,24⟩ a3 w3 ?_ ⟨g3,m3,Hr,jG⟩) ?_)
    ·repeat apply nI
     refine eI ait ?_;simp_all [ao]
    rintro e4 a4 w4 ⟨x4,⟨T,B4,lv,Q6,n⟩,he4,⟨rfl,TV,t1,t5,t8,t9,t10,hl4,id,t7,b7⟩,NN⟩;simp only at TV t1 t5 t8 t9 t10 hl4 t7 b7;subst TV;cases e4 <;>simp only[c8,Option.some.injEq,reduceCtorEq] at he4
    have M:lv=λ_=>none:=funext hl4
    subst M;refine iQ (tb:=bW p F a_) (mt:=λ_=>false) 4 (L (base g3)) (by decide) NN (λK Z=>?_);have htw:(ao ws[k]).take 10=ao ws[k]:=aa1 (by omega);simp[t1,t5,t7,b7,lr,hl1,hl2,htw,ab,hYk];refine Z _ (λg5 w5 m5 a5 d_ rK=>?_);have TP:=Ai.keep (dZ d_.keeps);have jm:=H.nF d_ O (λ_=>rfl);dsimp only at jm;have q14:a5.eval (.tmp 14)=x:=K8 jm (by simp);have q17:Rd g5 w5 (.sq none 1 ((Y ws[k]).map EA)) (a5.eval (.tmp 17)):=aqs jm (by simp) (by simp);have Oe:(ws.take (k+1)).flatMap Y=(ws.take k).flatMap Y++Y ws[k]:=by
     rw[aaN aK,aft]
     simp_all
    have qN:((ws.take k).flatMap Y).length+(Y ws[k]).length<=(ws.flatMap Y).length:=by
     grind [List.length_append,List.take_append_drop]
    obtain⟨x',w6,r1,r2,r3,r4,r5⟩:=Row.append (P:=P) (e:=eE.n) (ty:=eT.n) (ot:=eT.n) abL TP jm.wi jm.ext.size (by simp) (by simp) (by simp) q17 (.inl rfl) (by rw[show qM P eE.n=eB.n from by simp];grind) (λh=>by grind [JL]);show wpOps P _ _ [4,5] a5 w5;rw[wpOps_cons];refine aW rfl rfl (yM (ty:=eT.n) rfl (by rw[q14];exact r1) ?_);have jy:=jm.MW (λ_=>rfl) (λ_=>rfl) r2 r3 x.ownBlock (λb hb=>(TP.own.lt b hb).1) r5;have gR:=jy.iR (dst:=some 18) (λd hd=>by grind) (z:=.v x') (y:=x') (.cw (.v _) rfl) a5 rfl;have yX:=put_defers a5 (some 18) x' rK;rw[wpOps_cons];refine aW rfl rfl (i_ rfl ?_);have q18:(a5.put (some 18) x').eval (.tmp 18)=x':=K8 gR (by simp);show wpOps P _ _ [] ((a5.put (some 18) x').put (some 5) ((a5.put (some 18) x').eval (.tmp 18))) w6;rw[q18];have I:=gR.iR (dst:=some 5) (λd hd=>by grind) (z:=.v x') (y:=x') (.cw (.v _) rfl) _ rfl;have Ci:=put_defers _ (some 5) x' yX;refine dv ?_;generalize (Act.put (Act.put a5 (some 18) x') (some 5) x')=a8 at I Ci;rw[<-Oe] at r4;simp only[Exit.inBlock];have I:=(I.nx (Q6+6)).sub (fr':=λj=>Q6+6<=j) (λj hj=>by omega);dsimp only[sI] at I;generalize Je:(Lo (Lo _ 18 (AV.v x')) 5 (AV.v x'):Nat->AV)=T8 at I;have u1:T8 1=.fn p l1 l2:=by rw[<-Je];simp[t1]
    have u5:T8 5=.v x':=by rw[<-Je];simp
    have u8:T8 8=.sq none 10 (amE ws):=by rw[<-Je];simp[t8]
    have u9:T8 9=.i .i64 ws.length:=by rw[<-Je];simp[t9]
    have u10:T8 10=.i .i64 k:=by rw[<-Je];simp[t10]
    clear Je Z;have UO:=aS ((k:Int)+1);refine wp_mono (piece (s:=⟨T8,λ_=>none,λ_=>none,Q6+6,24⟩) (mt:=λ_=>false) (Q':=λe s1=>e=.normal/\s1.n=24/\(∀τ,s1.lv τ=none)/\s1.T 1=.fn p l1 l2/\s1.T 5=.v x'/\s1.T 8=.sq none 10 (amE ws)/\s1.T 9=.i .i64 ws.length/\s1.T 10=.i .i64 ((k+1:Nat):Int)) (λg=>L (base g)) mixed I Ci (λ_=>rfl) (λ_=>rfl) O ?_ (λ_ _ h=>h.2.2.1) r4) ?_
    ·repeat apply nI
     refine eI ait ?_;simp_all
    rintro e9 a9 w9 ⟨x9,⟨T,B9,lv,nx9,n⟩,g9,m9,he9,⟨rfl,hn9,hl9,t1,t5,t8,t9,t10⟩,J,EU,NS⟩;simp only at hn9 hl9 t1 t5 t8 t9 t10;subst hn9;cases e9 <;>simp only[c8,Option.some.injEq,reduceCtorEq] at he9
    have M:lv=λ_=>none:=funext hl9
    subst M;exact ihd (k+1) a9 w9 (by omega) ⟨T,nx9,g9,m9,x',J,EU,NS,t1,t5,t8,t9,t10⟩
  case fin=>
   rintro e7 a7 w7 ⟨rfl,T,nx,g7,m7,x,gR,yX,TO,t1,t5,-,-,-⟩;simp only[Exit.inBlock,acC];rw[aeo] at TO;refine wp_seq ?_;have Hr:=gR.mF (λ_=>rfl) (λ_=>rfl);refine iQ (s:=⟨T,λ_=>none,λ_=>none,nx,24⟩) (tb:=bW p F a_) (mt:=λ_=>false) 1 (L (base g7)) (by decide) ⟨g7,m7,Hr,yX⟩ (λK Z=>?_);simp[t5];refine Z _ (λg8 w8 m8 a8 I Ci=>?_);have TN:=TO.keep (dZ I.keeps);have I:=gR.nF I O (λ_=>rfl);dsimp only at I;have q20:a8.eval (.tmp 20)=x:=K8 I (by simp);show wpOps P _ _ [1] a8 w8;rw[wpOps_cons];refine aW rfl rfl (rp (f:=eS.n) (xs:= #[x]) rfl rfl (by first|exact(aR Tryz.func131:aqQ P 131)|exact(aR Tryz.func150:aqQ P 150)|exact(aR Tryz.func172:aqQ P 172)) (by simp_all) ?_);refine(hS _ g8 w8 x I.wi TN).mono ?_;rintro en w9 ⟨rfl,k1,k2,NS,k4⟩;refine⟨_,rfl,dv ?_⟩;have J:=(I.MW (λ_=>rfl) (λ_=>rfl) k1 k2 x.ownBlock (λb hb=>(TN.own.lt b hb).1) k4).iR (dst:=some 21) (λd hd=>by grind) (z:=.tu []) (y:=.tuple #[]) (.cw (.tu [] [] rfl (λj a y h=>by simp at h)) rfl) a8 rfl;have EU:=put_defers a8 (some 21) (.tuple #[]) Ci;show Code.wp P _ _ (a8.put (some 21) (.tuple #[])) w9;generalize (a8.put (some 21) (.tuple #[]))=a9 at J EU;have J:=(J.nx (nx+2)).sub (fr':=λj=>nx+2<=j) (λj hj=>by omega);dsimp only[sI] at J;generalize hT9:(Lo (Lo T 20 (AV.v x)) 21 (AV.tu []):Nat->AV)=T9 at J;have u5:T9 5=.v x:=by rw[<-hT9];simp[t5]
   clear hT9 Z;refine wp_seq ?_;have Hr:=J.mF (λ_=>rfl) (λ_=>rfl);refine iQ (s:=⟨T9,λ_=>none,λ_=>none,nx+2,24⟩) (tb:=bW p F a_) (mt:=λ_=>false) 1 (L (base g8)) (by decide) ⟨g8,m8,Hr,EU⟩ (λK Z=>?_);simp[u5];refine Z _ (λg10 Qo ZG JD W rL=>?_);have NU:=NS.keep (dZ W.keeps);have W:=J.nF W O (λ_=>rfl);dsimp only at W;have q22:JD.eval (.tmp 22)=x:=K8 W (by simp);show wpOps P _ _ [1,2] JD Qo;rw[wpOps_cons];refine aW rfl rfl (rp (f:=eC.n) (xs:= #[x]) rfl rfl (by first|exact(aR Tryz.func132:aqQ P 132)|exact(aR Tryz.func151:aqQ P 151)|exact(aR Tryz.func173:aqQ P 173)) (by simp_all) ?_);refine(hC _ g10 Qo x W.wi NU).mono ?_;rintro en Tm ⟨y,rfl,k1,k2,xp,hyx,k4⟩;refine⟨_,rfl,?_⟩;have uF:=(W.MW (λ_=>rfl) (λ_=>rfl) k1 k2 x.ownBlock (λb hb=>(NU.own.lt b hb).1) k4).iR (dst:=some 23) (λd hd=>by grind) (z:=.v y) (y:=y) (.cw (.v _) rfl) JD rfl;have EZ:=put_defers JD (some 23) y rL;rw[wpOps_cons];refine aW rfl rfl (i_ (x:=.tmp 23) rfl ?_);show wpOps P _ _ [] ((JD.put (some 23) y).put (some 4) ((JD.put (some 23) y).eval (.tmp 23))) Tm;rw[K8 uF (t:=23) (x:=y) (by simp)];have jo:=uF.iR (dst:=some 4) (λd hd=>by grind) (z:=.v y) (y:=y) (.cw (.v _) rfl) _ rfl;have Av:=put_defers _ (some 4) y EZ;refine dv ?_;generalize (Act.put (Act.put JD (some 23) y) (some 4) y)=a12 at jo Av;have q4:a12.tmps.getD 4 undef=y:=K8 jo (t:=4) (x:=y) (by simp);refine wp_ret ?_
   let gF:Gh:= { g10 with hw:=λb=>if y.ownBlock=some b then q.length else g10.hw b }
   have hE:Lw g10 gF Tm Tm:=⟨aax _,λb=>by
    show g10.hw b<=if y.ownBlock=some b then q.length else g10.hw b
    split
    ·rename_i h;rw[(xp.loose b h).1];exact aet _
    omega,λ_ _ _=>rfl,λ_ _ h=>h,rfl,rfl,rfl,λ_ _ h _=>h⟩
   have hWF:WI gF Tm:=⟨λb hb=>⟨by
    show(if y.ownBlock=some b then q.length else g10.hw b)=0;rw[aat (λh=>by have:=(xp.own.lt b h).2;omega)];exact(k2.out b hb).1,(k2.out b hb).2⟩,λb d hd=>by
     obtain⟨es,ck,h1,h2⟩:=k2.aD b d hd;exact⟨es,ck,h1,λy hy=>by obtain⟨a,k1,k2⟩:=h2 y hy;exact⟨a,k1,k2.mono hE⟩⟩,k2.cz.mono hE⟩
   have gf:Rd gF Tm (.sq none 1 (q.map EA)) y:=xp.rd abL λc hc=>by grind
   have hKF:anw g0 gF w Tm:=⟨jo.keeps.1,λb hb=>by
    show(if y.ownBlock=some b then q.length else g10.hw b)=_;rw[aat (λh=>by have:=(xp.own.lt b h).1;omega)];exact jo.keeps.2 b hb,jo.keeps.3⟩
   refine⟨Av,y,?_,y,gF,rfl,As (jo.ext.trans hE),hWF,N4 hKF,gf,g10,xp⟩
   simp_all [cX,ey]
theorem Ld(l:List UInt8)(hl:l.length<=1):CY P 151 5 (λc:UInt8=>Value.int .u8 c.toNat) l l:=by
 intro B g w x hW E;have h1:Calls P 151 #[x] w λp w'=>p=.returned x/\w'=w:=by
  rcases lV E with ⟨rfl,_⟩|⟨b,cap,rfl,_,_,_⟩
  ·go_enter (lf (P:=P) Tryz.func151),Tryz.ntmps151;go_wp2
   go_ret
   simp_all
  ·have:(l.length:Int)<2:=by omega
   go_enter (lf (P:=P) Tryz.func151),Tryz.ntmps151;go_wp2
   go_ret
   simp_all
 refine h1.mono ?_;rintro p w' ⟨rfl,rfl⟩;exact⟨_,rfl,.refl _ _,hW,E,λc hc=>hc,λ_ _ _=>rfl⟩
theorem qE{f:FuncId}{args:List AV}{res:List AV}{R:Nat->World->Value->Prop}(h:∀g w ys,WI g w->cS g w args ys->Calls P f ys.toArray w λe w'=>∃y g',e=.returned y/\Lw g g' w w'/\WI g' w'/\anw g g' w w'/\Rd g' w' (.sq none 1 res) y/\R w.heap.size w' y):aq P f args (.sq none 1 res):=λg w ys hW hr=>
 (h g w ys hW hr).mono λ_ _ ⟨y,g',h1,h2,H,E,p,_⟩=>⟨y,g',h1,h2,H,E,p,trivial⟩
theorem lu(ws:List (List UInt8))(hw:∀w∈ws,w.length=10)(hn:ws.length<100000000)(Y:List UInt8->List Int)(p:FuncId)(l1 l2:List AV)(E:Enters P p)(hl1:l1.map AV.strip=l1)(hl2:l2.map AV.strip=l2)
  (H:∀w∈ws,aq P p (l1++ [.ag (ao w)]++l2) (ints (Y w))) (hb:(ws.flatMap Y).length<=4000000000000):aq P 76 [.sq none 10 (amE ws),.fn p l1 l2] (ints (uI (ws.flatMap Y))):=
 qE (R:=λn w y=>∃g2,Row n 3 g2 w y _) (mP (.inl ⟨rfl,rfl,rfl,rfl,rfl,rfl⟩) (λ_ a=>⟨a,rfl⟩) se ⟨⟩ ⟨⟩ ⟨⟩ ⟨⟩ ⟨⟩ ws hw hn Y p l1 l2 E hl1 hl2 H hb (zD _ (by omega)) (FA _ (by grind [List.length_mergeSort])))
theorem Fc(ws:List (List UInt8))(hw:∀w∈ws,w.length=10)(hn:ws.length<100000000)(Y:List UInt8->List (List UInt8))(p:FuncId)(l1 l2:List AV)(E:Enters P p)(hl1:l1.map AV.strip=l1)(hl2:l2.map AV.strip=l2)
  (H:∀w∈ws,aq P p (l1++ [.ag (ao w)]++l2) (strs (Y w))) (hb:(ws.flatMap Y).length<=4000000000000):aq P 140 [.sq none 10 (amE ws),.fn p l1 l2] (strs (uS (ws.flatMap Y))):=
 qE (R:=λn w y=>∃g2,Row n 9 g2 w y _) (mP (.inr (.inr ⟨rfl,rfl,rfl,rfl,rfl,rfl⟩)) (λh=>absurd h (by decide)) Jr ⟨⟩ ⟨⟩ ⟨⟩ ⟨⟩ ⟨⟩ ws hw hn Y p l1 l2 E hl1 hl2 H hb (J0 _ (by omega)) (Pb _ (by grind [List.length_mergeSort])))
theorem Fe(ws:List (List UInt8))(hw:∀w∈ws,w.length=10)(hn:ws.length<100000000)(Y:List UInt8->List UInt8)(p:FuncId)(l1 l2:List AV)(E:Enters P p)(hl1:l1.map AV.strip=l1)(hl2:l2.map AV.strip=l2)
  (H:∀w∈ws,aq P p (l1++ [.ag (ao w)]++l2) (.sq none 1 (ao (Y w)))) (hb:(ws.flatMap Y).length<=1):aq P 105 [.sq none 10 (amE ws),.fn p l1 l2] (.sq none 1 (ao (ws.flatMap Y))):=
 qE (R:=λn w y=>∃g2,Row n 5 g2 w y _) (mP (.inr (.inl ⟨rfl,rfl,rfl,rfl,rfl,rfl⟩)) (λh=>absurd h (by decide)) CB ⟨⟩ ⟨⟩ ⟨⟩ ⟨⟩ ⟨⟩ ws hw hn Y p l1 l2 E hl1 hl2 H (by omega) (J1 _ hb) (Ld _ hb))
end
@[simp] abbrev aiG:List Nat:=[0,1,2,4,5,6,7,8,19]
structure j9(h:ay):Prop where
 L:h.L.length<1000000
 S:h.S.length<1000000
 R:h.R.length<1000000
 n:h.alike.length<1000000
 a:∀s∈h.alike,s.length<1000000
 m:h.tags.length<1000000
 t:∀t∈h.tags,t.reads.length<1000000
theorem ij{h:ay}{bs:List Int}(ho:bJ h bs=0):aO h=0/\bN bs=0/\aB h≠ []:=by
 grind [bJ]
theorem jc{h:ay}(hc:aO h=0):(aB h).length<100000000:=by
 have:=nC h (dO h hc).L (dO h hc).S;omega
theorem cI{h:ay}(hc:aO h=0):∀w∈aB h,w.length=10:=λw hw=>j_ h (dO h hc).L w hw
theorem fI{h:ay}(hc:aO h=0)(Y:List UInt8->List Int)(p:∀w∈aB h,(Y w).length<=161051):((aB h).flatMap Y).length<=4000000000000:=by
 have h1:=nC h (dO h hc).L (dO h hc).S;have h2:=rU Y 161051 (aB h) p;omega
theorem mI(h:ay)(w s:List UInt8)(hs:s.length<=5):((bf h w s (-1) 0 false).map (·.1)).length<=161051:=by
 rw[abz];refine aaY (ll h w s (-1) 0 false) ?_;exact aaY (aef (by omega) hs) (by decide)
theorem kz(h:ay)(w:List UInt8)(t:Tag)(hs:t.reads.length<=5):((cF h w t).map (·.1)).length<=161051:=by
 have h1:=mI h w t.reads hs;rw[abz] at h1 ⊢;exact aaY (ael _ _) h1
theorem qW{h:ay}(hc:aO h=0){t:Tag}(ht:t∈h.tags):t.reads.length<=5:=oE _ (checked h hc).2.2.2 t ht
def f_(h:ay)(s:List UInt8):List Int:=uI ((aB h).flatMap λw=>(bf h w s (-1) 0 false).map (·.1))
def dP(h:ay)(i:Int):List Int:=match h.tags[i.toNat]? with
 |some t=>uI ((aB h).flatMap λw=>(cF h w t).map (·.1))
 |none=> []
def bK{α:Type}(h:ay)(bs:List Int)(x y:α):α:=if bJ h bs≠0 then y else x
section
variable{P:Program}[l:cL P]
omit l in
theorem aq.ZE{f:FuncId}{x:AV}{k:Nat}{res:AV}(h:aq P f [x,.sq none k []] res):aq P f [x,.sq none 0 []] res:=by
 intro g w ys hW hr;obtain⟨y,H,rfl,h1,h2⟩:=hr.dX;obtain⟨z,ys2,rfl,E,p⟩:=h2.dX;cases p.nE;refine h g w _ hW (.cons h1 (.cons ?_ (.nil g w)));cases E with
 |nil=>exact .nil _ _
 |sq _ _ _ b o n m ys h0=>omega
theorem apw(h:ay)(hm:j9 h):∃F:List AV->Option AV,Den P 74 F/\F [.ag (o6 h),.sq none 0 []]=some (bZ h []):=
 ca (aq.ZE (k:=1) (by simpa using wT h [] hm.L hm.S hm.R hm.n hm.a hm.m hm.t (by simp)))
theorem kA(h:ay)(hm:j9 h)(bs:List Int)(hb:bs.length<1000000):∃F:List AV->Option AV,Den P 74 F/\F [.ag (o6 h),.sq none 1 (bs.map (.i .i64))]=some (bZ h bs):=ca (wT h bs hm.L hm.S hm.R hm.n hm.a hm.m hm.t hb)
theorem Gg(h:ay)(hm:j9 h):aq P 36 [.ag (o6 h)] (.tu [.i .i64 (bK h [] ((aB h).length:Int) 0),.i .i64 (bJ h [])]):=by
 obtain⟨A,H,p⟩:=apw (P:=P) h hm;simp only[o6] at p;refine fi (ak (aR Tryz.func74) H (au P)) (lf Tryz.func36) ?_;by_cases ho:bJ h []=0
 ·have hr:bZ h []=opened h:=by grind [bZ]
  rw[hr] at p;simp only[opened,aj,o6,aaT,aaV] at p;have hlen:(amE (aB h)).length=(aB h).length*10:=by rw[fy _ (cI (ij ho).1)];omega
  repeat' first|apply nI|(refine eI [0,1,2,3,5,6] λK E=>?_;simp[o6,ab,p,hlen];apply E)
  simp_all [Dn,dc,aH,bK]
 ·have hr:bZ h []=cG (bJ h []):=by grind [bZ]
  rw[hr] at p;simp only[cG,dQ] at p
  repeat' first|apply nI|(refine eI [0,1,2,3,5,6] λK E=>?_;simp[o6,ab,p];apply E)
  simp_all [Dn,dc,aH,bK]
theorem wR(h:ay)(hm:j9 h)(i:Int):aq P 18 [.ag (o6 h),.i .i64 i] (.tu [ints (bK h [iN h i] (dP h i) []),.i .i64 (bJ h [iN h i])]):=by
 obtain⟨A,L,p⟩:=kA (P:=P) h hm [iN h i] (by simp);obtain⟨B,J,H⟩:=ca (Dw (P:=P) h i hm.m);simp only[o6,List.map_cons,List.map_nil] at p;simp only[eG,o6] at H;by_cases ho:bJ h [iN h i]=0
 ·have hr:bZ h [iN h i]=opened h:=by grind [bZ]
  rw[hr] at p;simp only[opened,aj,o6,aaT,aaV] at p;obtain⟨hc,fM,_⟩:=ij ho;have W:0<=i/\i<h.tags.length:=by
   refine aaO λhn=>?_
   grind [iN,bN]
  have I:i.toNat<h.tags.length:=by omega
  have U:(i.toNat:Int)=i:=by omega
  have N:aq P 76 [.sq none 10 (amE (aB h)),.fn 77 [.ag (dh h [] i)] []] (ints (dP h i)):=by
   have e:dP h i=uI ((aB h).flatMap λw=>(cF h w h.tags[i.toNat]).map (·.1)):=by
    unfold dP;simp_all
   rw[e];refine lu (aB h) (cI hc) (jc hc) _ 77 [.ag (dh h [] i)] [] (aR Tryz.func77) (by simp) rfl (λw hw=>?_) (fI hc _ λw hw=>kz h w _ (qW hc (abG I)));have:=wQ (P:=P) h w [] i.toNat h.tags[i.toNat] (aaf I) (cI hc w hw) (dO h hc).al (aaY (qW hc (abG I)) (by decide));rw[U] at this;exact this
  obtain⟨C,O,hC⟩:=ca N;simp only[dh,aj,o6,aaT,aaV,ints] at hC;refine fi (ak (aR Tryz.func74) L (ak (aR Tryz.func75) J (ak (aR Tryz.func76) O (au P)))) (lf Tryz.func18) ?_
  repeat' first|apply nI|(refine eI [0,1,2,4,5,6,7,8,20] λK E=>?_;simp[o6,ab,az,p,H,hC,bne];apply E)
  simp_all [Dn,dc,aH,bK,ints]
 ·have hr:bZ h [iN h i]=cG (bJ h [iN h i]):=by grind [bZ]
  rw[hr] at p;simp only[cG,dQ] at p;have M:(bJ h [iN h i]==0)=false:=by grind
  refine fi (ak (aR Tryz.func74) L (ak (aR Tryz.func75) J (au P))) (lf Tryz.func18) ?_
  repeat' first|apply nI|(refine eI [0,1,2,4,5,6,7,8,20] λK E=>?_;simp[o6,ab,az,p,H,bne,M];apply E)
  simp_all [Dn,dc,aH,bK,ints]
theorem zX(h:ay)(hm:j9 h)(s:List UInt8)(hs:s.length<1000000):aq P 21 [.ag (o6 h),.s s] (.tu [ints (bK h [aM s] (f_ h s) []),.i .i64 (bJ h [aM s])]):=by
 obtain⟨A,J,p⟩:=kA (P:=P) h hm [aM s] (by simp);obtain⟨B,I,H⟩:=ca (zK (P:=P) s hs);simp only[o6,List.map_cons,List.map_nil] at p;by_cases ho:bJ h [aM s]=0
 ·have hr:bZ h [aM s]=opened h:=by grind [bZ]
  rw[hr] at p;simp only[opened,aj,o6,aaT,aaV] at p;obtain⟨hc,fM,_⟩:=ij ho;have L:s.length<=5:=by
   refine aaO λhn=>?_
   grind [aM,bN]
  have N:aq P 76 [.sq none 10 (amE (aB h)),.fn 82 [.ag (dh h s 0)] []] (ints (f_ h s)):=by
   refine lu (aB h) (cI hc) (jc hc) _ 82 [.ag (dh h s 0)] [] (aR Tryz.func82) (by simp) rfl (λw hw=>?_) (fI hc _ λw hw=>mI h w s L);exact ru (P:=P) h w s 0 (cI hc w hw) (dO h hc).al (aaY L (by decide))
  obtain⟨C,O,hC⟩:=ca N;simp only[dh,aj,o6,aaT,aaV,ints] at hC;refine fi (ak (aR Tryz.func74) J (ak (aR Tryz.func81) I (ak (aR Tryz.func76) O (au P)))) (lf Tryz.func21) ?_
  repeat' first|apply nI|(refine eI aiG λK E=>?_;simp[o6,ab,az,p,H,hC,bne];apply E)
  simp_all [Dn,dc,aH,bK,ints]
 ·have hr:bZ h [aM s]=cG (bJ h [aM s]):=by grind [bZ]
  rw[hr] at p;simp only[cG,dQ] at p;have M:(bJ h [aM s]==0)=false:=by grind
  refine fi (ak (aR Tryz.func74) J (ak (aR Tryz.func81) I (au P))) (lf Tryz.func21) ?_
  repeat' first|apply nI|(refine eI aiG λK E=>?_;simp[o6,ab,az,p,H,bne,M];apply E)
  simp_all [Dn,dc,aH,bK,ints]
end
end Go.Proofs.YtjagmhagphbfcaaGreatDoor
