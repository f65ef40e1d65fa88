/- Lemmas, part 31. -/
import Derived.Test.YtjagmhagphbfcaaGreatDoorR30
set_option maxRecDepth 100000
set_option linter.all false
namespace Go.Proofs.YtjagmhagphbfcaaGreatDoor
open Go Go.Proofs
theorem aqN:∀(L S p:List UInt8),S.Perm p->∀w,w∈e_ L S->w∈e_ L p
 | [],_,_,_,w,h=>h
 |c::L,S,p,hp,w,h=>by
  unfold e_ at h ⊢;split at h
  ·rename_i hc;rw[aay hc];simp only[aeQ,ac4,aeh] at h ⊢;obtain⟨k,hk,v,hv,rfl⟩:=h;have H:=nH S k hk;have hm:S.getD k 0∈p:=hp.mem_iff.1 (H.mem_iff.1 (by simp));obtain⟨j,E,e⟩:=List.mem_iff_getElem.1 hm;have e':p.getD j 0=S.getD k 0:=by rw[<-e];simp[List.getD,aaf E]
   have p2:=nH p j E;rw[e'] at p2;exact⟨j,E,v,aqN L _ _ ((List.perm_cons _).1 (H.trans (hp.trans p2.symm))) v hv,by rw[e']⟩
  ·rename_i hc;rw[aat hc];simp only[ac4] at h ⊢;obtain⟨v,hv,rfl⟩:=h;exact⟨v,aqN L S p hp v hv,rfl⟩
structure Tw(h k:ay):Prop where
 L:k.L=h.L
 R:k.R=h.R
 S:k.S.Perm h.S
 al:∀r c,fK k r c=fK h r c
 tags:k.tags=h.tags.reverse
theorem Tw.symm{h k:ay}(t:Tw h k):Tw k h:=⟨t.L.symm,t.R.symm,t.S.symm,λr c=>(t.al r c).symm,by rw[t.tags,List.reverse_reverse]⟩
theorem arJ{h k:ay}(hr:k.R=h.R)(ha:∀r c,fK k r c=fK h r c)(w:List UInt8):∀(s:List UInt8) (last n:Int) (b:Bool),bf k w s last n b=bf h w s last n b
 | [],_,_,_=>rfl
 |r::s,last,n,b=>by
  have p:=arJ hr ha w s;simp only[bf,p,ha,hr]
theorem arn{h k:ay}(hr:k.R=h.R)(ha:∀r c,fK k r c=fK h r c)(w:List UInt8)(t:Tag):cF k w t=cF h w t:=by
 unfold cF;rw[arJ hr ha]
theorem aso{x:ay}{w:List UInt8} :w∈aB x↔w∈e_ x.L x.S/\∀t∈x.tags,cF x w t≠ []:=by
 unfold aB Az;rw[afJ,acp];simp
theorem arl{h k:ay}(hl:k.L=h.L)(hr:k.R=h.R)(hs:k.S.Perm h.S)(ha:∀r c,fK k r c=fK h r c)(ht:∀t,t∈h.tags->t∈k.tags){w:List UInt8}(hw:w∈aB k):w∈aB h:=by
 rw[aso] at hw ⊢;refine⟨?_,λt h1=>?_⟩
 ·rw[<-hl];exact aqN _ _ _ hs w hw.1
 ·rw[<-arn hr ha];exact hw.2 t (ht t h1)
theorem Tw.words{h k:ay}(t:Tw h k)(w:List UInt8):w∈aB k↔w∈aB h:=
 ⟨arl t.L t.R t.S t.al λu hu=>by rw[t.tags];simpa using hu,arl t.symm.L t.symm.R t.symm.S t.symm.al λu hu=>by rw[t.tags] at hu;simpa using hu⟩
theorem Tw.nil{h k:ay}(t:Tw h k):aB k= []↔aB h= []:=by
 simp only[List.eq_nil_iff_forall_not_mem,t.words]
theorem Tw.len{h k:ay}(t:Tw h k)(hc:aO h=0)(kc:aO k=0):(aB k).length=(aB h).length:=
 ((List.perm_ext_iff_of_nodup (aq6 kc) (aq6 hc)).2 λw=>t.words w).length_eq
theorem ass{l m:List UInt8}(h:∀x,x∈l↔x∈m):uB l=uB m:=
 nP arB (ua arB l) (ua arB m) λx=>(lW l x).trans ((h x).trans (lW m x).symm)
theorem Tw.atb{h k:ay}(t:Tw h k)(d:Int):n6 k d=n6 h d:=by
 unfold n6;refine ass λx=>?_
 simp only[aeQ,t.words]
theorem atn{h k:ay}(t:Tw h k){i:Nat}(hi:i<h.tags.length):k.tags[h.tags.length-1-i]?=h.tags[i]?:=by
 rw[t.tags,List.getElem?_reverse (by omega)];congr 1;omega
theorem Tw.atB{h k:ay}(t:Tw h k){i:Nat}(hi:i<h.tags.length):dP k ((h.tags.length-1-i:Nat):Int)=dP h i:=by
 unfold dP;rw[Int.toNat_natCast,Int.toNat_natCast,atn t hi,aaf hi];refine apf λx=>?_
 simp only[aeQ,t.words,arn t.R t.al]
theorem Tw.auc{h k:ay}(t:Tw h k){i:Nat}(hi:i<h.tags.length):vE k ((h.tags.length-1-i:Nat):Int)=vE h i:=by
 unfold vE;rw[Int.toNat_natCast,Int.toNat_natCast,atn t hi,aaf hi];have hm:∀x,x∈allM k h.tags[i] (aB k)↔x∈allM h h.tags[i] (aB h):=λx=>by
  unfold allM;simp only[aeQ,t.words,arn t.R t.al]
 have ha:∀p:Int×Bool->Bool,(allM k h.tags[i] (aB k)).any p=(allM h h.tags[i] (aB h)).any p:=λp=>by
  rw[adX,afl,afl];simp only[hm]
 simp only[VC,ha]
theorem asb(p:Nat->Bool):∀n,∃m:Nat,∀i<n,m.testBit i=p i
 |0=>⟨0,λi hi=>by omega⟩
 |n+1=>by
  obtain⟨m,hm⟩:=asb p n;by_cases hb:m.testBit n=p n
  ·refine⟨m,λi hi=>?_⟩;by_cases e:i=n
   ·rw[e];exact hb
   ·exact hm i (by omega)
  ·refine⟨2^n+m,λi hi=>?_⟩;by_cases e:i=n
   ·subst e;rw[Nat.testBit_two_pow_add_eq]
    revert hb;cases m.testBit i <;>cases p i <;>simp
   ·rw[Nat.testBit_two_pow_add_gt (by omega)];exact hm i (by omega)
theorem arx{ts:List Tag}{m:Nat}{u:Tag} :u∈fD ts m↔∃i,m.testBit i=true/\ts[i]?=some u:=by
 unfold fD pF;simp only[ac4,afJ,List.mem_zipIdx_iff_getElem?];constructor
 ·rintro⟨p,⟨h1,h2⟩,rfl⟩;exact⟨p.2,h2,h1⟩
 ·rintro⟨i,h1,h2⟩;exact⟨(u,i),⟨h2,h1⟩,rfl⟩
theorem asp(ts:List Tag)(m:Nat):∃m',(∀u,u∈fD ts m↔u∈fD ts.reverse m')/\(cv ts.reverse m').length=(cv ts m).length:=by
 obtain⟨m',hm⟩:=asb (λi=>decide (i<ts.length)&&m.testBit (ts.length-1-i)) (ts.length+0);refine⟨m',λu=>?_,?_⟩
 ·rw[arx,arx];constructor
  ·rintro⟨i,h1,h2⟩;have hi:=(abi.1 h2).1;refine⟨ts.length-1-i,?_,?_⟩
   ·rw[hm _ (by omega),show ts.length-1-(ts.length-1-i)=i by omega,h1];simp;omega
   ·rw[List.getElem?_reverse (by omega),show ts.length-1-(ts.length-1-i)=i by omega,h2]
  ·rintro⟨i,h1,h2⟩;have hi:=(abi.1 h2).1;rw[List.length_reverse] at hi;rw[hm _ (by omega),aaZ] at h1;rw[List.getElem?_reverse hi] at h2;exact⟨_,h1.2,h2⟩
 ·rw[akW,akW,abz,abz,List.length_reverse];have h1:(List.range ts.length).filter m'.testBit=(List.range ts.length).filter (m.testBit∘λi=>ts.length-1-i):=List.filter_congr λi hi=>by
   have:=aeh.1 hi;rw[hm i (by omega)];simp[this]
  have h2:(List.range ts.length).map (λi=>ts.length-1-i)=(List.range ts.length).reverse:=by
   rw[afd,List.reverse_range'];simp[afd]
  rw[h1,<-List.length_map (f:=λi=>ts.length-1-i),<-List.filter_map,h2,List.filter_reverse,List.length_reverse]
theorem Tw.arX{h k:ay}(t:Tw h k):(qD k).length<=(qD h).length:=by
 by_cases hw:aB h= []
 ·have kw:=t.nil.2 hw;obtain⟨m,_,e,hm⟩:=alb hw;obtain⟨m',h1,h2⟩:=asp h.tags m;have hn:aB (wq k m')= []:=List.eq_nil_iff_forall_not_mem.2 λw p=>by
   have:w∈aB (wq h m):=arl (h:=wq h m) (k:=wq k m') t.L t.R t.S t.al (λu hu=>by
    show u∈fD k.tags m';rw[t.tags];exact(h1 u).1 hu) p
   rw[hm] at this;simp at this
  have:=alf kw m' hn;rw[t.tags] at this;rw[e,<-h2];simp only[akU,Bool.or_eq_false_iff,aac] at this;omega
 ·have kw:aB k≠ []:=λe=>hw (t.nil.1 e)
  unfold qD;rw[aay kw];simp
theorem Tw.clash{h k:ay}(t:Tw h k):(qD k).length=(qD h).length:=Nat.le_antisymm t.arX t.symm.arX
def aqz(s:List UInt8):List UInt8:=s.drop 1++s.take 1
def b9(h:ay):ay:= { h with S:=h.S.reverse,alike:=(h.alike.map aqz).reverse,tags:=h.tags.reverse }
theorem aqZ{s:List UInt8}(h:s.length=2):∃x y,s= [x,y]:=by
 match s,h with
 | [x,y],_=>exact⟨x,y,rfl⟩
theorem as4(h:ay)(hp:∀s∈h.alike,s.length=2):Tw h (b9 h):=by
 refine⟨rfl,rfl,List.reverse_perm _,λr c=>?_,rfl⟩;unfold fK;congr 1;show((h.alike.map aqz).reverse).any (vF r c)=_;rw[List.any_reverse,List.any_map,adX,afl,afl];have:∀s∈h.alike,(vF r c∘aqz) s=vF r c s:=λs hs=>by
  obtain⟨x,y,rfl⟩:=aqZ (hp s hs);simp only[Function.comp,aqz,vF,afs,List.drop_zero,List.take_succ_cons,List.take_zero,aaT,aaV];show(some y==some r&&some x==some c||some y==some c&&some x==some r)=(some x==some r&&some y==some c||some x==some c&&some y==some r)
  rw[Bool.or_comm,Bool.and_comm (some y==some c),Bool.and_comm (some y==some r)]
 constructor
 ·rintro⟨s,h1,h2⟩;exact⟨s,h1,this s h1▸h2⟩
 ·rintro⟨s,h1,h2⟩;exact⟨s,h1,(this s h1).symm▸h2⟩
def asP(s:List UInt8):Prop:=s.length=2/\bA s 65=true/\s[0]?≠s[1]?
theorem asD(pre:List (List UInt8))(s:List UInt8):eR pre s=0↔asP s/\∀p∈pre,cP p s=false:=by
 unfold eR asP;split
 ·rename_i h;refine⟨λe=>absurd e (by decide),λ⟨⟨a,b,_⟩,_⟩=>?_⟩;rcases h with h|h
  ·exact absurd a h
  ·rw[b] at h;cases h
 ·rename_i h;simp only[not_or,Classical.not_not,Bool.not_eq_false] at h;split
  ·rename_i h2;exact⟨λe=>absurd e (by decide),λ⟨⟨_,_,c⟩,_⟩=>absurd h2 c⟩
  ·rename_i h2;split
   ·rename_i E;refine⟨λe=>absurd e (by decide),λ⟨_,c⟩=>?_⟩;obtain⟨p,H,p2⟩:=afl.1 E;rw[c p H] at p2;cases p2
   ·rename_i E;refine⟨λ_=>⟨⟨h.1,h.2,h2⟩,λp hp=>?_⟩,λ_=>rfl⟩;have:=ag8.1 (ahi _▸E) p hp;simpa using this
theorem aqK:∀(l pre:List (List UInt8)),cb pre l=0↔(∀s∈l,asP s/\∀p∈pre,cP p s=false)/\l.Pairwise (λa b=>cP a b=false)
 | [],pre=>by simp[cb]
 |s::l,pre=>by
  have E:=aqK l (pre++ [s]);have hp:=asD pre s;unfold cb;by_cases h0:eR pre s=0
  ·rw[aat (by simp[h0]),E];have h1:=hp.1 h0;rw[List.pairwise_cons];constructor
   ·rintro⟨a,b⟩;refine⟨λu hu=>?_,λu hu=>(a u hu).2 s (by simp),b⟩;rcases abZ.1 hu with rfl|hu
    ·exact h1
    ·exact⟨(a u hu).1,λp hp=>(a u hu).2 p (by simp[hp])⟩
   ·rintro⟨a,b,c⟩;refine⟨λu hu=>⟨(a u (by simp[hu])).1,λp hp=>?_⟩,c⟩;rcases abH.1 hp with hp|hp
    ·exact(a u (by simp[hu])).2 p hp
    ·rw[acE.1 hp];exact b u hu
  ·rw[aay h0];exact⟨λe=>absurd e h0,λ⟨a,_⟩=>absurd (hp.2 (a s (by simp))) h0⟩
theorem ar1{a b:List UInt8}(ha:a.length=2)(hb:b.length=2):cP (aqz b) (aqz a)=cP a b:=by
 obtain⟨x,y,rfl⟩:=aqZ ha;obtain⟨u,v,rfl⟩:=aqZ hb;show([v,u]== [y,x]||(some v==some x&&some u==some y))=([x,y]== [u,v]||(some x==some v&&some y==some u))
 rw[adX];simp only[adr,aaZ,ac6,abg,Option.some.injEq,abQ];constructor
 ·rintro(⟨rfl,rfl⟩|⟨rfl,rfl⟩)
  ·exact .inl ⟨rfl,rfl⟩
  ·exact .inr ⟨rfl,rfl⟩
 ·rintro(⟨rfl,rfl⟩|⟨rfl,rfl⟩)
  ·exact .inl ⟨rfl,rfl⟩
  ·exact .inr ⟨rfl,rfl⟩
theorem ary{a b:List UInt8}(c:UInt8)(h:a.Perm b):bA a c=bA b c:=by
 unfold bA;rw[adX,acp,acp];simp only[h.mem_iff]
theorem asU{a b:List UInt8}(h:a.Perm b):dup a=dup b:=by
 unfold dup;rw[adX,afl,afl];simp only[h.mem_iff,h.count_eq]
theorem ast{h:ay}(hc:aO h=0):aO (b9 h)=0:=by
 obtain⟨_,⟨U,hp⟩,O,ht⟩:=checked h hc;have hw:bB (b9 h)=bB h:=by
  have M:bA h.S.reverse 65=bA h.S 65:=ary 65 (List.reverse_perm _);have J:dup (h.L++h.S.reverse++h.R)=dup (h.L++h.S++h.R):=asU (((List.reverse_perm _).append_left _).append_right _);unfold bB b9;simp only[List.length_reverse,M,J]
 obtain⟨E,p2⟩:=(aqK _ _).1 hp;have ha:bj (b9 h).alike=0:=by
  unfold bj b9;simp only[List.length_reverse,abz];rw[aat (by omega),aqK];refine⟨λs hs=>?_,?_⟩
  ·simp only[List.mem_reverse,ac4] at hs;obtain⟨u,hu,rfl⟩:=hs;obtain⟨g1,g2,g3⟩:=(E u hu).1;obtain⟨x,y,rfl⟩:=aqZ g1;refine⟨⟨rfl,(ary 65 (List.Perm.swap x y [])).symm▸g2,λe=>g3 ?_⟩,λp hp=>by simp at hp⟩;have e:some y=some x:=e;show some x=some y;exact e.symm
  ·rw[List.pairwise_reverse,List.pairwise_map];exact p2.imp_of_mem fun {a b} ha hb I=>by rw[ar1 (E a ha).1.1 (E b hb).1.1];exact I
 have hg:cR (b9 h).tags=0:=alm _ λt h1=>alh _ ht t (by simpa[b9] using h1)
 have N:¬5<(b9 h).tags.length:=by simp only[b9,List.length_reverse];omega
 have H:bB h=0:=by
  rw[js] at hc;split at hc
  ·rename_i h1;exact absurd hc h1
  ·omega
 unfold aO;rw[hw,aat (by simp[H]),aat (by simp[ha]),aat N,hg]
section
variable{P:Program}[l:cL P]
end
section
variable{P:Program}[l:cL P]
end
section
variable{P:Program}[l:cL P]
end
section
variable{P:Program}[l:cL P]
end
section
variable{P:Program}[l:cL P]
end
section
variable{P:Program}[l:cL P]
end
theorem ao6{h:ay}(hc:aO h=0)(i:Int):(dP h i).length<100000000000000:=by
 unfold dP;split
 ·rename_i t ht;have h1:=anS (λw=>(cF h w t).map (·.1)) 161051 (aB h) λw _=>kz h w t (qW hc (List.mem_of_getElem? ht))
  have p:=sP hc;have E:(aB h).length*161051<=256*161051:=ab2 _ p;exact Nat.lt_of_le_of_lt (aaY (kX _) h1) (by omega)
 ·simp
section
variable{P:Program}[l:cL P]
end
@[simp] abbrev aqo:List Nat:=[0,1,2,3,6,7,8,9,10,11,12,13,14,15,16,17,18,19,20,21,22,23,24,25,26,27,28,29,32,43,61,87,167,171]
def aOk(a:AV)(l:List (List UInt8)):Prop:=(a=.sq none 0 []/\l= [])\/∃o,a=.sq (some o) 1 (l.map .s)
def atj(c:AV)(ts:List Tag):Prop:=(c=.sq none 0 []/\ts= [])\/∃o,c=.sq (some o) 3 (bI ts)
section
variable{P:Program}
theorem ase{f:FuncId}{rest:List AV}{res:AV}(k:ay){a c:AV}(ha:aOk a k.alike)(hc:atj c k.tags)(h:aq P f (.ag (o6 k)::rest) res):aq P f (.ag [.s k.L,.s k.S,.s k.R,a,c]::rest) res:=by
 have h1:aq P f (.ag ([.s k.L,.s k.S,.s k.R,.sq none 1 (k.alike.map .s)]++c:: [])::rest) res:=by
  rcases hc with ⟨rfl,e⟩|⟨o,rfl⟩
  ·refine aq.PJ (k:=3) ?_;have:o6 k= [.s k.L,.s k.S,.s k.R,.sq none 1 (k.alike.map .s)]++.sq none 3 []:: []:=by simp[o6,e,bI]
   rw[this] at h;exact h
  ·exact aq.FP h
 have h2:aq P f (.ag ([.s k.L,.s k.S,.s k.R]++.sq none 1 (k.alike.map .s):: [c])::rest) res:=h1;rcases ha with ⟨rfl,e⟩|⟨o,rfl⟩
 ·rw[e] at h2;exact aq.PJ (k:=1) h2
 ·exact aq.FP h2
theorem asQ{f:FuncId}{h k:ay}{r0 r1:List AV}{p x1:AV}(h0:aq P f (.ag (o6 h)::r0) p)(h1:aq P f (.ag (o6 k)::r1) x1):∃F:List AV->Option AV,Den P f F/\F (.ag (o6 h)::r0)=some p/\
  ∀a c,aOk a k.alike->atj c k.tags->F (.ag [.s k.L,.s k.S,.s k.R,a,c]::r1)=some x1:=by
 have E:∀a,aOk a k.alike->∀c,.ag (o6 h)::r0≠.ag [.s k.L,.s k.S,.s k.R,a,c]::r1:=by
  rintro a (⟨rfl,_⟩|⟨o,rfl⟩) c e <;>simp[o6] at e
 obtain⟨F,d,e⟩:=cC (P:=P) (f:=f) (ι:=Option (AV×AV)) (fun|none=>.ag (o6 h)::r0|some (a,c)=>.ag [.s k.L,.s k.S,.s k.R,a,c]::r1) (fun|none=>p|some _=>x1)
  (fun|none=>True|some (a,c)=>aOk a k.alike/\atj c k.tags) (λx y hx hy e=>by
   rcases x with _|⟨a,c⟩ <;>rcases y with _|⟨a',c'⟩
   ·rfl
   ·exact absurd e (E a' hy.1 c')
   ·exact absurd e.symm (E a hx.1 c)
   ·rfl) (λx hx=>by
   rcases x with _|⟨a,c⟩
   ·exact h0
   ·exact ase k hx.1 hx.2 h1)
 exact⟨F,d,e none trivial,λa c ha hc=>e (some (a,c)) ⟨ha,hc⟩⟩
theorem asd{h:ay}(hm:j9 h)(hp:∀s∈h.alike,s.length=2):j9 (b9 h):=
 ⟨hm.L,by simpa[b9] using hm.S,hm.R,by simpa[b9] using hm.n,λs hs=>by
  simp only[b9,List.mem_reverse,ac4] at hs;obtain⟨u,hu,rfl⟩:=hs;obtain⟨x,y,rfl⟩:=aqZ (hp u hu);simp[aqz],by simpa[b9] using hm.m,λt ht=>hm.t t (by simpa[b9] using ht)⟩
end
section
variable{P:Program}[l:cL P]
set_option maxHeartbeats 4000000 in
theorem arF(e17:Enters P 17)(Xl:aq P 17 [] (.b true))(h:ay)(b d:Int)(C6:0<=b)(hb:b<=255)(hd0:0<=d)(hd:d<=255):aq P 9 [eG h,.i .u8 b,.i .u8 d] (.b true):=by
 obtain⟨A,ad,Z⟩:=ca (Si (P:=P) h);obtain⟨T,td,hT⟩:=ca Xl;simp only[o6] at Z;have kN:=cV h.tags;cases hf:Fo h with
 |false=>
  rw[hf] at Z;refine fi (ak (aR Tryz.func30) ad (ak e17 td (au P))) (lf Tryz.func9) ?_
  repeat' first|apply nI|(refine eI aqo λK H=>?_;simp[eG,o6,ab,az,Z,hT];apply H)
  simp[Dn,aH,Tryz.f9]
 |true=>
 rw[hf] at Z;have hm:=K4 (OO hf);have hc:=Sj hf;have Rr:∀s∈h.alike,s.length=2:=λs hs=>(((aqK _ _).1 (checked h hc).2.1.2).1 s hs).1.1
 have hlS:h.S.length<=40:=(OO hf).S;have kc:=ast hc;have km:=asd hm Rr;have tw:=as4 h Rr;have ho:∀bs,bJ (b9 h) bs=bJ h bs:=λbs=>by
  unfold bJ;simp only[hc,kc,tw.nil]
 obtain⟨i,hi⟩:∃i:Nat,h.tags.length≠0->i<h.tags.length/\b.tmod h.tags.length=i:=by
  refine⟨b.toNat%h.tags.length,λh0=>⟨Nat.mod_lt _ (by omega),?_⟩⟩;rw[ae6 C6,Int.natCast_emod,Int.toNat_of_nonneg C6]
 obtain⟨J,vl⟩:∃x:Int,d.tmod 10=x:=⟨_,rfl⟩
 have c1:IntKind.i64.wrap b=b:=aS b;have c2:IntKind.i64.wrap d=d:=aS d;have e1:bK (b9 h) [] ((aB (b9 h)).length:Int) 0=bK h [] ((aB h).length:Int) 0:=by
  unfold bK;rw[ho,tw.len hc kc]
 have e2:bK (b9 h) [mT J] (n6 (b9 h) J) []=bK h [mT J] (n6 h J) []:=by
  unfold bK;rw[ho,tw.atb]
 have e3:tG h=.tu [ints (qD h),.i .i64 0]:=by simp[tG,hc]
 have e4:tG (b9 h)=.tu [ints (qD (b9 h)),.i .i64 0]:=by simp[tG,kc]
 have e5:=tw.clash;have YB:(b9 h).tags.length=h.tags.length:=by simp[b9]
 have g1:h.tags.length≠0->iN h i=0:=λh0=>by unfold iN;rw[aay (by have:=hi h0;omega)]
 have g2:h.tags.length≠0->iN (b9 h) ((h.tags.length-1-i:Nat):Int)=0:=λh0=>by unfold iN;rw[YB,aay (by have:=hi h0;omega)]
 obtain⟨W,wd,hW,Xa⟩:=asQ (Gg (P:=P) h hm) (Gg (P:=P) (b9 h) km);obtain⟨E,ed,hE,V⟩:=asQ (arc (P:=P) h hm J) (arc (P:=P) (b9 h) km J);obtain⟨C,cd,hC,Y⟩:=asQ (Le (P:=P) h hm) (Le (P:=P) (b9 h) km);obtain⟨R,rd,hR,hR'⟩:=asQ (wR (P:=P) h hm i) (wR (P:=P) (b9 h) km ((h.tags.length-1-i:Nat):Int));obtain⟨M,md,hM,hM'⟩:=asQ (Ec (P:=P) h hm i) (Ec (P:=P) (b9 h) km ((h.tags.length-1-i:Nat):Int));have sL:(bK h [0] (dP h i) []).length<100000000000000:=by
  unfold bK;split
  ·simp
  ·exact ao6 hc i
 obtain⟨X,xd,hX⟩:=ca (GK (P:=P) _ _ sL sL);rw[beq_self_eq_true] at hX;rw[ho,e1] at Xa;rw[ho,e2] at V;rw[e3] at hC;rw[e4] at Y;refine fi (ak (aR Tryz.func30) ad (ak e17 td (ak (aR Tryz.func36) wd (ak (aR Tryz.func46) ed (ak (aR Tryz.func35) cd (ak (aR Tryz.func18) rd (ak (aR Tryz.func26) md (ak (aR Tryz.func20) xd (au P))))))))) (lf Tryz.func9) ?_;have w0:IntKind.i64.wrap ((h.S.length:Int)-1)=(h.S.length:Int)-1:=aS _
 repeat' first|apply nI|(refine eI aqo λK H=>?_;simp[eG,o6,ab,az,Z,hT,w0];apply H)
 refine amF (λq T B lv nx=>∃i7,q<=h.S.length/\T 1=.i .u8 b/\T 2=.i .u8 d/\T 3=.sp (o6 h)/\T 8=.i .i64 ((q:Int)-1)/\T 7=.bx i7 0/\i7<nx/\B i7=some (false,[.s h.L,.s (h.S.drop q).reverse,.s h.R,.sq none 0 [],.sq none 0 []])) h.S.length ?_ ?_
 ·refine⟨_,by simp,by simp,by simp,by simp[o6],by simp,by simp;rfl,by simp,by simp⟩
 rintro q T B lv nx ⟨i7,hq,t1,t2,t3,t8,t7,hi7,I⟩;simp only[o6] at t3;by_cases hq0:0<q
 ·obtain⟨j,rfl⟩:∃j,q=j+1:=⟨q-1,by omega⟩
  have e8:((j+1:Nat):Int)-1=(j:Int):=by omega
  rw[e8] at t8;have w1:=aS ((j:Int)+1);have w2:=aS ((j:Int)-1);have U:(0:Int)<=j:=by omega
  have RE:(j:Int)+1<=h.S.length:=by omega
  have hj3:(0:Int)<=(j:Int)+1:=by omega
  have hj4:(j:Int)<=(j:Int)+1:=by omega
  have kD:(h.S.take (j+1)).drop j= [h.S[j]'(by omega)]:=by
   rw[aaN (by omega),List.drop_append_of_le_length (by rw[afk];omega),List.drop_of_length_le (by rw[afk];omega)];rfl
  have p:(h.S.drop j).reverse=(h.S.drop (j+1)).reverse++ [h.S[j]'(by omega)]:=by
   rw[aa4 (by omega),List.reverse_cons]
  generalize h.S[j]'(by omega)=c at kD p;have hlen:¬9223372036854775807<((h.S.length-(j+1):Nat):Int)+1:=by omega
  repeat' first|apply nI|(refine eI aqo λK H=>?_;simp[t1,t2,t3,t8,t7,I,o6,w1,w2,U,RE,hj3,hj4,kD,hlen];apply H)
  refine aN j ⟨i7,by omega,by simp[t1],by simp[t2],by simp[t3,o6],by simp,by simp[t7],by simp <;>omega,by simp[I,p]⟩
 have hq1:q=0:=by omega
 subst hq1;rw[List.drop_zero] at I;have RJ:¬(0:Int)<=((0:Nat):Int)-1:=by omega
 have F4:h.alike.length<=20:=(OO hf).na;have w3:IntKind.i64.wrap ((h.alike.length:Int)-1)=(h.alike.length:Int)-1:=aS _
 repeat' first|apply nI|(refine eI aqo λK H=>?_;simp[t1,t2,t3,t8,t7,I,o6,RJ,w3];apply H)
 refine amF (λq T B lv nx=>∃i7 a,q<=h.alike.length/\T 1=.i .u8 b/\T 2=.i .u8 d/\T 3=.sp (o6 h)/\T 9=.i .i64 ((q:Int)-1)/\T 7=.bx i7 0/\i7<nx/\B i7=some (false,[.s h.L,.s h.S.reverse,.s h.R,a,.sq none 0 []])/\
  ((a=.sq none 0 []/\q=h.alike.length)\/∃o,a=.sq (some o) 1 ((((h.alike.drop q).map aqz).reverse).map .s)/\lv o=some 9/\o<nx)) h.alike.length ?_ ?_
 ·refine⟨i7,.sq none 0 [],aax _,by simp[t1],by simp[t2],by simp[t3,o6],by simp,by simp[t7],(by first|omega|(simp;omega)),by simp[I],.inl ⟨rfl,rfl⟩⟩
 rintro q T B lv nx ⟨i7,a,hq,t1,t2,t3,t9,t7,hi7,I,ha⟩;simp only[o6] at t3;by_cases hq0:0<q
 ·obtain⟨j,rfl⟩:∃j,q=j+1:=⟨q-1,by omega⟩
  have e8:((j+1:Nat):Int)-1=(j:Int):=by omega
  rw[e8] at t9;have w1:=aS ((j:Int)-1);have U:(0:Int)<=j:=by omega
  have N:j<h.alike.length:=by omega
  have dk:(h.alike.map AV.s).drop j=.s h.alike[j]::(h.alike.map AV.s).drop (j+1):=by rw[aa4 (by simpa using N)];simp
  have p:((h.alike.drop j).map aqz).reverse=((h.alike.drop (j+1)).map aqz).reverse++ [aqz h.alike[j]]:=by
   rw[aa4 N,List.map_cons,List.reverse_cons]
  obtain⟨x,y,cZ⟩:=aqZ (Rr _ (abG N));rw[cZ] at dk p;have Rq:aqz [x,y]= [y,x]:=rfl;rw[Rq] at p;rcases ha with ⟨rfl,hq9⟩|⟨o,rfl,l3,ho⟩
  ·rw[List.drop_of_length_le (by omega:h.alike.length<=j+1)] at p
   repeat' first|apply nI|(refine eI aqo λK H=>?_;simp[t1,t2,t3,t9,t7,I,o6,w1,U,N,dk];apply H)
   refine aN j ⟨i7,_,by omega,by simp[t1],by simp[t2],by simp[t3,o6],by simp,by simp[t7],by simp <;>omega,by simp[I];rfl,.inr ⟨nx+2+16,by rw[p];simp,by simp,by simp⟩⟩
  ·have n1:Lo lv (nx+2+15) (some 9) o=some 9:=by rw[aL _ _ _ _ (by omega)];exact l3
   have n2:o<nx+2:=by omega
   have O:(((h.alike.drop (j+1)).map aqz).reverse).length=h.alike.length-(j+1):=by simp
   generalize ((h.alike.drop (j+1)).map aqz).reverse=pre at p I O;have hlen:(pre.length+1)*17<=70368744177664:=by omega
   repeat' first|apply nI|(refine eI aqo λK H=>?_;simp[t1,t2,t3,t9,t7,I,o6,w1,U,N,dk,n1,n2,l3,hlen];apply H)
   refine aN j ⟨i7,_,by omega,by simp[t1],by simp[t2],by simp[t3,o6],by simp,by simp[t7],by simp <;>omega,by simp[I];rfl,.inr ⟨nx+2+16,by rw[p];simp,by simp,by simp⟩⟩
 have hq2:q=0:=by omega
 subst hq2;have LV:aOk a (b9 h).alike:=by
  rcases ha with ⟨rfl,e⟩|⟨o,rfl,_,_⟩
  ·exact .inl ⟨rfl,by simp[b9,List.length_eq_zero_iff.1 e.symm]⟩
  ·exact .inr ⟨o,by rw[List.drop_zero];rfl⟩
 clear ha;have atJ:¬(0:Int)<=((0:Nat):Int)-1:=by omega
 have Yx:h.tags.length<=5:=(checked h hc).2.2.1;have w4:IntKind.i64.wrap ((h.tags.length:Int)-1)=(h.tags.length:Int)-1:=aS _
 repeat' first|apply nI|(refine eI aqo λK H=>?_;simp[t1,t2,t3,t9,t7,I,o6,atJ,w4,kN];apply H)
 refine amF (λq T B lv nx=>∃i7 c,q<=h.tags.length/\T 1=.i .u8 b/\T 2=.i .u8 d/\T 3=.sp (o6 h)/\T 10=.i .i64 ((q:Int)-1)/\T 7=.bx i7 0/\i7<nx/\B i7=some (false,[.s h.L,.s h.S.reverse,.s h.R,a,c])/\
  ((c=.sq none 0 []/\q=h.tags.length)\/∃o,c=.sq (some o) 3 (bI (h.tags.drop q).reverse)/\lv o=some 51/\o<nx)) h.tags.length ?_ ?_
 ·refine⟨i7,.sq none 0 [],aax _,by simp[t1],by simp[t2],by simp[t3,o6],by simp,by simp[t7],(by first|omega|(simp;omega)),by simp[I],.inl ⟨rfl,rfl⟩⟩
 rintro q T B lv nx ⟨i7,c,hq,t1,t2,t3,t10,t7,hi7,I,nv⟩;simp only[o6] at t3;by_cases hq0:0<q
 ·obtain⟨j,rfl⟩:∃j,q=j+1:=⟨q-1,by omega⟩
  have e8:((j+1:Nat):Int)-1=(j:Int):=by omega
  rw[e8] at t10;have w1:=aS ((j:Int)-1);have U:(0:Int)<=j:=by omega
  have N:j<h.tags.length:=by omega
  have atL:=fA h.tags j h.tags[j] (aaf N);have eu:(j+1)*3<=h.tags.length*3:=by omega
  have hjn:¬(j:Int)<0:=by omega
  have p:bI (h.tags.drop j).reverse=bI (h.tags.drop (j+1)).reverse++ [.s h.tags[j].reads,.i .i64 h.tags[j].low,.i .i64 h.tags[j].high]:=by
   rw[aa4 N,List.reverse_cons];simp[bI,fP]
  generalize h.tags[j]=tg at atL p;rcases nv with ⟨rfl,hq9⟩|⟨o,rfl,l3,ho3⟩
  ·rw[List.drop_of_length_le (by omega:h.tags.length<=j+1)] at p
   repeat' first|apply nI|(refine eI aqo λK H=>?_;simp[t1,t2,t3,t10,t7,I,o6,w1,U,N,kN,atL,eu,hjn];apply H)
   refine aN j ⟨i7,_,by omega,by simp[t1],by simp[t2],by simp[t3,o6],by simp,by simp[t7],by simp <;>omega,by simp[I];rfl,.inr ⟨nx+2+8,by rw[p];simp[bI],by simp,by simp⟩⟩
  ·have n1:Lo lv (nx+2+7) (some 51) o=some 51:=by rw[aL _ _ _ _ (by omega)];exact l3
   have n2:o<nx+2:=by omega
   have O:(h.tags.drop (j+1)).reverse.length=h.tags.length-(j+1):=by simp
   have akV:=cV (h.tags.drop (j+1)).reverse;generalize bI (h.tags.drop (j+1)).reverse=pre at p I akV;generalize (h.tags.drop (j+1)).reverse.length=lp at O akV;have hlen:(lp*3+3)*33<=70368744177664:=by omega
   repeat' first|apply nI|(refine eI aqo λK H=>?_;simp[t1,t2,t3,t10,t7,I,o6,w1,U,N,kN,atL,eu,hjn,n1,n2,l3,hlen,akV];apply H)
   refine aN j ⟨i7,_,by omega,by simp[t1],by simp[t2],by simp[t3,o6],by simp,by simp[t7],by simp <;>omega,by simp[I];rfl,.inr ⟨nx+2+8,by rw[p],by simp,by simp⟩⟩
 have hq3:q=0:=by omega
 subst hq3;have uJ:atj c (b9 h).tags:=by
  rcases nv with ⟨rfl,e⟩|⟨o,rfl,_,_⟩
  ·exact .inl ⟨rfl,by simp[b9,List.length_eq_zero_iff.1 e.symm]⟩
  ·exact .inr ⟨o,by rw[List.drop_zero];rfl⟩
 clear nv;have gW:=Xa a c LV uJ;have gE:=V a c LV uJ;have gC:=Y a c LV uJ;have gR:=hR' a c LV uJ;have gM:=hM' a c LV uJ;change W [.ag [.s h.L,.s h.S.reverse,.s h.R,a,c]]=_ at gW;change E [.ag [.s h.L,.s h.S.reverse,.s h.R,a,c],_]=_ at gE;change C [.ag [.s h.L,.s h.S.reverse,.s h.R,a,c]]=_ at gC;change R [.ag [.s h.L,.s h.S.reverse,.s h.R,a,c],_]=_ at gR;change M [.ag [.s h.L,.s h.S.reverse,.s h.R,a,c],_]=_ at gM;clear Xa V Y hR' hM';by_cases NZ:h.tags.length=0
 ·have ana:((h.tags.length:Int)==0)=true:=by simp[NZ]
  clear hR gR hM gM hX;generalize bK h [] ((aB h).length:Int) 0=v1 at *;generalize bK h [mT J] (n6 h J) []=v2 at *;generalize bJ h []=v3 at *;generalize bJ h [mT J]=v4 at *;generalize qD (b9 h)=cl2 at *;generalize qD h=cl1 at *;simp only[o6,ints] at hW hE hC gC
  repeat' first|apply nI|(refine eI aqo λK H=>?_;simp[t1,t2,t3,t10,t7,I,o6,atJ,kN,ab,az,Z,hT,c1,c2,vl,hW,gW,hE,gE,hC,gC,e5,ana,bne];apply H)
  simp[Dn,aH,Tryz.f9]
 have ana:((h.tags.length:Int)==0)=false:=by simp;intro e;simp[e] at NZ
 obtain⟨hi1,yu⟩:=hi NZ;have g1:=g1 NZ;have g2:=g2 NZ;rw[g1] at hR hM;rw[g2,ho] at gR gM;have r1:bK (b9 h) [0] (dP (b9 h) ((h.tags.length-1-i:Nat):Int)) []=bK h [0] (dP h i) []:=by
  unfold bK;rw[ho,tw.atB hi1]
 have r2:bK (b9 h) [0] (vE (b9 h) ((h.tags.length-1-i:Nat):Int)) 0=bK h [0] (vE h i) 0:=by
  unfold bK;rw[ho,tw.auc hi1]
 rw[r1] at gR;rw[r2] at gM;have hk:((h.tags.length-1-i:Nat):Int)=(h.tags.length:Int)-1-i:=by omega
 rw[hk] at gR gM;have w5:IntKind.i64.wrap ((h.tags.length:Int)-1-i)=(h.tags.length:Int)-1-i:=aS _;have Ru:¬h.tags= []:=λe=>NZ (by simp[e])
 clear sL r1 r2 e1 e2 e3 e4 hk;generalize bK h [] ((aB h).length:Int) 0=v1 at *;generalize bK h [mT J] (n6 h J) []=v2 at *;generalize bK h [0] (dP h i) []=v5 at *;generalize bK h [0] (vE h i) 0=v6 at *;generalize bJ h []=v3 at *;generalize bJ h [mT J]=v4 at *;generalize bJ h [0]=v7 at *;generalize qD (b9 h)=cl2 at *;generalize qD h=cl1 at *;simp only[o6,ints] at hW hE hC gC hR gR hM gM hX
 repeat' first|apply nI|(refine eI aqo λK H=>?_;simp[t1,t2,t3,t10,t7,I,o6,atJ,kN,ab,az,Z,hT,c1,c2,vl,hW,gW,hE,gE,hC,gC,e5,ana,Ru,yu,w4,w5,hR,gR,hM,gM,hX,bne];apply H)
 simp[Dn,aH,Tryz.f9]
end
end Go.Proofs.YtjagmhagphbfcaaGreatDoor
