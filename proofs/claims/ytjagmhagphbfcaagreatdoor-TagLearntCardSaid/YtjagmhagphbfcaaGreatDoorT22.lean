/- Lemmas, part 22. -/
import Derived.Sort.OwnSorted
import Derived.Sort.EveryDepth
import Derived.Test.YtjagmhagphbfcaaGreatDoorT21
set_option maxRecDepth 100000
set_option linter.all false
namespace Go.Proofs.YtjagmhagphbfcaaGreatDoor
open Go renaming Value→am,Program→aC,TypeId→b8,FuncId→be
def af9:=@Go.Lib.holds_of_ownsRow
def aa1:=@List.take_of_length_le
open Go Go.Proofs
variable{P:aC}{bo:Nat}{e:b8}{f:be}{tb:gr}{x:am}{ys:List am}{α ι:Type}
def kK(P:aC)(f:be)(e:b8)(ev:α->am)(l r:List α):Prop:=
 ∀(B:Nat) (g:Gh) (w:World) (x:am),WI g w->Row B e g w x (l.map ev)->Calls P f #[x] w λh w'=>
  h=.returned (.tuple #[])/\Lw g g w w'/\WI g w'/\Row B e g w' x (r.map ev)/\∀b,b<w.heap.size->x.ownBlock≠some b->w'.heap[b]?=w.heap[b]?
def CY(P:aC)(f:be)(e:b8)(ev:α->am)(l r:List α):Prop:=
 ∀(B:Nat) (g:Gh) (w:World) (x:am),WI g w->Row B e g w x (l.map ev)->Calls P f #[x] w λh w'=>
  ∃y,h=.returned y/\Lw g g w w'/\WI g w'/\Row B e g w' y (r.map ev)/\(∀c,y.ownBlock=some c->x.ownBlock=some c)/\∀b,b<w.heap.size->x.ownBlock≠some b->w'.heap[b]?=w.heap[b]?
section
variable{α:Type}[Inhabited α]{P:aC}{g:Gh}{w:World}{B:Nat}{e:b8}
def Row.laid{ev:α->am}{E ys:List α}{b cap n q k:Nat}{os:Array Obj}(h:Row B e g w (.slice (some ⟨b,0,none⟩) n cap) (E.map ev))(hW:WI g w)(hy:ys.length=E.length)(hk:k<=n)(V:e=3->∀a,Yu (ev a)):
  let w':=Sort.grow (Sort.putRow ev (Sort.ahead w q) b 0 ys.toArray) os
  Lw g g w w'/\WI g w'/\Row B e g w' (.slice (some ⟨b,0,none⟩) k cap) ((ys.take k).map ev)/\∀c,c<w.heap.size->(Value.slice (some ⟨b,0,none⟩) n cap).ownBlock≠some c->w'.heap[c]?=w.heap[c]?:=by
 intro w';have hn:n=E.length:=by
  have:=h.own.2;rcases this with ⟨H,_⟩|⟨_,_,_,H,_⟩
  ·cases H
  ·cases H;simp
 have fM:b<w.heap.size:=(h.own.lt b rfl).2;have L:w.grownBy w' (some b):=by
  refine⟨rfl,rfl,rfl,by simp[w'],λc hc I=>?_⟩;show(Sort.grow _ _).heap[c]?=_;rw[Sort.heap_grow_old _ _ (by simpa using hc)];have:b≠c:=λe=>I (by rw[e])
  simp[Sort.putRow,Sort.mapBlock,Sort.ahead,acD,this]
 have J:w.ownsRow B e 1 (.slice (some ⟨b,0,none⟩) n cap) n (E.map ev):=by
  have:=h.own;rw[abz,<-hn] at this;exact this
 have h1:=Lib.ownsRow_putRow (q:=q) J (by rw[hy,hn]) hk;have U:w'.ownsRow B e 1 (.slice (some ⟨b,0,none⟩) k cap) ((ys.take k).map ev).length ((ys.take k).map ev):=by
  have hl:((ys.take k).map ev).length=k:=by simp;omega
  rw[hl];refine⟨h1.1,?_⟩;rcases h1.2 with h2|⟨c,W,cur,hv,O,hg,hr⟩
  ·exact .inl h2
  ·cases hv;refine .inr ⟨_,_,cur,rfl,O,?_,hr⟩;show(Sort.grow _ _).heap[_]?=_;rw[Sort.heap_grow_old _ _ (by simpa[Sort.putRow,Sort.mapBlock,Sort.ahead] using fM)];exact hg
 obtain⟨k1,k2,N⟩:=h.Mb hW U (λc hc=>.inl hc) L (λM c cur fr hc p u hu=>by
  cases hc;have h1:w'.heap[b]?=(w.heap.modify b (Sort.onCells (Sort.putCells ev 0 ys.toArray)))[b]?:=by
   show(Sort.grow _ _).heap[_]?=_;rw[Sort.heap_grow_old _ _ (by simpa[Sort.putRow,Sort.mapBlock,Sort.ahead] using fM)];rfl
  rw[h1,acD,aay rfl] at p;cases hw:w.heap[b]? with
  |none=>rw[hw] at p;cases p
  |some o=>
   rw[hw] at p;cases o <;>simp only[acz,Sort.onCells,Option.some.injEq,reduceCtorEq,Obj.cells.injEq] at p
   rename_i ai1 H kG;obtain⟨rfl,rfl,rfl⟩:=p;have h0:=h.cl M b ai1 kG rfl hw;simp only[Sort.putCells,Array.toList_mapIdx,List.mem_mapIdx] at hu;obtain⟨i,hi,rfl⟩:=hu;split
   ·exact V M _
   ·exact h0 _ (by simp))
 exact⟨k1,k2,N,λc hc I=>L.block c hc (λe=>I e.symm)⟩
end
section
variable{P:aC}{g:Gh}{w:World}{B:Nat}{e:b8}
def ab9(c:Option Nat)(n:Nat):Gh:= { hw:=λb=>if c=some b then n else if b=0 then 3 else 0,aD:=λ_=>none }
def LJ.some(h:LJ g w):2<g.hw 0:=(h 0 2 _ rfl).1
def Qk(hW:WI g w)(p:Row B e g w x ys):WI (ab9 x.ownBlock ys.length) w:=by
 have h0:=hW.cz.some;have E:=hW.lt (b:=0) (by omega);refine⟨λb hb=>⟨?_,rfl⟩,λb d hd=>(by cases hd),λb o v h=>?_⟩
 ·show(if x.ownBlock=Option.some b then _ else if b=0 then 3 else 0)=0;rw[aat (λh=>by have:=(p.own.lt b h).2;omega),aat (by omega)]
 ·obtain⟨k1,k2⟩:=hW.cz b o v h;have hb:b=0/\o<3:=by
   unfold KX at h;split at h <;>first|exact⟨rfl,by decide⟩|cases h
  obtain⟨rfl,ho⟩:=hb;refine⟨?_,k2⟩;show o<if x.ownBlock=Option.some 0 then _ else if(0:Nat)=0 then 3 else 0
  rw[aat (λh=>by have:=(p.loose 0 h).1;omega),aay rfl];exact ho
def sV{w':World}(hW:WI g w)(hs:w.heap.size<=w'.heap.size)(hb:∀b,b<w.heap.size->w'.heap[b]?=w.heap[b]?)(h1:w'.os=w.os)(h2:w'.tape=w.tape)(H:w'.output=w.output):Lw g g w w'/\WI g w'/\anw g g w w':=by
 have E:Lw g g w w':=⟨hs,λ_=>aax _,λb o ho=>World.cell?_of_block (hb b (hW.lt (by omega))),λ_ _ h=>h,h1,h2,H,λb o mr _=>by rw[hb b (aah.1 mr).1];exact mr⟩
 refine⟨E,⟨λb p=>hW.out b (aaY hs p),λb d hd=>?_,hW.cz.mono E⟩,⟨λb h _=>hb b h,λ_ _=>rfl,λ_ _=>rfl⟩⟩;obtain⟨es,ck,k1,k2⟩:=hW.aD b d hd;exact⟨es,ck,by rw[hb b (aah.1 k1).1];exact k1,λy hy=>by obtain⟨a,m1,m2⟩:=k2 y hy;exact⟨a,m1,m2.mono E⟩⟩
def aq.beside{args:List AV}{res:AV}(h:aq P f args res)(hW:WI g w)(J:Row B e g w x ys){xs:List am}(hr:cS (ab9 x.ownBlock ys.length) w args xs):
  Calls P f xs.toArray w λp w'=>∃y,p=.returned y/\Lw g g w w'/\WI g w'/\anw g g w w'/\(∀b,b<w.heap.size->w'.heap[b]?=w.heap[b]?)/\∃g',Rd g' w' res y:=by
 refine(h _ w xs (Qk hW J) hr).mono ?_;rintro p w' ⟨y,g',rfl,k1,k2,I,H,_⟩;have hb:∀b,b<w.heap.size->w'.heap[b]?=w.heap[b]?:=λb hb=>I.block b hb rfl
 obtain⟨m1,m2,E⟩:=sV (g:=g) hW k1.size hb k1.os k1.tape k1.output;exact⟨y,rfl,m1,m2,E,hb,g',H⟩
theorem Row.still{w':World}(h:Row B e g w x ys)(p:anw g g w w'):Row B e g w' x ys:=h.keep p
def mB{ea:α->AV}{ev:α->am}(he:LX ea ev){l:List α}(h:aq P f [.sq none 1 (l.map ea)] (.tu [])):kK P f e ev l l:=by
 intro B g w x hW p;refine(h.beside hW p (xs:= [x]) (.cons (p.rd he (λc hc=>?_)) (.nil _ _))).mono ?_
 ·show l.length<=if x.ownBlock=Option.some c then _ else _
  rw[aay hc];simp
 ·rintro J w' ⟨y,rfl,k1,k2,I,H,g',E⟩;cases E with
  |tu _ ys h1 _=>
   have hy:ys= []:=abA (by simpa using h1);subst hy;exact⟨rfl,k1,k2,p.still I,λb hb _=>H b hb⟩
def lV{ev:α->am}{l:List α}(h:Row B e g w x (l.map ev)):(x=.slice none 0 0/\l= [])\/∃b cap,x=.slice (some ⟨b,0,none⟩) l.length cap/\b<w.heap.size/\l.length<=cap/\cap<=maxLen:=by
 rcases h.own.2 with ⟨rfl,h0⟩|⟨b,cap,cur,rfl,_,hg,h1,h2,_⟩
 ·exact .inl ⟨rfl,abA (by simpa using h0)⟩
 ·refine .inr ⟨b,cap,by simp,(aah.1 hg).1,by simpa using h1,h2⟩
end
section
variable{P:aC}[l:cL P]
def se:LX (AV.i .i64) (Value.int .i64):=⟨λg w a=>.i _ _,λg w a y h=>by cases h;rfl,λ_=>rfl⟩
def Jr:LX AV.s sv:=⟨λg w a=>.s _,λg w a y h=>by cases h;rfl,λ_=>rfl⟩
def CB:LX (λc:UInt8=>AV.i .u8 c.toNat) (λc:UInt8=>Value.int .u8 c.toNat):=⟨λg w a=>.i _ _,λg w a y h=>by cases h;rfl,λ_=>rfl⟩
def MD(h0:kK P 131 3 (Value.int .i64) [] [])(l:List Int)(hl:l.length<4611686018427387904):kK P 131 3 (Value.int .i64) l (l.mergeSort λx y=>decide (x<=y)):=by
 intro B g w x hW p;rcases lV p with ⟨rfl,rfl⟩|⟨b,cap,rfl,hb,h1,h2⟩
 ·rw[List.mergeSort_nil];exact h0 B g w _ hW p
 ·have E:Sort.Holds (Value.int .i64) w b 0 l.toArray:=by
   have I:=p.own;rw[abz] at I;obtain⟨g',O,M,_,_,_,_,_,E⟩:=af9 I (by simp);cases M;exact E
  refine(Any.slices_Sort_int Nq b 0 cap l w E hb hl).mono ?_;rintro N w' ⟨rfl,n,os,rfl⟩;obtain⟨k1,k2,H,J⟩:=Row.laid (q:=n) (os:=os) (ys:=l.mergeSort λx y=>decide (x<=y)) (k:=l.length) p hW (by simp) (aax _) (λh=>by first|exact λa=>⟨a,rfl⟩|cases h);have L:(l.mergeSort λx y=>decide (x<=y)).take l.length=l.mergeSort λx y=>decide (x<=y):=by rw[aa1 (by simp)]
  rw[L] at H;exact⟨rfl,k1,k2,H,J⟩
def MC(h0:kK P 172 9 sv [] [])(l:List (List UInt8))(hl:l.length<4611686018427387904):kK P 172 9 sv l (l.mergeSort λx y=>decide (x<=y)):=by
 intro B g w x hW p;rcases lV p with ⟨rfl,rfl⟩|⟨b,cap,rfl,hb,h1,h2⟩
 ·rw[List.mergeSort_nil];exact h0 B g w _ hW p
 ·have E:Sort.Holds encStr w b 0 l.toArray:=by
   have I:=p.own;rw[abz] at I;obtain⟨g',O,M,_,_,_,_,_,E⟩:=af9 I (by simp);cases M;exact E
  refine(Any.slices_Sort_string VI b 0 cap l w E hb hl).mono ?_;rintro N w' ⟨rfl,n,os,rfl⟩;obtain⟨k1,k2,H,J⟩:=Row.laid (q:=n) (os:=os) (ys:=l.mergeSort λx y=>decide (x<=y)) (k:=l.length) p hW (by simp) (aax _) (λh=>by first|exact λa=>⟨a,rfl⟩|cases h);have L:(l.mergeSort λx y=>decide (x<=y)).take l.length=l.mergeSort λx y=>decide (x<=y):=by rw[aa1 (by simp)]
  rw[L] at H;exact⟨rfl,k1,k2,H,J⟩
def AL[Inhabited α][DecidableEq α](l:List α)(z:α):(Lib.compact l++List.replicate (l.length-(Lib.compact l).length) z).take (Lib.compact l).length=Lib.compact l:=by
 simp
def Fz[Inhabited α][DecidableEq α](l:List α)(z:α):(Lib.compact l++List.replicate (l.length-(Lib.compact l).length) z).length=l.length:=by
 have:=iv l;simp;omega
def FA(l:List Int)(hl:l.length<4611686018427387904):CY P 132 3 (Value.int .i64) l (Lib.compact l):=by
 intro B g w x hW h;rcases lV h with ⟨rfl,rfl⟩|⟨b,cap,rfl,hb,h1,h2⟩
 ·refine(Any.slices_Compact_int_empty TD none 0 w).mono ?_;rintro J w' ⟨rfl,rfl⟩;exact⟨_,rfl,.refl _ _,hW,h,λc hc=>hc,λ_ _ _=>rfl⟩
 ·have E:Sort.Holds (Value.int .i64) w b 0 l.toArray:=by
   have I:=h.own;rw[abz] at I;obtain⟨g',M,L,_,_,_,_,_,E⟩:=af9 I (by simp);cases L;exact E
  refine(Any.slices_Compact_int TD b 0 cap l w E (by omega) h1).mono ?_;rintro J w' ⟨rfl,n,rfl⟩;obtain⟨k1,k2,p,H⟩:=Row.laid (q:=n) (os:= #[]) (ys:=Lib.compact l++List.replicate (l.length-(Lib.compact l).length) 0) (k:=(Lib.compact l).length) h hW (Fz l 0) (iv l) (λ_ a=>⟨a,rfl⟩);rw[AL] at p;simp only[Sort.grow_empty] at k1 k2 p H;exact⟨_,rfl,k1,k2,p,λc hc=>hc,H⟩
def Pb(l:List (List UInt8))(hl:l.length<4611686018427387904):CY P 173 9 sv l (Lib.compact l):=by
 intro B g w x hW p;rcases lV p with ⟨rfl,rfl⟩|⟨b,cap,rfl,hb,h1,h2⟩
 ·refine(Any.slices_Compact_string_empty Np none 0 w).mono ?_;rintro L w' ⟨rfl,rfl⟩;exact⟨_,rfl,.refl _ _,hW,p,λc hc=>hc,λ_ _ _=>rfl⟩
 ·have H:Sort.Holds encStr w b 0 l.toArray:=by
   have J:=p.own;rw[abz] at J;obtain⟨g',N,M,_,_,_,_,_,H⟩:=af9 J (by simp);cases M;exact H
  refine(Any.slices_Compact_string Np b 0 cap l w H (by omega) h1).mono ?_;rintro L w' ⟨rfl,n,rfl⟩;obtain⟨k1,k2,E,I⟩:=Row.laid (q:=n) (os:= #[]) (ys:=Lib.compact l++List.replicate (l.length-(Lib.compact l).length) []) (k:=(Lib.compact l).length) p hW (Fz l []) (iv l) (λh=>by cases h);rw[AL] at E;simp only[Sort.grow_empty] at k1 k2 E I;exact⟨_,rfl,k1,k2,E,λc hc=>hc,I⟩
end
def aco:=@List.flatMap_cons
def afs:=@List.drop_succ_cons
def adX:=@Bool.eq_iff_iff
def aaN:=@List.take_succ_eq_append_getElem
structure Tag where
 reads:List UInt8
 low:Int
 high:Int
structure ay where
 L:List UInt8
 S:List UInt8
 R:List UInt8
 alike:List (List UInt8)
 tags:List Tag
def fP(t:Tag):List AV:= [.s t.reads,.i .i64 t.low,.i .i64 t.high]
def bI(l:List Tag):List AV:=l.flatMap fP
def strs(l:List (List UInt8)):AV:=.sq none 1 (l.map .s)
def ints(l:List Int):AV:=.sq none 1 (l.map (.i .i64))
def o6(h:ay):List AV:= [.s h.L,.s h.S,.s h.R,.sq none 1 (h.alike.map .s),.sq none 3 (bI h.tags)]
def eG(h:ay):AV:=.ag (o6 h)
def isLet(c:UInt8):Bool:=decide (65<=c.toNat/\c.toNat<=90)
def bA(s:List UInt8)(o:UInt8):Bool:=s.all λc=>isLet c||c==o
def dup(a:List UInt8):Bool:=a.any λc=>c !=63&&decide (1<a.count c)
def bB(h:ay):Int:=
 if h.L.length≠10\/bA h.L 63=false\/bA h.S 65=false\/1<h.R.length\/bA h.R 65=false then 3
 else if h.S.length≠h.L.count 63\/4<h.S.length then 2
 else if dup (h.L++h.S++h.R)=true then 5 else 0
def cP(a b:List UInt8):Bool:=a==b||(a[0]?==b[1]?&&a[1]?==b[0]?)
def eR(l:List (List UInt8))(s:List UInt8):Int:=
 if s.length≠2\/bA s 65=false then 3
 else if s[0]?=s[1]? then 5
 else if l.any (cP · s)=true then 5 else 0
def cb(pre:List (List UInt8)):List (List UInt8)->Int
 | []=>0
 |s::l=>if eR pre s≠0 then eR pre s else cb (pre++ [s]) l
def bj(l:List (List UInt8)):Int:=if 4<l.length then 2 else cb [] l
def aM(s:List UInt8):Int:=
 if s.length<1\/5<s.length then 2 else if bA s 63=false then 3 else if 2<s.count 63 then 2 else 0
def dR(a b:Int):Bool:=decide (0<=a/\a<=b/\b<=99999)
def cR:List Tag->Int
 | []=>0
 |t::l=>if aM t.reads≠0 then aM t.reads else if dR t.low t.high=false then 1 else cR l
def aO(h:ay):Int:=
 if bB h≠0 then bB h else if bj h.alike≠0 then bj h.alike else if 5<h.tags.length then 2 else cR h.tags
structure Fair(h:ay):Prop where
 L:h.L.length<=40
 S:h.S.length<=40
 R:h.R.length<=40
 na:h.alike.length<=20
 a:∀s∈h.alike,s.length<=40
 nt:h.tags.length<=20
 t:∀t∈h.tags,t.reads.length<=40
theorem cV(l:List Tag):(bI l).length=l.length*3:=by
 induction l with
 |nil=>rfl
 |cons t l h=>simp[bI,fP] at *;omega
theorem fA:∀(l:List Tag) (i:Nat) (t:Tag),l[i]?=some t->(bI l).drop (i*3)=.s t.reads::.i .i64 t.low::.i .i64 t.high::bI (l.drop (i+1))
 | [],i,t,h=>by simp at h
 |t'::l,0,t,h=>by simp at h;subst h;rfl
 |t'::l,i+1,t,h=>by
  have:=fA l i t (by simpa using h);rw[show(i+1)*3=3+i*3 from by omega];simp only[bI,aco,fP,aaT,aaV,afs] at *;rw[show 3+i*3=(i*3)+1+1+1 from by omega];simpa using this
def dV(a b:UInt8):((a.toNat:Int)==(b.toNat:Int))=(a==b):=by
 rw[adX];simp only[ac6];exact⟨λh=>UInt8.toNat_inj.1 (by omega),λh=>by rw[h]⟩
def kn(a:UInt8)(n:Nat)(h:n<256):((a.toNat:Int)==(n:Int))=(a==UInt8.ofNat n):=by
 rw[<-dV,UInt8.toNat_ofNat',Nat.mod_eq_of_lt h]
def uC(s:List UInt8)(o:UInt8)(k:Nat)(hk:k<s.length):bA (s.take (k+1)) o=(bA (s.take k) o&&(isLet s[k]||s[k]==o)):=by
 unfold bA;rw[aaN hk,List.all_append];simp
def Ae(s:List UInt8)(o:UInt8)(k:Nat)(hk:k<s.length)(h:(isLet s[k]||s[k]==o)=false):bA s o=false:=by
 unfold bA;rw[List.all_eq_false];exact⟨s[k],abG hk,by simp[h]⟩
def aac:=@decide_eq_false_iff_not
@[simp] abbrev aiu:List Nat:=[0,1,4,5,6,10,17]
@[simp] abbrev aiE:List Nat:=[0,1,4,5,9,23]
section
variable{P:aC}[l:cL P]
def dIn:List AV->Option AV
 | [.i .i64 n,.i .i64 a,.i .i64 b]=>some (.b (decide (a<=n)&&decide (n<=b)))
 |_=>none
def VL(n a b:Int):aq P 42 [.i .i64 n,.i .i64 a,.i .i64 b] (.b (decide (a<=n)&&decide (n<=b))):=by
 refine fi (au P) (lf Tryz.func42) ?_
 repeat' first|apply nI|(refine eI [0,1,2,6] λK h=>?_;simp[*];first|apply h|(refine aE (λhc=>?_) (λhc=>?_) <;>(try simp only[aan,aac] at hc) <;>simp[*] <;>repeat' (first|apply h|(refine aE (λhc=>?_) (λhc=>?_) <;>(try simp only[aan,aac] at hc) <;>simp[hc, *])|fail))|fail)
 all_goals simp[Dn,aH,Tryz.f42, *]
def anp:Den P 42 dIn:=λargs res h=>by
 unfold dIn at h;split at h
 ·cases h;exact VL _ _ _
 ·cases h
def mc:List AV->Option AV
 | [.i .u8 c]=>some (.b (decide (65<=c)&&decide (c<=90)))
 |_=>none
def BZ:Den P 170 mc:=λargs res h=>by
 unfold mc at h;split at h
 ·cases h;refine fi (au P) (lf Tryz.func170) ?_
  repeat' first|apply nI|(refine eI [0,2] λK p=>?_;simp[*];first|apply p|(refine aE (λhc=>?_) (λhc=>?_) <;>(try simp only[aan,aac] at hc) <;>simp[*] <;>repeat' (first|apply p|(refine aE (λhc=>?_) (λhc=>?_) <;>(try simp only[aan,aac] at hc) <;>simp[hc, *])|fail))|fail)
  all_goals simp[Dn,aH,Tryz.f170, *]
 ·cases h
def xk(c:UInt8):(decide ((65:Int)<=c.toNat)&&decide ((c.toNat:Int)<=90))=isLet c:=by
 unfold isLet;rw[adX];simp;omega
def HZ(l:List UInt8)(c:UInt8)(k:Nat)(hk:k<l.length):(l.take (k+1)).count c=(l.take k).count c+if l[k]=c then 1 else 0:=by
 rw[aaN hk,List.count_append];simp[List.count_cons,List.count_nil]
def Eg(l:List UInt8)(c:UInt8)(hl:l.length<1000000):aq P 124 [.s l,.i .u8 c.toNat] (.i .i64 (l.count c)):=by
 refine fi (au P) (lf Tryz.func124) ?_
 repeat apply nI
 refine eI aiu ?_;intro K h;simp
 repeat' (first|apply h|(refine aE (λhc=>?_) (λhc=>?_) <;>(try simp only[aan,aac] at hc) <;>simp[hc])|fail)
 repeat apply nI
 refine eI aiu ?_;intro K h;simp
 repeat' (first|apply h|(refine aE (λhc=>?_) (λhc=>?_) <;>(try simp only[aan,aac] at hc) <;>simp[hc])|fail)
 repeat apply nI
 refine eI aiu ?_;intro K h;simp
 repeat' (first|apply h|(refine aE (λhc=>?_) (λhc=>?_) <;>(try simp only[aan,aac] at hc) <;>simp[hc])|fail)
 repeat apply nI
 refine amF (λd T B lv nx=>∃k,k+d=l.length/\T 0=.s l/\T 1=.i .u8 c.toNat/\T 6=.i .i64 k/\T 5=.i .i64 ((l.take k).count c)) l.length ?_ ?_
 ·exact⟨0,by simp,by simp,by simp,by simp,by simp⟩
 ·rintro d T B lv nx ⟨k,hk,h0,h1,p,E⟩;have J:(l.take k).count c<=k:=aaY List.count_le_length (by simp;omega);have w1:=aS ((k:Int)+1);have w2:=aS (((l.take k).count c:Int)+1);by_cases H:k<l.length
  ·have ht:=HZ l c k H;by_cases he:l[k]=c
   ·rw[aay he] at ht
    repeat' first|apply nI|(refine eI aiu λK h=>?_;simp[h0,h1,E,p,H,he,w1,w2];apply h)
    refine aN (d-1) ⟨k+1,by omega,by simp,by simp,by simp,by simp[ht]⟩
   ·rw[aat he] at ht
    repeat' first|apply nI|(refine eI aiu λK h=>?_;simp[h0,h1,p,H,dV,he,w1];apply h)
    refine aN (d-1) ⟨k+1,by omega,by simp,by simp,by simp,by simp[ht,E]⟩
  ·have I:k=l.length:=by omega
   subst I
   repeat' first|apply nI|(refine eI aiu λK h=>?_;simp[h0,p,E];apply h)
   simp[Dn,aH,Tryz.f124]
def SI(c:Int)(h0:0<=c)(h1:c<256):((UInt8.ofNat c.toNat).toNat:Int)=c:=by rw[UInt8.toNat_ofNat'];omega
def uA(l:List UInt8)(c:UInt8)(hl:l.length<1000000):aq P 138 [.s l,.i .u8 c.toNat] (.b (bA l c)):=by
 refine fi (ak (aR Tryz.func170) BZ (au P)) (lf Tryz.func138) ?_
 repeat apply nI
 refine eI aiE ?_;intro K h;simp
 repeat' (first|apply h|(refine aE (λhc=>?_) (λhc=>?_) <;>(try simp only[aan,aac] at hc) <;>simp[hc])|fail)
 repeat apply nI
 refine eI aiE ?_;intro K h;simp
 repeat' (first|apply h|(refine aE (λhc=>?_) (λhc=>?_) <;>(try simp only[aan,aac] at hc) <;>simp[hc])|fail)
 repeat apply nI
 refine amF (λd T B lv nx=>∃k,k+d=l.length/\T 0=.s l/\T 1=.i .u8 c.toNat/\T 5=.i .i64 k/\bA (l.take k) c=true) l.length ?_ ?_
 ·exact⟨0,by simp,by simp,by simp,by simp,by simp[bA]⟩
 ·rintro d T B lv nx ⟨k,hk,h0,h1,H,hp⟩;have w1:=aS ((k:Int)+1);by_cases E:k<l.length
  ·have ht:=uC l c k E;have L:=Ae l c k E;cases p:isLet l[k] with
   |true=>
    repeat' first|apply nI|(refine eI aiE λK h=>?_;simp[h0,h1,H,E,w1,ab,mc,xk,p];apply h)
    refine aN (d-1) ⟨k+1,by omega,by simp,by simp,by simp,by simp[ht,p,hp]⟩
   |false=>
    by_cases he:l[k]=c
    ·have I:isLet c=false:=he▸p
     repeat' first|apply nI|(refine eI aiE λK h=>?_;simp[h0,h1,H,E,w1,ab,mc,xk,I,he];apply h)
     refine aN (d-1) ⟨k+1,by omega,by simp,by simp,by simp,by simp[ht,he,hp]⟩
    ·have hf:=L (by simp[p,he])
     repeat' first|apply nI|(refine eI aiE λK h=>?_;simp[h0,h1,H,E,ab,mc,xk,p,he,dV,bne];apply h)
     simp[Dn,aH,Tryz.f138,hf]
  ·have J:k=l.length:=by omega
   subst J;have hf:bA l c=true:=by simpa using hp
   repeat' first|apply nI|(refine eI aiE λK h=>?_;simp[h0,H];apply h)
   simp[Dn,aH,Tryz.f138,hf]
end
def aef:=@Nat.pow_le_pow_right
def placeOf(w:List UInt8)(c:UInt8):Int:=match w.findIdx? (· ==c) with
 |some i=>((i:Int)+1)%10
 |none=> -1
def GZ(w:List UInt8)(c:UInt8): -1<=placeOf w c/\placeOf w c<=9:=by
 unfold placeOf;split <;>omega
def D_(w:List UInt8)(c:UInt8)(k:Nat)(hk:k<w.length)(hn:c∉w.take k)(he:¬w[k]=c):c∉w.take (k+1):=by
 rw[aaN hk];simp only[abH,acE,not_or];exact⟨hn,λe=>he e.symm⟩
section
variable{P:aC}[l:cL P]
end
section
variable{P:aC}[l:cL P]
def p10(k:Nat)(hk:k<=15):(10:Int)^k<=10^15:=by
 have:(10:Nat)^k<=10^15:=aef (by omega) hk
 exact_mod_cast this
end
def abg:=@List.cons.injEq
def adM:=@true_and
def cC(args:ι->List AV)(res:ι->AV)(ok:ι->Prop)(p:∀x y,ok x->ok y->args x=args y->res x=res y)(h:∀x,ok x->aq P f (args x) (res x)):
  ∃F:List AV->Option AV,Den P f F/\∀x,ok x->F (args x)=some (res x):=by
 classical
 refine⟨λa=>if hx:∃x,ok x/\a=args x then some (res hx.choose) else none,λa r hr=>?_,λx hx=>?_⟩
 ·simp only at hr;split at hr
  ·rename_i hx;cases hr;have h2:=h _ hx.choose_spec.1;rw[<-hx.choose_spec.2] at h2;exact h2
  ·cases hr
 ·have hex:∃y,ok y/\args x=args y:=⟨x,hx,rfl⟩
  simp only;rw[agp hex];congr 1;exact p _ _ hex.choose_spec.1 hx hex.choose_spec.2.symm
theorem Tu:∀ {l m:List (List UInt8)},l.map AV.s=m.map AV.s->l=m
 | [],[],_=>rfl
 | [],_::_,h=>by simp at h
 |_::_,[],h=>by simp at h
 |a::l,b::m,h=>by
  simp only[List.map_cons,abg,AV.s.injEq] at h;rw[h.1,Tu h.2]
theorem NG:∀ {l m:List Int},l.map (AV.i .i64)=m.map (AV.i .i64)->l=m
 | [],[],_=>rfl
 | [],_::_,h=>by simp at h
 |_::_,[],h=>by simp at h
 |a::l,b::m,h=>by
  simp only[List.map_cons,abg,AV.i.injEq,adM] at h;rw[h.1,NG h.2]
theorem oS:∀ {l m:List Tag},bI l=bI m->l=m
 | [],[],_=>rfl
 | [],_::_,h=>by simp[bI,fP] at h
 |_::_,[],h=>by simp[bI,fP] at h
 |a::l,b::m,h=>by
  simp only[bI,fP,aco,aaT,aaV,abg,AV.s.injEq,AV.i.injEq,adM] at h;obtain⟨h1,h2,p,E⟩:=h;obtain⟨a1,a2,a3⟩:=a;obtain⟨b1,b2,H⟩:=b;simp only at h1 h2 p;rw[h1,h2,p,oS E]
def xr{h k:ay}(e:eG h=eG k):h=k:=by
 simp only[eG,o6,AV.ag.injEq,abg,AV.s.injEq,AV.sq.injEq,adM,abQ] at e;obtain⟨h1,h2,H,E,p⟩:=e;obtain⟨a1,a2,a3,a4,a5⟩:=h;obtain⟨b1,b2,L,J,I⟩:=k;simp only at h1 h2 H E p;rw[h1,h2,H,Tu E,oS p]
def oG{a b:UInt8}(h:AV.i .u8 a.toNat=AV.i .u8 b.toNat):a=b:=by
 simp only[AV.i.injEq,adM] at h;exact UInt8.toNat_inj.1 (by omega)
def vF(c x:UInt8)(s:List UInt8):Bool:=(s[0]?==some c&&s[1]?==some x)||(s[0]?==some x&&s[1]?==some c)
def sH(h:ay):Prop:=h.alike.length<=20/\∀s∈h.alike,s.length=2
section
variable{P:aC}[l:cL P]
end
def afl:=@List.any_eq_true
def ag8:=@List.any_eq_false
def agD:=@List.mem_take_iff_getElem
def aeC:=@List.any_append
@[simp] abbrev aib:List Nat:=[0,1,4,5,7,8,9,16]
def idx(p:List UInt8->Bool)(l:List (List UInt8)):Int:=if l.any p=true then(l.findIdx p:Nat) else -1
def ND(p:List UInt8->Bool)(l:List (List UInt8))(k:Nat)(hk:k<l.length)(h0:(l.take k).any p=false)(h1:p l[k]=true):idx p l=k:=by
 unfold idx;rw[aay (afl.2 ⟨_,abG hk,h1⟩)];have:l.findIdx p=k:=by
  rw[List.findIdx_eq hk];refine⟨h1,λj h=>?_⟩;have:=ag8.1 h0 l[j] (by rw[agD];exact⟨j,by omega,rfl⟩);simpa using this
 rw[this]
section
variable{P:aC}[l:cL P]
def yQ(N:jw P tb)(M:pN tb)(f:be)(I:List AV)(l:List (List UInt8))(p:List UInt8->Bool)(hp:∀s∈l,tb.fn f ([.s s]++I)=some (.b (p s)))(hl:l.length<1000000):
  aq P 145 [strs l,.fn f [] I] (.i .i64 (idx p l)):=by
 refine o7 (tb:=tb) (mt:=λ_=>false) N mixed (lf (P:=P) Tryz.func145) rfl (Nat.le_of_ble_eq_true rfl) ?_
 repeat apply nI
 refine eI aib ?_;intro K h;simp
 repeat' (first|apply h|(refine aE (λhc=>?_) (λhc=>?_) <;>(try simp only[aan,aac] at hc) <;>simp[hc])|fail)
 repeat apply nI
 refine eI aib ?_;intro K h;simp[strs]
 repeat' (first|apply h|(refine aE (λhc=>?_) (λhc=>?_) <;>(try simp only[aan,aac] at hc) <;>simp[hc,strs])|fail)
 repeat apply nI
 refine amF (λd T B lv nx=>∃k,k+d=l.length/\T 0=strs l/\T 1=.fn f [] I/\T 7=.i .i64 l.length/\T 8=.i .i64 k/\(l.take k).any p=false) l.length ?_ ?_
 ·exact⟨0,by simp,by simp[strs],by simp,by simp,by simp,by simp⟩
 ·rintro d T B lv nx ⟨k,hk,t0,t1,t7,t8,J⟩;have w1:=aS ((k:Int)+1);by_cases H:k<l.length
  ·have E:=hp l[k] (abG H);have L:(l.take (k+1)).any p=p l[k]:=by
    rw[aaN H,aeC,J];simp
   cases hc:p l[k] with
   |true=>
    rw[hc] at E;simp only[aaT,aaV] at E
    repeat' first|apply nI|(refine eI aib λK h=>?_;simp[t0,t1,t7,t8,strs,H,E];apply h)
    simp[Dn,aH,Tryz.f145,ND p l k H J hc]
   |false=>
    rw[hc] at E;simp only[aaT,aaV] at E
    repeat' first|apply nI|(refine eI aib λK h=>?_;simp[t0,t1,t7,t8,strs,H,E,w1];apply h)
    refine aN (d-1) ⟨k+1,by omega,by simp[strs],by simp,by simp,by simp,by rw[L,hc]⟩
  ·have O:k=l.length:=by omega
   subst O;have hf:l.any p=false:=by simpa using J
   repeat' first|apply nI|(refine eI aib λK h=>?_;simp[t7,t8];apply h)
   simp[Dn,aH,Tryz.f145,idx,hf]
def me(I:jw P tb)(H:pN tb)(f:be)(E:List AV)(l:List (List UInt8))(p:List UInt8->Bool)(hp:∀s∈l,tb.fn f ([.s s]++E)=some (.b (p s)))(hl:l.length<1000000):
  aq P 92 [strs l,.fn f [] E] (.b (l.any p)):=by
 have hi:=yQ I H f E l p hp hl;obtain⟨F,hd,h⟩:=cC (P:=P) (f:=145) (ι:=Unit) (λ_=> [strs l,.fn f [] E]) (λ_=>.i .i64 (idx p l)) (λ_=>True) (λ_ _ _ _ _=>rfl) (λ_ _=>hi);have h:=h () trivial;simp only[strs] at h;refine fi (ak (aR Tryz.func145) hd (au P)) (lf Tryz.func92) ?_;have h0:decide (idx p l>=0)=l.any p:=by
  unfold idx;cases l.any p <;>simp
 simp only[ge_iff_le] at h0
 repeat' first|apply nI|(refine eI [0,1,4] λK J=>?_;simp[strs,ab,h,h0];apply J)
 simp[Dn,aH,Tryz.f92]
def vP:List AV->Option AV
 | [.s [y,z],.sp [.i .u8 a],.sp [.i .u8 b]]=>some (.b (((y.toNat:Int)==a&&(z.toNat:Int)==b)||((z.toNat:Int)==a&&(y.toNat:Int)==b)))
 |_=>none
set_option maxHeartbeats 1000000 in
def Iu:Den P 194 vP:=λargs res h=>by
 unfold vP at h;split at h
 ·rename_i y z a b;cases h;refine fi (au P) (lf Tryz.func194) ?_;cases h1:((y.toNat:Int)==a) <;>cases h2:((z.toNat:Int)==b) <;>cases H:((z.toNat:Int)==a) <;>cases E:((y.toNat:Int)==b)
  all_goals (repeat' (first|apply nI|(refine eI [0,1,2,4] λK p=>?_;simp[h1,h2,H,E];apply p)|fail))
  all_goals simp[Dn,aH,Tryz.f194]
 ·cases h
end
def fK(h:ay)(r c:UInt8):Bool:=r==63||r==c||h.alike.any (vF r c)
def aj(h:ay)(d:am->Option AV):List AV:=o6 h++ [.mm d]
def ao(w:List UInt8):List AV:=w.map λc=>.i .u8 c.toNat
def zY(x:Int×Bool):List AV:= [.i .i64 x.1,.b x.2]
def bt(l:List (Int×Bool)):List AV:=l.flatMap zY
def bf(h:ay)(w:List UInt8):List UInt8->Int->Int->Bool->List (Int×Bool)
  | [],_,n,b=> [(n,b)]
  |r::s,last,n,b=>
    ((List.range 10).flatMap λd=>if(((d+1)%10:Nat):Int) !=last||h.R.isEmpty then
        (if fK h r (w.getD d 0) then bf h w s (((d+1)%10:Nat):Int) (10*n+(((d+1)%10:Nat):Int)) (b||(r !=63&&r !=w.getD d 0)) else[]) else[])++
      (match h.R with
       | []=> []
       |q::_=>if 0<=last then(if fK h r q then bf h w s last (10*n+last) (b||(r !=63&&r !=q)) else[]) else[])
section
variable{P:aC}[l:cL P]
theorem Lx(h:ay)(d:am->Option AV)(r c:UInt8)(hv:sH h):aq P 169 [.ag (aj h d),.i .u8 r.toNat,.i .u8 c.toNat] (.b (fK h r c)):=by
 have I:jw P (bW 194 vP a_):=ak (aR Tryz.func194) Iu (au P);have hc:=me (P:=P) I ⟨λ_ _=>rfl,λ_ _ _=>rfl⟩ 194 [.sp [.i .u8 r.toNat],.sp [.i .u8 c.toNat]] h.alike (vF r c) (λs hs=>by
  have H:=hv.2 s hs;obtain⟨y,z,rfl⟩:∃y z,s= [y,z]:=by
   match s,H with
   | [y,z],_=>exact⟨y,z,rfl⟩
  simp only[aaT,aaV,ab,vP,dV,vF];congr 2;simp[Bool.and_comm]) (by have:=hv.1;omega)
 obtain⟨F,hd,E⟩:=cC (P:=P) (f:=92) (ι:=Unit) (λ_=> [strs h.alike,.fn 194 [] [.sp [.i .u8 r.toNat],.sp [.i .u8 c.toNat]]]) (λ_=>.b (h.alike.any (vF r c))) (λ_=>True) (λ_ _ _ _ _=>rfl) (λ_ _=>hc);have E:=E () trivial;simp only[strs] at E;refine fi (ak (aR Tryz.func92) hd (au P)) (lf Tryz.func169) ?_;have J:(((r.toNat:Int))==63)=(r==63):=kn r 63 (by omega);cases h1:r==63 with
 |true=>
  repeat' first|apply nI|(refine eI [0,1,2,3,4,5,6] λK p=>?_;simp[aj,o6,J,h1];apply p)
  simp[Dn,aH,Tryz.f169,fK,h1]
 |false=>
  cases h2:r==c with
  |true=>
   repeat' first|apply nI|(refine eI [0,1,2,3,4,5,6] λK p=>?_;simp[aj,o6,J,h1,dV,h2];apply p)
   simp[Dn,aH,Tryz.f169,fK,h1,h2]
  |false=>
   repeat' first|apply nI|(refine eI [0,1,2,3,4,5,6] λK p=>?_;simp[aj,o6,J,h1,dV,h2,ab,E];apply p)
   simp[Dn,aH,Tryz.f169,fK,h1,h2]
end
def IA(args:ι->List AV)(res:ι->List AV)(ok:ι->Prop)(p:∀x y,ok x->ok y->args x=args y->res x=res y)(h:∀x,ok x->oN P e bo f (args x) (res x)):
  ∃F:List AV->Option (List AV),(∀a r,F a=some r->oN P e bo f a r)/\∀x,ok x->F (args x)=some (res x):=by
 classical
 refine⟨λa=>if hx:∃x,ok x/\a=args x then some (res hx.choose) else none,λa r hr=>?_,λx hx=>?_⟩
 ·simp only at hr;split at hr
  ·rename_i hx;cases hr;have h2:=h _ hx.choose_spec.1;rw[<-hx.choose_spec.2] at h2;exact h2
  ·cases hr
 ·have hex:∃y,ok y/\args x=args y:=⟨x,hx,rfl⟩
  simp only;rw[agp hex];congr 1;exact p _ _ hex.choose_spec.1 hx hex.choose_spec.2.symm
def yI(f:be)(F:List AV->Option (List AV))(e:b8)(bo:Nat)(tb:gr):gr:= { fn:=tb.fn,ac:=λg a=>if g=f then F a else none,ty:=e,bo:=bo }
def kh(f:be)(F:List AV->Option (List AV))(e:b8)(bo:Nat)(tb:gr)(a:List AV):(yI f F e bo tb).ac f a=F a:=by simp[yI]
theorem IS(f:be)(F:List AV->Option (List AV))(e:b8)(bo:Nat)(tb:gr):(yI f F e bo tb).fn=tb.fn:=(rfl)
theorem dD(f:be)(F:List AV->Option (List AV))(e:b8)(bo:Nat)(tb:gr):(yI f F e bo tb).ty=e:=(rfl)
def BL{F:List AV->Option (List AV)}(he:Enters P f)(E:∀a r,F a=some r->oN P e bo f a r)(p:jw P tb):jw P (yI f F e bo tb):=
 ⟨p.1,⟨λg a r hr=>(by
  unfold yI at hr;dsimp only at hr;split at hr
  ·rename_i e;subst e;exact⟨he,E a r hr⟩
  ·cases hr),λ_ _ _ _ h=>(by cases h)⟩⟩
def kP(bo:Nat):AV:=.v (.pointer (some ⟨bo,0,none⟩))
def Cl(h:ay)(d:am->Option AV)(w s:List UInt8)(bo:Nat):Nat->AV
 |0=>.any
 |k+1=>.fn 167 [] [.sp [.s s],kP bo,.sp (aj h d),.sp [Cl h d w s bo k],.sp (ao w)]
def j8(h:ay)(d:am->Option AV)(w s:List UInt8)(bo k:Nat)(i last n:Int)(b:Bool):List AV:= [.i .i64 i,.i .i64 last,.ag [.i .i64 n,.b b],.sp [.s s],kP bo,.sp (aj h d),.sp [Cl h d w s bo k],.sp (ao w)]
def j7(h:ay)(d:am->Option AV)(w s:List UInt8)(bo k:Nat)(c:UInt8)(dg:Int)(i n:Int)(b:Bool):List AV:= [.i .u8 c.toNat,.i .i64 dg,.sp (aj h d),.sp [.s s],.sp [.i .i64 i],.sp [Cl h d w s bo k],.sp [.i .i64 n,.b b]]
structure JF where
 c:UInt8
 dg:Int
 i:Nat
 n:Int
 b:Bool
structure sG where
 i:Nat
 last:Int
 n:Int
 b:Bool
structure JH(s:List UInt8)(k:Nat)(x:sG):Prop where
 k:s.length<=x.i+k
 i:x.i<=s.length
 n:0<=x.n/\x.n<10^x.i
 last: -1<=x.last/\x.last<=9
structure PX(s:List UInt8)(k:Nat)(x:JF):Prop where
 k:s.length<=x.i+k
 i:x.i<s.length
 n:0<=x.n/\x.n<10^x.i
 dg:0<=x.dg/\x.dg<=9
def va(h:ay)(w s:List UInt8)(x:JF):List (Int×Bool):=
 if fK h (s.getD x.i 0) x.c then bf h w (s.drop (x.i+1)) x.dg (10*x.n+x.dg) (x.b||(s.getD x.i 0 !=63&&s.getD x.i 0 !=x.c)) else[]
section
variable{P:aC}[l:cL P]
set_option maxHeartbeats 1000000 in
theorem XU(h:ay)(d:am->Option AV)(w s:List UInt8)(bo k:Nat)(hv:sH h)(hs:s.length<=17)
  (Z:∀x,JH s k x->oN P 120 bo 167 (j8 h d w s bo k x.i x.last x.n x.b) (bt (bf h w (s.drop x.i) x.last x.n x.b)))
  (x:JF) (hx:PX s (k+1) x):oN P 120 bo 168 (j7 h d w s bo (k+1) x.c x.dg x.i x.n x.b) (bt (va h w s x)):=by
 obtain⟨F,Y,KU⟩:=IA (P:=P) (e:=120) (bo:=bo) (f:=167) (ι:=sG) (λx=>j8 h d w s bo k x.i x.last x.n x.b) (λx=>bt (bf h w (s.drop x.i) x.last x.n x.b)) (JH s k) (λx y _ _ e=>by
  simp only[j8,abg,AV.i.injEq,AV.ag.injEq,AV.b.injEq,adM,abQ] at e;obtain⟨H,E,V,U⟩:=e;obtain⟨x1,x2,x3,x4⟩:=x;obtain⟨y1,y2,y3,y4⟩:=y;simp only at H E V U;have:x1=y1:=by omega
  subst this E V U;rfl) Z
 obtain⟨G,W,N⟩:=cC (P:=P) (f:=169) (ι:=UInt8×UInt8) (λx=> [.ag (aj h d),.i .u8 x.1.toNat,.i .u8 x.2.toNat]) (λx=>.b (fK h x.1 x.2)) (λ_=>True) (λx y _ _ e=>by
  simp only[abg,adM,abQ] at e;rw[oG e.1,oG e.2]) (λx _=>Lx h d x.1 x.2 hv)
 obtain⟨c,dg,i,n,b⟩:=x;obtain⟨h1,h2,h3,h4⟩:=hx;simp only at h1 h2 h3 h4;have p:=N (s[i],c) trivial;simp only[aj,o6,aaT,aaV] at p;have hp:(10:Int)^i<=10^16:=by exact_mod_cast aef (by omega) (by omega:i<=16)
 have an2:(10:Int)^16=10000000000000000:=by decide
 have w1:=aS ((i:Int)+1);have w2:=aS (10*n);have w3:=aS (10*n+dg);refine FV (tb:=yI 167 F 120 bo (bW 169 G a_)) (mt:=λd=>d==40) (BL (aR Tryz.func167) Y (ak (aR Tryz.func169) W (au P))) mixed (lf (P:=P) Tryz.func168) rfl (args':=j7 h d w s bo (k+1) c dg i n b) (Nat.le_of_ble_eq_true rfl) rfl rfl (λt=>.inl rfl) (λL hle=>?_);have O:Cl h d w s bo (k+1)=.fn 167 [] [.sp [.s s],kP bo,.sp (aj h d),.sp [Cl h d w s bo k],.sp (ao w)]:=rfl;cases I:fK h s[i] c with
 |false=>
  rw[I] at p;have hr:va h w s ⟨c,dg,i,n,b⟩= []:=by simp[va,h2,I]
  rw[hr]
  repeat' first|apply nI|(refine eI [0,1,2,3,4,5,6,14] λK M=>?_;simp[j7,aj,o6,h2,IS,ab,p];apply M)
  refine⟨.inl rfl,_,?_,dA _ _⟩;simp[bt,dD]
 |true=>
  rw[I] at p;have J:=KU ⟨i+1,dg,10*n+dg,b||(s[i] !=63&&s[i] !=c)⟩ ⟨by simp only;omega,by simp only;omega,by simp only;rw[Int.pow_succ];omega,by simp only;omega⟩;have hr:va h w s ⟨c,dg,i,n,b⟩=bf h w (s.drop (i+1)) dg (10*n+dg) (b||(s[i] !=63&&s[i] !=c)):=by simp[va,h2,I]
  rw[hr] at hle ⊢;have Gb:((s[i].toNat:Int)==63)=(s[i]==63):=kn s[i] 63 (by omega);simp only[j8,aj,o6,aaT,aaV,kP,bne] at J hle;cases b <;>cases H:s[i]==63 <;>cases E:s[i]==c
  all_goals simp only[H,E,aeF,Bool.not_false,Bool.and_true,Bool.and_false,Bool.or_true,Bool.or_false,Bool.and_self,Bool.or_self,Int.natCast_add,Int.cast_ofNat_Int] at J hle
  all_goals (repeat' (first|apply nI|(refine eI [0,1,2,3,4,5,6,14] λK M=>?_;simp[j7,aj,o6,h2,IS,ab,p,O,kP,Gb,H,E,dV,bne,w1,w2,w3,kh,J,dD,hle];apply M)|fail))
  all_goals refine⟨.inl rfl,_,?_,dA _ _⟩
  all_goals simp[dD,bne,H,E]
end
def aa4:=@List.drop_eq_getElem_cons
def agG:=@List.range_succ
def aft:=@List.flatMap_append
@[simp] abbrev ah0:List Nat:=[0,1,2,3,4,5,6,7,8,10,11,12,13,14,18,24,25,26,40,53]
def O_(j:Nat):Int:=(((j+1)%10:Nat):Int)
def cnd(h:ay)(last:Int)(j:Nat):Bool:=O_ j !=last||h.R.isEmpty
def nJ(h:ay)(w s:List UInt8)(x:sG)(j:Nat):List (Int×Bool):=if cnd h x.last j then va h w s ⟨w.getD j 0,O_ j,x.i,x.n,x.b⟩ else[]
def qV(h:ay)(w s:List UInt8)(x:sG):List (Int×Bool):=match h.R with
 | []=> []
 |q::_=>if 0<=x.last then va h w s ⟨q,x.last,x.i,x.n,x.b⟩ else[]
theorem G9(h:ay)(w s:List UInt8)(x:sG)(hi:x.i<s.length):bf h w (s.drop x.i) x.last x.n x.b=(List.range 10).flatMap (nJ h w s x)++qV h w s x:=by
 rw[aa4 hi];unfold bf nJ qV va;have e:s.getD x.i 0=s[x.i]:=by simp[hi]
 simp only[e];rfl
theorem fC(l:List (Int×Bool)):(bt l).length=2*l.length:=by
 induction l with
 |nil=>rfl
 |cons x l h=>simp[bt,zY] at *;omega
def qj(l m:List (Int×Bool)):bt (l++m)=bt l++bt m:=by simp[bt]
def rm(h:ay)(w s:List UInt8)(x:sG)(j:Nat):List (Int×Bool):=(List.range j).flatMap (nJ h w s x)
def tf(h:ay)(w s:List UInt8)(x:sG)(j:Nat):rm h w s x (j+1)=rm h w s x j++nJ h w s x j:=by
 unfold rm;rw[agG,aft];simp
theorem IV(h:ay)(w s:List UInt8)(x:sG):∀(d j:Nat),(rm h w s x j).length<=(rm h w s x (j+d)).length
 |0,j=>aax _
 |d+1,j=>by
  have:=IV h w s x d j;rw[show j+(d+1)=(j+d)+1 from by omega,tf,abj];omega
def ya(h:ay)(d:am->Option AV)(w s:List UInt8)(bo k:Nat)(i last n:Int)(b:Bool):List AV:= [.i .i64 i,.i .i64 last,.ag [.i .i64 n,.b b],.sp [.s s],.bx 0 0,.sp (aj h d),.sp [Cl h d w s bo k],.sp (ao w)]
theorem wj(j:Nat):((j:Int)+1).tmod 10=O_ j:=by
 unfold O_;rw[show((j:Int)+1)=((j+1:Nat):Int) from by omega];rfl
section
variable{P:aC}[l:cL P]
set_option maxHeartbeats 2000000 in
def PN(h:ay)(d:am->Option AV)(w s:List UInt8)(bo k:Nat)(hw:w.length=10)(hs:s.length<=17)
  (hB:∀x,PX s k x->oN P 120 bo 168 (j7 h d w s bo k x.c x.dg x.i x.n x.b) (bt (va h w s x)))
  (x:sG) (hx:JH s k x):oN P 120 bo 167 (j8 h d w s bo k x.i x.last x.n x.b) (bt (bf h w (s.drop x.i) x.last x.n x.b)):=by
 obtain⟨F,hF,KU⟩:=IA (P:=P) (e:=120) (bo:=bo) (f:=168) (ι:=JF) (λx=>j7 h d w s bo k x.c x.dg x.i x.n x.b) (λx=>bt (va h w s x)) (PX s k) (λx y _ _ e=>by
  obtain⟨x1,x2,x3,x4,x5⟩:=x;obtain⟨y1,y2,y3,y4,y5⟩:=y;simp only[j7,abg,AV.sp.injEq,abQ,adM] at e;obtain⟨e1,e2,e3,e4,e5⟩:=e;have h1:=oG e1;simp only[AV.i.injEq,AV.b.injEq,adM] at e2 e3 e4 e5;have:x3=y3:=by omega
  subst h1 e2 this e4 e5;rfl) hB
 have H:(ao w).length=10:=by simp[ao,hw]
 have jF:List.take 10 (ao w)=ao w:=aa1 (by omega);refine FV (tb:=yI 168 F 120 bo a_) (mt:=λd=>d==44||d==60) (BL (aR Tryz.func168) hF (au P)) mixed (lf (P:=P) Tryz.func167) rfl (args':=ya h d w s bo k x.i x.last x.n x.b) (Nat.le_of_ble_eq_true rfl) rfl rfl (λt=>by
  match t with
  |0=>exact .inl rfl
  |1=>exact .inl rfl
  |2=>exact .inl rfl
  |3=>exact .inl rfl
  |4=>exact .inr ⟨rfl,rfl⟩
  |5=>exact .inl rfl
  |6=>exact .inl rfl
  |7=>exact .inl rfl
  |n+8=>exact .inl rfl) (λL hle=>?_)
 obtain⟨h1,h2,h3,h4⟩:=hx;by_cases hi:x.i<s.length
 ·rw[G9 h w s x hi] at hle ⊢;have cr:((x.i:Int)==(s.length:Int))=false:=by simp;omega
  have Y:∀j,j<10->L.length+(bt (rm h w s x j)).length+(bt (nJ h w s x j)).length<=1099511627776:=λj hj=>by
   have h5:=IV h w s x (10-(j+1)) (j+1);rw[show j+1+(10-(j+1))=10 from by omega,tf,abj] at h5;have h6:(rm h w s x 10).length=((List.range 10).flatMap (nJ h w s x)).length:=rfl;simp only[fC,abj] at hle ⊢;omega
  have Hs:L.length+(bt (rm h w s x 10)).length+(bt (qV h w s x)).length<=1099511627776:=by
   have h6:(rm h w s x 10).length=((List.range 10).flatMap (nJ h w s x)).length:=rfl;simp only[fC,abj] at hle ⊢;omega
  repeat' first|apply nI|(refine eI ah0 λK E=>?_;simp[ya,cr,aj,o6,dD,H,jF];apply E)
  refine amF (λV T B lv nx=>∃j τ,j+V=10/\T 1=.i .i64 x.last/\T 3=.sp [.s s]/\T 5=.sp (aj h d)/\T 11=.fn 168 [] [.sp (aj h d),.sp [.s s],.sp [.i .i64 x.i],.sp [Cl h d w s bo k],.sp [.i .i64 x.n,.b x.b]]/\T 24=.ag (ao w)/\T 25=.i .i64 j/\
   B=eh (false,[.sq (some τ) 2 (L++bt (rm h w s x j))])/\lv=bG τ 120) 10 ?_ ?_
  ·exact⟨0,0,by simp,by simp,by simp,by simp[aj,o6],by simp[aj,o6],by simp,by simp,by simp[rm,bt],by simp⟩
  ·rintro V T B lv nx ⟨j,τ,hj,t1,t3,t5,t11,t24,t25,rfl,rfl⟩;have w1:=aS ((j:Int)+1);by_cases W:j<10
   ·have F3:j<w.length:=by omega
    have M:(j:Int)<10:=by omega
    have J:(ao w)[j]'(by omega)=.i .u8 w[j].toNat:=by simp[ao]
    have Z:w.getD j 0=w[j]:=by simp[F3]
    have hd9:0<=O_ j/\O_ j<=9:=by unfold O_;omega
    have I:=KU ⟨w[j],O_ j,x.i,x.n,x.b⟩ ⟨h1,hi,h3,hd9⟩;simp only[j7,aj,o6,aaT,aaV] at I;have KH:=Y j W;have O:=tf h w s x j;cases hc:cnd h x.last j with
    |true=>
     have bH:nJ h w s x j=va h w s ⟨w[j],O_ j,x.i,x.n,x.b⟩:=by unfold nJ;rw[aay hc,Z]
     rw[bH] at KH O;cases hq:O_ j==x.last with
     |false=>
      repeat' first|apply nI|(refine eI ah0 λK E=>?_;simp[t1,t3,t5,t11,t24,t25,w1,W,M,H,J,aj,o6,wj,bne,hq,kh,dD,I,KH];apply E)
      refine aN (V-1) ⟨j+1,_,by omega,by simp,by simp,by simp[aj,o6],by simp[aj,o6],by simp,by simp,?_,rfl⟩;simp[O,qj]
     |true=>
      have p:h.R= []:=by
       unfold cnd at hc;simp only[bne,hq,aeF,ahe] at hc;simpa using hc
      simp only[p] at I
      repeat' first|apply nI|(refine eI ah0 λK E=>?_;simp[t1,t3,t5,t11,t24,t25,w1,W,M,H,J,aj,o6,wj,bne,hq,kh,dD,I,KH,p];apply E)
      refine aN (V-1) ⟨j+1,_,by omega,by simp,by simp,by simp[aj,o6,p],by simp[aj,o6,p],by simp,by simp,?_,rfl⟩;simp[O,qj]
    |false=>
     have bH:nJ h w s x j= []:=by unfold nJ;rw[aat (by simp[hc])]
     rw[bH] at O;have hq:(O_ j==x.last)=true:=by unfold cnd at hc;simp[bne] at hc;simpa using hc.1
     have p:h.R≠ []:=by unfold cnd at hc;simp at hc;exact hc.2
     have U:(h.R== [])=false:=by simpa using p
     repeat' first|apply nI|(refine eI ah0 λK E=>?_;simp[t1,t3,t5,t11,t24,t25,w1,W,M,H,J,aj,o6,wj,bne,hq,U];apply E)
     refine aN (V-1) ⟨j+1,_,by omega,by simp,by simp,by simp[aj,o6],by simp[aj,o6],by simp,by simp,?_,rfl⟩;simp[O]
   ·have Am:j=10:=by omega
    subst Am;cases p:h.R with
    |nil=>
     have N:qV h w s x= []:=by unfold qV;rw[p]
     repeat' first|apply nI|(refine eI ah0 λK E=>?_;simp[t1,t3,t5,t11,t24,t25,aj,o6,p];apply E)
     refine⟨.inl rfl,τ,?_,by simp[dD]⟩;simp[dD,N,rm]
    |cons q rr=>
     have U:(h.R== [])=false:=by rw[p];rfl
     by_cases h0:0<=x.last
     ·have N:qV h w s x=va h w s ⟨q,x.last,x.i,x.n,x.b⟩:=by unfold qV;rw[p];simp[h0]
      rw[N] at Hs;have I:=KU ⟨q,x.last,x.i,x.n,x.b⟩ ⟨h1,hi,h3,⟨h0,h4.2⟩⟩;simp only[j7,aj,o6,aaT,aaV,p] at I
      repeat' first|apply nI|(refine eI ah0 λK E=>?_;simp[t1,t3,t5,t11,t24,t25,aj,o6,p,h0,kh,dD,I,Hs];apply E)
      refine⟨.inl rfl,_,?_,dA _ _⟩;simp[dD,N,rm,qj]
     ·have N:qV h w s x= []:=by unfold qV;rw[p];simp[h0]
      repeat' first|apply nI|(refine eI ah0 λK E=>?_;simp[t1,t3,t5,t11,t24,t25,aj,o6,p,h0];apply E)
      refine⟨.inl rfl,τ,?_,by simp[dD]⟩;simp[dD,N,rm]
 ·have I8:x.i=s.length:=by omega
  have vf:s.drop x.i= []:=by rw[I8];simp
  rw[vf] at hle ⊢;simp only[bf,fC,ab0,aeA] at hle;have heq:((x.i:Int)==(s.length:Int))=true:=by simp;omega
  have E2:(L.length+2)*17<=70368744177664:=by omega
  repeat' first|apply nI|(refine eI ah0 λK E=>?_;simp[ya,heq,aj,o6,E2,dD];apply E)
  refine⟨.inr rfl,10,?_,by simp[dD]⟩;simp[dD,bt,zY,bf]
end
section
variable{P:aC}[l:cL P]
theorem SZ(h:ay)(d:am->Option AV)(w s:List UInt8)(bo:Nat)(hw:w.length=10)(hv:sH h)(hs:s.length<=17):
  ∀k x,JH s k x->oN P 120 bo 167 (j8 h d w s bo k x.i x.last x.n x.b) (bt (bf h w (s.drop x.i) x.last x.n x.b)):=by
 intro k
 induction k with
 |zero=>exact λx hx=>PN h d w s bo 0 hw hs (λy hy=>by have:=hy.k;have:=hy.i;omega) x hx
 |succ k p=>exact λx hx=>PN h d w s bo (k+1) hw hs (λy hy=>XU h d w s bo k hv hs p y hy) x hx
end
end Go.Proofs.YtjagmhagphbfcaaGreatDoor
