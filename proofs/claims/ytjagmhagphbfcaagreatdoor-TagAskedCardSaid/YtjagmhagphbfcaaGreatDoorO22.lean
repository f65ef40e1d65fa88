/- Lemmas, part 22. -/
import Derived.Sort.OwnSorted
import Derived.Sort.EveryDepth
import Derived.Test.YtjagmhagphbfcaaGreatDoorO21
set_option maxRecDepth 100000
set_option linter.all false
namespace Go.Proofs.YtjagmhagphbfcaaGreatDoor
def af9:=@Go.Lib.holds_of_ownsRow
def aa1:=@List.take_of_length_le
open Go Go.Proofs
def kK{α:Type}(P:Program)(f:FuncId)(e:TypeId)(ev:α->Value)(l r:List α):Prop:=
 ∀(B:Nat) (g:Gh) (w:World) (x:Value),WI g w->Row B e g w x (l.map ev)->Calls P f #[x] w λp w'=>
  p=.returned (.tuple #[])/\Lw g g w w'/\WI g w'/\Row B e g w' x (r.map ev)/\∀b,b<w.heap.size->x.ownBlock≠some b->w'.heap[b]?=w.heap[b]?
def CY{α:Type}(P:Program)(f:FuncId)(e:TypeId)(ev:α->Value)(l r:List α):Prop:=
 ∀(B:Nat) (g:Gh) (w:World) (x:Value),WI g w->Row B e g w x (l.map ev)->Calls P f #[x] w λp w'=>
  ∃y,p=.returned y/\Lw g g w w'/\WI g w'/\Row B e g w' y (r.map ev)/\(∀c,y.ownBlock=some c->x.ownBlock=some c)/\∀b,b<w.heap.size->x.ownBlock≠some b->w'.heap[b]?=w.heap[b]?
section
variable{α:Type}[Inhabited α]{P:Program}{g:Gh}{w:World}{B:Nat}{e:TypeId}
theorem Row.laid{ev:α->Value}{p ys:List α}{b cap n q k:Nat}{os:Array Obj}(h:Row B e g w (.slice (some ⟨b,0,none⟩) n cap) (p.map ev))(hW:WI g w)(hy:ys.length=p.length)(hk:k<=n)(U:e=3->∀a,Yu (ev a)):
  let w':=Sort.grow (Sort.putRow ev (Sort.ahead w q) b 0 ys.toArray) os
  Lw g g w w'/\WI g w'/\Row B e g w' (.slice (some ⟨b,0,none⟩) k cap) ((ys.take k).map ev)/\∀c,c<w.heap.size->(Value.slice (some ⟨b,0,none⟩) n cap).ownBlock≠some c->w'.heap[c]?=w.heap[c]?:=by
 intro w';have hn:n=p.length:=by
  have:=h.own.2
  grind
 have fM:b<w.heap.size:=(h.own.lt b rfl).2;have I:w.grownBy w' (some b):=by
  refine⟨rfl,rfl,rfl,by simp[w'],λc hc cr=>?_⟩
  grind [Sort.grow,Sort.putRow,Sort.mapBlock,Sort.ahead]
 have H:w.ownsRow B e 1 (.slice (some ⟨b,0,none⟩) n cap) n (p.map ev):=by
  have:=h.own;simp_all
 have h1:=Lib.ownsRow_putRow (q:=q) H (by rw[hy,hn]) hk;have N:w'.ownsRow B e 1 (.slice (some ⟨b,0,none⟩) k cap) ((ys.take k).map ev).length ((ys.take k).map ev):=by
  have hl:((ys.take k).map ev).length=k:=by grind
  rw[hl];refine⟨h1.1,?_⟩;rcases h1.2 with h2|⟨c,W,cur,hv,L,hg,hr⟩
  ·grind
  ·cases hv;refine .inr ⟨_,_,cur,rfl,L,?_,hr⟩
   grind [Sort.heap_grow_old]
 obtain⟨k1,k2,J⟩:=h.Mb hW N (λc hc=>.inl hc) I (λM c cur fr hc E u hu=>by
  cases hc;have h1:w'.heap[b]?=(w.heap.modify b (Sort.onCells (Sort.putCells ev 0 ys.toArray)))[b]?:=by
   show(Sort.grow _ _).heap[_]?=_;rw[Sort.heap_grow_old _ _ (by simp_all)];rfl
  rw[h1,acD,aay rfl] at E;cases hw:w.heap[b]? with
  |none=>simp_all
  |some o=>
   rw[hw] at E;cases o <;>simp only[acz,Sort.onCells,Option.some.injEq,reduceCtorEq,Obj.cells.injEq] at E
   rename_i ai1 O kG;obtain⟨rfl,rfl,rfl⟩:=E;have h0:=h.cl M b ai1 kG rfl hw
   grind [Sort.putCells])
 exact⟨k1,k2,J,λc hc cr=>I.block c hc (λe=>cr e.symm)⟩
end
section
variable{P:Program}{g:Gh}{w:World}{B:Nat}{e:TypeId}
def ab9(c:Option Nat)(n:Nat):Gh:= { hw:=λb=>if c=some b then n else if b=0 then 3 else 0,aD:=λ_=>none }
theorem LJ.some(h:LJ g w):2<g.hw 0:=(h 0 2 _ rfl).1
theorem Qk{x:Value}{ys:List Value}(hW:WI g w)(p:Row B e g w x ys):WI (ab9 x.ownBlock ys.length) w:=by
 have h0:=hW.cz.some;have E:=hW.lt (b:=0) (by omega);refine⟨λb hb=>⟨?_,rfl⟩,λb d hd=>(by cases hd),λb o v h=>?_⟩
 ·show(if x.ownBlock=Option.some b then _ else if b=0 then 3 else 0)=0;rw[aat (λh=>by have:=(p.own.lt b h).2;omega),aat (by omega)]
 ·obtain⟨k1,k2⟩:=hW.cz b o v h;have hb:b=0/\o<3:=by
   unfold KX at h
   grind
  obtain⟨rfl,ho⟩:=hb;refine⟨?_,k2⟩;show o<if x.ownBlock=Option.some 0 then _ else if(0:Nat)=0 then 3 else 0
  rw[aat (λh=>by have:=(p.loose 0 h).1;omega),aay rfl];exact ho
theorem sV{w':World}(hW:WI g w)(hs:w.heap.size<=w'.heap.size)(hb:∀b,b<w.heap.size->w'.heap[b]?=w.heap[b]?)(h1:w'.os=w.os)(h2:w'.tape=w.tape)(H:w'.output=w.output):Lw g g w w'/\WI g w'/\anw g g w w':=by
 have p:Lw g g w w':=⟨hs,λ_=>aax _,λb o ho=>World.cell?_of_block (hb b (hW.lt (by omega))),λ_ _ h=>h,h1,h2,H,λb o mr _=>by grind⟩
 refine⟨p,⟨λb E=>hW.out b (aaY hs E),λb d hd=>?_,hW.cz.mono p⟩,⟨λb h _=>hb b h,λ_ _=>rfl,λ_ _=>rfl⟩⟩;obtain⟨es,ck,k1,k2⟩:=hW.aD b d hd;exact⟨es,ck,by grind,λy hy=>by obtain⟨a,m1,m2⟩:=k2 y hy;exact⟨a,m1,m2.mono p⟩⟩
theorem aq.beside{f:FuncId}{args:List AV}{res:AV}(h:aq P f args res){x:Value}{ys:List Value}(hW:WI g w)(H:Row B e g w x ys){xs:List Value}(hr:cS (ab9 x.ownBlock ys.length) w args xs):
  Calls P f xs.toArray w λp w'=>∃y,p=.returned y/\Lw g g w w'/\WI g w'/\anw g g w w'/\(∀b,b<w.heap.size->w'.heap[b]?=w.heap[b]?)/\∃g',Rd g' w' res y:=by
 refine(h _ w xs (Qk hW H) hr).mono ?_;rintro p w' ⟨y,g',rfl,k1,k2,E,J,_⟩;have hb:∀b,b<w.heap.size->w'.heap[b]?=w.heap[b]?:=λb hb=>E.block b hb rfl
 obtain⟨m1,m2,I⟩:=sV (g:=g) hW k1.size hb k1.os k1.tape k1.output
 grind
theorem Row.still{w':World}{x:Value}{ys:List Value}(h:Row B e g w x ys)(p:anw g g w w'):Row B e g w' x ys:=h.keep p
theorem mB{α:Type}{ea:α->AV}{ev:α->Value}(he:LX ea ev){f:FuncId}{l:List α}(h:aq P f [.sq none 1 (l.map ea)] (.tu [])):kK P f e ev l l:=by
 intro B g w x hW p;refine(h.beside hW p (xs:= [x]) (.cons (p.rd he (λc hc=>?_)) (.nil _ _))).mono ?_
 ·show l.length<=if x.ownBlock=Option.some c then _ else _
  simp_all
 ·rintro J w' ⟨y,rfl,k1,k2,I,H,g',E⟩;cases E with
  |tu _ ys h1 _=>
   have hy:ys= []:=abA (by omega);subst hy;exact⟨rfl,k1,k2,p.still I,λb hb _=>H b hb⟩
theorem lV{α:Type}{ev:α->Value}{x:Value}{l:List α}(h:Row B e g w x (l.map ev)):(x=.slice none 0 0/\l= [])\/∃b cap,x=.slice (some ⟨b,0,none⟩) l.length cap/\b<w.heap.size/\l.length<=cap/\cap<=maxLen:=by
 rcases h.own.2 with ⟨rfl,h0⟩|⟨b,cap,cur,rfl,_,hg,h1,h2,_⟩
 ·simp_all
 grind
end
section
variable{P:Program}[l:cL P]
theorem se:LX (AV.i .i64) (Value.int .i64):=⟨λg w a=>.i _ _,λg w a y h=>by cases h;rfl,λ_=>rfl⟩
theorem Jr:LX AV.s sv:=⟨λg w a=>.s _,λg w a y h=>by cases h;rfl,λ_=>rfl⟩
theorem CB:LX (λc:UInt8=>AV.i .u8 c.toNat) (λc:UInt8=>Value.int .u8 c.toNat):=⟨λg w a=>.i _ _,λg w a y h=>by cases h;rfl,λ_=>rfl⟩
theorem MD(h0:kK P 131 3 (Value.int .i64) [] [])(l:List Int)(hl:l.length<4611686018427387904):kK P 131 3 (Value.int .i64) l (l.mergeSort λx y=>decide (x<=y)):=by
 intro B g w x hW p;rcases lV p with ⟨rfl,rfl⟩|⟨b,cap,rfl,hb,h1,h2⟩
 ·rw[List.mergeSort_nil];exact h0 B g w _ hW p
 ·have E:Sort.Holds (Value.int .i64) w b 0 l.toArray:=by
   have H:=p.own;rw[abz] at H;obtain⟨g',N,M,_,_,_,_,_,E⟩:=af9 H (by simp)
   simp_all
  refine(Any.slices_Sort_int Nq b 0 cap l w E hb hl).mono ?_;rintro L w' ⟨rfl,n,os,rfl⟩;obtain⟨k1,k2,J,I⟩:=Row.laid (q:=n) (os:=os) (ys:=l.mergeSort λx y=>decide (x<=y)) (k:=l.length) p hW (by simp) (aax _) (λh=>by first|exact λa=>⟨a,rfl⟩|cases h)
  simp_all [aa1]
theorem MC(h0:kK P 172 9 sv [] [])(l:List (List UInt8))(hl:l.length<4611686018427387904):kK P 172 9 sv l (l.mergeSort λx y=>decide (x<=y)):=by
 intro B g w x hW p;rcases lV p with ⟨rfl,rfl⟩|⟨b,cap,rfl,hb,h1,h2⟩
 ·rw[List.mergeSort_nil];exact h0 B g w _ hW p
 ·have E:Sort.Holds encStr w b 0 l.toArray:=by
   have H:=p.own;rw[abz] at H;obtain⟨g',N,M,_,_,_,_,_,E⟩:=af9 H (by simp)
   simp_all
  refine(Any.slices_Sort_string VI b 0 cap l w E hb hl).mono ?_;rintro L w' ⟨rfl,n,os,rfl⟩;obtain⟨k1,k2,J,I⟩:=Row.laid (q:=n) (os:=os) (ys:=l.mergeSort λx y=>decide (x<=y)) (k:=l.length) p hW (by simp) (aax _) (λh=>by simp_all)
  simp_all [aa1]
theorem AL{α:Type}[Inhabited α][DecidableEq α](l:List α)(z:α):(Lib.compact l++List.replicate (l.length-(Lib.compact l).length) z).take (Lib.compact l).length=Lib.compact l:=by
 simp
theorem Fz{α:Type}[Inhabited α][DecidableEq α](l:List α)(z:α):(Lib.compact l++List.replicate (l.length-(Lib.compact l).length) z).length=l.length:=by
 grind [iv]
theorem FA(l:List Int)(hl:l.length<4611686018427387904):CY P 132 3 (Value.int .i64) l (Lib.compact l):=by
 intro B g w x hW p;rcases lV p with ⟨rfl,rfl⟩|⟨b,cap,rfl,hb,h1,h2⟩
 ·refine(Any.slices_Compact_int_empty TD none 0 w).mono ?_;rintro L w' ⟨rfl,rfl⟩;exact⟨_,rfl,.refl _ _,hW,p,λc hc=>hc,λ_ _ _=>rfl⟩
 ·have I:Sort.Holds (Value.int .i64) w b 0 l.toArray:=by
   have J:=p.own;rw[abz] at J;obtain⟨g',N,M,_,_,_,_,_,I⟩:=af9 J (by simp)
   simp_all
  refine(Any.slices_Compact_int TD b 0 cap l w I (by omega) h1).mono ?_;rintro L w' ⟨rfl,n,rfl⟩;obtain⟨k1,k2,E,H⟩:=Row.laid (q:=n) (os:= #[]) (ys:=Lib.compact l++List.replicate (l.length-(Lib.compact l).length) 0) (k:=(Lib.compact l).length) p hW (Fz l 0) (iv l) (λ_ a=>⟨a,rfl⟩);rw[AL] at E;simp only[Sort.grow_empty] at k1 k2 E H;exact⟨_,rfl,k1,k2,E,λc hc=>hc,H⟩
theorem Pb(l:List (List UInt8))(hl:l.length<4611686018427387904):CY P 173 9 sv l (Lib.compact l):=by
 intro B g w x hW p;rcases lV p with ⟨rfl,rfl⟩|⟨b,cap,rfl,hb,h1,h2⟩
 ·refine(Any.slices_Compact_string_empty Np none 0 w).mono ?_;rintro L w' ⟨rfl,rfl⟩;exact⟨_,rfl,.refl _ _,hW,p,λc hc=>hc,λ_ _ _=>rfl⟩
 ·have I:Sort.Holds encStr w b 0 l.toArray:=by
   have J:=p.own;rw[abz] at J;obtain⟨g',N,M,_,_,_,_,_,I⟩:=af9 J (by simp)
   simp_all
  refine(Any.slices_Compact_string Np b 0 cap l w I (by omega) h1).mono ?_;rintro L w' ⟨rfl,n,rfl⟩;obtain⟨k1,k2,E,H⟩:=Row.laid (q:=n) (os:= #[]) (ys:=Lib.compact l++List.replicate (l.length-(Lib.compact l).length) []) (k:=(Lib.compact l).length) p hW (Fz l []) (iv l) (λh=>by cases h);rw[AL] at E;simp only[Sort.grow_empty] at k1 k2 E H;exact⟨_,rfl,k1,k2,E,λc hc=>hc,H⟩
end
def aco:=@List.flatMap_cons
def afs:=@List.drop_succ_cons
def adX:=@Bool.eq_iff_iff
def aaN:=@List.take_succ_eq_append_getElem
structure Tag where
 reads:List UInt8
 low:Int
 high:Int
structure ay where
 L:List UInt8
 S:List UInt8
 R:List UInt8
 alike:List (List UInt8)
 tags:List Tag
def fP(t:Tag):List AV:= [.s t.reads,.i .i64 t.low,.i .i64 t.high]
def bI(l:List Tag):List AV:=l.flatMap fP
def strs(l:List (List UInt8)):AV:=.sq none 1 (l.map .s)
def ints(l:List Int):AV:=.sq none 1 (l.map (.i .i64))
def o6(h:ay):List AV:= [.s h.L,.s h.S,.s h.R,.sq none 1 (h.alike.map .s),.sq none 3 (bI h.tags)]
def eG(h:ay):AV:=.ag (o6 h)
def isLet(c:UInt8):Bool:=decide (65<=c.toNat/\c.toNat<=90)
def bA(s:List UInt8)(o:UInt8):Bool:=s.all λc=>isLet c||c==o
def dup(a:List UInt8):Bool:=a.any λc=>c !=63&&decide (1<a.count c)
def bB(h:ay):Int:=
 if h.L.length≠10\/bA h.L 63=false\/bA h.S 65=false\/1<h.R.length\/bA h.R 65=false then 3
 else if h.S.length≠h.L.count 63\/4<h.S.length then 2
 else if dup (h.L++h.S++h.R)=true then 5 else 0
def cP(a b:List UInt8):Bool:=a==b||(a[0]?==b[1]?&&a[1]?==b[0]?)
def eR(l:List (List UInt8))(s:List UInt8):Int:=
 if s.length≠2\/bA s 65=false then 3
 else if s[0]?=s[1]? then 5
 else if l.any (cP · s)=true then 5 else 0
def cb(pre:List (List UInt8)):List (List UInt8)->Int
 | []=>0
 |s::l=>if eR pre s≠0 then eR pre s else cb (pre++ [s]) l
def bj(l:List (List UInt8)):Int:=if 4<l.length then 2 else cb [] l
def aM(s:List UInt8):Int:=
 if s.length<1\/5<s.length then 2 else if bA s 63=false then 3 else if 2<s.count 63 then 2 else 0
def dR(a b:Int):Bool:=decide (0<=a/\a<=b/\b<=99999)
def cR:List Tag->Int
 | []=>0
 |t::l=>if aM t.reads≠0 then aM t.reads else if dR t.low t.high=false then 1 else cR l
def aO(h:ay):Int:=
 if bB h≠0 then bB h else if bj h.alike≠0 then bj h.alike else if 5<h.tags.length then 2 else cR h.tags
structure Fair(h:ay):Prop where
 L:h.L.length<=40
 S:h.S.length<=40
 R:h.R.length<=40
 na:h.alike.length<=20
 a:∀s∈h.alike,s.length<=40
 nt:h.tags.length<=20
 t:∀t∈h.tags,t.reads.length<=40
theorem cV(l:List Tag):(bI l).length=l.length*3:=by
 induction l with
 |nil=>rfl
 |cons t l p=>simp[bI,fP] at *;omega
theorem fA:∀(l:List Tag) (i:Nat) (t:Tag),l[i]?=some t->(bI l).drop (i*3)=.s t.reads::.i .i64 t.low::.i .i64 t.high::bI (l.drop (i+1))
 | [],i,t,h=>by simp at h
 |t'::l,0,t,h=>by simp at h;subst h;rfl
 |t'::l,i+1,t,h=>by
  have:=fA l i t (by simpa using h);rw[show(i+1)*3=3+i*3 from by omega];simp only[bI,aco,fP,aaT,aaV,afs] at *;rw[show 3+i*3=(i*3)+1+1+1 from by omega];simpa using this
theorem dV(a b:UInt8):((a.toNat:Int)==(b.toNat:Int))=(a==b):=by
 rw[adX];simp only[ac6];exact⟨λh=>UInt8.toNat_inj.1 (by omega),λh=>by rw[h]⟩
theorem kn(a:UInt8)(n:Nat)(h:n<256):((a.toNat:Int)==(n:Int))=(a==UInt8.ofNat n):=by
 rw[<-dV,UInt8.toNat_ofNat',Nat.mod_eq_of_lt h]
theorem uC(s:List UInt8)(o:UInt8)(k:Nat)(hk:k<s.length):bA (s.take (k+1)) o=(bA (s.take k) o&&(isLet s[k]||s[k]==o)):=by
 unfold bA;rw[aaN hk,List.all_append];simp
theorem Ae(s:List UInt8)(o:UInt8)(k:Nat)(hk:k<s.length)(h:(isLet s[k]||s[k]==o)=false):bA s o=false:=by
 unfold bA;rw[List.all_eq_false];exact⟨s[k],abG hk,by simp[h]⟩
def aan:=@decide_eq_true_eq
def aac:=@decide_eq_false_iff_not
@[simp] abbrev aiu:List Nat:=[0,1,4,5,6,10,17]
@[simp] abbrev aiE:List Nat:=[0,1,4,5,9,23]
section
variable{P:Program}[l:cL P]
def dIn:List AV->Option AV
 | [.i .i64 n,.i .i64 a,.i .i64 b]=>some (.b (decide (a<=n)&&decide (n<=b)))
 |_=>none
theorem VL(n a b:Int):aq P 42 [.i .i64 n,.i .i64 a,.i .i64 b] (.b (decide (a<=n)&&decide (n<=b))):=by
 refine fi (au P) (lf Tryz.func42) ?_
 repeat' first|apply nI|(refine eI [0,1,2,6] λK p=>?_;simp[*];first|apply p|(refine aE (λhc=>?_) (λhc=>?_) <;>(try simp only[aan,aac] at hc) <;>simp[*] <;>repeat' (first|apply p|(refine aE (λhc=>?_) (λhc=>?_) <;>(try simp only[aan,aac] at hc) <;>simp[hc, *])|fail))|fail)
 all_goals simp[Dn,aH,Tryz.f42, *]
theorem anp:Den P 42 dIn:=λargs res h=>by
 unfold dIn at h;split at h
 ·cases h;exact VL _ _ _
 ·cases h
def mc:List AV->Option AV
 | [.i .u8 c]=>some (.b (decide (65<=c)&&decide (c<=90)))
 |_=>none
theorem BZ:Den P 170 mc:=λargs res h=>by
 unfold mc at h;split at h
 ·cases h;refine fi (au P) (lf Tryz.func170) ?_
  repeat' first|apply nI|(refine eI [0,2] λK p=>?_;simp[*];first|apply p|(refine aE (λhc=>?_) (λhc=>?_) <;>(try simp only[aan,aac] at hc) <;>simp[*] <;>repeat' (first|apply p|(refine aE (λhc=>?_) (λhc=>?_) <;>(try simp only[aan,aac] at hc) <;>simp[hc, *])|fail))|fail)
  all_goals simp[Dn,aH,Tryz.f170, *]
 ·cases h
theorem xk(c:UInt8):(decide ((65:Int)<=c.toNat)&&decide ((c.toNat:Int)<=90))=isLet c:=by
 unfold isLet;rw[adX];simp;omega
theorem HZ(l:List UInt8)(c:UInt8)(k:Nat)(hk:k<l.length):(l.take (k+1)).count c=(l.take k).count c+if l[k]=c then 1 else 0:=by
 rw[aaN hk,List.count_append];simp[List.count_cons,List.count_nil]
theorem Eg(l:List UInt8)(c:UInt8)(hl:l.length<1000000):aq P 124 [.s l,.i .u8 c.toNat] (.i .i64 (l.count c)):=by
 refine fi (au P) (lf Tryz.func124) ?_
 repeat apply nI
 refine eI aiu ?_;intro K p;simp
 repeat' (first|apply p|(refine aE (λhc=>?_) (λhc=>?_) <;>(try simp only[aan,aac] at hc) <;>simp[hc])|fail)
 repeat apply nI
 refine eI aiu ?_;intro K p;simp
 repeat' (first|apply p|(refine aE (λhc=>?_) (λhc=>?_) <;>(try simp only[aan,aac] at hc) <;>simp[hc])|fail)
 repeat apply nI
 refine eI aiu ?_;intro K p;simp
 repeat' (first|apply p|(refine aE (λhc=>?_) (λhc=>?_) <;>(try simp only[aan,aac] at hc) <;>simp[hc])|fail)
 repeat apply nI
 refine amF (λd T B lv nx=>∃k,k+d=l.length/\T 0=.s l/\T 1=.i .u8 c.toNat/\T 6=.i .i64 k/\T 5=.i .i64 ((l.take k).count c)) l.length ?_ ?_
 ·exact⟨0,by simp,by simp,by simp,by simp,by simp⟩
 ·rintro d T B lv nx ⟨k,hk,h0,h1,E,H⟩;have L:(l.take k).count c<=k:=aaY List.count_le_length (by simp;omega);have w1:=aS ((k:Int)+1);have w2:=aS (((l.take k).count c:Int)+1);by_cases I:k<l.length
  ·have ht:=HZ l c k I;by_cases he:l[k]=c
   ·rw[aay he] at ht
    repeat' first|apply nI|(refine eI aiu λK p=>?_;simp[h0,h1,H,E,I,he,w1,w2];apply p)
    refine aN (d-1) ⟨k+1,by omega,by simp,by simp,by simp,by simp[ht]⟩
   ·rw[aat he] at ht
    repeat' first|apply nI|(refine eI aiu λK p=>?_;simp[h0,h1,E,I,dV,he,w1];apply p)
    refine aN (d-1) ⟨k+1,by omega,by simp,by simp,by simp,by simp[ht,H]⟩
  ·have J:k=l.length:=by omega
   subst J
   repeat' first|apply nI|(refine eI aiu λK p=>?_;simp[h0,E,H];apply p)
   simp[Dn,aH,Tryz.f124]
theorem SI(c:Int)(h0:0<=c)(h1:c<256):((UInt8.ofNat c.toNat).toNat:Int)=c:=by rw[UInt8.toNat_ofNat'];omega
theorem uA(l:List UInt8)(c:UInt8)(hl:l.length<1000000):aq P 138 [.s l,.i .u8 c.toNat] (.b (bA l c)):=by
 refine fi (ak (aR Tryz.func170) BZ (au P)) (lf Tryz.func138) ?_
 repeat apply nI
 refine eI aiE ?_;intro K p;simp
 repeat' (first|apply p|(refine aE (λhc=>?_) (λhc=>?_) <;>(try simp only[aan,aac] at hc) <;>simp[hc])|fail)
 repeat apply nI
 refine eI aiE ?_;intro K p;simp
 repeat' (first|apply p|(refine aE (λhc=>?_) (λhc=>?_) <;>(try simp only[aan,aac] at hc) <;>simp[hc])|fail)
 repeat apply nI
 refine amF (λd T B lv nx=>∃k,k+d=l.length/\T 0=.s l/\T 1=.i .u8 c.toNat/\T 5=.i .i64 k/\bA (l.take k) c=true) l.length ?_ ?_
 ·exact⟨0,by simp,by simp,by simp,by simp,by simp[bA]⟩
 ·rintro d T B lv nx ⟨k,hk,h0,h1,I,hp⟩;have w1:=aS ((k:Int)+1);by_cases H:k<l.length
  ·have ht:=uC l c k H;have M:=Ae l c k H;cases E:isLet l[k] with
   |true=>
    repeat' first|apply nI|(refine eI aiE λK p=>?_;simp[h0,h1,I,H,w1,ab,mc,xk,E];apply p)
    refine aN (d-1) ⟨k+1,by omega,by simp,by simp,by simp,by simp[ht,E,hp]⟩
   |false=>
    by_cases he:l[k]=c
    ·have J:isLet c=false:=he▸E
     repeat' first|apply nI|(refine eI aiE λK p=>?_;simp[h0,h1,I,H,w1,ab,mc,xk,J,he];apply p)
     refine aN (d-1) ⟨k+1,by omega,by simp,by simp,by simp,by simp[ht,he,hp]⟩
    ·have hf:=M (by simp[E,he])
     repeat' first|apply nI|(refine eI aiE λK p=>?_;simp[h0,h1,I,H,ab,mc,xk,E,he,dV,bne];apply p)
     simp[Dn,aH,Tryz.f138,hf]
  ·have L:k=l.length:=by omega
   subst L;have hf:bA l c=true:=by simpa using hp
   repeat' first|apply nI|(refine eI aiE λK p=>?_;simp[h0,I];apply p)
   simp[Dn,aH,Tryz.f138,hf]
end
def agD:=@List.mem_take_iff_getElem
def ady:=@beq_eq_false_iff_ne
def ae6:=@Int.tmod_eq_emod_of_nonneg
def aef:=@Nat.pow_le_pow_right
@[simp] abbrev aqa:List Nat:=[0,1,4,5,9,16]
@[simp] abbrev anV:List Nat:=[0,1,2,6,7,8,9,10,11,15,32,40,42]
def placeOf(w:List UInt8)(c:UInt8):Int:=match w.findIdx? (· ==c) with
 |some i=>((i:Int)+1)%10
 |none=> -1
theorem aoJ(w:List UInt8)(c:UInt8)(k:Nat)(hk:k<w.length)(hn:c∉w.take k)(he:w[k]=c):placeOf w c=((k:Int)+1)%10:=by
 have:w.findIdx? (· ==c)=some k:=by
  rw[List.findIdx?_eq_some_iff_getElem];refine⟨hk,by simpa using he,λj p=>?_⟩;simp only[ac6];intro e;exact hn (agD.2 ⟨j,by omega,e⟩)
 simp[placeOf,this]
theorem aoB(w:List UInt8)(c:UInt8)(hn:c∉w):placeOf w c= -1:=by
 have:w.findIdx? (· ==c)=none:=by
  rw[List.findIdx?_eq_none_iff];intro x hx;simp only[ady];intro e;exact hn (e▸hx)
 simp[placeOf,this]
theorem GZ(w:List UInt8)(c:UInt8): -1<=placeOf w c/\placeOf w c<=9:=by
 unfold placeOf;split <;>omega
theorem D_(w:List UInt8)(c:UInt8)(k:Nat)(hk:k<w.length)(hn:c∉w.take k)(he:¬w[k]=c):c∉w.take (k+1):=by
 rw[aaN hk];simp only[abH,acE,not_or];exact⟨hn,λe=>he e.symm⟩
section
variable{P:Program}[l:cL P]
def an6:List AV->Option AV
 | [.s w,.i .u8 c]=>if 0<=c/\c<256/\w.length<1000000 then some (.i .i64 (placeOf w (UInt8.ofNat c.toNat))) else none
 |_=>none
theorem apJ(w:List UInt8)(c:UInt8)(hl:w.length<1000000):aq P 112 [.s w,.i .u8 c.toNat] (.i .i64 (placeOf w c)):=by
 refine fi (au P) (lf Tryz.func112) ?_
 repeat apply nI
 refine eI aqa ?_;intro K p;simp
 repeat' (first|apply p|(refine aE (λhc=>?_) (λhc=>?_) <;>(try simp only[aan,aac] at hc) <;>simp[hc])|fail)
 repeat apply nI
 refine eI aqa ?_;intro K p;simp
 repeat' (first|apply p|(refine aE (λhc=>?_) (λhc=>?_) <;>(try simp only[aan,aac] at hc) <;>simp[hc])|fail)
 repeat apply nI
 refine amF (λd T B lv nx=>∃k,k+d=w.length/\T 0=.s w/\T 1=.i .u8 c.toNat/\T 5=.i .i64 k/\c∉w.take k) w.length ?_ ?_
 ·exact⟨0,by simp,by simp,by simp,by simp,by simp⟩
 ·rintro d T B lv nx ⟨k,hk,h0,h1,H,hp⟩;have w1:=aS ((k:Int)+1);by_cases E:k<w.length
  ·by_cases he:w[k]=c
   ·have hf:=aoJ w c k E hp he;have hm:((k:Int)+1).tmod 10=((k:Int)+1)%10:=ae6 (by omega)
    repeat' first|apply nI|(refine eI aqa λK p=>?_;simp[h0,h1,H,E,w1,he,hm];apply p)
    simp[Dn,aH,Tryz.f112,hf]
   ·repeat' first|apply nI|(refine eI aqa λK p=>?_;simp[h0,h1,H,E,w1,he,dV];apply p)
    refine aN (d-1) ⟨k+1,by omega,by simp,by simp,by simp,D_ w c k E hp he⟩
  ·have I:k=w.length:=by omega
   subst I;have hf:=aoB w c (by simpa using hp)
   repeat' first|apply nI|(refine eI aqa λK p=>?_;simp[h0,H];apply p)
   simp[Dn,aH,Tryz.f112,hf]
theorem apL:Den P 112 an6:=λargs res h=>by
 unfold an6 at h;split at h
 ·split at h
  ·rename_i l c hc;cases h;have:=apJ (P:=P) l (UInt8.ofNat c.toNat) hc.2.2;rwa[SI c hc.1 hc.2.1] at this
  ·cases h
 ·cases h
end
def b9(w r:List UInt8)(st:Int×Int)(c:UInt8):Option (Int×Int):=
 if r≠ []/\r[0]?=some c then(if st.2<0 then none else some (10*st.1+st.2,st.2))
 else if r≠ []/\placeOf w c=st.2 then none
 else if placeOf w c<0 then none else some (10*st.1+placeOf w c,placeOf w c)
def anJ(w r:List UInt8):Int×Int->List UInt8->Option (Int×Int)
 |st,[]=>some st
 |st,c::l=>(b9 w r st c).bind λp=>anJ w r p l
def numOf(w r s:List UInt8):Option Int:=(anJ w r (0,-1) s).map (·.1)
theorem anZ(w r:List UInt8):∀(l m:List UInt8) (st:Int×Int),anJ w r st (l++m)=(anJ w r st l).bind λp=>anJ w r p m
 | [],m,st=>rfl
 |c::l,m,st=>by
  simp only[aaT,anJ];cases b9 w r st c with
  |none=>rfl
  |some q=>exact anZ w r l m q
theorem aoC(w r s:List UInt8)(k:Nat)(hk:k<s.length)(st:Int×Int)(q:Int×Int)(h:anJ w r st (s.take k)=some q):anJ w r st (s.take (k+1))=b9 w r q s[k]:=by
 rw[aaN hk,anZ,h];simp only[abN,anJ];cases b9 w r q s[k] <;>rfl
theorem apD(w r s:List UInt8)(k:Nat)(hk:k<s.length)(st:Int×Int)(q:Int×Int)(h:anJ w r st (s.take k)=some q)(hn:b9 w r q s[k]=none):anJ w r st s=none:=by
 have h1:s=s.take (k+1)++s.drop (k+1):=(List.take_append_drop _ _).symm;rw[h1,anZ,aoC w r s k hk st q h,hn];rfl
section
variable{P:Program}[l:cL P]
def aoq:List AV->Option AV
 | [.s w,.s r,.s s]=>if w.length<1000000/\s.length<=15 then some (.tu [.i .i64 ((numOf w r s).getD 0),.b (numOf w r s).isSome]) else none
 |_=>none
theorem p10(k:Nat)(hk:k<=15):(10:Int)^k<=10^15:=by
 have:(10:Nat)^k<=10^15:=aef (by omega) hk
 exact_mod_cast this
theorem aow:Den P 144 aoq:=λargs res h=>by
 unfold aoq at h;split at h
 ·split at h
  ·rename_i w r x hc;cases h;obtain⟨hw,hx⟩:=hc;refine fi (ak (aR Tryz.func112) apL (au P)) (lf Tryz.func144) ?_
   repeat apply nI
   refine eI anV ?_;intro K p;simp
   repeat' (first|apply p|(refine aE (λhc=>?_) (λhc=>?_) <;>(try simp only[aan,aac] at hc) <;>simp[hc])|fail)
   repeat apply nI
   refine eI anV ?_;intro K p;simp
   repeat' (first|apply p|(refine aE (λhc=>?_) (λhc=>?_) <;>(try simp only[aan,aac] at hc) <;>simp[hc])|fail)
   repeat apply nI
   refine eI anV ?_;intro K p;simp
   repeat' (first|apply p|(refine aE (λhc=>?_) (λhc=>?_) <;>(try simp only[aan,aac] at hc) <;>simp[hc])|fail)
   repeat apply nI
   refine amF (λd T B lv nx=>∃k n last,k+d=x.length/\T 0=.s w/\T 1=.s r/\T 2=.s x/\T 10=.i .i64 k/\T 8=.i .i64 n/\T 9=.i .i64 last/\anJ w r (0,-1) (x.take k)=some (n,last)/\0<=n/\n<(10:Int)^k/\ -1<=last/\last<=9) x.length ?_ ?_
   ·exact⟨0,0,-1,by simp,by simp,by simp,by simp,by simp,by simp,by simp,by simp[anJ],by simp,by simp,by simp,by simp⟩
   ·rintro d T B lv nx ⟨k,n,last,hk,h0,h1,h2,J,I,L,hp,b1,b2,b3,Z⟩;have w1:=aS ((k:Int)+1);by_cases H:k<x.length
    ·have hb:=GZ w x[k];have W:=p10 k (by omega);have Y:(10:Int)^(k+1)=10^k*10:=Int.pow_succ _ _;have w2:=aS (10*n);have w3:=aS (10*n+last);have w4:=aS (10*n+placeOf w x[k]);have ht:=aoC w r x k H _ _ hp;have N:=apD w r x k H _ _ hp;have M:0<=(x[k].toNat:Int)/\(x[k].toNat:Int)<256:=⟨by omega,by have:=x[k].toNat_lt;omega⟩
     by_cases hr:r≠ []/\r[0]?=some x[k]
     ·obtain⟨c,E,rfl⟩:∃c E,r=c::E:=by
       cases r with
       |nil=>exact absurd rfl hr.1
       |cons c E=>exact⟨c,E,rfl⟩
      have hc:c=x[k]:=by have:=hr.2;simpa using this
      subst hc;by_cases hl:last<0
      ·have hs:b9 w (x[k]::E) (n,last) x[k]=none:=by simp[b9,hl]
       have hf:numOf w (x[k]::E) x=none:=by simp[numOf,N hs]
       repeat' first|apply nI|(refine eI anV λK p=>?_;simp[h0,h1,h2,J,I,L,H,ab,an6,hw,M,hl];apply p)
       simp[Dn,dc,aH,Tryz.f144,hf]
      ·have hs:b9 w (x[k]::E) (n,last) x[k]=some (10*n+last,last):=by simp[b9,hl]
       repeat' first|apply nI|(refine eI anV λK p=>?_;simp[h0,h1,h2,J,I,L,H,w1,w2,w3,ab,an6,hw,M,hl];apply p)
       refine aN (d-1) ⟨k+1,10*n+last,last,by omega,by simp,by simp,by simp,by simp,by simp,by simp,by rw[ht,hs],by omega,by omega,by omega,by omega⟩
     ·have O:r= []\/∃c E,r=c::E/\¬x[k]=c:=by
       cases r with
       |nil=>exact .inl rfl
       |cons c E=>exact .inr ⟨c,E,rfl,λe=>hr ⟨by simp,by simp[e]⟩⟩
      by_cases hl:placeOf w x[k]<0
      ·have hs:b9 w r (n,last) x[k]=none:=by
        unfold b9;rw[aat hr];simp[hl]
       have hf:numOf w r x=none:=by simp[numOf,N hs]
       rcases O with rfl|⟨c,E,rfl,hc⟩
       ·repeat' first|apply nI|(refine eI anV λK p=>?_;simp[h0,h1,h2,J,I,L,H,ab,an6,hw,M,hl];apply p)
        simp[Dn,dc,aH,Tryz.f144,hf]
       ·by_cases he:placeOf w x[k]=last
        ·repeat' first|apply nI|(refine eI anV λK p=>?_;simp[h0,h1,h2,J,I,L,H,ab,an6,hw,M,dV,hc,he];apply p)
         simp[Dn,dc,aH,Tryz.f144,hf]
        ·repeat' first|apply nI|(refine eI anV λK p=>?_;simp[h0,h1,h2,J,I,L,H,ab,an6,hw,M,hl,dV,hc,he];apply p)
         simp[Dn,dc,aH,Tryz.f144,hf]
      ·rcases O with rfl|⟨c,E,rfl,hc⟩
       ·have hs:b9 w [] (n,last) x[k]=some (10*n+placeOf w x[k],placeOf w x[k]):=by simp[b9,hl]
        repeat' first|apply nI|(refine eI anV λK p=>?_;simp[h0,h1,h2,J,I,L,H,w1,w2,w4,ab,an6,hw,M,hl];apply p)
        refine aN (d-1) ⟨k+1,10*n+placeOf w x[k],placeOf w x[k],by omega,by simp,by simp,by simp,by simp,by simp,by simp,by rw[ht,hs],by omega,by omega,by omega,by omega⟩
       ·by_cases he:placeOf w x[k]=last
        ·have hs:b9 w (c::E) (n,last) x[k]=none:=by
          unfold b9;rw[aat hr];simp[he]
         have hf:numOf w (c::E) x=none:=by simp[numOf,N hs]
         repeat' first|apply nI|(refine eI anV λK p=>?_;simp[h0,h1,h2,J,I,L,H,ab,an6,hw,M,dV,hc,he];apply p)
         simp[Dn,dc,aH,Tryz.f144,hf]
        ·have hs:b9 w (c::E) (n,last) x[k]=some (10*n+placeOf w x[k],placeOf w x[k]):=by
          unfold b9;rw[aat hr];simp[he,hl]
         repeat' first|apply nI|(refine eI anV λK p=>?_;simp[h0,h1,h2,J,I,L,H,w1,w2,w4,ab,an6,hw,M,hl,dV,hc,he];apply p)
         refine aN (d-1) ⟨k+1,10*n+placeOf w x[k],placeOf w x[k],by omega,by simp,by simp,by simp,by simp,by simp,by simp,by rw[ht,hs],by omega,by omega,by omega,by omega⟩
    ·have U:k=x.length:=by omega
     subst U;have hf:numOf w r x=some n:=by simp at hp;simp[numOf,hp]
     repeat' first|apply nI|(refine eI anV λK p=>?_;simp[h2,J,I];apply p)
     simp[Dn,dc,aH,Tryz.f144,hf]
  ·cases h
 ·cases h
end
def abg:=@List.cons.injEq
def adM:=@true_and
theorem cC{P:Program}{f:FuncId}{ι:Type}(args:ι->List AV)(res:ι->AV)(ok:ι->Prop)(p:∀x y,ok x->ok y->args x=args y->res x=res y)(h:∀x,ok x->aq P f (args x) (res x)):
  ∃F:List AV->Option AV,Den P f F/\∀x,ok x->F (args x)=some (res x):=by
 classical
 refine⟨λa=>if hx:∃x,ok x/\a=args x then some (res hx.choose) else none,λa r hr=>?_,λx hx=>?_⟩
 ·simp only at hr;split at hr
  ·rename_i hx;cases hr;have h2:=h _ hx.choose_spec.1;rw[<-hx.choose_spec.2] at h2;exact h2
  ·cases hr
 ·have hex:∃y,ok y/\args x=args y:=⟨x,hx,rfl⟩
  simp only;rw[agp hex];congr 1;exact p _ _ hex.choose_spec.1 hx hex.choose_spec.2.symm
theorem Tu:∀ {l m:List (List UInt8)},l.map AV.s=m.map AV.s->l=m
 | [],[],_=>rfl
 | [],_::_,h=>by simp at h
 |_::_,[],h=>by simp at h
 |a::l,b::m,h=>by
  simp only[List.map_cons,abg,AV.s.injEq] at h;rw[h.1,Tu h.2]
theorem NG:∀ {l m:List Int},l.map (AV.i .i64)=m.map (AV.i .i64)->l=m
 | [],[],_=>rfl
 | [],_::_,h=>by simp at h
 |_::_,[],h=>by simp at h
 |a::l,b::m,h=>by
  simp only[List.map_cons,abg,AV.i.injEq,adM] at h;rw[h.1,NG h.2]
theorem oS:∀ {l m:List Tag},bI l=bI m->l=m
 | [],[],_=>rfl
 | [],_::_,h=>by simp[bI,fP] at h
 |_::_,[],h=>by simp[bI,fP] at h
 |a::l,b::m,h=>by
  simp only[bI,fP,aco,aaT,aaV,abg,AV.s.injEq,AV.i.injEq,adM] at h;obtain⟨h1,h2,p,E⟩:=h;obtain⟨a1,a2,a3⟩:=a;obtain⟨b1,b2,H⟩:=b;simp only at h1 h2 p;rw[h1,h2,p,oS E]
theorem xr{h k:ay}(e:eG h=eG k):h=k:=by
 simp only[eG,o6,AV.ag.injEq,abg,AV.s.injEq,AV.sq.injEq,adM,abQ] at e;obtain⟨h1,h2,H,E,p⟩:=e;obtain⟨a1,a2,a3,a4,a5⟩:=h;obtain⟨b1,b2,L,J,I⟩:=k;simp only at h1 h2 H E p;rw[h1,h2,H,Tu E,oS p]
theorem oG{a b:UInt8}(h:AV.i .u8 a.toNat=AV.i .u8 b.toNat):a=b:=by
 simp only[AV.i.injEq,adM] at h;exact UInt8.toNat_inj.1 (by omega)
def aeC:=@List.any_append
def afl:=@List.any_eq_true
@[simp] abbrev apb:List Nat:=[0,1,2,3,6,7,8,9,16,21,53]
def vF(c x:UInt8)(s:List UInt8):Bool:=(s[0]?==some c&&s[1]?==some x)||(s[0]?==some x&&s[1]?==some c)
def an1(a:List (List UInt8))(c x:UInt8):Bool:=c==x||c==63||a.any (vF c x)
def sH(h:ay):Prop:=h.alike.length<=20/\∀s∈h.alike,s.length=2
section
variable{P:Program}[l:cL P]
set_option maxHeartbeats 4000000 in
theorem apS (h : ay) (c x : UInt8) (hv : sH h) : aq P 171 [eG h, .i .u8 c.toNat, .i .u8 x.toNat] (.b (an1 h.alike c x)) := by
  refine fi (au P) (lf Tryz.func171) ?_
  repeat apply nI
  refine eI apb ?_; intro K p
  simp [eG, o6]
  repeat' (first | apply p | (refine aE (fun hc => ?_) (fun hc => ?_) <;> (try simp only [aan, aac] at hc) <;> simp [hc, eG, o6]) | fail)
  have J : (((c.toNat : Int)) == 63) = (c == 63) := kn c 63 (by omega)
  cases h1 : c == x with
  | true =>
    repeat' first | apply nI | (refine eI apb fun K p => ?_; simp [dV, h1]; apply p)
    simp [Dn, aH, Tryz.f171, an1, h1]
  | false =>
    cases h2 : c == 63 with
    | true =>
      repeat' first | apply nI | (refine eI apb fun K p => ?_; simp [dV, h1, J, h2]; apply p)
      simp [Dn, aH, Tryz.f171, an1, h1, h2]
    | false =>
      repeat' first | apply nI | (refine eI apb fun K p => ?_; simp [dV, h1, J, h2]; apply p)
      refine amF (fun d T B lv nx => ∃ k, k + d = h.alike.length /\ T 1 = .i .u8 c.toNat /\ T 2 = .i .u8 x.toNat /\ T 3 = .sp (o6 h) /\ T 7 = .i .i64 k /\ (h.alike.take k).any (vF c x) = false) h.alike.length ?_ ?_
      · exact ⟨0, by simp, by simp, by simp, by simp [o6], by simp, by simp⟩
      · rintro d T B lv nx ⟨k, hk, t1, t2, t3, t7, hp⟩
        have hlen := hv.1
        have w1 := aS ((k : Int) + 1)
        by_cases E : k < h.alike.length
        · have H := hv.2 h.alike[k] (abG E)
          obtain ⟨y, z, I⟩ : ∃ y z, h.alike[k] = [y, z] := by
            match hh : h.alike[k], H with
            | [y, z], _ => exact ⟨y, z, rfl⟩
          have hl1 : vF c x h.alike[k] = ((y == c && z == x) || (y == x && z == c)) := by rw [I]; simp [vF]
          have L : (h.alike.take (k + 1)).any (vF c x) = vF c x h.alike[k] := by
            rw [aaN E, aeC, hp]; simp
          have as5 : vF c x h.alike[k] = true -> h.alike.any (vF c x) = true := fun e => afl.2 ⟨_, abG E, e⟩
          cases a1 : (y == c) <;> cases a2 : (z == x) <;> cases a3 : (y == x) <;> cases a4 : (z == c)
          all_goals simp only [a1, a2, a3, a4, Bool.and_true, Bool.and_false, Bool.or_true, Bool.or_false, Bool.and_self, Bool.or_self] at hl1
          all_goals (repeat' (first | apply nI | (refine eI apb fun K p => ?_; simp [t1, t2, t3, t7, o6, E, w1, I, dV, a1, a2, a3, a4]; apply p) | fail))
          all_goals first
            | (refine aN (d - 1) ⟨k + 1, by omega, by simp, by simp, by simp [o6], by simp, by rw [L, hl1]⟩)
            | (have hf := as5 hl1
               simp [Dn, aH, Tryz.f171, an1, hf])
        · have M : k = h.alike.length := by omega
          subst M
          have hf : h.alike.any (vF c x) = false := by simpa using hp
          repeat' first | apply nI | (refine eI apb fun K p => ?_; simp [t3, t7, o6]; apply p)
          simp [Dn, aH, Tryz.f171, an1, h1, h2, hf]
end
def ag8:=@List.any_eq_false
@[simp] abbrev aib:List Nat:=[0,1,4,5,7,8,9,16]
def idx(p:List UInt8->Bool)(l:List (List UInt8)):Int:=if l.any p=true then(l.findIdx p:Nat) else -1
theorem ND(p:List UInt8->Bool)(l:List (List UInt8))(k:Nat)(hk:k<l.length)(h0:(l.take k).any p=false)(h1:p l[k]=true):idx p l=k:=by
 unfold idx;rw[aay (afl.2 ⟨_,abG hk,h1⟩)];have:l.findIdx p=k:=by
  rw[List.findIdx_eq hk];refine⟨h1,λj E=>?_⟩;have:=ag8.1 h0 l[j] (by rw[agD];exact⟨j,by omega,rfl⟩);simpa using this
 rw[this]
section
variable{P:Program}[l:cL P]
theorem yQ{tb:qd}(O:jw P tb)(N:pN tb)(f:FuncId)(J:List AV)(l:List (List UInt8))(p:List UInt8->Bool)(hp:∀s∈l,tb.fn f ([.s s]++J)=some (.b (p s)))(hl:l.length<1000000):
  aq P 145 [strs l,.fn f [] J] (.i .i64 (idx p l)):=by
 refine o7 (tb:=tb) (mt:=λ_=>false) O mixed (lf (P:=P) Tryz.func145) rfl (Nat.le_of_ble_eq_true rfl) ?_
 repeat apply nI
 refine eI aib ?_;intro K E;simp
 repeat' (first|apply E|(refine aE (λhc=>?_) (λhc=>?_) <;>(try simp only[aan,aac] at hc) <;>simp[hc])|fail)
 repeat apply nI
 refine eI aib ?_;intro K E;simp[strs]
 repeat' (first|apply E|(refine aE (λhc=>?_) (λhc=>?_) <;>(try simp only[aan,aac] at hc) <;>simp[hc,strs])|fail)
 repeat apply nI
 refine amF (λd T B lv nx=>∃k,k+d=l.length/\T 0=strs l/\T 1=.fn f [] J/\T 7=.i .i64 l.length/\T 8=.i .i64 k/\(l.take k).any p=false) l.length ?_ ?_
 ·exact⟨0,by simp,by simp[strs],by simp,by simp,by simp,by simp⟩
 ·rintro d T B lv nx ⟨k,hk,t0,t1,t7,t8,L⟩;have w1:=aS ((k:Int)+1);by_cases I:k<l.length
  ·have H:=hp l[k] (abG I);have M:(l.take (k+1)).any p=p l[k]:=by
    rw[aaN I,aeC,L];simp
   cases hc:p l[k] with
   |true=>
    rw[hc] at H;simp only[aaT,aaV] at H
    repeat' first|apply nI|(refine eI aib λK E=>?_;simp[t0,t1,t7,t8,strs,I,H];apply E)
    simp[Dn,aH,Tryz.f145,ND p l k I L hc]
   |false=>
    rw[hc] at H;simp only[aaT,aaV] at H
    repeat' first|apply nI|(refine eI aib λK E=>?_;simp[t0,t1,t7,t8,strs,I,H,w1];apply E)
    refine aN (d-1) ⟨k+1,by omega,by simp[strs],by simp,by simp,by simp,by rw[M,hc]⟩
  ·have U:k=l.length:=by omega
   subst U;have hf:l.any p=false:=by simpa using L
   repeat' first|apply nI|(refine eI aib λK E=>?_;simp[t7,t8];apply E)
   simp[Dn,aH,Tryz.f145,idx,hf]
theorem me{tb:qd}(J:jw P tb)(I:pN tb)(f:FuncId)(H:List AV)(l:List (List UInt8))(p:List UInt8->Bool)(hp:∀s∈l,tb.fn f ([.s s]++H)=some (.b (p s)))(hl:l.length<1000000):
  aq P 92 [strs l,.fn f [] H] (.b (l.any p)):=by
 have hi:=yQ J I f H l p hp hl;obtain⟨F,hd,E⟩:=cC (P:=P) (f:=145) (ι:=Unit) (λ_=> [strs l,.fn f [] H]) (λ_=>.i .i64 (idx p l)) (λ_=>True) (λ_ _ _ _ _=>rfl) (λ_ _=>hi);have E:=E () trivial;simp only[strs] at E;refine fi (ak (aR Tryz.func145) hd (au P)) (lf Tryz.func92) ?_;have h0:decide (idx p l>=0)=l.any p:=by
  unfold idx;cases l.any p <;>simp
 simp only[ge_iff_le] at h0
 repeat' first|apply nI|(refine eI [0,1,4] λK L=>?_;simp[strs,ab,E,h0];apply L)
 simp[Dn,aH,Tryz.f92]
def vP:List AV->Option AV
 | [.s [y,z],.sp [.i .u8 a],.sp [.i .u8 b]]=>some (.b (((y.toNat:Int)==a&&(z.toNat:Int)==b)||((z.toNat:Int)==a&&(y.toNat:Int)==b)))
 |_=>none
set_option maxHeartbeats 1000000 in
theorem Iu:Den P 194 vP:=λargs res h=>by
 unfold vP at h;split at h
 ·rename_i y z a b;cases h;refine fi (au P) (lf Tryz.func194) ?_;cases h1:((y.toNat:Int)==a) <;>cases h2:((z.toNat:Int)==b) <;>cases H:((z.toNat:Int)==a) <;>cases E:((y.toNat:Int)==b)
  all_goals (repeat' (first|apply nI|(refine eI [0,1,2,4] λK p=>?_;simp[h1,h2,H,E];apply p)|fail))
  all_goals simp[Dn,aH,Tryz.f194]
 ·cases h
end
def fK(h:ay)(r c:UInt8):Bool:=r==63||r==c||h.alike.any (vF r c)
def aj(h:ay)(d:Value->Option AV):List AV:=o6 h++ [.mm d]
def ao(w:List UInt8):List AV:=w.map λc=>.i .u8 c.toNat
def zY(x:Int×Bool):List AV:= [.i .i64 x.1,.b x.2]
def bt(l:List (Int×Bool)):List AV:=l.flatMap zY
def bf(h:ay)(w:List UInt8):List UInt8->Int->Int->Bool->List (Int×Bool)
  | [],_,n,b=> [(n,b)]
  |r::s,last,n,b=>
    ((List.range 10).flatMap λd=>if(((d+1)%10:Nat):Int) !=last||h.R.isEmpty then
        (if fK h r (w.getD d 0) then bf h w s (((d+1)%10:Nat):Int) (10*n+(((d+1)%10:Nat):Int)) (b||(r !=63&&r !=w.getD d 0)) else[]) else[])++
      (match h.R with
       | []=> []
       |q::_=>if 0<=last then(if fK h r q then bf h w s last (10*n+last) (b||(r !=63&&r !=q)) else[]) else[])
section
variable{P:Program}[l:cL P]
theorem Lx(h:ay)(d:Value->Option AV)(r c:UInt8)(hv:sH h):aq P 169 [.ag (aj h d),.i .u8 r.toNat,.i .u8 c.toNat] (.b (fK h r c)):=by
 have I:jw P (bW 194 vP a_):=ak (aR Tryz.func194) Iu (au P);have hc:=me (P:=P) I ⟨λ_ _=>rfl,λ_ _ _=>rfl⟩ 194 [.sp [.i .u8 r.toNat],.sp [.i .u8 c.toNat]] h.alike (vF r c) (λs hs=>by
  have H:=hv.2 s hs;obtain⟨y,z,rfl⟩:∃y z,s= [y,z]:=by
   match s,H with
   | [y,z],_=>exact⟨y,z,rfl⟩
  simp only[aaT,aaV,ab,vP,dV,vF];congr 2;simp[Bool.and_comm]) (by have:=hv.1;omega)
 obtain⟨F,hd,E⟩:=cC (P:=P) (f:=92) (ι:=Unit) (λ_=> [strs h.alike,.fn 194 [] [.sp [.i .u8 r.toNat],.sp [.i .u8 c.toNat]]]) (λ_=>.b (h.alike.any (vF r c))) (λ_=>True) (λ_ _ _ _ _=>rfl) (λ_ _=>hc);have E:=E () trivial;simp only[strs] at E;refine fi (ak (aR Tryz.func92) hd (au P)) (lf Tryz.func169) ?_;have J:(((r.toNat:Int))==63)=(r==63):=kn r 63 (by omega);cases h1:r==63 with
 |true=>
  repeat' first|apply nI|(refine eI [0,1,2,3,4,5,6] λK p=>?_;simp[aj,o6,J,h1];apply p)
  simp[Dn,aH,Tryz.f169,fK,h1]
 |false=>
  cases h2:r==c with
  |true=>
   repeat' first|apply nI|(refine eI [0,1,2,3,4,5,6] λK p=>?_;simp[aj,o6,J,h1,dV,h2];apply p)
   simp[Dn,aH,Tryz.f169,fK,h1,h2]
  |false=>
   repeat' first|apply nI|(refine eI [0,1,2,3,4,5,6] λK p=>?_;simp[aj,o6,J,h1,dV,h2,ab,E];apply p)
   simp[Dn,aH,Tryz.f169,fK,h1,h2]
end
theorem IA{P:Program}{e:TypeId}{bo:Nat}{f:FuncId}{ι:Type}(args:ι->List AV)(res:ι->List AV)(ok:ι->Prop)(p:∀x y,ok x->ok y->args x=args y->res x=res y)(h:∀x,ok x->oN P e bo f (args x) (res x)):
  ∃F:List AV->Option (List AV),(∀a r,F a=some r->oN P e bo f a r)/\∀x,ok x->F (args x)=some (res x):=by
 classical
 refine⟨λa=>if hx:∃x,ok x/\a=args x then some (res hx.choose) else none,λa r hr=>?_,λx hx=>?_⟩
 ·simp only at hr;split at hr
  ·rename_i hx;cases hr;have h2:=h _ hx.choose_spec.1;rw[<-hx.choose_spec.2] at h2;exact h2
  ·cases hr
 ·have hex:∃y,ok y/\args x=args y:=⟨x,hx,rfl⟩
  simp only;rw[agp hex];congr 1;exact p _ _ hex.choose_spec.1 hx hex.choose_spec.2.symm
def yI(f:FuncId)(F:List AV->Option (List AV))(e:TypeId)(bo:Nat)(tb:qd):qd:= { fn:=tb.fn,ac:=λg a=>if g=f then F a else none,ty:=e,bo:=bo }
theorem kh(f:FuncId)(F:List AV->Option (List AV))(e:TypeId)(bo:Nat)(tb:qd)(a:List AV):(yI f F e bo tb).ac f a=F a:=by simp[yI]
theorem IS(f:FuncId)(F:List AV->Option (List AV))(e:TypeId)(bo:Nat)(tb:qd):(yI f F e bo tb).fn=tb.fn:=(rfl)
theorem dD(f:FuncId)(F:List AV->Option (List AV))(e:TypeId)(bo:Nat)(tb:qd):(yI f F e bo tb).ty=e:=(rfl)
theorem BL{P:Program}{f:FuncId}{F:List AV->Option (List AV)}{e:TypeId}{bo:Nat}{tb:qd}(he:Enters P f)(E:∀a r,F a=some r->oN P e bo f a r)(p:jw P tb):jw P (yI f F e bo tb):=
 ⟨p.1,⟨λg a r hr=>(by
  unfold yI at hr;dsimp only at hr;split at hr
  ·rename_i e;subst e;exact⟨he,E a r hr⟩
  ·cases hr),λ_ _ _ _ h=>(by cases h)⟩⟩
def kP(bo:Nat):AV:=.v (.pointer (some ⟨bo,0,none⟩))
def Cl(h:ay)(d:Value->Option AV)(w s:List UInt8)(bo:Nat):Nat->AV
 |0=>.any
 |k+1=>.fn 167 [] [.sp [.s s],kP bo,.sp (aj h d),.sp [Cl h d w s bo k],.sp (ao w)]
def j8(h:ay)(d:Value->Option AV)(w s:List UInt8)(bo k:Nat)(i last n:Int)(b:Bool):List AV:= [.i .i64 i,.i .i64 last,.ag [.i .i64 n,.b b],.sp [.s s],kP bo,.sp (aj h d),.sp [Cl h d w s bo k],.sp (ao w)]
def j7(h:ay)(d:Value->Option AV)(w s:List UInt8)(bo k:Nat)(c:UInt8)(dg:Int)(i n:Int)(b:Bool):List AV:= [.i .u8 c.toNat,.i .i64 dg,.sp (aj h d),.sp [.s s],.sp [.i .i64 i],.sp [Cl h d w s bo k],.sp [.i .i64 n,.b b]]
structure JF where
 c:UInt8
 dg:Int
 i:Nat
 n:Int
 b:Bool
structure sG where
 i:Nat
 last:Int
 n:Int
 b:Bool
structure JH(s:List UInt8)(k:Nat)(x:sG):Prop where
 k:s.length<=x.i+k
 i:x.i<=s.length
 n:0<=x.n/\x.n<10^x.i
 last: -1<=x.last/\x.last<=9
structure PX(s:List UInt8)(k:Nat)(x:JF):Prop where
 k:s.length<=x.i+k
 i:x.i<s.length
 n:0<=x.n/\x.n<10^x.i
 dg:0<=x.dg/\x.dg<=9
def va(h:ay)(w s:List UInt8)(x:JF):List (Int×Bool):=
 if fK h (s.getD x.i 0) x.c then bf h w (s.drop (x.i+1)) x.dg (10*x.n+x.dg) (x.b||(s.getD x.i 0 !=63&&s.getD x.i 0 !=x.c)) else[]
section
variable{P:Program}[l:cL P]
set_option maxHeartbeats 1000000 in
theorem XU(h:ay)(d:Value->Option AV)(w s:List UInt8)(bo k:Nat)(hv:sH h)(hs:s.length<=17)
  (hA:∀x,JH s k x->oN P 120 bo 167 (j8 h d w s bo k x.i x.last x.n x.b) (bt (bf h w (s.drop x.i) x.last x.n x.b)))
  (x:JF) (hx:PX s (k+1) x):oN P 120 bo 168 (j7 h d w s bo (k+1) x.c x.dg x.i x.n x.b) (bt (va h w s x)):=by
 obtain⟨F,Z,KU⟩:=IA (P:=P) (e:=120) (bo:=bo) (f:=167) (ι:=sG) (λx=>j8 h d w s bo k x.i x.last x.n x.b) (λx=>bt (bf h w (s.drop x.i) x.last x.n x.b)) (JH s k) (λx y _ _ e=>by
  simp only[j8,abg,AV.i.injEq,AV.ag.injEq,AV.b.injEq,adM,abQ] at e;obtain⟨H,E,W,U⟩:=e;obtain⟨x1,x2,x3,x4⟩:=x;obtain⟨y1,y2,y3,y4⟩:=y;simp only at H E W U;have:x1=y1:=by omega
  subst this E W U;rfl) hA
 obtain⟨G,Y,N⟩:=cC (P:=P) (f:=169) (ι:=UInt8×UInt8) (λx=> [.ag (aj h d),.i .u8 x.1.toNat,.i .u8 x.2.toNat]) (λx=>.b (fK h x.1 x.2)) (λ_=>True) (λx y _ _ e=>by
  simp only[abg,adM,abQ] at e;rw[oG e.1,oG e.2]) (λx _=>Lx h d x.1 x.2 hv)
 obtain⟨c,dg,i,n,b⟩:=x;obtain⟨h1,h2,h3,h4⟩:=hx;simp only at h1 h2 h3 h4;have p:=N (s[i],c) trivial;simp only[aj,o6,aaT,aaV] at p;have hp:(10:Int)^i<=10^16:=by exact_mod_cast aef (by omega) (by omega:i<=16)
 have an2:(10:Int)^16=10000000000000000:=by decide
 have w1:=aS ((i:Int)+1);have w2:=aS (10*n);have w3:=aS (10*n+dg);refine FV (tb:=yI 167 F 120 bo (bW 169 G a_)) (mt:=λd=>d==40) (BL (aR Tryz.func167) Z (ak (aR Tryz.func169) Y (au P))) mixed (lf (P:=P) Tryz.func168) rfl (args':=j7 h d w s bo (k+1) c dg i n b) (Nat.le_of_ble_eq_true rfl) rfl rfl (λt=>.inl rfl) (λL hle=>?_);have O:Cl h d w s bo (k+1)=.fn 167 [] [.sp [.s s],kP bo,.sp (aj h d),.sp [Cl h d w s bo k],.sp (ao w)]:=rfl;cases I:fK h s[i] c with
 |false=>
  rw[I] at p;have hr:va h w s ⟨c,dg,i,n,b⟩= []:=by simp[va,h2,I]
  rw[hr]
  repeat' first|apply nI|(refine eI [0,1,2,3,4,5,6,14] λK M=>?_;simp[j7,aj,o6,h2,IS,ab,p];apply M)
  refine⟨.inl rfl,_,?_,dA _ _⟩;simp[bt,dD]
 |true=>
  rw[I] at p;have J:=KU ⟨i+1,dg,10*n+dg,b||(s[i] !=63&&s[i] !=c)⟩ ⟨by simp only;omega,by simp only;omega,by simp only;rw[Int.pow_succ];omega,by simp only;omega⟩;have hr:va h w s ⟨c,dg,i,n,b⟩=bf h w (s.drop (i+1)) dg (10*n+dg) (b||(s[i] !=63&&s[i] !=c)):=by simp[va,h2,I]
  rw[hr] at hle ⊢;have Gb:((s[i].toNat:Int)==63)=(s[i]==63):=kn s[i] 63 (by omega);simp only[j8,aj,o6,aaT,aaV,kP,bne] at J hle;cases b <;>cases H:s[i]==63 <;>cases E:s[i]==c
  all_goals simp only[H,E,aeF,Bool.not_false,Bool.and_true,Bool.and_false,Bool.or_true,Bool.or_false,Bool.and_self,Bool.or_self,Int.natCast_add,Int.cast_ofNat_Int] at J hle
  all_goals (repeat' (first|apply nI|(refine eI [0,1,2,3,4,5,6,14] λK M=>?_;simp[j7,aj,o6,h2,IS,ab,p,O,kP,Gb,H,E,dV,bne,w1,w2,w3,kh,J,dD,hle];apply M)|fail))
  all_goals refine⟨.inl rfl,_,?_,dA _ _⟩
  all_goals simp[dD,bne,H,E]
end
def aa4:=@List.drop_eq_getElem_cons
def agG:=@List.range_succ
def aft:=@List.flatMap_append
@[simp] abbrev ah0:List Nat:=[0,1,2,3,4,5,6,7,8,10,11,12,13,14,18,24,25,26,40,53]
def O_(j:Nat):Int:=(((j+1)%10:Nat):Int)
def cnd(h:ay)(last:Int)(j:Nat):Bool:=O_ j !=last||h.R.isEmpty
def nJ(h:ay)(w s:List UInt8)(x:sG)(j:Nat):List (Int×Bool):=if cnd h x.last j then va h w s ⟨w.getD j 0,O_ j,x.i,x.n,x.b⟩ else[]
def qV(h:ay)(w s:List UInt8)(x:sG):List (Int×Bool):=match h.R with
 | []=> []
 |q::_=>if 0<=x.last then va h w s ⟨q,x.last,x.i,x.n,x.b⟩ else[]
theorem G9(h:ay)(w s:List UInt8)(x:sG)(hi:x.i<s.length):bf h w (s.drop x.i) x.last x.n x.b=(List.range 10).flatMap (nJ h w s x)++qV h w s x:=by
 rw[aa4 hi];unfold bf nJ qV va;have e:s.getD x.i 0=s[x.i]:=by simp[hi]
 simp only[e];rfl
theorem fC(l:List (Int×Bool)):(bt l).length=2*l.length:=by
 induction l with
 |nil=>rfl
 |cons x l p=>simp[bt,zY] at *;omega
theorem qj(l m:List (Int×Bool)):bt (l++m)=bt l++bt m:=by simp[bt]
def rm(h:ay)(w s:List UInt8)(x:sG)(j:Nat):List (Int×Bool):=(List.range j).flatMap (nJ h w s x)
theorem tf(h:ay)(w s:List UInt8)(x:sG)(j:Nat):rm h w s x (j+1)=rm h w s x j++nJ h w s x j:=by
 unfold rm;rw[agG,aft];simp
theorem IV(h:ay)(w s:List UInt8)(x:sG):∀(d j:Nat),(rm h w s x j).length<=(rm h w s x (j+d)).length
 |0,j=>aax _
 |d+1,j=>by
  have:=IV h w s x d j;rw[show j+(d+1)=(j+d)+1 from by omega,tf,abj];omega
def ya(h:ay)(d:Value->Option AV)(w s:List UInt8)(bo k:Nat)(i last n:Int)(b:Bool):List AV:= [.i .i64 i,.i .i64 last,.ag [.i .i64 n,.b b],.sp [.s s],.bx 0 0,.sp (aj h d),.sp [Cl h d w s bo k],.sp (ao w)]
theorem wj(j:Nat):((j:Int)+1).tmod 10=O_ j:=by
 unfold O_;rw[show((j:Int)+1)=((j+1:Nat):Int) from by omega];rfl
section
variable{P:Program}[l:cL P]
set_option maxHeartbeats 2000000 in
theorem PN(h:ay)(d:Value->Option AV)(w s:List UInt8)(bo k:Nat)(hw:w.length=10)(hs:s.length<=17)
  (hB:∀x,PX s k x->oN P 120 bo 168 (j7 h d w s bo k x.c x.dg x.i x.n x.b) (bt (va h w s x)))
  (x:sG) (hx:JH s k x):oN P 120 bo 167 (j8 h d w s bo k x.i x.last x.n x.b) (bt (bf h w (s.drop x.i) x.last x.n x.b)):=by
 obtain⟨F,hF,KU⟩:=IA (P:=P) (e:=120) (bo:=bo) (f:=168) (ι:=JF) (λx=>j7 h d w s bo k x.c x.dg x.i x.n x.b) (λx=>bt (va h w s x)) (PX s k) (λx y _ _ e=>by
  obtain⟨x1,x2,x3,x4,x5⟩:=x;obtain⟨y1,y2,y3,y4,y5⟩:=y;simp only[j7,abg,AV.sp.injEq,abQ,adM] at e;obtain⟨e1,e2,e3,e4,e5⟩:=e;have h1:=oG e1;simp only[AV.i.injEq,AV.b.injEq,adM] at e2 e3 e4 e5;have:x3=y3:=by omega
  subst h1 e2 this e4 e5;rfl) hB
 have W:(ao w).length=10:=by simp[ao,hw]
 have jF:List.take 10 (ao w)=ao w:=aa1 (by omega);refine FV (tb:=yI 168 F 120 bo a_) (mt:=λd=>d==44||d==60) (BL (aR Tryz.func168) hF (au P)) mixed (lf (P:=P) Tryz.func167) rfl (args':=ya h d w s bo k x.i x.last x.n x.b) (Nat.le_of_ble_eq_true rfl) rfl rfl (λt=>by
  match t with
  |0=>exact .inl rfl
  |1=>exact .inl rfl
  |2=>exact .inl rfl
  |3=>exact .inl rfl
  |4=>exact .inr ⟨rfl,rfl⟩
  |5=>exact .inl rfl
  |6=>exact .inl rfl
  |7=>exact .inl rfl
  |n+8=>exact .inl rfl) (λL hle=>?_)
 obtain⟨h1,h2,h3,h4⟩:=hx;by_cases hi:x.i<s.length
 ·rw[G9 h w s x hi] at hle ⊢;have cr:((x.i:Int)==(s.length:Int))=false:=by simp;omega
  have Z:∀j,j<10->L.length+(bt (rm h w s x j)).length+(bt (nJ h w s x j)).length<=1099511627776:=λj hj=>by
   have h5:=IV h w s x (10-(j+1)) (j+1);rw[show j+1+(10-(j+1))=10 from by omega,tf,abj] at h5;have h6:(rm h w s x 10).length=((List.range 10).flatMap (nJ h w s x)).length:=rfl;simp only[fC,abj] at hle ⊢;omega
  have Hs:L.length+(bt (rm h w s x 10)).length+(bt (qV h w s x)).length<=1099511627776:=by
   have h6:(rm h w s x 10).length=((List.range 10).flatMap (nJ h w s x)).length:=rfl;simp only[fC,abj] at hle ⊢;omega
  repeat' first|apply nI|(refine eI ah0 λK E=>?_;simp[ya,cr,aj,o6,dD,W,jF];apply E)
  refine amF (λU T B lv nx=>∃j τ,j+U=10/\T 1=.i .i64 x.last/\T 3=.sp [.s s]/\T 5=.sp (aj h d)/\T 11=.fn 168 [] [.sp (aj h d),.sp [.s s],.sp [.i .i64 x.i],.sp [Cl h d w s bo k],.sp [.i .i64 x.n,.b x.b]]/\T 24=.ag (ao w)/\T 25=.i .i64 j/\
   B=eh (false,[.sq (some τ) 2 (L++bt (rm h w s x j))])/\lv=bG τ 120) 10 ?_ ?_
  ·exact⟨0,0,by simp,by simp,by simp,by simp[aj,o6],by simp[aj,o6],by simp,by simp,by simp[rm,bt],by simp⟩
  ·rintro U T B lv nx ⟨j,τ,hj,t1,t3,t5,t11,t24,t25,rfl,rfl⟩;have w1:=aS ((j:Int)+1);by_cases Y:j<10
   ·have F3:j<w.length:=by omega
    have J:(j:Int)<10:=by omega
    have I:(ao w)[j]'(by omega)=.i .u8 w[j].toNat:=by simp[ao]
    have hgd:w.getD j 0=w[j]:=by simp[F3]
    have hd9:0<=O_ j/\O_ j<=9:=by unfold O_;omega
    have H:=KU ⟨w[j],O_ j,x.i,x.n,x.b⟩ ⟨h1,hi,h3,hd9⟩;simp only[j7,aj,o6,aaT,aaV] at H;have KH:=Z j Y;have N:=tf h w s x j;cases hc:cnd h x.last j with
    |true=>
     have bH:nJ h w s x j=va h w s ⟨w[j],O_ j,x.i,x.n,x.b⟩:=by unfold nJ;rw[aay hc,hgd]
     rw[bH] at KH N;cases hq:O_ j==x.last with
     |false=>
      repeat' first|apply nI|(refine eI ah0 λK E=>?_;simp[t1,t3,t5,t11,t24,t25,w1,Y,J,W,I,aj,o6,wj,bne,hq,kh,dD,H,KH];apply E)
      refine aN (U-1) ⟨j+1,_,by omega,by simp,by simp,by simp[aj,o6],by simp[aj,o6],by simp,by simp,?_,rfl⟩;simp[N,qj]
     |true=>
      have p:h.R= []:=by
       unfold cnd at hc;simp only[bne,hq,aeF,ahe] at hc;simpa using hc
      simp only[p] at H
      repeat' first|apply nI|(refine eI ah0 λK E=>?_;simp[t1,t3,t5,t11,t24,t25,w1,Y,J,W,I,aj,o6,wj,bne,hq,kh,dD,H,KH,p];apply E)
      refine aN (U-1) ⟨j+1,_,by omega,by simp,by simp,by simp[aj,o6,p],by simp[aj,o6,p],by simp,by simp,?_,rfl⟩;simp[N,qj]
    |false=>
     have bH:nJ h w s x j= []:=by unfold nJ;rw[aat (by simp[hc])]
     rw[bH] at N;have hq:(O_ j==x.last)=true:=by unfold cnd at hc;simp[bne] at hc;simpa using hc.1
     have p:h.R≠ []:=by unfold cnd at hc;simp at hc;exact hc.2
     have O:(h.R== [])=false:=by simpa using p
     repeat' first|apply nI|(refine eI ah0 λK E=>?_;simp[t1,t3,t5,t11,t24,t25,w1,Y,J,W,I,aj,o6,wj,bne,hq,O];apply E)
     refine aN (U-1) ⟨j+1,_,by omega,by simp,by simp,by simp[aj,o6],by simp[aj,o6],by simp,by simp,?_,rfl⟩;simp[N]
   ·have Am:j=10:=by omega
    subst Am;cases p:h.R with
    |nil=>
     have M:qV h w s x= []:=by unfold qV;rw[p]
     repeat' first|apply nI|(refine eI ah0 λK E=>?_;simp[t1,t3,t5,t11,t24,t25,aj,o6,p];apply E)
     refine⟨.inl rfl,τ,?_,by simp[dD]⟩;simp[dD,M,rm]
    |cons q rr=>
     have O:(h.R== [])=false:=by rw[p];rfl
     by_cases h0:0<=x.last
     ·have M:qV h w s x=va h w s ⟨q,x.last,x.i,x.n,x.b⟩:=by unfold qV;rw[p];simp[h0]
      rw[M] at Hs;have H:=KU ⟨q,x.last,x.i,x.n,x.b⟩ ⟨h1,hi,h3,⟨h0,h4.2⟩⟩;simp only[j7,aj,o6,aaT,aaV,p] at H
      repeat' first|apply nI|(refine eI ah0 λK E=>?_;simp[t1,t3,t5,t11,t24,t25,aj,o6,p,h0,kh,dD,H,Hs];apply E)
      refine⟨.inl rfl,_,?_,dA _ _⟩;simp[dD,M,rm,qj]
     ·have M:qV h w s x= []:=by unfold qV;rw[p];simp[h0]
      repeat' first|apply nI|(refine eI ah0 λK E=>?_;simp[t1,t3,t5,t11,t24,t25,aj,o6,p,h0];apply E)
      refine⟨.inl rfl,τ,?_,by simp[dD]⟩;simp[dD,M,rm]
 ·have I8:x.i=s.length:=by omega
  have vf:s.drop x.i= []:=by rw[I8];simp
  rw[vf] at hle ⊢;simp only[bf,fC,ab0,aeA] at hle;have heq:((x.i:Int)==(s.length:Int))=true:=by simp;omega
  have E2:(L.length+2)*17<=70368744177664:=by omega
  repeat' first|apply nI|(refine eI ah0 λK E=>?_;simp[ya,heq,aj,o6,E2,dD];apply E)
  refine⟨.inr rfl,10,?_,by simp[dD]⟩;simp[dD,bt,zY,bf]
end
section
variable{P:Program}[l:cL P]
theorem SZ(h:ay)(d:Value->Option AV)(w s:List UInt8)(bo:Nat)(hw:w.length=10)(hv:sH h)(hs:s.length<=17):
  ∀k x,JH s k x->oN P 120 bo 167 (j8 h d w s bo k x.i x.last x.n x.b) (bt (bf h w (s.drop x.i) x.last x.n x.b)):=by
 intro k
 induction k with
 |zero=>exact λx hx=>PN h d w s bo 0 hw hs (λy hy=>by have:=hy.k;have:=hy.i;omega) x hx
 |succ k p=>exact λx hx=>PN h d w s bo (k+1) hw hs (λy hy=>XU h d w s bo k hv hs p y hy) x hx
end
end Go.Proofs.YtjagmhagphbfcaaGreatDoor
