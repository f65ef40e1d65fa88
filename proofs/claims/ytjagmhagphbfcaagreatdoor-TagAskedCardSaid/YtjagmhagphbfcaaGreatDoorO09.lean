/- Lemmas, part 9. -/
import Derived.Conc.Own4
import Derived.Test.YtjagmhagphbfcaaGreatDoorO08
set_option maxRecDepth 100000
set_option linter.all false
namespace Go.Proofs.YtjagmhagphbfcaaGreatDoor
open Go Go.Conc Go.Proofs
def Im(ρ:Ren)(Sh:Nat->Prop):aG:=λc=>∃b d,ρ b=some (c,d)/\¬Sh b
structure Lone(P:Program)(K:fO)(Sd:aG)(w:World)(ρ:Ren)(Sh:Nat->Prop)(v:World):Prop where
 rel:cp P K.S (K.CO P) Sh ρ v w
 cz:zo K.g ρ
 j:J v
 oV:∀b c d,ρ b=some (c,d)->Sh b->Sd c
section
variable{P:Program}{K:fO}{Sd Ow:aG}{w w' v:World}{ρ:Ren}{Sh:Nat->Prop}
theorem cp.same{S:FuncId->Prop}{CO:Code->Prop}(h:cp P S CO Sh ρ v w)(same:∀b c d,ρ b=some (c,d)->w'.heap[c]?=w.heap[c]?)(hs:w.heap.size<=w'.heap.size):cp P S CO Sh ρ v w':=by
 have shape:∀b c d,ρ b=some (c,d)->w'.shape? c=w.shape? c:=λb c d e=>by
  unfold World.shape?
  grind
 refine⟨h.inj,λb c d e hs=>?_,λb c d e hs=>?_,λb c d e hs=>?_,h.mo,λb c d e hg=>?_,h.C2,aaY h.C1 hs⟩
 ·rw[same b c d e];exact h.own b c d e hs
 ·rw[same b c d e];exact h.sh b c d e hs
 ·rw[shape b c d e];exact h.Bv b c d e hs
 ·rw[shape b c d e];exact h.cz b c d e hg
theorem Lone.agree(h:Lone P K Sd w ρ Sh v)(ha:aU Ow Sd w w')(hi:∀c,Im ρ Sh c->Ow c):Lone P K Sd w' ρ Sh v:=
 ⟨h.rel.same (λb c d e=>by
  by_cases hs:Sh b
  ·exact ha.oV c (h.oV b c d e hs)
  ·exact ha.own c (hi c ⟨b,d,e,hs⟩)) ha.size,h.cz,h.j,h.oV⟩
theorem Lone.afO(h:Lone P K Sd w ρ Sh v)(hi:∀c,Im ρ Sh c->Ow c)(ht:eo Ow Sd w.heap.size):mn Sh ρ Ow Sd w.heap.size:=
 ⟨λ_ _ _ e=>h.rel.VD e,λb c d e hs=>hi c ⟨b,d,e,hs⟩,h.oV,ht.ow,ht.yz,ht.sd⟩
theorem Lone.sub{p:aG}(h:Lone P K Sd w ρ Sh v)(hs:∀c,Sd c->p c):Lone P K p w ρ Sh v:=⟨h.rel,h.cz,h.j,λb c d e hb=>hs c (h.oV b c d e hb)⟩
end
def Mr:Obj->Obj
 | .cells xs e _=>.cells xs e (0,xs.size)
 |o=>o
def lx(b:Nat)(v:World):World:= { v with heap:=v.heap.modify b Mr }
def pL(x:Value)(v:World):World:=match x with
 | .slice (some a) _ _=>lx a.block v
 |_=>v
theorem mb{b c:Nat}{v:World}(h:c≠b):(lx b v).heap[c]?=v.heap[c]?:=by
 grind [lx]
theorem OM{b:Nat}{v:World}{xs:Array Value}{e:TypeId}{fr:Nat×Nat}(h:v.heap[b]?=some (.cells xs e fr)):(lx b v).heap[b]?=some (.cells xs e (0,xs.size)):=by
 simp only[lx,acD,acC];rw[h];rfl
theorem qy(b:Nat)(v:World):(lx b v).heap.size=v.heap.size:=by simp[lx]
theorem uM(b c:Nat)(v:World):(lx b v).shape? c=v.shape? c:=by
 by_cases h:c=b
 ·subst h;unfold World.shape?;simp only[lx,acD,acC];cases v.heap[c]? with
  |none=>rfl
  |some o=>cases o <;>rfl
 grind [mb,World.shape?]
theorem Sg{b:Nat}{v:World}(h:J v):J (lx b v):=λc d p e=>by
 by_cases hc:c=b
 ·subst hc;simp only[lx,acD,acC] at e;cases ho:v.heap[c]? with
  |none=>simp_all
  |some o=>
   rw[ho] at e;cases o with
   |deferred x=>
    simp only[Mr,acz] at e;exact h c d p (ho.trans e)
   |_=>cases e
 ·rw[mb hc] at e;exact h c d p e
section
variable{P:Program}{K:fO}{Sd:aG}{w v:World}{ρ:Ren}{Sh:Nat->Prop}
theorem Lone.OJ(h:Lone P K Sd w ρ Sh v){b c:Nat}{d:Nat}(hb:ρ b=some (c,d))(hs:¬Sh b){xs:Array Value}{e:TypeId}(hx:v.heap[b]?=some (.cells xs e (0,0))):
  Lone P K (λx=>Sd x\/x=c) w ρ (λx=>Sh x\/x=b) (lx b v)/\d=0/\∃ys,w.heap[c]?=some (.cells ys e (0,0))/\AR K.S ρ xs ys:=by
 obtain⟨hd,o,o',h1,h2,H⟩:=h.rel.own b c d hb hs;rw[hx] at h1;cases h1;cases H with
 |cells _ ys _ _ E=>
 have L:v.shape? b=w.shape? c:=by
  unfold World.shape?;rw[hx,h2];simp[E.1]
 refine⟨⟨⟨λb1 b2 c d d' J I=>(h.rel.inj b1 b2 c d d' J I).imp id λx=>⟨.inl x.1,.inl x.2⟩,λb' c' d' e' hs'=>?_,λb' c' d' e' hs'=>?_,λb' c' d' e' hs'=>?_,λb' hs'=>?_,λb' c' d' e' hg=>?_,by rw[qy];exact h.rel.C2,h.rel.C1⟩,h.cz,Sg h.j,λb' c' d' e' hs'=>?_⟩,hd,ys,h2,E⟩
 ·rw[mb (λx=>hs' (.inr x))];exact h.rel.own b' c' d' e' (λx=>hs' (.inl x))
 ·by_cases p:b'=b
  ·subst p;rw[hb] at e';cases e';exact⟨xs,e,xs.size,ys,e,(0,0),OM hx,aax _,h2,λi x hi=>by subst hd;exact E.get hi⟩
  ·rw[mb p];exact h.rel.sh b' c' d' e' (hs'.resolve_right p)
 ·rw[uM];by_cases p:b'=b
  ·simp_all
  ·exact h.rel.Bv b' c' d' e' (hs'.resolve_right p)
 ·rw[qy];rcases hs' with hs'|rfl
  ·exact h.rel.mo b' hs'
  grind
 ·rw[uM];obtain⟨g1,g2,g3⟩:=h.rel.cz b' c' d' e' hg
  grind
 ·by_cases p:b'=b
  ·simp_all
  ·exact .inl (h.oV b' c' d' e' (hs'.resolve_right p))
end
def Ints(v:World)(x:Value)(l:List Int):Prop:=(x=.slice none 0 0/\l= [])\/
 ∃b o m xs,x=.slice (some ⟨b,o,none⟩) l.length m/\v.heap[b]?=some (.cells xs 3 (0,0))/\0<xs.size/\(∀(i:Nat) (y:Value),xs[i]?=some y->∃z,y=.int .i64 z)/\(∀(i:Nat) (z:Int),l[i]?=some z->xs[o+i]?=some (.int .i64 z))/\l.length<=m
section
variable{m:Bool}{Sd:aG}{Stop:GS->Prop}{b:Frame}{n:Nat}{T:Nat->Value}{k:List Item}{cs:List Frame}{w:World}{Ow:aG}{ops:Array Oper}{i:Nat}{rest:List Nat}{o:Oper}{d:Nat}
theorem sR(hg:o.guard=none)(a:Array Value):Region.wanted o (yielded ops a)=true:=by grind [Region.wanted]
theorem WT.mv{a:Operand}{v:Value}(ho:ops[i]?=some o)(hg:o.guard=none)(hk:b.kind≠.early)(hd:o.dst=some d)(hop:o.op=.move a)(p:(aF n T).eval a=v)
  (kk:WT Tryz.prog m Sd Stop ⟨G (b.at (aF n (up T d v)) (.inRegion ops rest::k)) cs,w,Ow⟩):WT Tryz.prog m Sd Stop ⟨G (b.at (aF n T) (.inRegion ops (i::rest)::k)) cs,w,Ow⟩:=
 WT.pure ho (sR hg _) hk hd (λ_=>(M7 hop p).1) (λ_=>(M7 hop p).2) kk
theorem WT.UF{a:Operand}{v:Value}(ho:ops[i]?=some o)(hg:o.guard=none)(hk:b.kind≠.early)(hd:o.dst=some d)(hop:o.op=.assign a)(p:(aF n T).eval a=v)
  (kk:WT Tryz.prog m Sd Stop ⟨G (b.at (aF n (up T d v)) (.inRegion ops rest::k)) cs,w,Ow⟩):WT Tryz.prog m Sd Stop ⟨G (b.at (aF n T) (.inRegion ops (i::rest)::k)) cs,w,Ow⟩:=
 WT.pure ho (sR hg _) hk hd (λ_=>(D9 hop p).1) (λ_=>(D9 hop p).2) kk
theorem WT.Eb{j:Nat}(ho:ops[i]?=some o)(hg:o.guard=none)(hk:b.kind≠.early)(hd:o.dst=some d)(hop:o.op=.move (.tmp j))(p:j<n)
  (kk:WT Tryz.prog m Sd Stop ⟨G (b.at (aF n (up T d (T j))) (.inRegion ops rest::k)) cs,w,Ow⟩):WT Tryz.prog m Sd Stop ⟨G (b.at (aF n T) (.inRegion ops (i::rest)::k)) cs,w,Ow⟩:=
 WT.mv ho hg hk hd hop (ae p) kk
theorem WT.mvC{v:Value}(ho:ops[i]?=some o)(hg:o.guard=none)(hk:b.kind≠.early)(hd:o.dst=some d)(hop:o.op=.move (.const v))
  (kk:WT Tryz.prog m Sd Stop ⟨G (b.at (aF n (up T d v)) (.inRegion ops rest::k)) cs,w,Ow⟩):WT Tryz.prog m Sd Stop ⟨G (b.at (aF n T) (.inRegion ops (i::rest)::k)) cs,w,Ow⟩:=
 WT.mv ho hg hk hd hop rfl kk
theorem WT.zi{j:Nat}(ho:ops[i]?=some o)(hg:o.guard=none)(hk:b.kind≠.early)(hd:o.dst=some d)(hop:o.op=.assign (.tmp j))(p:j<n)
  (kk:WT Tryz.prog m Sd Stop ⟨G (b.at (aF n (up T d (T j))) (.inRegion ops rest::k)) cs,w,Ow⟩):WT Tryz.prog m Sd Stop ⟨G (b.at (aF n T) (.inRegion ops (i::rest)::k)) cs,w,Ow⟩:=
 WT.UF ho hg hk hd hop (ae p) kk
theorem WT.Pz{v:Value}(ho:ops[i]?=some o)(hg:o.guard=none)(hk:b.kind≠.early)(hd:o.dst=some d)(hop:o.op=.assign (.const v))
  (kk:WT Tryz.prog m Sd Stop ⟨G (b.at (aF n (up T d v)) (.inRegion ops rest::k)) cs,w,Ow⟩):WT Tryz.prog m Sd Stop ⟨G (b.at (aF n T) (.inRegion ops (i::rest)::k)) cs,w,Ow⟩:=
 WT.UF ho hg hk hd hop rfl kk
theorem WT.ret{a:Act}{fn:Func}{c0:Frame}{v:Value}(hn:b.kind=.normal)(hd:a.defers= [])(hf:Tryz.prog.funcs[b.fn]?=some fn)(hr:∀w,(results fn a.tmps).run Tryz.prog w=.ok v w)(he:∀w,(results fn a.tmps).events Tryz.prog w #[]= #[])
  (kk:WT Tryz.prog m Sd Stop ⟨LG (c0.finish v) cs,w,Ow⟩):WT Tryz.prog m Sd Stop ⟨G (b.at a (.code .ret::k)) (c0::cs),w,Ow⟩:=by
 refine WT.ctl (g':=G { b.at a (.code .ret::k) with mode:=.returning } (c0::cs)) rfl (λ_=>stepG_ret') ?_;exact WT.ctl (g':=LG (c0.finish v) cs) rfl (λw'=>stepG_leave hn hd hf (hr w') (he w')) kk
end
def aei:=@Go.Proofs.Tryz.underlying23
structure yq(P:Program)(K:fO)(V:D1)(D:Nat->Bool)(F:World->Prop)(s1 s2 s3:ByteArray)(av av':Value)(pt pt':Option Addr)(n mt:Nat)(lw:Nat)(ps:Nat->List Int)(r:Nat->Int)(Inv:Array Value->Value->World->Prop):Prop where
 f74:K.s 74=true
 f76:K.s 76=true
 f77:K.s 77=true
 f103:K.s 103=true
 b74:∃fn c,P.funcs[74]?=some fn/\fn.body=some c
 b76:∃fn c,P.funcs[76]?=some fn/\fn.body=some c
 acG:∃fn c,P.funcs[103]?=some fn/\fn.body=some c
 gl:∀g,K.g g=true->D g=true/\V g=none
 vw:Vw P V D
 sW:∀w w':World,w.heap.size<=w'.heap.size->(∀b,D b=true->w'.heap[b]?=w.heap[b]?)->F w->F w'
 zG:∀w,F w->mh K.S V D w
 hv:aI K.S (B6 V D) (.agg #[.string s1,.string s2,.string s3,av',.slice pt' n mt]) (.agg #[.string s1,.string s2,.string s3,av,.slice pt n mt])
 small:n<1000
 VE:lw<1000000000
 opens:∀w,F w->∀t:Nat->Question->Nat,Calls P 74 #[.agg #[.string s1,.string s2,.string s3,av',.slice pt' n mt],.slice none 0 0] { cK V D w with tape:=t } fun
  | .returned x,v=>∃a1 a2 a3 p4 n4 m4 p5 n5 m5 p6 pl ml,x=.tuple #[.agg #[.string a1,.string a2,.string a3,.slice p4 n4 m4,.slice p5 n5 m5,.map p6],.slice pl lw ml,.int .i64 0]/\
    Inv #[.string a1,.string a2,.string a3,.slice p4 n4 m4,.slice p5 n5 m5,.map p6] (.slice pl lw ml) v
  |_,_=>False
 Mg:∀xs l v t,Inv xs l v->Inv xs l { v with tape:=t }
 Jk:∀(i:Nat) a1 a2 a3 v4 v5 v6 l v,i<n->Inv #[.string a1,.string a2,.string a3,v4,v5,v6] l v->∀t:Nat->Question->Nat,
  Calls P 76 #[l,.func (.func 77) #[.agg #[.string a1,.string a2,.string a3,v4,v5,v6,.string ⟨#[]⟩,.int .i64 i]] #[]] { v with tape:=t } fun
  | .returned x,v'=>Ints v' x (ps i)/\Inv #[.string a1,.string a2,.string a3,v4,v5,v6] l (pL x v')
  |_,_=>False
 TC:∀(i:Nat) D' w pv,i<n->(∀b,D b=true->D' b=true)->F w->mh K.S V D' w->Ints w pv (ps i)->(∀b o k m,pv=.slice (some ⟨b,o,none⟩) k m->D' b=true/\V b=none)->∀t:Nat->Question->Nat,
  Calls P 103 #[.agg #[.string s1,.string s2,.string s3,av',.slice pt' n mt],pv,.int .i64 i] { cK V D' w with tape:=t } fun
  | .returned x,_=>x=.int .i64 (r i)
  |_,_=>False
section
variable{m:Bool}{Sd:aG}{Stop:GS->Prop}{b:Frame}{n:Nat}{T:Nat->Value}{k:List Item}{cs:List Frame}{w:World}{Ow:aG}
theorem WT.newObj{Q:Program}{ops:Array Oper}{i:Nat}{rest:List Nat}{o:Oper}{d:Nat}{f:Nat->Value}{E:Obj}(ho:ops[i]?=some o)(hw:Region.wanted o (yielded ops (aF n T).tmps)=true)(hk:b.kind≠.early)(hd:o.dst=some d)
  (p:eo Ow Sd w.heap.size)
  (hrun:∀w',(execOp (aF n T).eval o).run Q w'=.ok (.value (f w'.heap.size)) (w'.alloc E)) (I:∀w',(execOp (aF n T).eval o).events Q w' #[]= #[])
  (kk:∀w1 B H,w1.heap[B]?=some E->(∀c,H c↔(Ow c\/c=B))->w.heap.size<=B->eo H Sd w1.heap.size->aU Ow Sd w w1->
   WT Q m Sd Stop ⟨G (b.at (aF n (up T d (f B))) (.inRegion ops rest::k)) cs,w1,H⟩):WT Q m Sd Stop ⟨G (b.at (aF n T) (.inRegion ops (i::rest)::k)) cs,w,Ow⟩:=by
 refine WT.value ho hw hk hd λw' ha=>?_
 have hs:=ha.size;have J:(w'.alloc E).heap.size=w'.heap.size+1:=by simp_all
 have hold:∀c,c<w'.heap.size->(w'.alloc E).heap[c]?=w'.heap[c]?:=λc hc=>by
  rw[heap_alloc,abP,aat (by omega)]
 have hn:∀c,bU Ow w' (w'.alloc E) c↔(Ow c\/c=w'.heap.size):=λc=>by
  unfold bU
  grind
 refine⟨_,_,hrun w',⟨by omega,λc hc _=>hold c hc,rfl,rfl,rfl⟩,λev he=>by simp_all,?_⟩;refine kk _ w'.heap.size _ ?_ hn hs ⟨λc hc=>?_,λc hc=>?_,λc hc hd=>?_⟩ ⟨by omega,λc hc=>?_,λc hc=>?_,ha.os,ha.out,ha.tape⟩
 ·rw[heap_alloc,abP,aay rfl]
 ·rcases(hn c).1 hc with h|h
  ·have:=p.ow c h;omega
  ·omega
 ·have:=p.sd c hc;omega
 ·rcases(hn c).1 hc with h|h
  ·exact p.yz c h hd
  ·have:=p.sd c hd;omega
 ·rw[hold c (by have:=p.ow c hc;omega)];exact ha.own c hc
 ·rw[hold c (by have:=p.sd c hc;omega)];exact ha.oV c hc
end
theorem WT.ext{m:Bool}{Sd:aG}{Stop:GS->Prop}{b:Frame}{n:Nat}{T:Nat->Value}{k:List Item}{cs:List Frame}{w:World}{Ow:aG}{ops:Array Oper}{i:Nat}{rest:List Nat}{o:Oper}{d:Nat}{a:Operand}{j:Nat}{xs:Array Value}{v:Value}(ho:ops[i]?=some o)(hg:o.guard=none)(hk:b.kind≠.early)(hd:o.dst=some d)(hop:o.op=.extract a j)(p:(aF n T).eval a=.tuple xs)(hx:xs[j]?=some v)
  (kk:WT Tryz.prog m Sd Stop ⟨G (b.at (aF n (up T d v)) (.inRegion ops rest::k)) cs,w,Ow⟩):WT Tryz.prog m Sd Stop ⟨G (b.at (aF n T) (.inRegion ops (i::rest)::k)) cs,w,Ow⟩:=
 WT.pure ho (sR hg _) hk hd (λ_=>(zQ hop p hx).1) (λ_=>(zQ hop p hx).2) kk
theorem aI.lT{S:FuncId->Prop}{ρ:Ren}{p:Option Addr}{n m:Nat}{y:Value}(h:aI S ρ (.slice p n m) y):∃E,y=.slice E n m:=by
 cases h with
 |cE=>grind
 |slice=>grind
theorem aI.Re{S:FuncId->Prop}{ρ:Ren}{p:Option Nat}{y:Value}(h:aI S ρ (.map p) y):∃E,y=.map E:=by
 cases h with
 |ql=>grind
 |map=>grind
theorem aI.fB{S:FuncId->Prop}{ρ:Ren}{s:ByteArray}{y:Value}(h:aI S ρ (.string s) y):y=.string s:=by cases h;rfl
theorem aI.rC{S:FuncId->Prop}{ρ:Ren}{k:IntKind}{n:Int}{y:Value}(h:aI S ρ (.int k n) y):y=.int k n:=by cases h;rfl
theorem QF{S:FuncId->Prop}{ρ:Ren}{a1 a2 a3:ByteArray}{p4 p5:Option Addr}{n4 m4 n5 m5:Nat}{p6:Option Nat}{ys:Array Value}
  (h:AR S ρ #[.string a1,.string a2,.string a3,.slice p4 n4 m4,.slice p5 n5 m5,.map p6] ys):∃q4 q5 q6,ys= #[.string a1,.string a2,.string a3,.slice q4 n4 m4,.slice q5 n5 m5,.map q6]:=by
 obtain⟨y0,U,r0⟩:=h.get (i:=0) rfl;obtain⟨y1,O,r1⟩:=h.get (i:=1) rfl;obtain⟨y2,N,I⟩:=h.get (i:=2) rfl;obtain⟨Z,M,H⟩:=h.get (i:=3) rfl;obtain⟨Y,L,E⟩:=h.get (i:=4) rfl;obtain⟨W,J,p⟩:=h.get (i:=5) rfl;obtain⟨q4,rfl⟩:=H.lT;obtain⟨q5,rfl⟩:=E.lT;obtain⟨q6,rfl⟩:=p.Re;cases r0.fB;cases r1.fB;cases I.fB;refine⟨q4,q5,q6,?_⟩;have hs:ys.size=6:=h.1.symm;apply adT;intro i;rcases i with _|_|_|_|_|_|i
 ·exact U
 ·exact O
 ·exact N
 ·exact M
 ·exact L
 ·exact J
 simp_all
theorem JR{S:FuncId->Prop}{ρ:Ren}{E x1 x2:Value}{y:Value}(h:aI S ρ (.tuple #[E,x1,x2]) y):∃p y1 y2,y=.tuple #[p,y1,y2]/\aI S ρ E p/\aI S ρ x1 y1/\aI S ρ x2 y2:=by
 cases h with
 |tuple _ ys hs h=>
 have H:AR S ρ #[E,x1,x2] ys:=⟨hs,h⟩
 obtain⟨p,M,r0⟩:=H.get (i:=0) rfl;obtain⟨y1,L,r1⟩:=H.get (i:=1) rfl;obtain⟨y2,J,I⟩:=H.get (i:=2) rfl;refine⟨p,y1,y2,?_,r0,r1,I⟩;have hs:ys.size=3:=hs.symm;congr 1
 grind
def rJ:List Item:= [.code lE,.inLoop lE,.inBlock 0,.code uR]
structure Fork(P:Program)(K:fO)(Sd:aG)(s1 s2 s3:ByteArray)(av tv:Value)(lw:Nat)(Inv:Array Value->Value->World->Prop)(T:Nat->Value)(w:World)(Ow:aG)(B0 B5 bo c:Nat)(ρ:Ren)(Sh:Nat->Prop)(v:World):Prop where
 t1:T 1=.pointer (some ⟨B0,0,none⟩)
 t5:T 5=.pointer (some ⟨B5,0,none⟩)
 t7:T 7=.pointer (some ⟨bo,0,none⟩)
 h0:Holds w B0 #[.string s1,.string s2,.string s3,av,tv] 25
 ho:Holds w bo #[.chan (some c)] 131
 o5:Ow B5
 apd:∃a1 a2 a3 p4 n4 m4 p5 n5 m5 p6 pl ml q4 q5 q6,Holds w B5 #[.string a1,.string a2,.string a3,.slice q4 n4 m4,.slice q5 n5 m5,.map q6] 99/\
  AR K.S ρ #[.string a1,.string a2,.string a3,.slice p4 n4 m4,.slice p5 n5 m5,.map p6] #[.string a1,.string a2,.string a3,.slice q4 n4 m4,.slice q5 n5 m5,.map q6]/\
  aI K.S ρ (.slice pl lw ml) (T 6)/\Inv #[.string a1,.string a2,.string a3,.slice p4 n4 m4,.slice p5 n5 m5,.map p6] (.slice pl lw ml) v
 lone:Lone P K Sd w ρ Sh v
 im:∀x,Im ρ Sh x->Ow x/\x≠B0/\x≠B5/\x≠bo/\x≠c
 there:eo Ow Sd w.heap.size
theorem Holds.ne{w:World}{b b':Nat}{xs ys:Array Value}{e e':TypeId}(h:Holds w b xs e)(h':Holds w b' ys e')(cr:e≠e'):b≠b':=by
 rintro rfl;have:=(show w.heap[b]?=_ from h).symm.trans h'
 simp_all
theorem Holds.vD{w:World}{b c:Nat}{xs:Array Value}{e:TypeId}{x:Nat}{y:Array Value}{z:Bool}{u v:Nat}{q:Bool}(h:Holds w b xs e)(h':w.heap[c]?=some (.chan x y z u v q)):b≠c:=by
 rintro rfl;have:=(show w.heap[b]?=_ from h).symm.trans h';cases this
section
variable{P:Program}[Twin P Tryz.prog]{K:fO}{V:D1}{D:Nat->Bool}{F:World->Prop}{s1 s2 s3:ByteArray}{av av':Value}{pt pt':Option Addr}{n mt lw:Nat}{ps:Nat->List Int}{r:Nat->Int}{Inv:Array Value->Value->World->Prop}
def Yc(P:Program)(K:fO)(Sd:aG)(s1 s2 s3:ByteArray)(av:Value)(pt:Option Addr)(n mt lw:Nat)(Inv:Array Value->Value->World->Prop)(cs:List Frame):GS->Prop:=λs=>
 ∃T B0 B5 bo c ρ Sh v,s.g=G ((base 41).at (aF 73 T) rJ) cs/\T 26=.int .i64 n/\T 27=.int .i64 0/\T 4=.int .i64 0/\s.w.heap[c]?=some (.chan 0 #[] false 0 0 false)/\s.ow B0/\s.ow bo/\s.ow c/\
  Fork P K Sd s1 s2 s3 av (.slice pt n mt) lw Inv T s.w s.ow B0 B5 bo c ρ Sh v
set_option maxHeartbeats 4000000 in
theorem Ip(hS:Setup P Tryz.prog K K)(hnb:∀f,K.j4 f=false)(E:yq P K V D F s1 s2 s3 av av' pt pt' n mt lw ps r Inv){Sd:aG}{w:World}(iC:∀b,D b=true->Sd b)(hg:P.globals.size<=w.heap.size)(hF:F w)(EB:∀b,Sd b->b<w.heap.size)(cs:List Frame):
  WT Tryz.prog true Sd (Yc P K Sd s1 s2 s3 av pt n mt lw Inv cs) ⟨LG (Frame.enter Tryz.prog 41 #[.agg #[.string s1,.string s2,.string s3,av,.slice pt n mt]] .normal) cs,w,λ_=>False⟩:=by
 have hk:(base 41).kind≠.early:=by simp[base]
 have lM:LG (Frame.enter Tryz.prog 41 #[.agg #[.string s1,.string s2,.string s3,av,.slice pt n mt]] .normal) cs=G ((base 41).at (aF 73 (λk=>(#[.agg #[.string s1,.string s2,.string s3,av,.slice pt n mt]]:Array Value).getD k undef)) [.code PF]) cs:=by
  rw[enter_at _ Tryz.func41 OR];rw[<-um _ 73 (by simp)];rfl
 rw[lM];generalize hT:(λk=>(#[.agg #[.string s1,.string s2,.string s3,av,.slice pt n mt]]:Array Value).getD k undef)=T;have t0:T 0=.agg #[.string s1,.string s2,.string s3,av,.slice pt n mt]:=by rw[<-hT];rfl
 clear hT lM;have agf:eo (λ_=>False) Sd w.heap.size:=⟨λ_ h=>h.elim,EB,λ_ h=>h.elim⟩
 refine .seq (.region ?_);refine WT.new (o:=XT[0]) rfl (by rfl) hk rfl agf (λw'=>(UA (o:=XT[0]) rfl (by rw[ae (by decide)];exact t0)).1) (λw'=>(UA (o:=XT[0]) rfl (by rw[ae (by decide)];exact t0)).2) (λw1 B0 fN jy rR KG xm rQ=>?_);refine WT.Pz (o:=XT[1]) rfl rfl hk rfl rfl ?_;refine WT.Pz (o:=XT[2]) rfl rfl hk rfl rfl ?_;refine WT.Pz (o:=XT[3]) rfl rfl hk rfl rfl ?_;refine .bu (.seq (.region ?_));have U:fN B0:=(rR B0).2 (.inr rfl);generalize pK:up (up (up (up T 1 (.pointer (some ⟨B0,0,none⟩))) 2 (.int .i64 0)) 3 (.int .i64 0)) 4 (.int .i64 0)=T1;have t1:T1 1=.pointer (some ⟨B0,0,none⟩):=by rw[<-pK];rfl
 clear pK;refine WT.load (o:=AP[0]) rfl (by rfl) hk rfl (.inl U) jy (λw' p=>(Rj (o:=AP[0]) rfl (by grind [ae]) p).1) (λw' p=>(Rj (o:=AP[0]) rfl (by grind [ae]) p).2) ?_;refine WT.enter (o:=AP[1]) (f:=74) (args:= #[.agg #[.string s1,.string s2,.string s3,av,.slice pt n mt],.slice none 0 0]) rfl (by rfl) hk (λw'=>?_) (λw'=>?_) ?_
 ·rw[(lU (o:=AP[1]) (w:=w') rfl rfl Tryz.func74 rfl (by decide)).1];simp only[adt,List.map_cons,List.map_nil,DO,ae (show 15<73 by decide)];rfl
 ·rfl
 have OD:F w1:=E.sW w w1 rQ.size (λb hb=>rQ.oV b (iC b hb)) hF;refine AM hS hnb E.f74 E.b74 (w:=w1) E.vw (E.zG w1 OD) (aaY hg rQ.size) E.gl iC xm (Kp:=λb=>b=B0) (λc hc=>by simp_all) ?_ ?_ (E.opens w1 OD) (λρ1 x x' v1 w2 PW k1 k2 k3 k4 k5 k6 k7 k8 k9 Yt k11=>?_)
 ·refine⟨rfl,λi x y hx hy=>?_⟩;rcases i with _|_|i
  ·cases hx;cases hy;exact E.hv
  ·cases hx;cases hy;exact .cE 0 0
  ·simp at hx
 ·rintro x v t ⟨a1,a2,a3,p4,n4,m4,p5,n5,m5,p6,pl,ml,e,h⟩;exact⟨a1,a2,a3,p4,n4,m4,p5,n5,m5,p6,pl,ml,e,E.Mg _ _ _ _ h⟩
 obtain⟨a1,a2,a3,p4,n4,m4,p5,n5,m5,p6,pl,ml,rfl,hinv⟩:=k8;obtain⟨y0,y1,y2,rfl,r0,r1,r2⟩:=JR k7;cases r2.rC;cases r0 with
 |agg _ ys hs hr=>
 obtain⟨q4,q5,q6,rfl⟩:=QF ⟨hs,hr⟩;rw[j0 (o:=AP[1]) (d:=16) rfl rfl];have Hm:eo PW Sd w2.heap.size:=⟨k3.vc,λc hc=>abD (xm.sd c hc) k6,k3.yz⟩
 have ail:Holds w2 B0 #[.string s1,.string s2,.string s3,av,.slice pt n mt] 25:=by unfold Holds;rw[Yt.own B0 rfl];exact jy
 have ZD:PW B0:=k2 B0 U;have iK:Lone P K Sd w2 ρ1 (λb=>b<w1.heap.size) v1:=⟨k4,λg F5=>k1 _ _ (mL (E.gl g F5).1 (E.gl g F5).2),k9,k3.oV⟩
 have xw:∀x,Im ρ1 (λb=>b<w1.heap.size) x->PW x/\x≠B0:=by
  rintro x ⟨b,d,e1,e2⟩;exact⟨k3.own b x d e1 e2,λe=>k11 B0 rfl b d (e▸e1)⟩
 refine WT.Eb (o:=AP[2]) rfl rfl hk rfl rfl (by decide) ?_;refine WT.ext (o:=AP[3]) rfl rfl hk rfl rfl (ae (by decide)) rfl ?_;refine WT.ext (o:=AP[4]) rfl rfl hk rfl rfl (ae (by decide)) rfl ?_;refine WT.ext (o:=AP[5]) rfl rfl hk rfl rfl (ae (by decide)) rfl ?_;refine WT.new (o:=AP[6]) rfl (by rfl) hk rfl Hm (λw'=>(acM (o:=AP[6]) rfl).1) (λw'=>(acM (o:=AP[6]) rfl).2) (λw3 B5 Td F_ Xc eu NJ HF=>?_);have zT:Td B5:=(Xc B5).2 (.inr rfl);have Vv:Td B0:=(Xc B0).2 (.inl ZD);have Sa:=ail.agree HF (.inl ZD);have Hw:Lone P K Sd w3 ρ1 (λb=>b<w1.heap.size) v1:=iK.agree HF (λc hc=>(xw c hc).1);have H:∀x,Im ρ1 (λb=>b<w1.heap.size) x->Td x/\x≠B0/\x≠B5:=λx hx=>⟨(Xc x).2 (.inl (xw x hx).1),(xw x hx).2,λe=>by have:=Hm.ow x (xw x hx).1;omega⟩
 refine WT.store (o:=AP[7]) (ys:= #[.string a1,.string a2,.string a3,.slice q4 n4 m4,.slice q5 n5 m5,.map q6]) rfl (by rfl) hk rfl zT F_ (λw' p=>(Zg (o:=AP[7]) rfl (by rw[ae (by decide)];rfl) (by rw[ae (by decide)];rfl) p).1)
  (λw' p=>(Zg (o:=AP[7]) rfl (by rw[ae (by decide)];rfl) (by rw[ae (by decide)];rfl) p).2) (λw4 R_ y_=>?_) (NJ.yz B5 zT)
 have Xg:Holds w4 B0 #[.string s1,.string s2,.string s3,av,.slice pt n mt] 25:=by
  unfold Holds;rw[y_.own B0 ⟨Vv,Sa.ne F_ (by decide)⟩];exact Sa
 have W:eo Td Sd w4.heap.size:=NJ.mono y_.size;have Hv:Lone P K Sd w4 ρ1 (λb=>b<w1.heap.size) v1:=Hw.agree y_ (λc hc=>⟨(H c hc).1,(H c hc).2.2⟩);refine WT.zi (o:=AP[8]) rfl rfl hk rfl rfl (by decide) ?_;refine WT.zi (o:=AP[9]) rfl rfl hk rfl rfl (by decide) ?_;refine .bu (.seq (.seq (.region ?_)));generalize O:up (up (up (up (up (up (up (up (up _ _ _) _ _) _ _) _ _) _ _) _ _) _ _) _ _) _ _=T2;have u1:T2 1=.pointer (some ⟨B0,0,none⟩):=by rw[<-O];exact t1
 have u5:T2 5=.pointer (some ⟨B5,0,none⟩):=by rw[<-O];rfl
 have u6:T2 6=y1:=by rw[<-O];rfl
 have u4:T2 4=.int .i64 0:=by rw[<-O];rfl
 clear O;refine WT.Eb (o:=ak2[0]) rfl rfl hk rfl rfl (by decide) ?_;refine WT.pure (o:=ak2[1]) rfl (by rfl) hk rfl (λw'=>(IZ (o:=ak2[1]) (x:=0) rfl (by rw[ae (by decide)];exact u4) rfl).1) (λw'=>(IZ (o:=ak2[1]) (x:=0) rfl (by rw[ae (by decide)];exact u4) rfl).2) ?_;refine .bu (WT.cond (t:=false) (by rw[ae (by decide)];rfl) (.DQ (.seq (.region ?_))));refine WT.newObj (o:=Qh[0]) (f:=λc=>.chan (some c)) rfl (by rfl) hk rfl W (λw'=>(wV (o:=Qh[0]) rfl rfl).1) (λw'=>(wV (o:=Qh[0]) rfl rfl).2) (λw5 c Ow5 hc5 R3 mN Hl yZ=>?_);have ZC:Ow5 B0:=(R3 B0).2 (.inl Vv);have ZA:Ow5 B5:=(R3 B5).2 (.inl zT);have oc5:Ow5 c:=(R3 c).2 (.inr rfl);have Xf:=Xg.agree yZ (.inl Vv);have Xe:=R_.agree yZ (.inl zT);have Hu:Lone P K Sd w5 ρ1 (λb=>b<w1.heap.size) v1:=Hv.agree yZ (λc hc=>(H c hc).1);have M:∀x,Im ρ1 (λb=>b<w1.heap.size) x->Ow5 x/\x≠B0/\x≠B5/\x≠c:=λx hx=>⟨(R3 x).2 (.inl (H x hx).1),(H x hx).2.1,(H x hx).2.2,λe=>by have:=W.ow x (H x hx).1;omega⟩
 refine WT.new (o:=Qh[1]) rfl (by rfl) hk rfl Hl (λw'=>(UH (o:=Qh[1]) rfl).1) (λw'=>(UH (o:=Qh[1]) rfl).2) (λw6 bo I yY OA EM ZY R0=>?_);have Q5:I B0:=(OA B0).2 (.inl ZC);have Vt:I B5:=(OA B5).2 (.inl ZA);have oc6:I c:=(OA c).2 (.inl oc5);have Q3:I bo:=(OA bo).2 (.inr rfl);have Y:=Xf.agree R0 (.inl ZC);have abR:=Xe.agree R0 (.inl ZA);have hc6:w6.heap[c]?=some (.chan 0 #[] false 0 0 false):=by rw[R0.own c oc5];exact hc5
 have Wu:Lone P K Sd w6 ρ1 (λb=>b<w1.heap.size) v1:=Hu.agree R0 (λc hc=>(M c hc).1);have RF:∀x,Im ρ1 (λb=>b<w1.heap.size) x->I x/\x≠B0/\x≠B5/\x≠bo/\x≠c:=λx hx=>⟨(OA x).2 (.inl (M x hx).1),(M x hx).2.1,(M x hx).2.2.1,λe=>by have:=Hl.ow x (M x hx).1;omega,(M x hx).2.2.2⟩
 refine WT.store (o:=Qh[2]) (ys:= #[.chan (some c)]) rfl (by rfl) hk rfl Q3 yY (λw' p=>(Tt (o:=Qh[2]) rfl (by rw[ae (by decide)];rfl) (by rw[ae (by decide)];rfl) p).1)
  (λw' p=>(Tt (o:=Qh[2]) rfl (by rw[ae (by decide)];rfl) (by rw[ae (by decide)];rfl) p).2) (λN RP Oz=>?_) (ZY.yz bo Q3)
 have n1:B0≠bo:=Y.ne yY (by decide);have n2:B5≠bo:=abR.ne yY (by decide);have n3:c≠bo:=λe=>yY.vD hc6 e.symm
 have Z:Holds N B0 #[.string s1,.string s2,.string s3,av,.slice pt n mt] 25:=by unfold Holds;rw[Oz.own B0 ⟨Q5,n1⟩];exact Y
 have aii:Holds N B5 #[.string a1,.string a2,.string a3,.slice q4 n4 m4,.slice q5 n5 m5,.map q6] 99:=by unfold Holds;rw[Oz.own B5 ⟨Vt,n2⟩];exact abR
 have hc7:N.heap[c]?=some (.chan 0 #[] false 0 0 false):=by rw[Oz.own c ⟨oc6,n3⟩];exact hc6
 have age:eo I Sd N.heap.size:=ZY.mono Oz.size;have Wt:Lone P K Sd N ρ1 (λb=>b<w1.heap.size) v1:=Wu.agree Oz (λc hc=>⟨(RF c hc).1,(RF c hc).2.2.2.1⟩);refine .bu (.seq (.seq (.region ?_)));generalize L:up (up (up (up T2 _ _) _ _) _ _) _ _=J;have x1:J 1=.pointer (some ⟨B0,0,none⟩):=by rw[<-L];exact u1
 have x5:J 5=.pointer (some ⟨B5,0,none⟩):=by rw[<-L];exact u5
 have x6:J 6=y1:=by rw[<-L];exact u6
 have x4:J 4=.int .i64 0:=by rw[<-L];exact u4
 have x7:J 7=.pointer (some ⟨bo,0,none⟩):=by rw[<-L];rfl
 clear L;refine WT.pure (o:=PH[0]) rfl (by rfl) hk rfl (λw'=>(kj (o:=PH[0]) rfl (by rw[ae (by decide)];exact x1)).1) (λw'=>(kj (o:=PH[0]) rfl (by rw[ae (by decide)];exact x1)).2) ?_;refine WT.load (o:=PH[1]) rfl (by rfl) hk rfl (.inl Q5) Z (λw' p=>(Kv (o:=PH[1]) rfl (by rw[ae (by decide)];rfl) p rfl).1) (λw' p=>(Kv (o:=PH[1]) rfl (by rw[ae (by decide)];rfl) p rfl).2) ?_;refine WT.pure (o:=PH[2]) rfl (by rfl) hk rfl (λw'=>(pE (o:=PH[2]) rfl (by rw[ae (by decide)];rfl) aei).1) (λw'=>(pE (o:=PH[2]) rfl (by rw[ae (by decide)];rfl) aei).2) ?_;refine WT.mvC (o:=PH[3]) rfl rfl hk rfl rfl ?_;refine .bu (.block (.loop (.stop rfl λw' ha=>?_)));refine⟨_,B0,B5,bo,c,ρ1,_,v1,rfl,rfl,rfl,x4,(ha.own c oc6).trans hc7,Q5,Q3,oc6,x1,x5,x7,Z.agree ha (.inl Q5),RP.agree ha (.inl Q3),Vt,?_,Wt.agree ha (λc hc=>(RF c hc).1),RF,age.mono ha.size⟩;refine⟨a1,a2,a3,p4,n4,m4,p5,n5,m5,p6,pl,ml,q4,q5,q6,aii.agree ha (.inl Vt),⟨hs,hr⟩,?_,hinv⟩;show aI K.S ρ1 _ (J 6)
 grind
end
section
variable{o:Oper}{ev:Operand->Value}{w:World}
theorem zP{x7 x8 x1 x9:Value}(hop:o.op=.makeFunc (.func 102) #[] #[.tmp 7,.tmp 8,.tmp 1,.tmp 9])(H:ev (.tmp 7)=x7)(E:ev (.tmp 8)=x8)(h1:ev (.tmp 1)=x1)(p:ev (.tmp 9)=x9):
  (execOp ev o).run Tryz.prog w=.ok (.value (.func (.func 102) #[] #[x7,x8,x1,x9])) w/\(execOp ev o).events Tryz.prog w #[]= #[]:=by
 constructor <;>simp[execOp,hop,H,E,h1,p,go_sem]
theorem afp{cap:Array Value}(hop:o.op=.go { callee:=.value (.tmp 36),args:= #[],argTypes:= #[] })(h:ev (.tmp 36)=.func (.func 102) #[] cap):
  (execOp ev o).run Tryz.prog w=.ok (.spawn { target:=.fn (.func 102) cap,args:= #[] }) w/\(execOp ev o).events Tryz.prog w #[]= #[]:=by
 simp_all [execOp,resolve,Deferred.ofValue]
end
def acH:List Item:= [.inRegion PG [1],.inBlock 1,.code (.region 10 zm false),.inLoop lE,.inBlock 0,.code uR]
theorem OK(x:Value)(v:World)(t:Nat->Question->Nat):pL x { v with tape:=t } = { pL x v with tape:=t } :=by
 unfold pL;split <;>rfl
section
variable{P:Program}[Twin P Tryz.prog]{K:fO}{V:D1}{D:Nat->Bool}{F:World->Prop}{s1 s2 s3:ByteArray}{av av':Value}{pt pt':Option Addr}{n mt lw:Nat}{ps:Nat->List Int}{r:Nat->Int}{Inv:Array Value->Value->World->Prop}
def AtGo(P:Program)(K:fO)(Sd:aG)(s1 s2 s3:ByteArray)(av:Value)(pt:Option Addr)(n mt lw:Nat)(ps:Nat->List Int)(Inv:Array Value->Value->World->Prop)(cs:List Frame)(B0 B5 bo c:Nat)(Sh:Nat->Prop)(i:Nat):GS->Prop:=λs=>
 ∃T bi bp ρ v pv p a1 a2 a3 p4 n4 m4 p5 n5 m5 p6 pl ml q4 q5 q6,s.g=G ((base 41).at (aF 73 T) acH) cs/\T 26=.int .i64 n/\T 27=.int .i64 i/\T 4=.int .i64 0/\
  T 36=.func (.func 102) #[] #[.pointer (some ⟨bo,0,none⟩),.pointer (some ⟨bi,0,none⟩),.pointer (some ⟨B0,0,none⟩),.pointer (some ⟨bp,0,none⟩)]/\
  T 1=.pointer (some ⟨B0,0,none⟩)/\T 5=.pointer (some ⟨B5,0,none⟩)/\T 7=.pointer (some ⟨bo,0,none⟩)/\
  Holds s.w B0 #[.string s1,.string s2,.string s3,av,.slice pt n mt] 25/\Holds s.w bo #[.chan (some c)] 131/\Holds s.w bi #[.int .i64 i] 3/\Holds s.w bp #[p] 28/\
  s.ow B5/\s.ow bi/\s.ow bp/\aI K.S ρ pv p/\Ints v pv (ps i)/\
  Holds s.w B5 #[.string a1,.string a2,.string a3,.slice q4 n4 m4,.slice q5 n5 m5,.map q6] 99/\
  AR K.S ρ #[.string a1,.string a2,.string a3,.slice p4 n4 m4,.slice p5 n5 m5,.map p6] #[.string a1,.string a2,.string a3,.slice q4 n4 m4,.slice q5 n5 m5,.map q6]/\
  aI K.S ρ (.slice pl lw ml) (T 6)/\Inv #[.string a1,.string a2,.string a3,.slice p4 n4 m4,.slice p5 n5 m5,.map p6] (.slice pl lw ml) (pL pv v)/\
  Lone P K Sd s.w ρ Sh v/\(∀x,Im ρ Sh x->s.ow x/\x≠B0/\x≠B5/\x≠bo/\x≠c/\x≠bi/\x≠bp)/\eo s.ow Sd s.w.heap.size
set_option maxHeartbeats 4000000 in
theorem Ln(hS:Setup P Tryz.prog K K)(hnb:∀f,K.j4 f=false)(hA:yq P K V D F s1 s2 s3 av av' pt pt' n mt lw ps r Inv){Sd Ow:aG}{w:World}{T:Nat->Value}{B0 B5 bo c:Nat}{ρ:Ren}{Sh:Nat->Prop}{v:World}{cs:List Frame}{i:Nat}(hi:i<n)
  (YN:T 26=.int .i64 n) (OE:T 27=.int .i64 i) (h4:T 4=.int .i64 0) (GL:Sd B0) (u_:Sd bo) (P_:¬Ow c) (ahv:c<w.heap.size)
  (hF:Fork P K Sd s1 s2 s3 av (.slice pt n mt) lw Inv T w Ow B0 B5 bo c ρ Sh v):
  WT Tryz.prog true Sd (AtGo P K Sd s1 s2 s3 av pt n mt lw ps Inv cs B0 B5 bo c Sh i) ⟨G ((base 41).at (aF 73 T) rJ) cs,w,Ow⟩:=by
 have hk:(base 41).kind≠.early:=by simp[base]
 obtain⟨t1,t5,t7,jy,mr,zT,⟨a1,a2,a3,p4,n4,m4,p5,n5,m5,p6,pl,ml,q4,q5,q6,F_,Uq,LU,hinv⟩,iK,xw,B_⟩:=hF;unfold rJ;refine .seq (.region ?_);refine WT.pure (o:=XS[0]) (v:=.bool true) rfl (by rfl) hk rfl (λw'=>?_) (λw'=>?_) ?_
 ·rw[(lk (o:=XS[0]) rfl (by rw[ae (by decide)];exact OE) (by rw[ae (by decide)];exact YN)).1]
  grind
 ·exact(lk (o:=XS[0]) rfl (by rw[ae (by decide)];exact OE) (by rw[ae (by decide)];exact YN)).2
 refine .bu (.seq (WT.cond (t:=true) (by rw[ae (by decide)];rfl) (.DQ (.seq (.block (.seq (.region ?_)))))));refine WT.Eb (o:=UI[0]) rfl rfl hk rfl rfl (by decide) ?_;refine WT.new (o:=UI[1]) rfl (by rfl) hk rfl B_ (λw'=>(al3 (o:=UI[1]) rfl).1) (λw'=>(al3 (o:=UI[1]) rfl).2) (λw1 bi Y Qa rR KG xm rQ=>?_);have Tz:Y bi:=(rR bi).2 (.inr rfl);have Q4:Y B5:=(rR B5).2 (.inl zT);have Xh:=jy.agree rQ (.inr GL);have ahz:=mr.agree rQ (.inr u_);have abT:=F_.agree rQ (.inl zT);have Wv:Lone P K Sd w1 ρ Sh v:=iK.agree rQ (λc hc=>(xw c hc).1);have RH:∀x,Im ρ Sh x->Y x/\x≠B0/\x≠B5/\x≠bo/\x≠c/\x≠bi:=λx hx=>by
  obtain⟨g1,g2,g3,g4,g5⟩:=xw x hx;exact⟨(rR x).2 (.inl g1),g2,g3,g4,g5,λe=>by have:=B_.ow x g1;omega⟩
 refine WT.store (o:=UI[2]) (ys:= #[.int .i64 i]) rfl (by rfl) hk rfl Tz Qa (λw' E=>(st3 (o:=UI[2]) (i:=0) rfl (by rw[ae (by decide)];rfl) (by rw[ae (by decide)];exact OE) ⟨_,rfl⟩ E (by decide)).1)
  (λw' E=>(st3 (o:=UI[2]) (i:=0) rfl (by rw[ae (by decide)];rfl) (by rw[ae (by decide)];exact OE) ⟨_,rfl⟩ E (by decide)).2) (λw2 abt U=>?_) (xm.yz bi Tz)
 have n51:B5≠bi:=abT.ne Qa (by decide);have aik:Holds w2 B0 #[.string s1,.string s2,.string s3,av,.slice pt n mt] 25:=by unfold Holds;rw[U.oV B0 GL];exact Xh
 have KO:Holds w2 bo #[.chan (some c)] 131:=by unfold Holds;rw[U.oV bo u_];exact ahz
 have abS:Holds w2 B5 #[.string a1,.string a2,.string a3,.slice q4 n4 m4,.slice q5 n5 m5,.map q6] 99:=by unfold Holds;rw[U.own B5 ⟨Q4,n51⟩];exact abT
 have W:Lone P K Sd w2 ρ Sh v:=Wv.agree U (λc hc=>⟨(RH c hc).1,(RH c hc).2.2.2.2.2⟩);have Hm:eo Y Sd w2.heap.size:=xm.mono U.size;refine .bu (.seq (.region ?_));generalize J:up (up (up T 28 _) _ _) _ _=L;have x1:L 1=.pointer (some ⟨B0,0,none⟩):=by rw[<-J];exact t1
 have x5:L 5=.pointer (some ⟨B5,0,none⟩):=by rw[<-J];exact t5
 have x6:L 6=T 6:=by rw[<-J];rfl
 have x4:L 4=.int .i64 0:=by rw[<-J];exact h4
 have x7:L 7=.pointer (some ⟨bo,0,none⟩):=by rw[<-J];exact t7
 have x8:L 8=.pointer (some ⟨bi,0,none⟩):=by rw[<-J];rfl
 have x26:L 26=.int .i64 n:=by rw[<-J];exact YN
 have x27:L 27=.int .i64 i:=by rw[<-J];exact OE
 clear J;refine WT.Eb (o:=vT[0]) rfl rfl hk rfl rfl (by decide) ?_;refine WT.load (o:=vT[1]) rfl (by rfl) hk rfl (.inl Q4) abS (λw' E=>(ZH (o:=vT[1]) rfl (by rw[ae (by decide)];exact x5) E).1) (λw' E=>(ZH (o:=vT[1]) rfl (by rw[ae (by decide)];exact x5) E).2) ?_;refine WT.load (o:=vT[2]) rfl (by rfl) hk rfl (.inl Tz) abt (λw' E=>(LN (o:=vT[2]) rfl (by rw[ae (by decide)];exact x8) E rfl).1) (λw' E=>(LN (o:=vT[2]) rfl (by rw[ae (by decide)];exact x8) E rfl).2) ?_;refine WT.pure (o:=vT[3]) rfl (by rfl) hk rfl (λw'=>(wW (o:=vT[3]) ⟨_,_,_,rfl⟩ ⟨_,_,_,rfl⟩ ⟨_,rfl⟩ rfl (ae (by decide)) (ae (by decide))).1) (λw'=>(wW (o:=vT[3]) ⟨_,_,_,rfl⟩ ⟨_,_,_,rfl⟩ ⟨_,rfl⟩ rfl (ae (by decide)) (ae (by decide))).2) ?_;refine WT.pure (o:=vT[4]) rfl (by rfl) hk rfl (λw'=>(D8 (o:=vT[4]) rfl (ae (by decide))).1) (λw'=>(D8 (o:=vT[4]) rfl (ae (by decide))).2) ?_;refine WT.enter (o:=vT[5]) (f:=76) (args:= #[T 6,.func (.func 77) #[.agg #[.string a1,.string a2,.string a3,.slice q4 n4 m4,.slice q5 n5 m5,.map q6,.string ⟨#[]⟩,.int .i64 i]] #[]]) rfl (by rfl) hk (λw'=>?_) (λw'=>?_) ?_
 ·rw[(lU (o:=vT[5]) (w:=w') rfl rfl Tryz.func76 rfl (by decide)).1];simp only[adt,List.map_cons,List.map_nil,ae (show 30<73 by decide),ae (show 34<73 by decide)];rw[<-x6];rfl
 ·rfl
 have RB:∀x,(x=B5\/x=bi)->Y x/\∀b d,ρ b≠some (x,d):=by
  intro x hx;have ho:Y x:=by grind
  refine⟨ho,λb d e=>?_⟩;by_cases hs:Sh b
  ·exact Hm.yz x ho (W.oV b x d e hs)
  ·have:=RH x ⟨b,d,e,hs⟩;omega
 refine xV hS hnb hA.f76 hA.b76 W.rel W.cz W.j (W.afO (λc hc=>(RH c hc).1) Hm) (Kp:=λx=>x=B5\/x=bi) RB
  (xs:= #[.slice pl lw ml,.func (.func 77) #[.agg #[.string a1,.string a2,.string a3,.slice p4 n4 m4,.slice p5 n5 m5,.map p6,.string ⟨#[]⟩,.int .i64 i]] #[]]) ?_ ?_ (hA.Jk i a1 a2 a3 _ _ _ _ v hi hinv) (λρ1 pv kO v3 w3 Td k1 k2 M k4 k5 k6 k7 k8 k9 Yt k11=>?_)
 ·refine AR.push (AR.push AR.empty LU) (x:=.func (.func 77) _ _) (y:=.func (.func 77) _ _) ?_;have h8:=(Uq.push (.string ⟨#[]⟩)).push (.int .i64 i);have h9:AR K.S ρ #[.agg #[.string a1,.string a2,.string a3,.slice p4 n4 m4,.slice p5 n5 m5,.map p6,.string ⟨#[]⟩,.int .i64 i]] #[.agg #[.string a1,.string a2,.string a3,.slice q4 n4 m4,.slice q5 n5 m5,.map q6,.string ⟨#[]⟩,.int .i64 i]]:=AR.single (.agg _ _ rfl h8.2);exact .func 77 hA.f77 _ _ _ _ rfl h9.2 rfl (λ_ _ _ h=>by simp at h)
 ·rintro x v t ⟨g1,g2⟩;refine⟨?_,?_⟩
  ·exact g1
  ·rw[OK];exact hA.Mg _ _ _ _ g2
 rw[j0 (o:=vT[5]) (d:=35) rfl rfl];obtain⟨hints,aaU⟩:=k8;have ZB:Td B5:=k2 B5 Q4;have Zz:Td bi:=k2 bi Tz;have NJ:eo Td Sd w3.heap.size:=⟨M.vc,M.GG,M.yz⟩
 have Sa:=aik.agree Yt (.inr GL);have Om:=KO.agree Yt (.inr u_);have aij:=abS.agree Yt (.inl (.inl rfl));have ahH:=abt.agree Yt (.inl (.inr rfl));have Hw:Lone P K Sd w3 ρ1 Sh v3:=⟨k4,W.cz.mono k1,k9,M.oV⟩
 have hs1:=rQ.size;have hs2:=U.size;have vh:∀x,Im ρ1 Sh x->Td x/\x≠B0/\x≠B5/\x≠bo/\x≠c/\x≠bi:=by
  rintro x ⟨b,d,e1,e2⟩;have ho:=M.own b x d e1 e2;refine⟨ho,λe=>M.yz x ho (e▸GL),λe=>k11 B5 (.inl rfl) b d (e▸e1),λe=>M.yz x ho (e▸u_),λe=>?_,λe=>k11 bi (.inr rfl) b d (e▸e1)⟩
  grind
 refine WT.new (o:=vT[6]) rfl (by rfl) hk rfl NJ (λw'=>(acN (o:=vT[6]) rfl).1) (λw'=>(acN (o:=vT[6]) rfl).2) (λw4 bp YZ W6 R4 gB arR Z=>?_);have Vq:YZ bp:=(R4 bp).2 (.inr rfl);have Vs:YZ bi:=(R4 bi).2 (.inl Zz);have Vu:YZ B5:=(R4 B5).2 (.inl ZB);have Xg:=Sa.agree Z (.inr GL);have RS:=Om.agree Z (.inr u_);have R_:=aij.agree Z (.inl ZB);have abr:=ahH.agree Z (.inl Zz);have Hv:Lone P K Sd w4 ρ1 Sh v3:=Hw.agree Z (λc hc=>(vh c hc).1);have RG:∀x,Im ρ1 Sh x->YZ x/\x≠B0/\x≠B5/\x≠bo/\x≠c/\x≠bi/\x≠bp:=λx hx=>by
  obtain⟨g1,g2,g3,g4,g5,g6⟩:=vh x hx;exact⟨(R4 x).2 (.inl g1),g2,g3,g4,g5,g6,λe=>by have:=NJ.ow x g1;omega⟩
 have Wa:∃p k m,kO=.slice p k m:=by
  rcases hints with ⟨rfl,_⟩|⟨b,o,m,xs,rfl,_⟩
  ·obtain⟨p,h⟩:=k7.lT;simp_all
  ·obtain⟨p,h⟩:=k7.lT;simp_all
 refine WT.store (o:=vT[7]) (ys:= #[kO]) rfl (by rfl) hk rfl Vq W6 (λw' E=>?_) (λw' E=>?_) (λO ahy N=>?_) (arR.yz bp Vq)
 ·obtain⟨p,kk,mm,rfl⟩:=Wa;exact(Zh (o:=vT[7]) rfl (by rw[ae (by decide)];rfl) (by rw[ae (by decide)];rfl) E).1
 ·obtain⟨p,kk,mm,rfl⟩:=Wa;exact(Zh (o:=vT[7]) rfl (by rw[ae (by decide)];rfl) (by rw[ae (by decide)];rfl) E).2
 have n5p:B5≠bp:=R_.ne W6 (by decide);have nip:bi≠bp:=abr.ne W6 (by decide);have Xf:Holds O B0 #[.string s1,.string s2,.string s3,av,.slice pt n mt] 25:=by unfold Holds;rw[N.oV B0 GL];exact Xg
 have RR:Holds O bo #[.chan (some c)] 131:=by unfold Holds;rw[N.oV bo u_];exact RS
 have Xe:Holds O B5 #[.string a1,.string a2,.string a3,.slice q4 n4 m4,.slice q5 n5 m5,.map q6] 99:=by unfold Holds;rw[N.own B5 ⟨Vu,n5p⟩];exact R_
 have ahG:Holds O bi #[.int .i64 i] 3:=by unfold Holds;rw[N.own bi ⟨Vs,nip⟩];exact abr
 have Hu:Lone P K Sd O ρ1 Sh v3:=Hv.agree N (λc hc=>⟨(RG c hc).1,(RG c hc).2.2.2.2.2.2⟩);have Hl:eo YZ Sd O.heap.size:=arR.mono N.size;refine .bu (.region ?_);generalize H:up (up (up (up (up (up (up L _ _) _ _) _ _) _ _) _ _) _ _) _ _=I;have y1:I 1=.pointer (some ⟨B0,0,none⟩):=by rw[<-H];exact x1
 have y5:I 5=.pointer (some ⟨B5,0,none⟩):=by rw[<-H];exact x5
 have y6:I 6=T 6:=by rw[<-H];exact x6
 have y4:I 4=.int .i64 0:=by rw[<-H];exact x4
 have y7:I 7=.pointer (some ⟨bo,0,none⟩):=by rw[<-H];exact x7
 have y8:I 8=.pointer (some ⟨bi,0,none⟩):=by rw[<-H];exact x8
 have y9:I 9=.pointer (some ⟨bp,0,none⟩):=by rw[<-H];rfl
 have y26:I 26=.int .i64 n:=by rw[<-H];exact x26
 have y27:I 27=.int .i64 i:=by rw[<-H];exact x27
 clear H;refine WT.pure (o:=PG[0]) rfl (by rfl) hk rfl (λw'=>(zP (o:=PG[0]) (x7:=.pointer (some ⟨bo,0,none⟩)) (x8:=.pointer (some ⟨bi,0,none⟩)) (x1:=.pointer (some ⟨B0,0,none⟩)) (x9:=.pointer (some ⟨bp,0,none⟩)) rfl (by grind [ae]) (by grind [ae]) (by grind [ae]) (by grind [ae])).1)
  (λw'=>(zP (o:=PG[0]) (x7:=.pointer (some ⟨bo,0,none⟩)) (x8:=.pointer (some ⟨bi,0,none⟩)) (x1:=.pointer (some ⟨B0,0,none⟩)) (x9:=.pointer (some ⟨bp,0,none⟩)) rfl (by grind [ae]) (by grind [ae]) (by grind [ae]) (by grind [ae])).2) ?_
 refine .stop rfl λw' ha=>?_
 refine⟨_,bi,bp,ρ1,v3,pv,kO,a1,a2,a3,p4,n4,m4,p5,n5,m5,p6,pl,ml,q4,q5,q6,rfl,y26,y27,y4,rfl,y1,y5,y7,Xf.agree ha (.inr GL),RR.agree ha (.inr u_),ahG.agree ha (.inl Vs),ahy.agree ha (.inl Vq),
  Vu,Vs,Vq,k7,hints,Xe.agree ha (.inl Vu),AR.mono k1 Uq,?_,aaU,Hu.agree ha (λc hc=>(RG c hc).1),RG,Hl.mono ha.size⟩
 show aI K.S ρ1 _ (I 6);rw[y6];exact LU.mono k1
end
def afn:=@Bool.or_eq_true_iff
theorem kJ.free{O O':Nat->Own}{Rd:Nat->aG}{hs:Nat}{t:Trace}(h:kJ O Rd (λ_=>False) hs t)(E:∀b,b<hs->O' b=O b\/O' b=.of 0\/O' b=.kept\/O' b=.shared):kJ O' Rd (λ_=>False) hs t:=by
 have all:∀i a,touchAt t i=some a->Knows t 0 i:=by
  intro i a ha;obtain⟨z,hz,p⟩:=touch_of ha;exact h.handed i z hz (by simp_all) id
 refine⟨h.wordless,h.race,h.lt,λi a b g ha hb ho=>?_,λi a b ha hb ho=>all i a ha,λi a b ha hb ho hw g hg _=>?_,h.main,h.handed⟩
 ·rcases E b (h.lt i a b ha hb) with e|e|e|e
  ·exact h.own i a b g ha hb (e▸ho)
  ·simp_all
  ·simp_all
  simp_all
 ·rcases hg with rfl|hg
  ·grind
  ·exact hg.elim
theorem Co.free{Q:Program}{ch E:Option (Nat×Nat)}{pr H:Nat->Value}{O O':Nat->Own}{Rd:Nat->aG}{w:World}{gs:Array Goroutine}{t:Trace}{rs:List Rk}(h:Co Q ch pr O Rd (λ_=>False) w gs t rs)
  (J:∀b,b<w.heap.size->O' b=O b\/O' b=.of 0\/O' b=.kept\/O' b=.shared) (L:∀b,O' b≠.kept->b<w.heap.size) (I:∀c k,E=some (c,k)->w.heap[c]?=some (.chan 0 #[] false k k false)/\O' c=.kept):Co Q E H O' Rd (λ_=>False) w gs t rs:=by
 refine⟨h.size,h.tr.free J,λi r g hr hg=>?_,L,I,h.mH⟩;have hm:=h.iH i r g hr hg;cases hm with
 |anT p s hp=>exact hp.elim
 |sends g z c k n hp=>exact hp.elim
 |leaves n g hp hq=>exact .leaves n g hp hq
def fY(O:Nat->Own)(S:Nat->Bool):Nat->Own:=λb=>if S b then .shared else O b
theorem l_{O:Nat->Own}{S:Nat->Bool}{b:Nat}(h:S b=true):fY O S b=.shared:=aay h
theorem gO{O:Nat->Own}{S:Nat->Bool}{b:Nat}(h:S b=false):fY O S b=O b:=by unfold fY;grind
theorem fU{O:Nat->Own}{S:Nat->Bool}{b:Nat}(h:O b=.shared):fY O S b=.shared:=by
 grind [gO,l_]
theorem Co.OJ{Q:Program}{ch:Option (Nat×Nat)}{pr:Nat->Value}{O:Nat->Own}{Rd:Nat->aG}{pend:Nat->Prop}{w:World}{gs:Array Goroutine}{t:Trace}{rs:List Rk}(h:Co Q ch pr O Rd pend w gs t rs)(S:Nat->Bool)
  (p:∀b,S b=true->O b=.of 0) (E:∀g b,pend g->Rd g b->O b=.shared):Co Q ch pr (fY O S) Rd pend w gs t rs:=by
 refine h.GO (h.tr.Oy λb _=>?_) (λb i hi e=>?_) (λb e=>fU e) (λb hb=>?_) (λc k hc=>?_)
 ·cases hs:S b
  ·grind [gO]
  ·refine .inr (.inr ⟨p b hs,l_ hs,λg hg hr=>?_⟩);rcases hg with hg|hg
   ·exact hg
   grind
 ·grind [gO]
 ·cases hs:S b
  ·rw[gO hs] at hb;exact h.lt b hb
  ·exact h.lt b (by simp_all)
 ·obtain⟨_,h2⟩:=h.chan c k hc
  grind [gO]
theorem Co.there{Q:Program}{ch:Option (Nat×Nat)}{pr:Nat->Value}{O:Nat->Own}{Rd:Nat->aG}{pend:Nat->Prop}{w:World}{gs:Array Goroutine}{t:Trace}{rs:List Rk}(h:Co Q ch pr O Rd pend w gs t rs):eo (λb=>O b=.of 0) (λb=>O b=.shared) w.heap.size:=
 ⟨λb e=>h.lt b (by grind),λb e=>h.lt b (by grind),λb e e'=>by simp_all⟩
theorem AW.OJ{O p:Nat->Own}{w w2:World}(h:AW O p w w2)(S:Nat->Bool)(H:∀b,b<w.heap.size->O b=.kept\/O b=.shared)(E:∀b,S b=true->p b=.of 0):AW O (fY p S) w w2:=by
 refine⟨λb hb=>?_,h.heap,h.size,h.os,h.out,h.tape⟩;cases hs:S b
 ·rw[gO hs];exact h.own b hb
 ·exfalso;have e:=h.own b hb
  grind
def vb(n1:Nat)(r:Nat->Int):Nat->Value:=λg=>.agg #[.int .i64 ((g-n1:Nat):Int),.int .i64 (r (g-n1))]
section
variable{P:Program}[Twin P Tryz.prog]{K:fO}{V:D1}{D:Nat->Bool}{F:World->Prop}{s1 s2 s3:ByteArray}{av av':Value}{pt pt':Option Addr}{n mt lw:Nat}{ps:Nat->List Int}{r:Nat->Int}{Inv:Array Value->Value->World->Prop}
structure Head(P:Program)(K:fO)(D:Nat->Bool)(F:World->Prop)(s1 s2 s3:ByteArray)(av:Value)(pt:Option Addr)(n mt lw:Nat)(r:Nat->Int)(Inv:Array Value->Value->World->Prop)(cs:List Frame)(n1 B0 B5 bo c:Nat)(O1:Nat->Own)(W1:World)(i:Nat)
  (O:Nat->Own) (Rd:Nat->aG) (w:World) (gs:Array Goroutine) (t:Trace) (rs:List Rk) (T:Nat->Value) (ρ:Ren) (Sh:Nat->Prop) (v:World):Prop where
 co:Co Tryz.prog (some (c,0)) (vb n1 r) O Rd (λg=>n1<=g/\g<n1+i) w gs t rs
 size:gs.size=n1+i
 h0:gs[0]?=some (G ((base 41).at (aF 73 T) rJ) cs)
 t26:T 26=.int .i64 n
 t27:T 27=.int .i64 i
 t4:T 4=.int .i64 0
 fork:Fork P K (λb=>O b=.shared) s1 s2 s3 av (.slice pt n mt) lw Inv T w (λb=>O b=.of 0) B0 B5 bo c ρ Sh v
 GL:O B0=.shared
 u_:O bo=.shared
 rd:∀g b,(n1<=g/\g<n1+i)->Rd g b->O b=.shared
 sD:∀b,D b=true->O b=.shared
 f:F w
 gl:P.globals.size<=w.heap.size
 mo:AW O1 O W1 w
theorem Fork.agree{Sd Ow:aG}{T:Nat->Value}{w w':World}{B0 B5 bo c:Nat}{ρ:Ren}{Sh:Nat->Prop}{v:World}{tv:Value}(h:Fork P K Sd s1 s2 s3 av tv lw Inv T w Ow B0 B5 bo c ρ Sh v)(ha:aU Ow Sd w w')(h0:Sd B0)(ho:Sd bo):
  Fork P K Sd s1 s2 s3 av tv lw Inv T w' Ow B0 B5 bo c ρ Sh v:=by
 obtain⟨t1,t5,t7,H,mr,p,⟨a1,a2,a3,p4,n4,m4,p5,n5,m5,p6,pl,ml,q4,q5,q6,M,J,L,hinv⟩,I,E,N⟩:=h;exact⟨t1,t5,t7,H.agree ha (.inr h0),mr.agree ha (.inr ho),p,⟨a1,a2,a3,p4,n4,m4,p5,n5,m5,p6,pl,ml,q4,q5,q6,M.agree ha (.inl p),J,L,hinv⟩,I.agree ha (λx hx=>(E x hx).1),E,N.mono ha.size⟩
theorem Fork.wide{Sd Ow E p:aG}{T:Nat->Value}{w:World}{B0 B5 bo c:Nat}{ρ:Ren}{Sh:Nat->Prop}{v:World}{tv:Value}(h:Fork P K Sd s1 s2 s3 av tv lw Inv T w Ow B0 B5 bo c ρ Sh v)(ho:∀b,Ow b->p b)(hs:∀b,Sd b->E b)(N:eo p E w.heap.size):
  Fork P K E s1 s2 s3 av tv lw Inv T w p B0 B5 bo c ρ Sh v:=by
 obtain⟨t1,t5,t7,J,mr,I,M,L,H,_⟩:=h;exact⟨t1,t5,t7,J,mr,ho _ I,M,L.sub hs,λx hx=>⟨ho _ (H x hx).1,(H x hx).2⟩,N⟩
theorem Fork.slot{Sd Ow:aG}{T p:Nat->Value}{w:World}{B0 B5 bo c:Nat}{ρ:Ren}{Sh:Nat->Prop}{v:World}{tv:Value}(h:Fork P K Sd s1 s2 s3 av tv lw Inv T w Ow B0 B5 bo c ρ Sh v)(h1:p 1=T 1)(M:p 5=T 5)(O:p 6=T 6)(L:p 7=T 7):
  Fork P K Sd s1 s2 s3 av tv lw Inv p w Ow B0 B5 bo c ρ Sh v:=by
 obtain⟨t1,t5,t7,I,mr,E,U,J,H,N⟩:=h;exact⟨h1.trans t1,M.trans t5,L.trans t7,I,mr,E,by simp_all,J,H,N⟩
theorem Px{m:Bool}{Sd Ow:aG}{Stop:GS->Prop}{T:Nat->Value}{w:World}{cs:List Frame}{i:Nat}(hi:i<1000)(p:T 27=.int .i64 i)
  (kk:WT Tryz.prog m Sd Stop ⟨G ((base 41).at (aF 73 (up (up T 37 (.int .i64 ((i+1:Nat):Int))) 27 (.int .i64 ((i+1:Nat):Int)))) rJ) cs,w,Ow⟩):
  WT Tryz.prog m Sd Stop ⟨G ((base 41).at (aF 73 T) (.inRegion PG []::.inBlock 1::.code (.region 10 zm false)::.inLoop lE::.inBlock 0::.code uR:: [])) cs,w,Ow⟩:=by
 have hk:(base 41).kind≠.early:=by simp[base]
 refine .bu (.inBlock (.region ?_));refine WT.pure (o:=zm[0]) (v:=.int .i64 ((i+1:Nat):Int)) rfl (by rfl) hk rfl (λw'=>?_) (λw'=>?_) ?_
 ·have hw:IntKind.i64.wrap ((i:Int)+1)=((i+1:Nat):Int):=by grind [IntKind.wrap_i64]
  rw[(zR (o:=zm[0]) (x:=i) (y:=1) rfl (by grind [ae]) rfl).1,hw]
 ·exact(zR (o:=zm[0]) (x:=i) (y:=1) rfl (by grind [ae]) rfl).2
 exact WT.Eb (o:=zm[1]) rfl rfl hk rfl rfl (by decide) (.bu (.inLoop kk))
def behind(pv:Value):Nat->Bool:=λb=>match pv with| .slice (some a) _ _=>b==a.block|_=>false
def eK(pv:Value)(bi bp:Nat):Nat->Bool:=λb=>b==bi||b==bp||behind pv b
theorem Ints.same{w w':World}{pv:Value}{l:List Int}(h:Ints w pv l)(hs:∀b,behind pv b=true->w'.heap[b]?=w.heap[b]?):Ints w' pv l:=by
 rcases h with h|⟨b,o,m,xs,rfl,h⟩
 ·exact .inl h
 ·exact .inr ⟨b,o,m,xs,rfl,by grind [behind],h.2⟩
theorem Fa{Sd:aG}{w v:World}{ρ:Ren}{Sh:Nat->Prop}(hl:Lone P K Sd w ρ Sh v){pv p:Value}{l:List Int}(N:aI K.S ρ pv p)(hints:Ints v pv l):
  ∃M,Lone P K (λx=>Sd x\/behind p x=true) w ρ M (pL pv v)/\(∀x,Im ρ M x->Im ρ Sh x/\behind p x=false)/\(∀x,behind p x=true->Im ρ Sh x)/\Ints w p l/\
   (∀x,behind p x=true->∃xs e fr,w.heap[x]?=some (.cells xs e fr)/\∀(i:Nat) (y:Value),xs[i]?=some y->∃z,y=.int .i64 z)/\(p=.slice none 0 0\/∃b o k m,p=.slice (some ⟨b,o,none⟩) k m):=by
 rcases hints with ⟨rfl,rfl⟩|⟨b,o,m,xs,rfl,hx,U,hints,hl2,I⟩
 ·cases N;exact⟨Sh,hl.sub (λc hc=>.inl hc),λx hx=>⟨hx,rfl⟩,λx hx=>(by cases hx),.inl ⟨rfl,rfl⟩,λx hx=>(by cases hx),.inl rfl⟩
 ·cases N with
  |slice _ c d off _ _ _ hb=>
  have hs:¬Sh b:=λhs=>by
   obtain⟨W,e,hi,ys,e',fr,h1,h2,_⟩:=hl.rel.sh b c d hb hs
   simp_all
  obtain⟨h1,rfl,ys,h2,E⟩:=hl.OJ hb hs hx;have H:∀x,behind (.slice (some ⟨c,o+0,none⟩) l.length m) x=true↔x=c:=λx=>by simp[behind]
  refine⟨_,h1.sub (λx hx=>hx.imp id (λe=>(H x).2 e)),λx hx=>?_,λx hx=>?_,?_,λx hx=>?_,.inr ⟨_,_,_,_,rfl⟩⟩
  ·obtain⟨b',d',L,J⟩:=hx;refine⟨⟨b',d',L,λhs'=>J (.inl hs')⟩,?_⟩;cases O:behind (.slice (some ⟨c,o+0,none⟩) l.length m) x
   ·rfl
   ·have:=(H x).1 O;subst this;exact absurd (.inr ((hl.rel.inj _ _ _ _ _ L hb).elim id λh=>absurd h.2 hs)) J
  ·have:=(H x).1 hx;subst this;exact⟨b,0,hb,hs⟩
  ·refine .inr ⟨c,o,m,ys,rfl,h2,by rw[<-E.1];exact U,λi y hy=>?_,λi z hz=>?_,I⟩
   ·have hi:i<xs.size:=by rw[E.1];grind
    obtain⟨z,hz⟩:=hints i _ (aa_ hi);have:=E.2 i _ y (aa_ hi) hy;rw[hz] at this;exact⟨z,this.rC⟩
   ·obtain⟨y,hy,hr⟩:=E.get (hl2 i z hz);cases hr.rC;exact hy
  ·have:=(H x).1 hx;subst this;refine⟨ys,3,(0,0),h2,λi y hy=>?_⟩;have hi:i<xs.size:=by rw[E.1];grind
   obtain⟨z,hz⟩:=hints i _ (aa_ hi);have:=E.2 i _ y (aa_ hi) hy;rw[hz] at this;exact⟨z,this.rC⟩
theorem Ls(hS:Setup P Tryz.prog K K)(hnb:∀f,K.j4 f=false)(I:yq P K V D F s1 s2 s3 av av' pt pt' n mt lw ps r Inv){cs:List Frame}{n1 B0 B5 bo c:Nat}(Ru:1<=n1){O1:Nat->Own}{W1:World}(OD:F W1)(R6:∀b,b<W1.heap.size->O1 b=.kept\/O1 b=.shared){Qp:Machine->Outcome->World->Trace->Prop}
  (H:∀O Rd w gs t rs sl T ρ Sh v,Head P K D F s1 s2 s3 av pt n mt lw r Inv cs n1 B0 B5 bo c O1 W1 n O Rd w gs t rs T ρ Sh v->AE Tryz.prog Qp (crowd gs w sl) t):
  ∀k i,i+k=n->∀O Rd w gs t rs sl T ρ Sh v,Head P K D F s1 s2 s3 av pt n mt lw r Inv cs n1 B0 B5 bo c O1 W1 i O Rd w gs t rs T ρ Sh v->AE Tryz.prog Qp (crowd gs w sl) t:=by
 intro k
 induction k with
 |zero=>grind
 |succ k ih=>
  intro i hik O Rd w gs t rs sl T ρ Sh v h;have hi:i<n:=by omega
  obtain⟨P_,hcO⟩:=h.co.chan c 0 rfl;have nj:=Ln hS hnb I (cs:=cs) hi h.t26 h.t27 h.t4 h.GL h.u_ (by simp_all) (aah.1 P_).1 h.fork;refine h.co.phase nj h.h0 (aU.refl _ _ _) (λb hb=>hb) (λb hb=>hb) (λs' O2 Cr t2 BB zF nk kT Cq hrun Z C3 pd ov hup vG=>?_) sl;refine kT.Dq Cq hrun (λE w3 Sc t3 rs3 QD d Yh W4 YO has ZP=>?_) zF;have F8:aU s'.ow (λb=>O b=.shared) s'.w (w3.at d):=(has.trans (Aside.at E w3 d)).agree kT.lt C3 pd;obtain⟨L,bi,bp,J,v',pv,p,a1,a2,a3,p4,n4,m4,p5,n5,m5,p6,pl,ml,q4,q5,q6,eg,y26,y27,y4,y36,y1,y5,y7,jy,mr,Qa,W6,zT,Tz,Vq,Wa,hints,F_,Uq,LU,hinv,iK,xw,B_⟩:=nk (w3.at d) F8;simp only at eg jy mr Qa W6 zT Tz Vq F_ iK xw B_;have W3:=W4.at d;have ho3:∀b,s'.ow b->E b=.of 0:=λb hb=>by rw[has.own b (kT.lt b (by simp_all))];grind
  have NR:∀b,O b=.shared->E b=.shared:=λb hb=>by rw[has.own b (kT.lt b (by simp_all))];grind
  have abF:∀g b,(n1<=g/\g<n1+i)->Rd g b->E b=.shared:=λg b hg hr=>NR b (h.rd g b hg hr)
  have Oa:AW O1 E W1 (w3.at d):=h.mo.trans (Z.trans (has.trans (Aside.at E w3 d)).fwd);have N:F (w3.at d):=I.sW w _ (Z.trans (has.trans (Aside.at E w3 d)).fwd).size (λb hb=>by
   have hs:=h.sD b hb;have fM:=h.co.lt b (by grind);rw[(Z.trans (has.trans (Aside.at E w3 d)).fwd).heap b (.inr hs) fM]) h.f
  obtain⟨X5,Ww,ag7,abu,WE,WZ,Oc⟩:=Fa iK Wa hints;have M:∀b,eK p bi bp b=true->E b=.of 0:=λb hb=>by
   grind [eK]
  have xy:=W3.OJ (eK p bi bp) M abF;have Hl:=xy.there;have sbi:fY E (eK p bi bp) bi=.shared:=l_ (by simp[eK]);have sbp:fY E (eK p bi bp) bp=.shared:=l_ (by simp[eK]);have GL:fY E (eK p bi bp) B0=.shared:=fU (NR B0 h.GL);have u_:fY E (eK p bi bp) bo=.shared:=fU (NR bo h.u_);have sD:∀b,D b=true->fY E (eK p bi bp) b=.shared:=λb hb=>fU (NR b (h.sD b hb))
  have yW:P.globals.size<=(w3.at d).heap.size:=aaY h.gl (Z.trans (has.trans (Aside.at E w3 d)).fwd).size;have hle:(B6 V D).le (B6 V λb=>D b||behind p b):=λb c e=>by
   grind [B6]
  have qp:=I.zG _ N;have U:∀b,behind p b=true->V b=none:=λb hb=>by
   have h1:E b=.of 0:=M b (by simp[eK,hb]);cases hv:V b with
   |none=>rfl
   |some x=>
    have h2:=(I.zG _ OD).win b _ _ _ hv;have h3:=Oa.own b h2.1;rcases R6 b h2.1 with e|e <;>(rw[h3,e] at h1;cases h1)
  have W:mh K.S V (λb=>D b||behind p b) (w3.at d):=by
   refine⟨λb hb hv=>?_,λb c o n hv=>?_,λb hb=>?_⟩
   ·rcases afn.1 hb with hb|hb
    ·obtain⟨xs,e,fr,k1,k2⟩:=qp.all b hb hv;exact⟨xs,e,fr,k1,λi x hx=>(k2 i x hx).mono hle⟩
    ·obtain⟨xs,e,fr,k1,k2⟩:=WZ b hb;exact⟨xs,e,fr,k1,λi x hx=>by obtain⟨z,rfl⟩:=k2 i x hx;exact .int _ _⟩
   ·obtain⟨k0,xs,e,fr,k1,k2⟩:=qp.win b c o n hv;exact⟨k0,xs,e,fr,k1,λi x hx=>(k2 i x hx).mono hle⟩
   ·rcases afn.1 hb with hb|hb
    ·exact qp.lt b hb
    ·obtain⟨xs,e,fr,k1,_⟩:=WZ b hb;exact(aah.1 k1).1
  have Y:Vw P V (λb=>D b||behind p b):=λb c o n e=>by
   obtain⟨h1,h2⟩:=I.vw b c o n e;exact⟨by simp[h1],h2⟩
  have V8:∀b,(D b||behind p b)=true->fY E (eK p bi bp) b=.shared:=λb hb=>by
   rcases afn.1 hb with hb|hb
   ·exact sD b hb
   grind [l_,eK]
  have agw:aI K.S (B6 V λb=>D b||behind p b) p p:=by
   rcases Oc with rfl|⟨b,o,k,m,rfl⟩
   ·exact .cE 0 0
   ·exact .slice b b 0 o none k m (mL (by simp[behind]) (U b (by simp[behind])))
  have hwt:=λdf hd hda=>Dd hS hnb I.f103 I.acG (D:=λb=>D b||behind p b) (w:=w3.at d) (bo:=bo) (bi:=bi) (bh:=B0) (bp:=bp) (c:=c) (i:=i) (r:=r i) (s1:=s1) (s2:=s2) (s3:=s3) (av:=av) (tv:=.slice pt n mt) (av':=av') (tv':=.slice pt' n mt) (pv:=p)
   (Sd:=λb=>fY E (eK p bi bp) b=.shared) u_ sbi GL sbp V8 (λg hg=>⟨by rw[(I.gl g hg).1];rfl,(I.gl g hg).2⟩) Y yW W Hl.sd
   (AR.push (AR.push (AR.push AR.empty (I.hv.mono hle)) agw) (.int .i64 i))
   (λw1 ha t=>I.TC i _ w1 p hi (λb hb=>by grind) (I.sW _ w1 ha.size (λb hb=>ha.oV b (sD b hb)) N) (W.same Y ha.size λb hb=>ha.oV b (V8 b hb)) (WE.same λb hb=>ha.oV b (V8 b (by grind))) (λb o k m e=>⟨by grind [behind],U b (by grind [behind])⟩) t)
   ⟨mr,Qa,jy,W6⟩ df hd hda
  have af4:=hwt { target:=.fn (.func 102) #[.pointer (some ⟨bo,0,none⟩),.pointer (some ⟨bi,0,none⟩),.pointer (some ⟨B0,0,none⟩),.pointer (some ⟨bp,0,none⟩)],args:= #[] } rfl rfl;have hk:(base 41).kind≠.early:=by simp[base]
  have hop:=afp (o:=PG[1]) (w:=w3.at d) rfl (show(aF 73 L).eval (.tmp 36)=_ by rw[ae (by decide)];exact y36);have bH:stepG Tryz.prog true s'.g (w3.at d)=.spawn (G ((base 41).at (aF 73 L) (.inRegion PG []::.inBlock 1::.code (.region 10 zm false)::.inLoop lE::.inBlock 0::.code uR:: [])) cs)
    (born Tryz.prog { target:=.fn (.func 102) #[.pointer (some ⟨bo,0,none⟩),.pointer (some ⟨bi,0,none⟩),.pointer (some ⟨B0,0,none⟩),.pointer (some ⟨bp,0,none⟩)],args:= #[] }) (w3.at d) #[]:=by
   rw[eg];unfold acH;rw[stepG_spawn (o:=PG[1]) rfl (by rfl) hk hop.1 rfl];unfold listed;rw[hop.2];rfl
  have Ho:Sc.size=n1+i:=by rw[ZP,vG];exact h.size
  obtain⟨u,pf,ahr⟩:=xy.spawn rfl YO hrun bH ⟨λb=>fY E (eK p bi bp) b=.shared,c,.agg #[.int .i64 i,.int .i64 (r i)]⟩ ⟨_,w3.at d,λ_=>False⟩ (by grind [vb]) rfl af4 rfl (aU.refl _ _ _) (λ_ h=>h) (λ_ h=>h) QD;refine .goes _ _ pf ?_;have aa5:Fork P K (λb=>fY E (eK p bi bp) b=.shared) s1 s2 s3 av (.slice pt n mt) lw Inv L (w3.at d) (λb=>fY E (eK p bi bp) b=.of 0) B0 B5 bo c J X5 (pL pv v'):=by
   have EO:∀x,Im J X5 x->fY E (eK p bi bp) x=.of 0/\x≠B0/\x≠B5/\x≠bo/\x≠c:=λx hx=>by
    grind [gO,eK]
   refine⟨y1,y5,y7,jy,mr,?_,⟨a1,a2,a3,p4,n4,m4,p5,n5,m5,p6,pl,ml,q4,q5,q6,F_,Uq,LU,hinv⟩,Ww.sub (λb hb=>?_),EO,Hl⟩
   ·rw[gO]
    ·grind
    ·have n1:B5≠bi:=F_.ne Qa (by decide);have n2:B5≠bp:=F_.ne W6 (by decide)
     grind [eK]
   grind [fU]
  have oe:=Oa.OJ (eK p bi bp) R6 M;have h06:((Sc.setIfInBounds 0 (G ((base 41).at (aF 73 L) (.inRegion PG []::.inBlock 1::.code (.region 10 zm false)::.inLoop lE::.inBlock 0::.code uR:: [])) cs)).push (born Tryz.prog { target:=.fn (.func 102) #[.pointer (some ⟨bo,0,none⟩),.pointer (some ⟨bi,0,none⟩),.pointer (some ⟨B0,0,none⟩),.pointer (some ⟨bp,0,none⟩)],args:= #[] }))[0]?=
    some (G ((base 41).at (aF 73 L) (.inRegion PG []::.inBlock 1::.code (.region 10 zm false)::.inLoop lE::.inBlock 0::.code uR:: [])) cs):=by
   grind
  have xl:=Px (m:=true) (Sd:=λb=>fY E (eK p bi bp) b=.shared) (Ow:=λb=>fY E (eK p bi bp) b=.of 0) (T:=L) (w:=w3.at d) (cs:=cs) (by have:=I.small;omega) y27
   (Stop:=λs=>s.g=G ((base 41).at (aF 73 (up (up L 37 (.int .i64 ((i+1:Nat):Int))) 27 (.int .i64 ((i+1:Nat):Int)))) rJ) cs/\
    Fork P K (λb=>fY E (eK p bi bp) b=.shared) s1 s2 s3 av (.slice pt n mt) lw Inv (up (up L 37 (.int .i64 ((i+1:Nat):Int))) 27 (.int .i64 ((i+1:Nat):Int))) s.w s.ow B0 B5 bo c J X5 (pL pv v'))
   (.stop rfl λw' ha=>⟨rfl,(aa5.agree ha GL u_).slot rfl rfl rfl rfl⟩)
  refine ahr.phase xl h06 (aU.refl _ _ _) (λb hb=>hb) (λb hb=>hb) (λs7 O7 gs7 t7 rs7 sl7 V4 abf h07 akt WK ho7 KC ahM anF hz7=>?_) _;obtain⟨eg7,WN⟩:=V4 s7.w (aU.refl _ _ _);simp only at eg7;have agO:∀b,fY E (eK p bi bp) b=.shared->b<(w3.at d).heap.size:=λb hb=>xy.lt b (by grind)
  refine ih (i+1) (by omega) O7 (λg=>if g=Sc.size then(λb=>fY E (eK p bi bp) b=.shared) else Rd g) s7.w gs7 t7 rs7 sl7 (up (up L 37 (.int .i64 ((i+1:Nat):Int))) 27 (.int .i64 ((i+1:Nat):Int))) J X5 (pL pv v') ⟨?_,?_,?_,y26,rfl,y4,WN.wide ho7 KC abf.there,KC B0 GL,KC bo u_,?_,λb hb=>KC b (sD b hb),?_,aaY yW WK.size,oe.trans WK⟩
  ·grind
  ·grind
  ·grind
  ·intro g b hg hr;by_cases hgg:g=Sc.size
   ·simp_all
   ·simp only[aat hgg] at hr
    grind [fU]
  ·exact I.sW _ _ WK.size (λb hb=>WK.heap b (.inr (sD b hb)) (agO b (sD b hb))) N
end
theorem Vp{o:Oper}{ev:Operand->Value}{w:World}{c:Nat}(hop:o.op=.recv 131 (.tmp 47) false)(h:ev (.tmp 47)=.chan (some c)):
  (execOp ev o).run Tryz.prog w=.ok (.comm #[rcase c (.agg #[.int .i64 0,.int .i64 0])] true (.recv false)) w/\(execOp ev o).events Tryz.prog w #[]= #[]:=by
 have hz:Tryz.t134.zero=some (.agg #[.int .i64 0,.int .i64 0]):=rfl
 simp_all [execOp,rcase]
theorem Rf(n j:Nat)(h:j<n):(madeCells #[.int .i64 0] n)[j]?=some (.int .i64 0):=by
 unfold madeCells
 grind
def om:List Item:= [.code sA,.inLoop sA,.inBlock 2,.code FO]
def tK:List Item:= [.inRegion qI [1,2,3],.code (.region 15 kV false),.inBlock 3,.code (.region 16 Ix false),.inLoop sA,.inBlock 2,.code FO]
def vM:List Item:= [.inRegion qI [2,3],.code (.region 15 kV false),.inBlock 3,.code (.region 16 Ix false),.inLoop sA,.inBlock 2,.code FO]
section
variable{m:Bool}{Sd Ow:aG}{Stop:GS->Prop}{T:Nat->Value}{w:World}{cs:List Frame}{n B0 bo c:Nat}{s1 s2 s3:ByteArray}{av:Value}{pt:Option Addr}{mt:Nat}
theorem SQ(hn:n<1000)(O:T 26=.int .i64 n)(U:T 27=.int .i64 n)(h1:T 1=.pointer (some ⟨B0,0,none⟩))(L:Sd B0)(N:Holds w B0 #[.string s1,.string s2,.string s3,av,.slice pt n mt] 25)(B_:eo Ow Sd w.heap.size)
  (kk:∀E w1 I bl,E 44=.int .i64 n->E 45=.int .i64 (0:Nat)->E 10=.slice (some ⟨bl,0,none⟩) n n->E 7=T 7->E 6=T 6->E 4=T 4->I bl->Holds w1 bl (madeCells #[.int .i64 0] n) 3->eo I Sd w1.heap.size->aU Ow Sd w w1->
   WT Tryz.prog m Sd Stop ⟨G ((base 41).at (aF 73 E) om) cs,w1,I⟩):
  WT Tryz.prog m Sd Stop ⟨G ((base 41).at (aF 73 T) rJ) cs,w,Ow⟩:=by
 have hk:(base 41).kind≠.early:=by simp[base]
 unfold rJ;refine .seq (.region ?_);refine WT.pure (o:=XS[0]) (v:=.bool false) rfl (by rfl) hk rfl (λw'=>?_) (λw'=>?_) ?_
 ·rw[(lk (o:=XS[0]) rfl (by rw[ae (by decide)];exact U) (by rw[ae (by decide)];exact O)).1];simp
 ·exact(lk (o:=XS[0]) rfl (by rw[ae (by decide)];exact U) (by rw[ae (by decide)];exact O)).2
 refine .bu (.seq (WT.cond (t:=false) (by rw[ae (by decide)];rfl) (.exit (k':= [.code uR]) rfl (.seq (.region ?_)))));have ld:∀w',Holds w' B0 #[.string s1,.string s2,.string s3,av,.slice pt n mt] 25->Holds w' B0 #[.string s1,.string s2,.string s3,av,.slice pt n mt] 25:=λ_ h=>h
 refine WT.pure (o:=sB[0]) rfl (by rfl) hk rfl (λw'=>(kj (o:=sB[0]) rfl (by rw[ae (by decide)];exact h1)).1) (λw'=>(kj (o:=sB[0]) rfl (by rw[ae (by decide)];exact h1)).2) ?_;refine WT.load (o:=sB[1]) rfl (by rfl) hk rfl (.inr L) N (λw' p=>(Kv (o:=sB[1]) rfl (by rw[ae (by decide)];rfl) p rfl).1) (λw' p=>(Kv (o:=sB[1]) rfl (by rw[ae (by decide)];rfl) p rfl).2) ?_;refine WT.pure (o:=sB[2]) rfl (by rfl) hk rfl (λw'=>(pE (o:=sB[2]) rfl (by rw[ae (by decide)];rfl) aei).1) (λw'=>(pE (o:=sB[2]) rfl (by rw[ae (by decide)];rfl) aei).2) ?_;refine WT.newObj (o:=sB[3]) (f:=λb=>.slice (some ⟨b,0,none⟩) n n) rfl (by rfl) hk rfl B_ (λw'=>(ur (o:=sB[3]) rfl (by rw[ae (by decide)];rfl) (by omega)).1) (λw'=>(ur (o:=sB[3]) rfl (by rw[ae (by decide)];rfl) (by omega)).2) (λw1 bl I fM rR KG W M=>?_);refine WT.zi (o:=sB[4]) rfl rfl hk rfl rfl (by decide) ?_;refine .bu (.seq (.seq (.region ?_)));generalize H:up (up (up (up (up (up T 28 _) _ _) _ _) _ _) _ _) _ _=J;have x1:J 1=.pointer (some ⟨B0,0,none⟩):=by rw[<-H];exact h1
 have x10:J 10=.slice (some ⟨bl,0,none⟩) n n:=by rw[<-H];rfl
 have x7:J 7=T 7:=by rw[<-H];rfl
 have Y:J 6=T 6:=by rw[<-H];rfl
 have Z:J 4=T 4:=by rw[<-H];rfl
 clear H;have Xh:=N.agree M (.inr L);refine WT.pure (o:=yj[0]) rfl (by rfl) hk rfl (λw'=>(kj (o:=yj[0]) rfl (by rw[ae (by decide)];exact x1)).1) (λw'=>(kj (o:=yj[0]) rfl (by rw[ae (by decide)];exact x1)).2) ?_;refine WT.load (o:=yj[1]) rfl (by rfl) hk rfl (.inr L) Xh (λw' p=>(Kv (o:=yj[1]) rfl (by rw[ae (by decide)];rfl) p rfl).1) (λw' p=>(Kv (o:=yj[1]) rfl (by rw[ae (by decide)];rfl) p rfl).2) ?_;refine WT.pure (o:=yj[2]) rfl (by rfl) hk rfl (λw'=>(pE (o:=yj[2]) rfl (by rw[ae (by decide)];rfl) aei).1) (λw'=>(pE (o:=yj[2]) rfl (by rw[ae (by decide)];rfl) aei).2) ?_;refine WT.mvC (o:=yj[3]) rfl rfl hk rfl rfl ?_;refine .bu (.block (.loop (kk _ w1 I bl rfl rfl x10 x7 Y Z ((rR bl).2 (.inr rfl)) fM W M)))
theorem Io{k:Nat}(L:k<n)(h44:T 44=.int .i64 n)(I:T 45=.int .i64 k)(H:T 7=.pointer (some ⟨bo,0,none⟩))(J:Sd bo)(mr:Holds w bo #[.chan (some c)] 131)
  (kk:∀p,p 47=.chan (some c)->p 44=T 44->p 45=T 45->p 10=T 10->p 7=T 7->p 6=T 6->p 4=T 4->WT Tryz.prog m Sd Stop ⟨G ((base 41).at (aF 73 p) tK) cs,w,Ow⟩):
  WT Tryz.prog m Sd Stop ⟨G ((base 41).at (aF 73 T) om) cs,w,Ow⟩:=by
 have hk:(base 41).kind≠.early:=by simp[base]
 unfold om;refine .seq (.region ?_);refine WT.pure (o:=Iy[0]) (v:=.bool true) rfl (by rfl) hk rfl (λw'=>?_) (λw'=>?_) ?_
 ·rw[(lk (o:=Iy[0]) rfl (by rw[ae (by decide)];exact I) (by rw[ae (by decide)];exact h44)).1]
  grind
 ·exact(lk (o:=Iy[0]) rfl (by rw[ae (by decide)];exact I) (by rw[ae (by decide)];exact h44)).2
 refine .bu (.seq (WT.cond (t:=true) (by rw[ae (by decide)];rfl) (.DQ (.seq (.block (.seq (.region ?_)))))));refine WT.load (o:=qI[0]) (v:=.chan (some c)) rfl (by rfl) hk rfl (.inr J) mr (λw' E=>(I2 (o:=qI[0]) rfl (by rw[ae (by decide)];exact H) E rfl).1) (λw' E=>(I2 (o:=qI[0]) rfl (by rw[ae (by decide)];exact H) E rfl).2) ?_;exact kk _ rfl rfl rfl rfl rfl rfl rfl
theorem FK{k i bl:Nat}{x:Int}{xs:Array Value}(YC:k<1000)(hi:i<n)(Qe:T 45=.int .i64 k)(h48:T 48=.agg #[.int .i64 i,.int .i64 x])(Ji:T 10=.slice (some ⟨bl,0,none⟩) n n)(fM:Holds w bl xs 3)(yS:xs.size=n)(obl:Ow bl)(B_:eo Ow Sd w.heap.size)
  (kk:∀J w1 H,J 44=T 44->J 45=.int .i64 ((k+1:Nat):Int)->J 10=T 10->J 7=T 7->J 6=T 6->J 4=T 4->(∀b,Ow b->H b)->Holds w1 bl (xs.setIfInBounds i (.int .i64 x)) 3->eo H Sd w1.heap.size->aU (But bl Ow) Sd w w1->
   WT Tryz.prog m Sd Stop ⟨G ((base 41).at (aF 73 J) om) cs,w1,H⟩):
  WT Tryz.prog m Sd Stop ⟨G ((base 41).at (aF 73 T) vM) cs,w,Ow⟩:=by
 have hk:(base 41).kind≠.early:=by simp[base]
 unfold vM;refine WT.new (o:=qI[2]) rfl (by rfl) hk rfl B_ (λw'=>(UG (o:=qI[2]) rfl).1) (λw'=>(UG (o:=qI[2]) rfl).2) (λw1 I H M L KG U Z=>?_);have E:H I:=(L I).2 (.inr rfl);have Y:H bl:=(L bl).2 (.inl obl);have N:=fM.agree Z (.inl obl);have cr:bl≠I:=N.ne M (by decide);refine WT.store (o:=qI[3]) (ys:= #[.int .i64 i,.int .i64 x]) rfl (by rfl) hk rfl E M (λw' p=>(Ts (o:=qI[3]) rfl (by rw[ae (by decide)];rfl) (by rw[ae (by decide)];exact h48) p).1)
  (λw' p=>(Ts (o:=qI[3]) rfl (by rw[ae (by decide)];rfl) (by rw[ae (by decide)];exact h48) p).2) (λw2 O W=>?_) (U.yz I E)
 have RU:Holds w2 bl xs 3:=by unfold Holds;rw[W.own bl ⟨Y,cr⟩];exact N
 have Hm:eo H Sd w2.heap.size:=U.mono W.size;refine .bu (.region ?_);refine WT.Eb (o:=kV[0]) rfl rfl hk rfl rfl (by decide) ?_;refine WT.pure (o:=kV[1]) rfl (by rfl) hk rfl (λw'=>(uv (o:=kV[1]) (B:=I) rfl (by rw[ae (by decide)];rfl)).1) (λw'=>(uv (o:=kV[1]) (B:=I) rfl (by rw[ae (by decide)];rfl)).2) ?_;refine WT.load (o:=kV[2]) rfl (by rfl) hk rfl (.inl E) O (λw' p=>(LN (o:=kV[2]) (i:=0) rfl (by rw[ae (by decide)];rfl) p rfl).1) (λw' p=>(LN (o:=kV[2]) (i:=0) rfl (by rw[ae (by decide)];rfl) p rfl).2) ?_;refine WT.pure (o:=kV[3]) rfl (by rfl) hk rfl (λw'=>(uu (o:=kV[3]) (B:=I) rfl (by rw[ae (by decide)];rfl)).1) (λw'=>(uu (o:=kV[3]) (B:=I) rfl (by rw[ae (by decide)];rfl)).2) ?_;refine WT.load (o:=kV[4]) rfl (by rfl) hk rfl (.inl E) O (λw' p=>(LN (o:=kV[4]) (i:=1) rfl (by rw[ae (by decide)];rfl) p rfl).1) (λw' p=>(LN (o:=kV[4]) (i:=1) rfl (by rw[ae (by decide)];rfl) p rfl).2) ?_;refine WT.pure (o:=kV[5]) rfl (by rfl) hk rfl (λw'=>(vB (o:=kV[5]) (B:=bl) (n:=n) (m:=n) (k:=i) rfl (by rw[ae (by decide)];exact Ji) (by rw[ae (by decide)];rfl) hi).1) (λw'=>(vB (o:=kV[5]) (B:=bl) (n:=n) (m:=n) (k:=i) rfl (by rw[ae (by decide)];exact Ji) (by rw[ae (by decide)];rfl) hi).2) ?_;refine WT.store (o:=kV[6]) (ys:=xs.setIfInBounds i (.int .i64 x)) rfl (by rfl) hk rfl Y RU (λw' p=>(st3 (o:=kV[6]) (i:=i) rfl (by rw[ae (by decide)];rfl) (by rw[ae (by decide)];rfl) ⟨_,rfl⟩ p (by omega)).1)
  (λw' p=>(st3 (o:=kV[6]) (i:=i) rfl (by rw[ae (by decide)];rfl) (by rw[ae (by decide)];rfl) ⟨_,rfl⟩ p (by omega)).2) (λw3 W7 HF=>?_) (U.yz bl Y)
 refine .bu (.inBlock (.region ?_));have hw:IntKind.i64.wrap ((k:Int)+1)=((k+1:Nat):Int):=by grind [IntKind.wrap_i64]
 refine WT.pure (o:=Ix[0]) (v:=.int .i64 ((k+1:Nat):Int)) rfl (by rfl) hk rfl (λw'=>?_) (λw'=>?_) ?_
 ·rw[(zR (o:=Ix[0]) (x:=k) (y:=1) rfl (by rw[ae (by decide)];exact Qe) rfl).1,hw]
 ·exact(zR (o:=Ix[0]) (x:=k) (y:=1) rfl (by rw[ae (by decide)];exact Qe) rfl).2
 refine WT.Eb (o:=Ix[1]) rfl rfl hk rfl rfl (by decide) (.bu (.inLoop ?_));refine kk _ w3 H rfl rfl rfl rfl rfl rfl (λb hb=>(L b).2 (.inl hb)) W7 (Hm.mono HF.size) ?_;have h1:aU (But bl Ow) Sd w w1:=Z.sub (λb hb=>hb.1) (λb hb=>hb);have h2:aU (But bl Ow) Sd w1 w2:=W.sub (λb hb=>⟨(L b).2 (.inl hb.1),λe=>by have:=B_.ow b hb.1;omega⟩) (λb hb=>hb);have h3:aU (But bl Ow) Sd w2 w3:=HF.sub (λb hb=>⟨(L b).2 (.inl hb.1),hb.2⟩) (λb hb=>hb);exact h1.trans (h2.trans h3)
end
def bV(r:Nat->Int)(lw:Int):Nat->Int×Int
 |0=>(-1,lw)
 |j+1=>if r j<(bV r lw j).2 then((j:Int),r j) else bV r lw j
def Of:List Item:= [.code vS,.inLoop vS,.inBlock 4,.code (.seq (.region 24 zk false) .ret)]
theorem afi{P:Program}{fn:Func}{a b c:Tmp}(h:fn.results= #[.tmp a,.tmp b,.tmp c])(tmps:Array Value)(w:World):(results fn tmps).run P w=.ok (.tuple #[tmps.getD a undef,tmps.getD b undef,tmps.getD c undef]) w:=by simp_all [results]
theorem aov{n:Nat}{T:Nat->Value}{k:Nat}(h:k<n):(aF n T).tmps.getD k undef=T k:=ae h
section
variable{m:Bool}{Sd Ow:aG}{Stop:GS->Prop}{w:World}{cs:List Frame}{n bl lw:Nat}{r:Nat->Int}{xs:Array Value}
theorem Lr(hn:n<1000)(fM:Holds w bl xs 3)(U:∀j,j<n->xs[j]?=some (.int .i64 (r j)))(obl:Ow bl)
  (kk:∀O,O 2=.int .i64 (bV r lw n).1->O 3=.int .i64 (bV r lw n).2->WT Tryz.prog m Sd Stop ⟨G ((base 41).at (aF 73 O) [.code (.seq (.region 24 zk false) .ret)]) cs,w,Ow⟩):
  ∀k j,j+k=n->∀T:Nat->Value,T 58=.slice (some ⟨bl,0,none⟩) n n->T 59=.int .i64 n->T 60=.int .i64 j->T 2=.int .i64 (bV r lw j).1->T 3=.int .i64 (bV r lw j).2->
  WT Tryz.prog m Sd Stop ⟨G ((base 41).at (aF 73 T) Of) cs,w,Ow⟩:=by
 have hk:(base 41).kind≠.early:=by simp[base]
 intro k
 induction k with
 |zero=>
  intro j I T h58 L H h2 M;simp only[aeS] at I;subst I;unfold Of;refine .seq (.region ?_);refine WT.pure (o:=Iv[0]) (v:=.bool false) rfl (by rfl) hk rfl (λw'=>?_) (λw'=>?_) ?_
  ·rw[(lk (o:=Iv[0]) rfl (by rw[ae (by decide)];exact H) (by rw[ae (by decide)];exact L)).1];simp
  ·exact(lk (o:=Iv[0]) rfl (by rw[ae (by decide)];exact H) (by rw[ae (by decide)];exact L)).2
  exact .bu (.seq (WT.cond (t:=false) (by rw[ae (by decide)];rfl) (.exit (k':= [.code (.seq (.region 24 zk false) .ret)]) rfl (kk _ h2 M))))
 |succ k Y=>
  intro j Z T h58 L H h2 M;have I:j<n:=by omega
  unfold Of;refine .seq (.region ?_);refine WT.pure (o:=Iv[0]) (v:=.bool true) rfl (by rfl) hk rfl (λw'=>?_) (λw'=>?_) ?_
  ·rw[(lk (o:=Iv[0]) rfl (by rw[ae (by decide)];exact H) (by rw[ae (by decide)];exact L)).1]
   grind
  ·exact(lk (o:=Iv[0]) rfl (by rw[ae (by decide)];exact H) (by rw[ae (by decide)];exact L)).2
  refine .bu (.seq (WT.cond (t:=true) (by rw[ae (by decide)];rfl) (.DQ (.seq (.block (.seq (.region ?_)))))));refine WT.Eb (o:=zl[0]) rfl rfl hk rfl rfl (by decide) ?_;refine WT.pure (o:=zl[1]) rfl (by rfl) hk rfl (λw'=>(vB (o:=zl[1]) (B:=bl) (n:=n) (m:=n) (k:=j) rfl (by rw[ae (by decide)];exact h58) (by rw[ae (by decide)];exact H) I).1) (λw'=>(vB (o:=zl[1]) (B:=bl) (n:=n) (m:=n) (k:=j) rfl (by rw[ae (by decide)];exact h58) (by rw[ae (by decide)];exact H) I).2) ?_;refine WT.load (o:=zl[2]) (v:=.int .i64 (r j)) rfl (by rfl) hk rfl (.inl obl) fM (λw' N=>(LN (o:=zl[2]) (i:=j) rfl (by rw[ae (by decide)];rfl) N (U j I)).1) (λw' N=>(LN (o:=zl[2]) (i:=j) rfl (by rw[ae (by decide)];rfl) N (U j I)).2) ?_;refine WT.zi (o:=zl[3]) rfl rfl hk rfl rfl (by decide) ?_;refine WT.zi (o:=zl[4]) rfl rfl hk rfl rfl (by decide) ?_;refine .bu (.seq (.region ?_));refine WT.Eb (o:=Lz[0]) rfl rfl hk rfl rfl (by decide) ?_;refine WT.Eb (o:=Lz[1]) rfl rfl hk rfl rfl (by decide) ?_;generalize p:up (up (up (up (up (up (up (up T 61 _) _ _) _ _) _ _) _ _) _ _) _ _) _ _=E;have x58:E 58=.slice (some ⟨bl,0,none⟩) n n:=by rw[<-p];exact h58
  have x59:E 59=.int .i64 n:=by rw[<-p];exact L
  have x60:E 60=.int .i64 j:=by rw[<-p];exact H
  have x2:E 2=.int .i64 (bV r lw j).1:=by rw[<-p];exact h2
  have W:E 3=.int .i64 (bV r lw j).2:=by rw[<-p];exact M
  have x12:E 12=.int .i64 j:=by rw[<-p];exact H
  have x13:E 13=.int .i64 (r j):=by rw[<-p];rfl
  have x65:E 65=.int .i64 (r j):=by rw[<-p];rfl
  have x66:E 66=.int .i64 (bV r lw j).2:=by rw[<-p];exact M
  clear p;refine WT.pure (o:=Lz[2]) rfl (by rfl) hk rfl (λw'=>(lk (o:=Lz[2]) rfl (by rw[ae (by decide)];exact x65) (by rw[ae (by decide)];exact x66)).1) (λw'=>(lk (o:=Lz[2]) rfl (by rw[ae (by decide)];exact x65) (by rw[ae (by decide)];exact x66)).2) ?_;have hw:IntKind.i64.wrap ((j:Int)+1)=((j+1:Nat):Int):=by grind [IntKind.wrap_i64]
  have last:∀J:Nat->Value,J 58=.slice (some ⟨bl,0,none⟩) n n->J 59=.int .i64 n->J 60=.int .i64 j->J 2=.int .i64 (bV r lw (j+1)).1->J 3=.int .i64 (bV r lw (j+1)).2->
    WT Tryz.prog m Sd Stop ⟨G ((base 41).at (aF 73 J) (.inBlock 5::.code (.region 23 Ly false)::.inLoop vS::.inBlock 4::.code (.seq (.region 24 zk false) .ret):: [])) cs,w,Ow⟩:=by
   intro J z58 z59 z60 z2 z3;refine .inBlock (.region ?_);refine WT.pure (o:=Ly[0]) (v:=.int .i64 ((j+1:Nat):Int)) rfl (by rfl) hk rfl (λw'=>?_) (λw'=>?_) ?_
   ·rw[(zR (o:=Ly[0]) (x:=j) (y:=1) rfl (by grind [ae]) rfl).1,hw]
   ·exact(zR (o:=Ly[0]) (x:=j) (y:=1) rfl (by grind [ae]) rfl).2
   refine WT.Eb (o:=Ly[1]) rfl rfl hk rfl rfl (by decide) (.bu (.inLoop ?_));exact Y (j+1) (by omega) _ z58 z59 rfl z2 z3
  by_cases hr:r j<(bV r lw j).2
  ·have hb:bV r lw (j+1)=((j:Int),r j):=by simp_all [bV]
   refine .bu (WT.cond (t:=true) (by grind [ae,up]) (.region ?_));refine WT.Eb (o:=PI[0]) rfl rfl hk rfl rfl (by decide) ?_;refine WT.Eb (o:=PI[1]) rfl rfl hk rfl rfl (by decide) ?_;refine WT.zi (o:=PI[2]) rfl rfl hk rfl rfl (by decide) ?_;refine WT.zi (o:=PI[3]) rfl rfl hk rfl rfl (by decide) (.bu ?_);exact last _ x58 x59 x60 (by rw[hb];exact x12) (by rw[hb];exact x13)
  ·have hb:bV r lw (j+1)=bV r lw j:=by simp only[bV,hr,ab3]
   refine .bu (WT.cond (t:=false) (by grind [ae,up]) (.DQ ?_));exact last _ x58 x59 x60 (by rw[hb];exact x2) (by rw[hb];exact W)
theorem Py{T:Nat->Value}{c0:Frame}{pl:Option Addr}{ml:Nat}(hn:n<1000)(h44:T 44=.int .i64 n)(H:T 45=.int .i64 n)(p:T 10=.slice (some ⟨bl,0,none⟩) n n)(E:T 6=.slice pl lw ml)(fM:Holds w bl xs 3)
  (I:∀j,j<n->xs[j]?=some (.int .i64 (r j))) (obl:Ow bl)
  (kk:WT Tryz.prog m Sd Stop ⟨LG (c0.finish (.tuple #[.int .i64 (bV r lw n).1,.int .i64 (bV r lw n).2,.int .i64 0])) cs,w,Ow⟩):
  WT Tryz.prog m Sd Stop ⟨G ((base 41).at (aF 73 T) om) (c0::cs),w,Ow⟩:=by
 have hk:(base 41).kind≠.early:=by simp[base]
 unfold om;refine .seq (.region ?_);refine WT.pure (o:=Iy[0]) (v:=.bool false) rfl (by rfl) hk rfl (λw'=>?_) (λw'=>?_) ?_
 ·rw[(lk (o:=Iy[0]) rfl (by rw[ae (by decide)];exact H) (by rw[ae (by decide)];exact h44)).1];simp
 ·exact(lk (o:=Iy[0]) rfl (by rw[ae (by decide)];exact H) (by rw[ae (by decide)];exact h44)).2
 refine .bu (.seq (WT.cond (t:=false) (by rw[ae (by decide)];rfl) (.exit (k':= [.code FO]) rfl (.seq (.region ?_)))));refine WT.Eb (o:=Iw[0]) rfl rfl hk rfl rfl (by decide) ?_;refine WT.pure (o:=Iw[1]) rfl (by rfl) hk rfl (λw'=>(pE (o:=Iw[1]) rfl (by rw[ae (by decide)];exact E) Tryz.underlying100).1) (λw'=>(pE (o:=Iw[1]) rfl (by rw[ae (by decide)];exact E) Tryz.underlying100).2) ?_;refine WT.Pz (o:=Iw[2]) rfl rfl hk rfl rfl ?_;refine WT.zi (o:=Iw[3]) rfl rfl hk rfl rfl (by decide) (.bu (.seq (.seq (.region ?_))));refine WT.Eb (o:=LA[0]) rfl rfl hk rfl rfl (by decide) ?_;refine WT.pure (o:=LA[1]) rfl (by rfl) hk rfl (λw'=>(pE (o:=LA[1]) rfl (by rw[ae (by decide)];exact p) ae8).1) (λw'=>(pE (o:=LA[1]) rfl (by rw[ae (by decide)];exact p) ae8).2) ?_;refine WT.mvC (o:=LA[2]) rfl rfl hk rfl rfl (.bu (.block (.loop ?_)));refine Lr (n:=n) (lw:=lw) (r:=r) hn fM I obl (λJ z2 z3=>?_) n 0 (by omega) _ p rfl rfl rfl rfl;refine .seq (.region ?_);refine WT.Eb (o:=zk[0]) rfl rfl hk rfl rfl (by decide) ?_;refine WT.Eb (o:=zk[1]) rfl rfl hk rfl rfl (by decide) ?_;refine WT.zi (o:=zk[2]) rfl rfl hk rfl rfl (by decide) ?_;refine WT.zi (o:=zk[3]) rfl rfl hk rfl rfl (by decide) ?_;refine WT.Pz (o:=zk[4]) rfl rfl hk rfl rfl (.bu ?_);refine WT.ret (fn:=Tryz.f41) (v:=.tuple #[.int .i64 (bV r lw n).1,.int .i64 (bV r lw n).2,.int .i64 0]) rfl rfl Tryz.func41 (λw'=>?_) (λw'=>?_) kk
 ·have h:Tryz.f41.results= #[.tmp 2,.tmp 3,.tmp 4]:=rfl;rw[afi h];simp only[aov (show 2<73 by decide),aov (show 3<73 by decide),aov (show 4<73 by decide)];rw[<-z2,<-z3];rfl
 simp_all [results]
end
section
variable{P:Program}[Twin P Tryz.prog]{K:fO}{V:D1}{D:Nat->Bool}{F:World->Prop}{s1 s2 s3:ByteArray}{av av':Value}{pt pt':Option Addr}{n mt lw:Nat}{ps:Nat->List Int}{r:Nat->Int}{Inv:Array Value->Value->World->Prop}
structure Rcv(n lw:Nat)(r:Nat->Int)(c0:Frame)(cs:List Frame)(n1 bo c bl:Nat)(O1:Nat->Own)(W1:World)(k:Nat)(l:List Nat)(O:Nat->Own)(Rd:Nat->aG)(w:World)(gs:Array Goroutine)(t:Trace)(rs:List Rk)(T:Nat->Value)(xs:Array Value):Prop where
 co:Co Tryz.prog (some (c,k)) (vb n1 r) O Rd (λp=>p∈l) w gs t rs
 h0:gs[0]?=some (G ((base 41).at (aF 73 T) om) (c0::cs))
 nd:l.Nodup
 len:l.length+k=n
 mem:∀p∈l,n1<=p/\p<n1+n
 t44:T 44=.int .i64 n
 t45:T 45=.int .i64 k
 t10:T 10=.slice (some ⟨bl,0,none⟩) n n
 t7:T 7=.pointer (some ⟨bo,0,none⟩)
 t6:∃pl ml,T 6=.slice pl lw ml
 mr:Holds w bo #[.chan (some c)] 131
 u_:O bo=.shared
 obl:O bl=.of 0
 fM:Holds w bl xs 3
 sz:xs.size=n
 L1:∀j,j<n->xs[j]?=some (if n1+j∈l then .int .i64 0 else .int .i64 (r j))
 mo:AW O1 O W1 w
theorem mE{w:World}{c b:Nat}{x:Nat}{q:Array Value}{y:Bool}{u v:Nat}{z:Bool}(h:b≠c):(w.setChan c x q y u v z).heap[b]?=w.heap[b]?:=by
 grind [World.setChan]
theorem ake(hn:n<1000){c0:Frame}{cs:List Frame}{n1 bo c bl:Nat}{O1:Nat->Own}{W1:World}(HB:W1.heap.size<=c){Qp:Machine->Outcome->World->Trace->Prop}
  (H:∀O Rd w gs t rs sl,Co Tryz.prog (some (c,n)) (vb n1 r) O Rd (λ_=>False) w gs t rs->gs[0]?=some (LG (c0.finish (.tuple #[.int .i64 (bV r lw n).1,.int .i64 (bV r lw n).2,.int .i64 0])) cs)->AW O1 O W1 w->AE Tryz.prog Qp (crowd gs w sl) t):
  ∀m k l,l.length=m->∀O Rd w gs t rs sl T xs,Rcv n lw r c0 cs n1 bo c bl O1 W1 k l O Rd w gs t rs T xs->AE Tryz.prog Qp (crowd gs w sl) t:=by
 intro m
 induction m with
 |zero=>
  intro k l hl O Rd w gs t rs sl T xs h;have vf:l= []:=List.length_eq_zero_iff.1 hl;subst vf;have YC:k=n:=by have:=h.len;omega
  subst YC;obtain⟨pl,ml,h6⟩:=h.t6;have yS:∀j,j<k->xs[j]?=some (.int .i64 (r j)):=λj Y=>by have:=h.L1 j Y;grind
  have nj:WT Tryz.prog true (λb=>O b=.shared) (λs=>s.g=LG (c0.finish (.tuple #[.int .i64 (bV r lw k).1,.int .i64 (bV r lw k).2,.int .i64 0])) cs) ⟨G ((base 41).at (aF 73 T) om) (c0::cs),w,λb=>O b=.of 0⟩:=
   Py (r:=r) hn h.t44 h.t45 h.t10 h6 h.fM yS h.obl (.stop rfl λ_ _=>rfl)
  refine h.co.phase nj h.h0 (aU.refl _ _ _) (λb hb=>hb) (λb hb=>hb) (λs' O2 Cr t2 BB zF nk J Cq hrun W C3 M ov hup vG=>?_) sl;have e:=nk s'.w (aU.refl _ _ _);simp only at e;have ep:(λp=>p∈([]:List Nat))=λ_=>False:=by grind
  rw[ep] at J;exact H _ _ _ _ _ _ _ J (by grind) (h.mo.trans W)
 |succ m ih=>
  intro k l hl O Rd w gs t rs sl T xs h;have YC:k<n:=by have:=h.len;omega
  have nj:WT Tryz.prog true (λb=>O b=.shared) (λs=>∃E,s.g=G ((base 41).at (aF 73 E) tK) (c0::cs)/\E 47=.chan (some c)/\E 44=T 44/\E 45=T 45/\E 10=T 10/\E 7=T 7/\E 6=T 6/\Holds s.w bl xs 3/\s.ow bl)
    ⟨G ((base 41).at (aF 73 T) om) (c0::cs),w,λb=>O b=.of 0⟩:=
   Io YC h.t44 h.t45 h.t7 h.u_ h.mr (λE e47 e44 e45 Z e7 e6 _=>.stop rfl λw' ha=>⟨E,rfl,e47,e44,e45,Z,e7,e6,h.fM.agree ha (.inl h.obl),h.obl⟩)
  refine h.co.phase nj h.h0 (aU.refl _ _ _) (λb hb=>hb) (λb hb=>hb) (λs' O2 Cr t2 BB zF nk J Cq hrun W C3 M ov hup vG=>?_) sl;obtain⟨E,eg,e47,e44,e45,Z,e7,e6,RU,M9⟩:=nk s'.w (aU.refl _ _ _);simp only at eg RU M9;have hk:(base 41).kind≠.early:=by simp[base]
  have hop:=λw'=>Vp (o:=qI[1]) (w:=w') (ev:=(aF 73 E).eval) rfl (by rw[ae (by decide)];exact e47)
  have bH:∀w',stepG Tryz.prog true s'.g w'=.comm (G ((base 41).at (aF 73 E) tK) (c0::cs)) #[rcase c (.agg #[.int .i64 0,.int .i64 0])] true (.recv false) w' #[]:=by
   intro w';rw[eg];unfold tK;rw[stepG_comm (o:=qI[1]) rfl (by rfl) hk (hop w').1];rfl
  have hex:∃p,p∈l:=by
   cases l with
   |nil=>grind
   |cons a l=>simp_all
  refine J.recv rfl Cq hrun hex bH (λi L w3 d Sc t3 rs3 QD hi has U YO=>?_) zF;obtain⟨hi1,yu⟩:=h.mem i hi;have cn:(G ((base 41).at (aF 73 E) tK) (c0::cs)).finishComm Tryz.prog #[rcase c (.agg #[.int .i64 0,.int .i64 0])] (.recv false) 0 (vb n1 r i) true=G ((base 41).at (aF 73 (up E 48 (vb n1 r i))) vM) (c0::cs):=by
   rw[finishComm_recv];unfold Conc.served G;simp only;unfold tK;rw[j0 (o:=qI[1]) (d:=48) rfl rfl];rfl
  rw[cn] at YO;obtain⟨P_,hcO⟩:=U.chan c (k+1) rfl;have hO2:∀b,(O2 b=.of 0\/O2 b=.shared)->L b=O2 b:=λb hb=>has.own b (J.lt b (by grind))
  have ME:L bo=.shared:=by rw[hO2 bo (.inr (M bo h.u_))];exact M bo h.u_
  have M8:L bl=.of 0:=by simp_all
  have afE:bl≠c:=λe=>by simp_all
  have VB:bo≠c:=λe=>by simp_all
  have W7:Holds ((w3.at d).setChan c 0 #[] false (k+1) (k+1) false) bl xs 3:=by
   unfold Holds;rw[mE afE];show w3.heap[bl]?=_;rw[has.heap bl (.inl (C3 bl M9)) (J.lt bl (by simp_all))];exact RU
  have KO:Holds s'.w bo #[.chan (some c)] 131:=by
   unfold Holds;rw[W.heap bo (.inr h.u_) (h.co.lt bo (by rw[h.u_];simp))];exact h.mr
  have Om:Holds ((w3.at d).setChan c 0 #[] false (k+1) (k+1) false) bo #[.chan (some c)] 131:=by
   unfold Holds;rw[mE VB];show w3.heap[bo]?=_;rw[has.heap bo (.inr (.inr (M bo h.u_))) (J.lt bo (by rw[M bo h.u_];simp))];exact KO
  have Oa:AW O1 L W1 ((w3.at d).setChan c 0 #[] false (k+1) (k+1) false):=by
   have h1:=h.mo.trans (W.trans has.fwd);refine⟨h1.own,λb hb hl=>?_,?_,h1.os,h1.out,h1.tape⟩
   ·rw[mE (by omega)];exact h1.heap b hb hl
   grind
  have xl:WT Tryz.prog true (λb=>L b=.shared) (λs=>∃I,s.g=G ((base 41).at (aF 73 I) om) (c0::cs)/\I 44=T 44/\I 45=.int .i64 ((k+1:Nat):Int)/\I 10=T 10/\I 7=T 7/\I 6=T 6/\Holds s.w bl (xs.setIfInBounds (i-n1) (.int .i64 (r (i-n1)))) 3/\s.ow bl)
    ⟨G ((base 41).at (aF 73 (up E 48 (vb n1 r i))) vM) (c0::cs),(w3.at d).setChan c 0 #[] false (k+1) (k+1) false,λb=>L b=.of 0⟩:=
   FK (i:=i-n1) (by omega) (by omega) (show(up E 48 (vb n1 r i)) 45=.int .i64 k from e45.trans h.t45) (show(up E 48 (vb n1 r i)) 48=_ from rfl) (show(up E 48 (vb n1 r i)) 10=_ from Z.trans h.t10) W7 h.sz M8 U.there
    (λI w4 YZ f44 f45 f10 f7 f6 _ kD ahD arR y_=>.stop rfl λw' ha=>⟨I,rfl,f44.trans e44,f45,f10.trans Z,f7.trans e7,f6.trans e6,ahD.agree ha (.inl (kD bl M8)),kD bl M8⟩)
  refine U.phase xl YO (aU.refl _ _ _) (λb hb=>hb) (λb hb=>hb) (λs5 O5 gs5 t5 Zk Zi Hn xy h05 aad oe ho5 Z9 W8 af8 hz5=>?_) QD;obtain⟨I,eg2,f44,f45,f10,f7,f6,N,Zy⟩:=Hn s5.w (aU.refl _ _ _);simp only at eg2 N Zy;have hle:(l.erase i).length=m:=by simp_all
  refine ih (k+1) (l.erase i) hle O5 Rd s5.w gs5 t5 Zk Zi I _ ⟨?_,by grind,h.nd.erase i,by have:=h.len;omega,λp hp=>h.mem p (List.mem_of_mem_erase hp),f44.trans h.t44,f45,f10.trans h.t10,f7.trans h.t7,?_,?_,Z9 bo ME,ho5 bl Zy,N,by simp[h.sz],λj Y=>?_,Oa.trans oe⟩
  ·have e:(λp=>p∈l/\p≠i)=(λp=>p∈l.erase i):=by
    funext p
    apply propext;rw[h.nd.mem_erase_iff];exact And.comm
   simp_all
  ·obtain⟨pl,ml,h6⟩:=h.t6
   simp_all
  ·unfold Holds;rw[oe.heap bo (.inr ME) (U.lt bo (by simp_all))];exact Om
  ·rw[ac3];by_cases An:i-n1=j
   ·subst An;rw[aay rfl,aay (by rw[h.sz];exact Y)];have:n1+(i-n1)=i:=by omega
    rw[this,aat (λhm=>(h.nd.mem_erase_iff.1 hm).1 rfl)]
   ·rw[aat An,h.L1 j Y]
    grind
def xZ(D:Nat->Bool)(O:Nat->Own):Nat->Own:=λb=>if D b then .shared else match O b with| .shared=>.shared|_=>.kept
theorem Iq{D:Nat->Bool}{O:Nat->Own}{b:Nat}(h:D b=true):xZ D O b=.shared:=aay h
theorem CQ(D:Nat->Bool)(O:Nat->Own)(b:Nat):xZ D O b=.kept\/(xZ D O b=.shared/\(D b=true\/O b=.shared)):=by
 unfold xZ
 grind
def Jt(O p:Nat->Own)(n:Nat):Nat->Own:=λb=>if b<n then(match O b with| .of i=>if i=0 then .of 0 else .kept|o=>o) else p b
def ly(O:Nat->Own)(B0 bo c:Nat):Nat->Own:=λb=>if b=B0\/b=bo then .shared else if b=c then .kept else O b
theorem akf(hS:Setup P Tryz.prog K K)(hnb:∀f,K.j4 f=false)(L:yq P K V D F s1 s2 s3 av av' pt pt' n mt lw ps r Inv)(Qp:Machine->Outcome->World->Trace->Prop):
  Phase Tryz.prog Qp 41 #[.agg #[.string s1,.string s2,.string s3,av,.slice pt n mt]] (.tuple #[.int .i64 (bV r lw n).1,.int .i64 (bV r lw n).2,.int .i64 0]) (λ_ w=>F w/\P.globals.size<=w.heap.size):=by
 intro pr O Rd w gs t rs sl c0 cs mq h0 ⟨Y,yW⟩ H;have R7:∀b,D b=true->b<w.heap.size:=(L.zG w Y).lt;have hOn:∀b,O b=.shared->b<w.heap.size:=λb hb=>mq.lt b (by grind)
 have Ru:1<=gs.size:=by grind
 have Hy:Co Tryz.prog none (vb gs.size r) (xZ D O) Rd (λ_=>False) w gs t rs:=mq.free (λb _=>by
   grind [CQ])
  (λb hb=>by
   grind [CQ]) (λc k e=>by cases e)
 have R6:∀b,b<w.heap.size->xZ D O b=.kept\/xZ D O b=.shared:=λb _=>(CQ D O b).imp id (·.1)
 have nj:=Ip hS hnb L (Sd:=λb=>xZ D O b=.shared) (w:=w) (λb hb=>Iq hb) yW Y (λb hb=>Hy.lt b (by grind)) (c0::cs);refine Hy.phase nj h0 (aU.refl _ _ _) (λ_ h=>h.elim) (λb hb=>hb) (λs' E Cr t2 BB zF nk kT Cq hrun I C3 pd ov hup vG=>?_) sl;obtain⟨T,B0,B5,bo,c,ρ,Sh,v,eg,e26,e27,e4,P_,U,N,oc,t1,t5,t7,W,mr,zT,h5,iK,xw,B_⟩:=nk s'.w (aU.refl _ _ _);simp only at eg P_ U N oc W mr zT h5 iK xw B_;have dm:∀b,s'.ow b->w.heap.size<=b:=λb hb=>af2 λhl=>ov b hl hb
 have afI:B0≠c:=W.vD P_;have VB:bo≠c:=mr.vD P_;obtain⟨a1,a2,a3,p4,n4,m4,p5,n5,m5,p6,pl,ml,q4,q5,q6,F_,Uq,LU,hinv⟩:=h5;have afG:B5≠c:=F_.vD P_;have afH:B5≠B0:=F_.ne W (by decide);have afF:B5≠bo:=F_.ne mr (by decide);have f0:ly E B0 bo c B0=.shared:=aay (.inl rfl);have fo:ly E B0 bo c bo=.shared:=aay (.inr rfl);have fc:ly E B0 bo c c=.kept:=by unfold ly;grind
 have fx:∀b,b≠B0->b≠bo->b≠c->ly E B0 bo c b=E b:=λb g1 g2 g3=>by unfold ly;simp_all
 have fs:∀b,E b=.shared->ly E B0 bo c b=.shared:=λb hb=>by
  grind
 have xz:Co Tryz.prog (some (c,0)) (vb gs.size r) (ly E B0 bo c) Rd (λ_=>False) s'.w Cr t2 BB:=kT.free (λb _=>by
   grind)
  (λb hb=>by
   unfold ly at hb;split at hb
   ·rename_i hc;rcases hc with rfl|rfl
    ·exact B_.ow _ U
    ·exact B_.ow _ N
   ·split at hb
    ·grind
    ·exact kT.lt b hb)
  (λc' k' e=>by simp_all)
 have Oa:AW (xZ D O) (ly E B0 bo c) w s'.w:=⟨λb hb=>by
   rw[fx b (λe=>by simp_all) (λe=>by simp_all) (λe=>by simp_all)];exact I.own b hb,I.heap,I.size,I.os,I.out,I.tape⟩
 have vh:∀x,Im ρ Sh x->ly E B0 bo c x=.of 0/\x≠B0/\x≠B5/\x≠bo/\x≠c:=λx hx=>by
  simp_all
 have hDs:∀b,D b=true->ly E B0 bo c b=.shared:=λb hb=>fs b (pd b (Iq hb))
 have aaX:Head P K D F s1 s2 s3 av pt n mt lw r Inv (c0::cs) gs.size B0 B5 bo c (xZ D O) w 0 (ly E B0 bo c) Rd s'.w Cr t2 BB T ρ Sh v:=by
  refine⟨?_,by omega,by grind,e26,e27,e4,⟨t1,t5,t7,W,mr,?_,⟨a1,a2,a3,p4,n4,m4,p5,n5,m5,p6,pl,ml,q4,q5,q6,F_,Uq,LU,hinv⟩,iK.sub (λb hb=>fs b (pd b hb)),vh,xz.there⟩,f0,fo,λg b hg=>by omega,hDs,?_,aaY yW I.size,Oa⟩
  ·grind
  ·simp_all
  ·exact L.sW _ _ I.size (λb hb=>I.heap b (.inr (Iq hb)) (R7 b hb)) Y
 refine Ls hS hnb L (cs:=c0::cs) Ru Y R6 (λO3 Rd3 w3 Sc t3 rs3 QD Z ρ3 Sh3 v3 h=>?_) n 0 (by omega) _ _ _ _ _ _ zF _ _ _ _ aaX;obtain⟨x1,x5,x7,yB0,ybo,_,⟨b1,b2,b3,p4',n4',m4',p5',n5',m5',p6',pl',ml',_,_,_,_,_,agQ,_⟩,_,_,_⟩:=h.fork;have h6:∃pl ml,Z 6=.slice pl lw ml:=by
  obtain⟨p,e⟩:=agQ.lT
  simp_all
 have VZ:WT Tryz.prog true (λb=>O3 b=.shared) (λs=>∃J bl,s.g=G ((base 41).at (aF 73 J) om) (c0::cs)/\J 44=.int .i64 n/\J 45=.int .i64 (0:Nat)/\J 10=.slice (some ⟨bl,0,none⟩) n n/\J 7=Z 7/\J 6=Z 6/\s.ow bl/\Holds s.w bl (madeCells #[.int .i64 0] n) 3)
   ⟨G ((base 41).at (aF 73 Z) rJ) (c0::cs),w3,λb=>O3 b=.of 0⟩:=
  SQ L.small h.t26 h.t27 x1 h.GL yB0 h.co.there (λJ w1 fN bl z44 z45 z10 z7 z6 _ obl fM _ _=>.stop rfl λw' ha=>⟨J,bl,rfl,z44,z45,z10,z7,z6,obl,fM.agree ha (.inl obl)⟩)
 refine h.co.phase VZ h.h0 (aU.refl _ _ _) (λb hb=>hb) (λb hb=>hb) (λs4 O4 gs4 t4 rs4 sl4 V5 ahs h04 aku aa3 ho4 ago ahN anG hz4=>?_) QD;obtain⟨T4,bl,eg4,z44,z45,z10,z7,z6,obl,fM⟩:=V5 s4.w (aU.refl _ _ _);simp only at eg4 obl fM;have qu:∀p,p∈List.range' gs.size n↔gs.size<=p/\p<gs.size+n:=λp=>by grind
 have ags:Rcv n lw r c0 cs gs.size bo c bl (xZ D O) w 0 (List.range' gs.size n) O4 Rd3 s4.w gs4 t4 rs4 T4 (madeCells #[.int .i64 0] n):=by
  refine⟨?_,by grind,List.nodup_range',by simp,λp hp=>(qu p).1 hp,z44,z45,z10,z7.trans x7,?_,?_,ago bo h.u_,ho4 bl obl,fM,size_madeCells _ _,λj hj=>?_,h.mo.trans aa3⟩
  ·simp_all
  ·simp_all
  ·unfold Holds;rw[aa3.heap bo (.inr h.u_) (h.co.lt bo (by rw[h.u_];simp))];exact ybo
  simp_all [Rf]
 refine ake L.small (dm c oc) (λO5 Rd5 w5 gs5 t5 Zk Zi xy h05 M=>?_) n 0 _ (by simp) _ _ _ _ _ _ sl4 _ _ ags;have hold:∀b,b<w.heap.size->w5.heap[b]?=w.heap[b]?:=λb hb=>M.heap b (R6 b hb) hb
 refine H (Jt O O5 w.heap.size) Rd5 w5 gs5 t5 Zk Zi (xy.free (λb _=>?_) (λb hb=>?_) (λc k e=>by cases e)) h05 ⟨λb hb=>?_,hold,M.size,M.os,M.out,M.tape⟩
 ·unfold Jt;split
  ·cases O b with
   |of i=>
    grind
   |shared=>simp_all
   |kept=>simp_all
  grind
 ·unfold Jt at hb;split at hb
  ·grind
  ·exact xy.lt b hb
 ·unfold Jt
  grind
end
end Go.Proofs.YtjagmhagphbfcaaGreatDoor
namespace Go.Proofs.YtjagmhagphbfcaaGreatDoor
open Go Go.Conc
def aoz(D:Nat->Bool)(O:Nat->Own):Nat->Own:=λb=>if D b then .shared else match O b with| .shared=>.shared|_=>.kept
theorem Vb{D:Nat->Bool}{O:Nat->Own}{b:Nat}(h:D b=true):aoz D O b=.shared:=aay h
theorem BK(D:Nat->Bool)(O:Nat->Own)(b:Nat):aoz D O b=.kept\/(aoz D O b=.shared/\(D b=true\/O b=.shared)):=by
 unfold aoz
 grind
def IJ(O p:Nat->Own)(n:Nat):Nat->Own:=λb=>if b<n then(match O b with| .of i=>if i=0 then .of 0 else .kept|o=>o) else p b
theorem P2.fwd{O O':Nat->Own}{w w':World}(h:P2 O O' w w')(p:∀b i,b<w.heap.size->O b=.of i->i=0):AW O O' w w':=
 ⟨λb hb=>(h.own b hb).resolve_right λ⟨_,i,hi,e⟩=>hi (p b i hb e),λb _ hl=>h.heap b hl,h.size,h.os,h.out,h.tape⟩
section
variable{P Q:Program}[Twin P Q]{K:fO}
theorem Lg(hE:Env P Q K.S (K.CO P) K.g K.H)(gp:∀f,K.j4 f=true->Twin.B P Q f){f g:FuncId}(R5:∀f,K.j4 f=true->f=g)(hgS:¬(K.S g\/K.H g))
  {M:Func} {cg:Code} (WH:P.funcs[g]?=some M) (N:M.body=some cg) (NK:∀(St:Frame->List Frame->World->Prop) (R:Value->World->Prop) xs fs v,gu P St R (Frame.enter P g xs .normal) fs v->UK St (Frame.enter P g xs .normal) fs v)
  {Dg:Nat->Bool} {Fg:World->Prop} {I:Value} (hx0:Closed I) {Good:Array Value->Frame->World->Prop} {Qp:Machine->Outcome->World->Trace->Prop} (hf:K.S f) (P8:∃fn c,P.funcs[f]?=some fn/\fn.body=some c)
  (yW:∀b,K.g b=true->Dg b=true) (TM:∀w,Fg w->mh K.S noW Dg w) (Z6:∀w,Fg w->P.globals.size<=w.heap.size)
  (Ce:∀w,Fg w->gu P (λfr fs v=>∃xs c1,fr=Frame.enter P g xs .normal/\fs= [c1]/\Good xs c1 v) (λ_ _=>False) (Frame.enter P f #[] .normal) [] (cK noW Dg w))
  (ag_:∀xs c1 v,Good xs c1 v->xs.size=K.ar g)
  (Ot:∀xs c1 v,Good xs c1 v->∀Sh ρ w ys,cp P K.S (K.CO P) Sh ρ v w->Fg w->zo K.g ρ->AR K.S ρ xs ys->∃G',Phase Q Qp g ys I G'/\∀O,G' O w)
  (aaM:∀w w':World,(∀b,b<w.heap.size->w'.heap[b]?=w.heap[b]?)->w.heap.size<=w'.heap.size->Fg w->Fg w')
  (KB:∀xs c1 v,Good xs c1 v->∀(Sh:Nat->Prop) (ρ:Ren) (fr':Frame) (w:World),zo K.g ρ->cp P K.S (K.CO P) Sh ρ v w->CW P Q K ρ (c1.finish I) fr' [] []->J v->gu P mi (λx _=>x=.bool true) (c1.finish I) [] v):
  Phase Q Qp f #[] (.bool true) (λ_ w=>Fg w):=by
 intro pr O Rd w gs t rs sl c0 cs mq h0 U H;have R7:∀b,Dg b=true->b<w.heap.size:=(TM w U).lt;have hOn:∀b,O b=.shared->b<w.heap.size:=λb hb=>mq.lt b (by simp_all)
 have Hy:Co Q none pr (aoz Dg O) Rd (λ_=>False) w gs t rs:=mq.free (λb _=>by
   grind [BK])
  (λb hb=>by
   grind [BK]) (λc k e=>by cases e)
 have R6:∀b,b<w.heap.size->aoz Dg O b=.kept\/aoz Dg O b=.shared:=λb _=>(BK Dg O b).imp id (·.1)
 have EB:∀b,aoz Dg O b=.shared->b<w.heap.size:=λb hb=>Hy.lt b (by simp_all)
 let St:Frame->List Frame->World->Prop:=λfr fs v=>∃xs c1,fr=Frame.enter P g xs .normal/\fs= [c1]/\Good xs c1 v
 have ahZ:∀fr fs v,St fr fs v->¬(K.S fr.fn\/K.H fr.fn):=by
  rintro fr fs v ⟨xs,c1,rfl,_,_⟩;rw[enter_at xs WH N];exact hgS
 have Od:gy P Q K (λb=>b<w.heap.size) St (λ_ _=>False) (B6 noW Dg) (Frame.enter P f #[] .normal) [] (cK noW Dg w) (Frame.enter Q f #[] .normal) [] w:=
  ⟨Ce w U,λb hb=>mL (yW b hb) rfl,qe (aq6 P Dg) (TM w U) (Z6 w U),⟨fL.enter hE hf AR.empty P8,.nil,rfl⟩,wI⟩
 have aaE:mn (λb=>b<w.heap.size) (B6 noW Dg) (λ_=>False) (λb=>aoz Dg O b=.shared) w.heap.size:=uo (aq6 P Dg) (TM w U) (λb hb=>Vb hb) ⟨λ_ h=>h.elim,EB,λ_ h=>h.elim⟩;have nj:WT Q true (λb=>aoz Dg O b=.shared) (λs=>∃ρ1 xs dG v1 ys Y,s.g=LG (Frame.enter Q g ys .normal) (Y++(c0::cs))/\CZ P Q K (λb=>b<w.heap.size) St (λ_ _=>False) ρ1 g xs dG v1 ys Y s.w/\mn (λb=>b<w.heap.size) ρ1 s.ow (λb=>aoz Dg O b=.shared) s.w.heap.size)
   ⟨LG (Frame.enter Q f #[] .normal) ([]++(c0::cs)),w,λ_=>False⟩:=by
  refine Od.tree hE gp ahZ aaE (Kp:=λ_=>False) (λ_ h=>h.elim) (λc0' Uy _ ρ1 x x' v1 w1 fN _ _ _ _ _ _ _ hR=>hR.elim) (λe=>by cases e) ?_;intro f' ρ1 xs dG v1 ys Y w1 fN _ _ hl1 _ _ _ p _;have:=R5 f' p.j4.1;subst this;refine .stop rfl λw' ha=>⟨ρ1,xs,dG,v1,ys,Y,rfl,⟨p.runs,p.cz,p.rel.agree hl1 ha,p.args,p.rest,p.bot,p.j4,p.ne,p.j⟩,hl1.agree ha.size⟩
 refine Hy.phase nj h0 (aU.refl _ _ _) (λ_ h=>h.elim) (λb hb=>hb) (λs' O2 Cr t2 BB zF nk kT Cq hrun L C3 pd ov hup vG=>?_) sl;obtain⟨ρ1,xs,dG,v1,ys,Y,eg,p,hl1⟩:=nk s'.w (aU.refl _ _ _);simp only at eg p hl1;obtain⟨C0,c1,fV,efs,Ap⟩:=NK _ _ _ _ _ p.runs v1.tape;have agj:=p.j4.2;have agi:=ag_ _ _ _ Ap;have exx:xs=C0:=by
  rw[enter_at xs WH N,enter_at C0 WH N] at fV;have e2:xs++Array.replicate (M.ntmps-xs.size) undef=C0++Array.replicate (M.ntmps-C0.size) undef:=congrArg Frame.tmps fV
  grind [Array.append_inj]
 subst exx efs;have ZU:({ v1 with tape:=v1.tape } :World)=v1:=rfl;rw[ZU] at Ap;have kE:=p.rest;cases kE with
 | @cons _ Qg _ HL HB WM=>
 cases WM;obtain⟨G',hph,hG'⟩:=Ot _ _ _ Ap _ _ _ _ p.rel (aaM w s'.w (λb hb=>L.heap b (R6 b hb) hb) L.size U) p.cz p.args;refine hph pr O2 Rd s'.w Cr t2 BB zF Qg (c0::cs) kT (by grind) (hG' _) (λO3 Rd3 w3 Sc t3 rs3 QD xz YO E=>?_);have ah3:∀b,s'.ow b->O3 b=.of 0:=λb hb=>by
  rcases E.own b (hl1.vc b hb) with e|⟨_,i,hi,e⟩
  ·grind
  grind
 have hs3:∀b,aoz Dg O b=.shared->O3 b=.shared:=λb hb=>by
  have h2:=pd b hb;rcases E.own b (kT.lt b (by grind)) with e|⟨_,i,_,e⟩
  ·grind
  grind
 have HF:aU s'.ow (λb=>aoz Dg O b=.shared) s'.w w3:=⟨E.size,λb hb=>E.heap b (hl1.vc b hb),λb hb=>E.heap b (hl1.GG b hb),E.os,E.out,E.tape⟩
 have aa7:gy P Q K (λb=>b<w.heap.size) mi (λx _=>x=.bool true) ρ1 (c1.finish I) [] v1 (Qg.finish I) [] w3:=
  have Z7:CW P Q K ρ1 (c1.finish I) (Qg.finish I) [] []:=⟨HB.finish (hx0 _ _),.nil,jL.same (fr:=c1) (show jL c1 [] from p.bot) (eQ _ _)⟩
  have Cb:=p.rel.agree hl1 HF
  ⟨KB _ _ _ Ap _ _ _ _ p.cz Cb Z7 p.j,p.cz,Cb,Z7,p.j⟩
 have xl:WT Q true (λb=>aoz Dg O b=.shared) (λs=>s.g=LG (c0.finish (.bool true)) cs) ⟨LG (Qg.finish I) ([]++(c0::cs)),w3,s'.ow⟩:=by
  refine aa7.tree hE gp (λ_ _ _ h=>h.elim) (hl1.agree E.size) (Kp:=λ_=>False) (λ_ h=>h.elim) (λc0' Uy e ρ2 x x' v2 w2 PW _ _ _ _ _ _ hv hR _ _ _=>?_) (λe=>by cases e) ?_
  ·cases e;subst hR;cases hv;exact .stop rfl λ_ _=>rfl
  ·intro f' ρ2 xs2 Se v2 ys2 HL w2 PW _ _ _ _ _ _ E0 _;have:=R5 f' E0.j4.1;subst this;exact(NK _ _ _ _ _ E0.runs v2.tape).elim
 refine xz.phase xl YO (aU.refl _ _ _) ah3 hs3 (λZ O5 gs5 t5 Zk Zi Hn xy h05 aad W ho5 Z9 W8 af8 hz5=>?_) QD;have eg5:=Hn Z.w (aU.refl _ _ _);simp only at eg5;have aaW:∀b,b<w.heap.size->Z.w.heap[b]?=w.heap[b]?:=λb hb=>by
  have h1:=L.heap b (R6 b hb) hb;have yx:=abD hb L.size;have h2:=E.heap b yx;have e2:=L.own b hb;have e3:O3 b=O2 b:=by
   rcases E.own b yx with e|⟨_,i,_,e⟩
   ·exact e
   grind
  have h3:=W.heap b (by grind) (abD yx E.size)
  grind
 have V3:w.heap.size<=Z.w.heap.size:=aaY L.size (aaY E.size W.size);refine H (IJ O O5 w.heap.size) Rd3 Z.w gs5 t5 Zk Zi (xy.free (λb _=>?_) (λb hb=>?_) (λc k e=>by cases e)) (by grind) ⟨λb hb=>?_,aaW,V3,W.os.trans (E.os.trans L.os),W.out.trans (E.out.trans L.out),W.tape.trans (E.tape.trans L.tape)⟩
 ·unfold IJ;split
  ·cases O b with
   |of i=>
    grind
   |shared=>grind
   |kept=>grind
  grind
 ·unfold IJ at hb;split at hb
  ·omega
  ·exact xy.lt b hb
 ·unfold IJ;rw[aay hb];cases O b with
  |of i=>
   grind
  |shared=>grind
  |kept=>grind
end
end Go.Proofs.YtjagmhagphbfcaaGreatDoor
namespace Go.Proofs.YtjagmhagphbfcaaGreatDoor
open Go
section
variable{P Q:Program}[Twin P Q]{K:fO}{Sh:Nat->Prop}{R:Value->World->Prop}{St:Frame->List Frame->World->Prop}{kG:Frame}{v0:World}{t t':Nat->Question->Nat}{ρ:Ren}
def FZ(P Q:Program)[Twin P Q](K:fO)(Sh:Nat->Prop)(fr:Frame)(fs:List Frame)(v:World):Prop:=
 J v/\∃ρ fr' eP w0,zo K.g ρ/\cp P K.S (K.CO P) Sh ρ v w0/\CW P Q K ρ fr fr' fs eP
theorem FZ.dI{fr:Frame}{fs:List Frame}{v:World}(h:FZ P Q K Sh fr fs v)(t:Nat->Question->Nat):FZ P Q K Sh fr fs { v with tape:=t } :=
 let ⟨j,ρ,fr',eP,w0,p,hw,hs⟩:=h;⟨j,ρ,fr',eP,w0,p,hw.dI t,hs⟩
def Ti(P:Program)(K:fO)(fr:Frame):Prop:=∃f xs,K.j4 f=true/\fr=Frame.enter P f xs .normal
theorem Kx(O:Env P Q K.S (K.CO P) K.g K.H)(W:∀f,K.j4 f=true->Twin.B P Q f){fr:Frame}{fs:List Frame}{v:World}(h:FZ P Q K Sh fr fs v):
  uW fr fs\/(∃u,m_ P [bz P] (stepG P true (LG fr (fs++ [bz P])) v) u/\J u)\/∃dL dG v1,AQ P fr fs v dL dG v1/\(FZ P Q K Sh dL dG v1\/Ti P K dL):=by
 obtain⟨N,ρ,fr',eP,w0,E,hw,hs⟩:=h;rcases sS O W E (c0:=bz P) (cs:= []) (bs':= [bz P]) hw hs true true with h|⟨u,hu,M⟩|⟨dL,dG,v1,es,e,ht,hm,hb,hg,I,hgo⟩
 ·exact .inl h
 ·grind
 ·refine .inr (.inr ⟨dL,dG,v1,⟨hg.le,I,hm,ht⟩,?_⟩);have Z:=hw.IP (λj q=>v.tape (v.drawn+(j-w0.drawn)) q);obtain⟨_,ρ1,L,Y,w1,es',_,_,_,m2,p,m4,_⟩:=hgo _ Z (λi _ q=>by simp);rcases p with p|⟨f,xs,_,_,U,e,_⟩
  ·exact .inl ⟨hg.j N,ρ1,L,Y,w1,E.mono m2.le,m2.rel.lI,⟨p,m4,hb⟩⟩
  ·exact .inr ⟨f,xs,U.1,e⟩
theorem BA(U:Env P Q K.S (K.CO P) K.g K.H)(hC:eV P St kG v0 R)(N:∀x v t,R x v->R x { v with tape:=t }){n:Nat}{fr:Frame}{fs:List Frame}{v:World}(h:Path P St kG v0 t n fr fs v)(O:FZ P Q K Sh fr fs v)(hend:Fin St fr fs v):
  gu P St R fr fs v:=by
 rcases hend with hend|hend
 case inr=>exact .stop hend
 obtain⟨m,g,gs,u,hr,hg⟩:=hC t;have hle:=h.iV hr (eV.fin hg);obtain⟨Y,hm,hd⟩:=hend;subst Y;obtain⟨hj,ρ,fr',eP,w0,hG,hw,hs⟩:=O;have I:∃f,P.funcs[fr.fn]?=some f:=let ⟨f,_,e,_⟩:=Env.res U hs.top.ok;⟨f,e⟩
 have Z:m=n:=by
  refine Nat.le_antisymm (af2 λaK=>?_) hle;obtain⟨d,rfl⟩:∃d,m=n+(d+1):=⟨m-n-1,by omega⟩
  rw[runN_add n (d+1) h.run] at hr;exact Fv (fr:=fr) ⟨rfl,hm,hd⟩ hs.top.kind.1 I hr
 subst Z;rw[h.run] at hr;simp only[adW] at hr;obtain⟨rfl,E,rfl⟩:=gn hr;have E:=gI E;subst E;rcases hg with hg|⟨_,L,M,p,x,f,W,J,hx⟩
 ·exact .stop hg
 refine .leave hm hd p W λt2=>?_
 have:=jR (P:=P) (Q:=Q) (Sh:=Sh) f hs.top.tmps v w0 hw;rw[J] at this;exact⟨x,_,this.2.2.1 t2 (λi hi yu=>by omega),N _ _ _ hx⟩
structure AT(P Q:Program)[Twin P Q](K:fO)(Sh:Nat->Prop)(St:Frame->List Frame->World->Prop)(R:Value->World->Prop)(kG:Frame)(v0:World) where
 t:Nat->Question->Nat
 n:Nat
 fr:Frame
 fs:List Frame
 v:World
 path:Path P St kG v0 t n fr fs v
 bad:¬gu P St R fr fs v
 inv:FZ P Q K Sh fr fs v\/Ti P K fr
theorem AT.next(N:Env P Q K.S (K.CO P) K.g K.H)(Y:∀f,K.j4 f=true->Twin.B P Q f)(Xb:∀fr,Ti P K fr->∀cs v d m',runN P (d+1) (lone fr cs v)≠.next m')(W:∀fr,Ti P K fr->fr.mode=.run)(hC:eV P St kG v0 R)(Jf:∀fr fs v,St fr fs v->fr.mode=.run)(U:∀x v t,R x v->R x { v with tape:=t })(s:AT P Q K Sh St R kG v0):
  ∃s':AT P Q K Sh St R kG v0,s'.n=s.n+1/\(∀i,i<s.v.drawn->∀q,s'.t i q=s.t i q)/\s.v.drawn<=s'.v.drawn:=by
 obtain⟨t,n,fr,fs,v,path,bad,inv⟩:=s;rcases inv with inv|lM
 case inr=>
  exfalso;obtain⟨m,g,gs,w,hr,hg⟩:=hC t;have hle:=path.iV hr (eV.fin hg);by_cases M:m=n
  ·subst M;rw[path.run] at hr;simp only[adW] at hr;obtain⟨rfl,p,rfl⟩:=gn hr;have p:=gI p;subst p;rcases hg with hg|⟨_,h2,_⟩
   ·exact bad (.stop hg)
   simp_all
  ·obtain⟨d,rfl⟩:∃d,m=n+(d+1):=⟨m-n-1,by omega⟩
   rw[runN_add n (d+1) path.run] at hr
   simp_all
 have cr:¬Fin St fr fs v:=λh=>bad (BA N hC U path inv h)
 have L:∃t1:Nat->Question->Nat,¬ ∃dL dG v1,(∃es,stepG P true (LG fr (fs++ [bz P])) { v with tape:=t1 } =.go (LG dL (dG++ [bz P])) v1 es)/\(dL.mode=.run\/dL.mode=.returning)/\gu P St R dL dG v1:=by
  refine aaO λC4=>bad ?_
  have E:∀t1:Nat->Question->Nat,∃dL dG v1,(∃es,stepG P true (LG fr (fs++ [bz P])) { v with tape:=t1 } =.go (LG dL (dG++ [bz P])) v1 es)/\(dL.mode=.run\/dL.mode=.returning)/\gu P St R dL dG v1:=
   λt1=>aaO λh=>C4 ⟨t1,h⟩
  exact .step (λh=>cr (.inl h)) (λt=>(E t).choose) (λt=>(E t).choose_spec.choose) (λt=>(E t).choose_spec.choose_spec.choose)
   (λt=>⟨(E t).choose_spec.choose_spec.choose_spec.1,(E t).choose_spec.choose_spec.choose_spec.2.1⟩) (λt=>(E t).choose_spec.choose_spec.choose_spec.2.2)
 obtain⟨t1,L⟩:=L
 let t2:Nat->Question->Nat:=λi q=>if i<v.drawn then t i q else t1 i q
 have h2:∀i,i<v.drawn->∀q,t2 i q=t i q:=λi hi q=>aay hi
 have Xk:∀i,v.drawn<=i->∀q,t1 i q=t2 i q:=λi hi q=>by grind
 have I:=path.dI h2;have inv2:=inv.dI t2;rcases Kx N Y inv2 with h|⟨u,hu,O⟩|⟨dL,dG,v1,hs,hi⟩
 ·exact absurd (.inl h) cr
 ·exfalso;obtain⟨m,g,gs,w,hr,hg⟩:=hC t2;have hle:=I.iV hr (eV.fin hg);have J:g.mode=.run\/g.mode=.returning:=hg.elim (λh=>.inl (Jf _ _ _ (h w.tape))) (λh=>.inr h.2.1);by_cases M:m=n
  ·subst M;rw[I.run] at hr;simp only[adW] at hr;obtain⟨rfl,p,Z⟩:=gn hr;have p:=gI p;subst p;refine cr ?_;have:=eV.fin hg;rw[<-Z] at this;exact this
  ·obtain⟨d,rfl⟩:∃d,m=n+(d+1):=⟨m-n-1,by omega⟩
   rw[runN_add n (d+1) I.run] at hr;rcases hu with ⟨o,u',es,e⟩|⟨dL,dG,ch,es,e,hm,hp⟩
   ·rw[ky (step_end e)] at hr;cases hr
   ·rw[ff (jQ e)] at hr;exact IW d dL dG ch u hm hp O g gs w J hr
 ·refine⟨⟨t2,n+1,dL,dG,v1,.succ I cr hs,λhrun=>L ?_,hi⟩,rfl,h2,hs.1⟩;obtain⟨es,e⟩:=hs.2.2.2 t1 (λi hi _ q=>Xk i hi q);exact⟨dL,dG,_,⟨es,e⟩,hs.2.2.1,hrun.dI t1⟩
theorem DV(M:Env P Q K.S (K.CO P) K.g K.H)(N:∀f,K.j4 f=true->Twin.B P Q f)(O:∀fr,Ti P K fr->∀cs v d m',runN P (d+1) (lone fr cs v)≠.next m')(p:∀fr,Ti P K fr->fr.mode=.run)(hC:eV P St kG v0 R)(W:∀fr fs v,St fr fs v->fr.mode=.run)(J:∀x v t,R x v->R x { v with tape:=t })(L:FZ P Q K Sh kG [] v0):gu P St R kG [] v0:=by
 classical
 refine aaO λY=>?_
 let s0:AT P Q K Sh St R kG v0:=⟨v0.tape,0,kG,[],v0,.zero,Y,.inl L⟩
 have hnx:=λs:AT P Q K Sh St R kG v0=>s.next M N O p hC W J
 let seq:Nat->AT P Q K Sh St R kG v0:=λn=>Nat.rec s0 (λ_ s=>(hnx s).choose) n
 have Z:∀n,(seq (n+1)).n=(seq n).n+1/\(∀i,i<(seq n).v.drawn->∀q,(seq (n+1)).t i q=(seq n).t i q)/\(seq n).v.drawn<=(seq (n+1)).v.drawn:=λn=>(hnx (seq n)).choose_spec
 have hn:∀n,(seq n).n=n:=by
  intro n
  induction n with
  |zero=>rfl
  |succ n E=>simp_all
 have EK:∀n d,(seq n).v.drawn<=(seq (n+d)).v.drawn/\∀i,i<(seq n).v.drawn->∀q,(seq (n+d)).t i q=(seq n).t i q:=by
  intro n d
  induction d with
  |zero=>simp_all
  |succ d E=>
   grind
 have F8:∀n m i q,i<(seq n).v.drawn->i<(seq m).v.drawn->(seq n).t i q=(seq m).t i q:=by
  intro n m i q h1 h2;rcases Nat.le_total n m with h|h
  ·obtain⟨d,rfl⟩:=afu h
   simp_all
  ·obtain⟨d,rfl⟩:=afu h
   simp_all
 let T:Nat->Question->Nat:=λi q=>if h:∃n,i<(seq n).v.drawn then(seq h.choose).t i q else 0
 have I:∀n i,i<(seq n).v.drawn->∀q,T i q=(seq n).t i q:=by
  intro n i hi q;have h:∃n,i<(seq n).v.drawn:=⟨n,hi⟩
  grind
 obtain⟨m,g,gs,u,hr,hg⟩:=hC T;have hp:=(seq (m+1)).path;have U:=hp.dI (t':=T) (I (m+1));have h1:=U.iV hr (eV.fin hg)
 grind
end
end Go.Proofs.YtjagmhagphbfcaaGreatDoor
