/- Lemmas, part 10. -/
import Derived.Laws.AppendOwn
import Derived.Orders
import Derived.Test.YtjagmhagphbfcaaGreatDoorO09
set_option maxRecDepth 100000
set_option linter.all false
namespace Go.Proofs.YtjagmhagphbfcaaGreatDoor
def acF:=@List.getElem?_take
def adv:=@Nat.lt_or_ge
open Go Go.Proofs
inductive AV:Type
 |i (k:IntKind) (n:Int)
 |b (t:Bool)
 |s (l:List UInt8)
 |v (x:Value)
 |sq (c:Option Nat) (k:Nat) (cells:List AV)
 |sp (cells:List AV)
 |bx (id off:Nat)
 |ag (cells:List AV)
 |tu (vs:List AV)
 |fn (f:FuncId) (first cap:List AV)
 |mm (d:Value->Option AV)
 |any
instance:Inhabited AV:=⟨.b false⟩
structure Gh where
 hw:Nat->Nat
 aD:Nat->Option (Value->Option AV)
 ex:(Nat->Nat)->(Nat->Option (Value->Option AV))->World->Prop:=λ_ _ _=>True
 iF:Nat->Option Nat:=λ_=>none
abbrev sv(l:List UInt8):Value:=.string ⟨l.toArray⟩
inductive Rd(g:Gh)(w:World):AV->Value->Prop
 |i (k n):Rd g w (.i k n) (.int k n)
 |b (t):Rd g w (.b t) (.bool t)
 |s (l):Rd g w (.s l) (sv l)
 |v (x):Rd g w (.v x) x
 |nil (c k):Rd g w (.sq c k []) (.slice none 0 0)
 |sq (c k) (cells:List AV) (b o n m:Nat) (ys:List Value):0<k->ys.length=cells.length->cells.length=n*k->n<=m->(∀y∈ys,y.oneCell'=true)->
   (∀j y,ys[j]?=some y->o+j<g.hw b/\w.cell? ⟨b,o+j,none⟩=some y)->(∀(j:Nat) (a:AV) (y:Value),cells[j]?=some a->ys[j]?=some y->Rd g w a y)->
   Rd g w (.sq c k cells) (.slice (some ⟨b,o,none⟩) n m)
 |sp (cells:List AV) (b o:Nat) (ys:List Value):ys.length=cells.length->(∀y∈ys,y.oneCell'=true)->
   (∀j y,ys[j]?=some y->o+j<g.hw b/\w.cell? ⟨b,o+j,none⟩=some y)->(∀(j:Nat) (a:AV) (y:Value),cells[j]?=some a->ys[j]?=some y->Rd g w a y)->
   Rd g w (.sp cells) (.pointer (some ⟨b,o,none⟩))
 |ag (cells:List AV) (ys:List Value):ys.length=cells.length->(∀y∈ys,y.oneCell'=true)->(∀(j:Nat) (a:AV) (y:Value),cells[j]?=some a->ys[j]?=some y->Rd g w a y)->Rd g w (.ag cells) (.agg ys.toArray)
 |tu (cells:List AV) (ys:List Value):ys.length=cells.length->(∀(j:Nat) (a:AV) (y:Value),cells[j]?=some a->ys[j]?=some y->Rd g w a y)->Rd g w (.tu cells) (.tuple ys.toArray)
 |fn (f) (l1 l2:List AV) (y1 y2:List Value):y1.length=l1.length->y2.length=l2.length->(∀(j:Nat) (a:AV) (y:Value),l1[j]?=some a->y1[j]?=some y->Rd g w a y)->
   (∀(j:Nat) (a:AV) (y:Value),l2[j]?=some a->y2[j]?=some y->Rd g w a y)->Rd g w (.fn f l1 l2) (.func (.func f) y1.toArray y2.toArray)
 |mm (d) (b:Nat):g.aD b=some d->Rd g w (.mm d) (.map (some b))
 |any (y):Rd g w .any y
def cS(g:Gh)(w:World)(la:List AV)(ys:List Value):Prop:=ys.length=la.length/\∀(j:Nat) (a:AV) (y:Value),la[j]?=some a->ys[j]?=some y->Rd g w a y
theorem cS.nil(g:Gh)(w:World):cS g w [] []:=⟨rfl,λ_ _ _ h=>by simp at h⟩
theorem cS.cons{g:Gh}{w:World}{a:AV}{y:Value}{la:List AV}{ys:List Value}(h:Rd g w a y)(hs:cS g w la ys):cS g w (a::la) (y::ys):=by
 refine⟨by simp[hs.1],λj=>?_⟩;cases j with
 |zero=>intro a' p h1 h2;simp at h1 h2;subst h1;subst h2;exact h
 |succ j=>intro a' p h1 h2;exact hs.2 j a' p (by simpa using h1) (by simpa using h2)
theorem cS.dX{g:Gh}{w:World}{a:AV}{la:List AV}{ys:List Value}(h:cS g w (a::la) ys):∃y ys',ys=y::ys'/\Rd g w a y/\cS g w la ys':=by
 obtain⟨h1,h2⟩:=h;cases ys with
 |nil=>simp at h1
 |cons y ys'=>exact⟨y,ys',rfl,h2 0 a y rfl rfl,by simpa using h1,λj a' p H E=>h2 (j+1) a' p (by simpa using H) (by simpa using E)⟩
theorem cS.nE{g:Gh}{w:World}{ys:List Value}(h:cS g w [] ys):ys= []:=abA h.1
theorem cS.append{g:Gh}{w:World}{la bs:List AV}{ys p:List Value}(h:cS g w la ys)(k:cS g w bs p):cS g w (la++bs) (ys++p):=by
 induction la generalizing ys with
 |nil=>cases h.nE;exact k
 |cons a la E=>obtain⟨y,ys',rfl,h1,h2⟩:=h.dX;exact .cons h1 (E h2)
theorem cS.drop{g:Gh}{w:World}{la:List AV}{ys:List Value}(h:cS g w la ys)(n:Nat):cS g w (la.drop n) (ys.drop n):=
 ⟨by simp[h.1],λj a y h1 h2=>h.2 (n+j) a y (by simpa using h1) (by simpa using h2)⟩
theorem cS.take{g:Gh}{w:World}{la:List AV}{ys:List Value}(h:cS g w la ys)(n:Nat):cS g w (la.take n) (ys.take n):=
 ⟨by simp[h.1],λj a y h1 h2=>by
  rw[acF] at h1 h2;split at h1
  ·rename_i p;rw[aay p] at h2;exact h.2 j a y h1 h2
  ·cases h1⟩
theorem cS.get{g:Gh}{w:World}{la:List AV}{ys:List Value}(h:cS g w la ys){j:Nat}{a:AV}(ha:la[j]?=some a):∃y,ys[j]?=some y/\Rd g w a y:=by
 have E:j<la.length:=(abi.1 ha).1;have p:j<ys.length:=by rw[h.1];exact E
 exact⟨ys[j],aaf p,h.2 j a _ ha (aaf p)⟩
theorem cS.set{g:Gh}{w:World}{la:List AV}{ys:List Value}(h:cS g w la ys){a:AV}{y:Value}(n:Nat)(k:Rd g w a y):cS g w (la.set n a) (ys.set n y):=
 ⟨by simp[h.1],λj a' p h1 h2=>by
  rw[List.getElem?_set] at h1 h2;by_cases e:n=j
  ·subst e;rw[aay rfl] at h1 h2;split at h1
   ·split at h2
    ·cases h1;cases h2;exact k
    ·cases h2
   ·cases h1
  ·rw[aat e] at h1 h2;exact h.2 j a' p h1 h2⟩
def U2:Obj->Bool
 | .loop _=>true
 | .deferred _=>true
 | .stringIter .. =>true
 |_=>false
structure Th(g g':Gh)(w w':World):Prop where
 size:w.heap.size<=w'.heap.size
 hw:∀b,g.hw b<=g'.hw b
 cell:∀b o,o<g.hw b->w'.cell? ⟨b,o,none⟩=w.cell? ⟨b,o,none⟩
 aD:∀b d,g.aD b=some d->g'.aD b=some d
structure Lw(g g':Gh)(w w':World):Prop where
 size:w.heap.size<=w'.heap.size
 hw:∀b,g.hw b<=g'.hw b
 cell:∀b o,o<g.hw b->w'.cell? ⟨b,o,none⟩=w.cell? ⟨b,o,none⟩
 aD:∀b d,g.aD b=some d->g'.aD b=some d
 os:w'.os=w.os
 tape:w'.tape=w.tape
 output:w'.output=w.output
 obj:∀(b:Nat) (o:Obj),w.heap[b]?=some o->U2 o=true->w'.heap[b]?=some o
theorem Lw.to0{g g':Gh}{w w':World}(h:Lw g g' w w'):Th g g' w w':=⟨h.size,h.hw,h.cell,h.aD⟩
theorem Lw.refl(g:Gh)(w:World):Lw g g w w:=⟨aax _,λ_=>aax _,λ_ _ _=>rfl,λ_ _ h=>h,rfl,rfl,rfl,λ_ _ h _=>h⟩
theorem Lw.trans{g1 g2 g3:Gh}{w1 w2 w3:World}(h:Lw g1 g2 w1 w2)(k:Lw g2 g3 w2 w3):Lw g1 g3 w1 w3:=
 ⟨aaY h.size k.size,λb=>aaY (h.hw b) (k.hw b),λb o ho=>(k.cell b o (abD ho (h.hw b))).trans (h.cell b o ho),λb d e=>k.aD b d (h.aD b d e),k.os.trans h.os,k.tape.trans h.tape,k.output.trans h.output,λb o e hs=>k.obj b o (h.obj b o e hs) hs⟩
theorem Rd.wZ{g g':Gh}{w w':World}(H:Th g g' w w'){a:AV}{y:Value}(h:Rd g w a y):Rd g' w' a y:=by
 induction h with
 |i k n=>exact .i k n
 |b t=>exact .b t
 |s l=>exact .s l
 |v x=>exact .v x
 |nil c k=>exact .nil c k
 |sq c k cells b o n m ys h0 h1 h2 J I E _ p=>exact .sq c k cells b o n m ys h0 h1 h2 J I (λj y e=>⟨abD (E j y e).1 (H.hw b),(H.cell b _ (E j y e).1).trans (E j y e).2⟩) p
 |sp cells b o ys h1 I E _ p=>exact .sp cells b o ys h1 I (λj y e=>⟨abD (E j y e).1 (H.hw b),(H.cell b _ (E j y e).1).trans (E j y e).2⟩) p
 |ag cells ys h1 I _ p=>exact .ag cells ys h1 I p
 |tu cells ys h1 _ p=>exact .tu cells ys h1 p
 |fn f l1 l2 y1 y2 h1 h2 _ _ ih1 ih2=>exact .fn f l1 l2 y1 y2 h1 h2 ih1 ih2
 |mm d b h=>exact .mm d b (H.aD b d h)
 |any y=>exact .any y
theorem Rd.mono{g g':Gh}{w w':World}(p:Lw g g' w w'){a:AV}{y:Value}(h:Rd g w a y):Rd g' w' a y:=h.wZ p.to0
theorem cS.mono{g g':Gh}{w w':World}(p:Lw g g' w w'){la:List AV}{ys:List Value}(h:cS g w la ys):cS g' w' la ys:=⟨h.1,λj a y h1 h2=>(h.2 j a y h1 h2).mono p⟩
theorem Rd.tok{g:Gh}{w:World}{c c':Option Nat}{k:Nat}{cells:List AV}{y:Value}(h:Rd g w (.sq c k cells) y):Rd g w (.sq c' k cells) y:=by
 cases h with
 |nil=>exact .nil _ _
 |sq _ _ _ b o n m ys h0 h1 h2 I H E p=>exact .sq _ _ _ b o n m ys h0 h1 h2 I H E p
def KX:Nat->Nat->Option Value
 |0,0=>some (.func (.func 255) #[] #[])
 |0,1=>some (.func (.func 256) #[] #[])
 |0,2=>some (.func (.func 257) #[] #[])
 |_,_=>none
def LJ(g:Gh)(w:World):Prop:=∀b o v,KX b o=some v->o<g.hw b/\w.cell? ⟨b,o,none⟩=some v
theorem LJ.mono{g g':Gh}{w w':World}(p:Lw g g' w w')(h:LJ g w):LJ g' w':=λb o v e=>⟨abD (h b o v e).1 (p.hw b),(p.cell b o (h b o v e).1).trans (h b o v e).2⟩
structure WI(g:Gh)(w:World):Prop where
 out:∀b,w.heap.size<=b->g.hw b=0/\g.aD b=none
 aD:∀b d,g.aD b=some d->∃es ck,w.heap[b]?=some (.map es ck)/\∀e∈es,∃a,d e.key=some a/\Rd g w a e.val
 cz:LJ g w
theorem WI.lt{g:Gh}{w:World}(h:WI g w){b:Nat}(hb:0<g.hw b):b<w.heap.size:=by
 rcases adv b w.heap.size with h1|h1
 ·exact h1
 ·have:=(h.out b h1).1;omega
structure anw(g g':Gh)(w w':World):Prop where
 block:∀b,b<w.heap.size->g.aD b=none->w'.heap[b]?=w.heap[b]?
 hw:∀b,b<w.heap.size->g'.hw b=g.hw b
 aD:∀b,b<w.heap.size->g'.aD b=g.aD b
theorem anw.refl(g:Gh)(w:World):anw g g w w:=⟨λ_ _ _=>rfl,λ_ _=>rfl,λ_ _=>rfl⟩
theorem anw.trans{g1 g2 g3:Gh}{w1 w2 w3:World}(h:anw g1 g2 w1 w2)(hs:w1.heap.size<=w2.heap.size)(k:anw g2 g3 w2 w3):anw g1 g3 w1 w3:=
 ⟨λb hb hm=>(k.block b (by omega) ((h.aD b hb).trans hm)).trans (h.block b hb hm),λb hb=>(k.hw b (by omega)).trans (h.hw b hb),λb hb=>(k.aD b (by omega)).trans (h.aD b hb)⟩
def anC(g:Gh)(w:World)(B:Nat)(res:AV)(y:Value):Prop:=
 match res with
 | .sq (some e) k _=>∃n ys,w.ownsRow B e k y n ys/\∀c,y.ownBlock=some c->g.hw c=n*k
 |_=>True
def aq(P:Program)(f:FuncId)(args:List AV)(res:AV):Prop:=
 ∀g w ys,WI g w->cS g w args ys->Calls P f ys.toArray w λe w'=>∃y g',e=.returned y/\Lw g g' w w'/\WI g' w'/\anw g g' w w'/\Rd g' w' res y/\anC g' w' w.heap.size res y
def AV.strip:AV->AV
 | .sq _ k l=>.sq none k l
 |a=>a
@[simp] theorem adp (k n):(AV.i k n).strip=.i k n:=rfl
@[simp] theorem adq (t):(AV.b t).strip=.b t:=rfl
@[simp] theorem ado (l):(AV.s l).strip=.s l:=rfl
@[simp] theorem adn (x):(AV.v x).strip=.v x:=rfl
@[simp] theorem Za (c k l):(AV.sq c k l).strip=.sq none k l:=rfl
@[simp] theorem Zb (l):(AV.sp l).strip=.sp l:=rfl
@[simp] theorem Ze (i o):(AV.bx i o).strip=.bx i o:=rfl
@[simp] theorem Zf (l):(AV.ag l).strip=.ag l:=rfl
@[simp] theorem Y_ (l):(AV.tu l).strip=.tu l:=rfl
@[simp] theorem Zd (f l m):(AV.fn f l m).strip=.fn f l m:=rfl
@[simp] theorem Zc (d):(AV.mm d).strip=.mm d:=rfl
@[simp] theorem Yg:(AV.any).strip=.any:=rfl
structure AS where
 T:Nat->AV
 B:Nat->Option (Bool×List AV)
 lv:Nat->Option TypeId
 nx:Nat
 n:Nat
def Lo{β:Type}(f:Nat->β)(d:Nat)(x:β):Nat->β:=λj=>if j=d then x else f j
@[simp] theorem bc {β:Type} (f:Nat->β) (d:Nat) (x:β):Lo f d x d=x:=by simp[Lo]
@[simp] theorem aL {β:Type} (f:Nat->β) (d:Nat) (x:β) (j:Nat) (h:j≠d):Lo f d x j=f j:=by grind [Lo]
def vV:Value->AV
 | .int k n=>.i k n
 | .bool t=>.b t
 | .string x=>.s x.data.toList
 | .slice none 0 0=>.sq none 0 []
 |x=>.v x
@[simp] theorem adl (k n):vV (.int k n)=.i k n:=rfl
@[simp] theorem Y2 (t):vV (.bool t)=.b t:=rfl
@[simp] theorem UM (x):vV (.string x)=.s x.data.toList:=rfl
@[simp] theorem Ye:vV (.slice none 0 0)=.sq none 0 []:=rfl
def AS.ev(s:AS):Operand->AV
 | .tmp t=>s.T t
 | .const v=>vV v
 | .global g=>.v (.pointer (some ⟨g,0,none⟩))
 | .func f=>.fn f [] []
@[simp] theorem HQ (s:AS) (t):s.ev (.tmp t)=s.T t:=rfl
@[simp] theorem aci (s:AS) (t):s.ev (.const t)=vV t:=rfl
@[simp] theorem aeK (s:AS) (t):s.ev (.func t)=.fn t [] []:=rfl
def aQ(P:Program)(t:TypeId):Nat:=((P.info? t).map (·.size)).getD 0
def qM(P:Program)(t:TypeId):Nat:=((P.info? t).map (·.bytes)).getD 0
def fv(P:Program)(t:TypeId):Option Bool:=(P.underlying t).map fun| .struct _| .array .. =>true|_=>false
def bL(P:Program)(e:TypeId):Bool:=match P.info? e with
 |some i=>match i.zero with
  |some z=>z.cells.size==i.size&&decide (0<i.size)
  |none=>false
 |none=>false
def ku(P:Program)(t:TypeId):Bool:=match P.underlying t with
 |some (.struct fs)=>fs.all λf=>(P.info? f.type).isSome
 |some (.array _ e)=>(P.info? e).isSome
 |_=>false
def gY(P:Program)(t:TypeId):Option TypeId:=match P.underlying t with|some (.slice e)=>some e|_=>none
def jP(P:Program)(t:TypeId):Option (Nat×TypeId):=match P.underlying t with|some (.array n e)=>some (n,e)|_=>none
def jd(P:Program)(t:TypeId):Bool:=match P.underlying t with|some .string=>true|_=>false
def nG(P:Program)(t:TypeId):Option IntKind:=match P.underlying t with|some (.int k)=>some k|_=>none
def eW(P:Program)(t:TypeId)(f:Nat):Option (Nat×TypeId):=match P.underlying t with|some (.struct fs)=>(fs[f]?).bind λx=>if 0<aQ P x.type then some (x.offset,x.type) else none|_=>none
def dH(P:Program)(t:TypeId)(i:Nat):Option (Nat×Nat):=match P.underlying t with
 |some (.struct fs)=>(fs[i]?).map λx=>(x.offset,aQ P x.type)
 |some (.array _ e)=>some (i*aQ P e,aQ P e)
 |_=>none
def anE(P:Program)(t:TypeId):Option (List AV):=((P.info? t).bind (·.zero)).bind λz=>if z.cells.toList.all Value.oneCell'=true then some (z.cells.toList.map vV) else none
def eU:AV->Option (List AV)
 | .ag l=>some (l.map AV.strip)
 | .tu _| .v _| .bx _ _| .any=>none
 |a=>some [a]
@[simp] theorem acR (k n):eU (.i k n)=some [.i k n]:=rfl
@[simp] theorem acS (t):eU (.b t)=some [.b t]:=rfl
@[simp] theorem acQ (t):eU (.s t)=some [.s t]:=rfl
@[simp] theorem YR (c k t):eU (.sq c k t)=some [.sq c k t]:=rfl
@[simp] theorem YS (t):eU (.sp t)=some [.sp t]:=rfl
@[simp] theorem YV (t):eU (.ag t)=some (t.map AV.strip):=rfl
@[simp] theorem YU (f t u):eU (.fn f t u)=some [.fn f t u]:=rfl
@[simp] theorem YT (t):eU (.mm t)=some [.mm t]:=rfl
def lay(l:List AV)(o:Nat)(m:List AV):List AV:=l.take o++m++l.drop (o+m.length)
def ub(P:Program)(t:TypeId):Bool:=match P.underlying t with|some .bool=>true|_=>false
def akC(P:Program)(t:TypeId):Bool:=match P.underlying t with
 |some (.struct fs)=> !P.stoodInHeld t&& !P.eqGuardType P.depth t&&(match fs.toList with
  | [f,p]=>f.name != "_" &&p.name != "_" &&f.offset==0&&p.offset==1&&jd P f.type&&P.cellsOf p.type==2&&(P.info? p.type).isSome&&(match P.underlying p.type with
   |some (.struct gs)=> !P.stoodInHeld p.type&&(match gs.toList with
    | [q,E]=>q.name != "_" &&E.name != "_" &&q.offset==0&&E.offset==1&&(nG P q.type).isSome&&(nG P E.type).isSome
    |_=>false)
   |_=>false)
  |_=>false)
 |_=>false
def iY:List AV->Option (List UInt8)
 | []=>some []
 | .i .u8 n::r=>if 0<=n/\n<256 then(iY r).map (UInt8.ofNat n.toNat:: ·) else none
 |_::_=>none
def aq8(P:Program)(t:TypeId):Option Nat:=match P.underlying t with
 |some (.array n e)=>if P.eqGuardType P.depth t=false/\nG P e=some .u8/\P.cellsOf e=1/\(P.info? e).isSome then some n else none
 |_=>none
def JC(op:BinOp)(k:IntKind)(a b:Int):Option AV:=
 match op with
 | .add=>some (.i k (k.wrap (a+b)))
 | .sub=>some (.i k (k.wrap (a-b)))
 | .mul=>some (.i k (k.wrap (a*b)))
 | .quo=>if b=0 then none else some (.i k (k.wrap (a.tdiv b)))
 | .rem=>if b=0 then none else some (.i k (a.tmod b))
 | .eql=>some (.b (a==b))
 | .neq=>some (.b (a !=b))
 | .lss=>some (.b (decide (a<b)))
 | .leq=>some (.b (decide (a<=b)))
 | .gtr=>some (.b (decide (a>b)))
 | .geq=>some (.b (decide (a>=b)))
 | .shl=>if b<0 then none else some (.i k (k.wrap (a*2^(min b.toNat k.bits))))
 | .shr=>if b<0 then none else some (.i k (a.fdiv (2^(min b.toNat k.bits))))
 | .and=>some (.i k (k.wrap ((BitVec.ofInt k.bits a&&&BitVec.ofInt k.bits b).toNat)))
 |_=>none
def JB(op:BinOp)(a b:List UInt8):Option AV:=
 match op with
 | .add=>if((a.length+b.length:Nat):Int)>IntKind.i64.max then none else some (.s (a++b))
 | .eql=>some (.b (a==b))
 | .neq=>some (.b (!(a==b)))
 | .lss=>some (.b (Op.bytesLess a b))
 |_=>none
def PO(op:BinOp)(a b:Bool):Option AV:=
 match op with
 | .eql=>some (.b (a==b))
 | .neq=>some (.b (!(a==b)))
 |_=>none
def akQ(op:BinOp)(a b:List AV):Option AV:=
 match a,b with
 | [.s a,.i k x,.i q y],[.s b,.i k' x',.i E p]=>if k=k'/\q=E then(match op with
  | .eql=>some (.b (a==b&&(x==x'&&y==p)))
  | .neq=>some (.b (!(a==b&&(x==x'&&y==p))))
  |_=>none) else none
 |_,_=>none
def asF(op:BinOp)(n:Nat)(a b:List AV):Option AV:=(iY a).bind λx=>(iY b).bind λy=>if x.length=n/\y.length=n then(match op with
  | .eql=>some (.b (x==y))
  | .neq=>some (.b (!(x==y)))
  |_=>none) else none
def alD(op:BinOp)(k:IntKind)(a b:Int):Option AV:=
 match op with
 | .shl=>JC .shl k a b
 | .shr=>JC .shr k a b
 |_=>none
def PQ(tb E:Bool)(p:Option Nat)(op:BinOp)(x y:AV):Option AV:=
 match x,y with
 | .i k a,.i k' b=>if k=k' then JC op k a b else alD op k a b
 | .s a,.s b=>JB op a b
 | .b a,.b b=>if tb=true then PO op a b else none
 | .ag a,.ag b=>if E=true then akQ op a b else p.bind λn=>asF op n a b
 |_,_=>none
def gV:AV->Option Int
 | .i _ n=>some n
 |_=>none
@[simp] theorem ajd (k n):gV (.i k n)=some n:=rfl
def fu(s:AS)(len:Nat)(p hi:Option Operand):Option (Nat×Nat):=
  match hi with
  |none=>match p with
    |none=>some (0,len)
    |some l=>(gV (s.ev l)).bind λa=>if 0<=a/\a<=len then some (a.toNat,len) else none
  |some h=>(gV (s.ev h)).bind λb=>if 0<=b/\b<=len then
      (match p with
       |none=>some (0,b.toNat)
       |some l=>(gV (s.ev l)).bind λa=>if 0<=a/\a<=b then some (a.toNat,b.toNat) else none) else none
def cW(P:Program)(t:TypeId)(cells:List AV):Option AV:=
 match fv P t with
 |some true=>if aQ P t<=cells.length then some (.ag (cells.take (aQ P t))) else none
 |some false=>cells[0]?
 |none=>none
def sC(P:Program)(t:TypeId):List AV->List (Nat×AV)->Option (List AV)
 |cells,[]=>some cells
 |cells,(i,a)::rest=>
  match dH P t i,eU a with
  |some (off,size),some l=>if l.length≠size\/off+l.length>cells.length then none else sC P t (lay cells off l) rest
  |_,_=>none
def sx(k:Nat):Nat->List (Nat×AV)->Option (List AV)
 |_,[]=>some []
 |j,(i,a)::rest=>
  match eU a with
  |some l=>if i=j/\l.length=k then(sx k (j+1) rest).map (l++ ·) else none
  |none=>none
structure jA where
 kill:Option Nat:=none
 made:Option TypeId:=none
 bx:Option (Nat×(Bool×List AV)):=none
 pL:List Nat:= []
structure qd where
 fn:FuncId->List AV->Option AV
 ac:FuncId->List AV->Option (List AV):=λ_ _=>none
 ty:TypeId:=0
 bo:Nat:=0
 a2:FuncId->List AV->List AV->Option (List AV×AV):=λ_ _ _=>none
 b1:Nat:=0
 rc:Gh->World->Prop:=λ_ _=>True
instance:CoeFun qd (λ_=>FuncId->List AV->Option AV):=⟨qd.fn⟩
def CU(s:AS):AV->Option (AV×List Nat)
 | .bx id 0=>match s.B id with
  |some (_,cells)=>some (.sp cells,[id])
  |none=>none
 | .bx _ (_+1)=>none
 |a=>some (a.strip,[])
def jv(s:AS):List Operand->Option (List AV×List Nat)
 | []=>some ([],[])
 |x::r=>(CU s (s.ev x)).bind λ(a,l)=>(jv s r).map λ(p,l')=>(a::p,l++l')
def jH(P:Program)(nx i:Nat):AV->Option (AV×jA)
 | .sq (some e) k l=>if k=aQ P e then some (.sq (some (nx+i)) k l,{ made:=some e }) else none
 |a=>some (a,{})
@[simp] theorem XJ (P) (nx i k n):jH P nx i (.i k n)=some (.i k n,{}):=rfl
@[simp] theorem XK (P) (nx i t):jH P nx i (.b t)=some (.b t,{}):=rfl
@[simp] theorem XI (P) (nx i t):jH P nx i (.s t)=some (.s t,{}):=rfl
@[simp] theorem SV (P) (nx i k t):jH P nx i (.sq none k t)=some (.sq none k t,{}):=rfl
@[simp] theorem SU (P) (nx i t):jH P nx i (.tu t)=some (.tu t,{}):=rfl
@[simp] theorem SW (P) (nx i t):jH P nx i (.ag t)=some (.ag t,{}):=rfl
def AV.jh:AV->Bool
 | .bx _ _=>false
 |_=>true
@[simp] theorem afz (k n):(AV.i k n).jh=true:=rfl
@[simp] theorem afA (t):(AV.b t).jh=true:=rfl
@[simp] theorem afy (t):(AV.s t).jh=true:=rfl
@[simp] theorem afx (t):(AV.v t).jh=true:=rfl
@[simp] theorem adO (c k t):(AV.sq c k t).jh=true:=rfl
@[simp] theorem adP (t):(AV.sp t).jh=true:=rfl
@[simp] theorem adS (t):(AV.ag t).jh=true:=rfl
@[simp] theorem adN (t):(AV.tu t).jh=true:=rfl
@[simp] theorem adR (f t u):(AV.fn f t u).jh=true:=rfl
@[simp] theorem adQ (t):(AV.mm t).jh=true:=rfl
def It(f:Int->Int->Int):AV->AV->Option AV
 | .i k a,.i k' b=>if k=k' then some (.i k (f a b)) else none
 |_,_=>none
open Classical in
noncomputable def CV(P:Program)(e:TypeId)(s:AS)(i:Nat)(r:List AV):Option (AV×jA):=match s.B 0 with
 |some (false,[.sq (some τ) k l])=>if k=aQ P e/\s.lv τ=some e/\(∀id,id≠0->s.B id=none)/\(∀σ,σ≠τ->s.lv σ=none)/\l.length+r.length<=1099511627776 then
   some (.tu [],{ bx:=some (0,(false,[.sq (some (s.nx+i)) k (l++r)])),kill:=some τ,made:=some e }) else none
 |_=>none
open Classical in
noncomputable def sE(P:Program)(e:TypeId)(s:AS)(i:Nat)(x:List AV×AV):Option (AV×jA):=match s.B 0 with
 |some (false,[.sq (some τ) k l])=>if k=aQ P e/\s.lv τ=some e/\(∀id,id≠0->id≠1->s.B id=none)/\(∀σ,σ≠τ->s.lv σ=none)/\l.length+x.1.length<=1099511627776 then
   some (x.2.strip,{ bx:=some (0,(false,[.sq (some (s.nx+i)) k (l++x.1)])),kill:=some τ,made:=some e }) else none
 |_=>none
noncomputable def mY(P:Program)(tb:qd)(s:AS)(i:Nat)(f:FuncId)(args:List AV):Option (Bool×List AV)->Option (AV×jA)
 |none=>(tb.ac f args).bind (CV P tb.ty s i)
 |some (false,wd)=>(tb.a2 f args wd).bind (sE P tb.ty s i)
 |some (true,_)=>none
noncomputable def gX(P:Program)(tb:qd)(mt:Nat->Bool)(dsts:Nat->Option Nat)(i:Nat)(o:Oper)(s:AS):Option (AV×jA):=
 let p (a:AV):Option (AV×jA):=some (a,{})
 match o.op with
 | .move x=>p (s.ev x)
 | .assign x=>
  match x with
  | .const (.slice none 0 0)=>(gY P o.type).bind λe=>some (.sq (some (s.nx+i)) (aQ P e) [],{ made:=some e })
  |x=>p (s.ev x)
 | .pick c a b=>match s.ev c with
  | .b t=>p (if t then s.ev a else s.ev b)
  |_=>none
 | .binOp op t x y _=>(PQ (ub P t) (akC P t) (aq8 P t) op (s.ev x) (s.ev y)).bind p
 | .unOp .not _ x=>match s.ev x with
  | .b t=>p (.b (!t))
  |_=>none
 | .convert src dst x=>match s.ev x with
  | .i _ n=>if(P.underlying src).isSome then(match nG P dst with
   |some k=>p (.i k (k.wrap n))
   |none=>if jd P dst=true/\0<=n/\n<128 then p (.s [UInt8.ofNat n.toNat]) else none) else none
  | .sq _ k l=>if jd P dst=true/\(gY P src).bind (nG P)=some .u8/\k=1 then(iY l).bind λc=>p (.s c) else none
  |_=>none
 | .extract t ix=>match s.ev t with
  | .tu l=>(l[ix]?).bind λa=>p a.strip
  |_=>none
 | .field t x f=>match s.ev x with
  | .ag l=>(eW P t f).bind λ(off,ft)=>if off+aQ P ft<=l.length then(cW P ft (l.drop off)).bind λa=>p a.strip else none
  |_=>none
 | .index t x ix=>match s.ev x,gV (s.ev ix) with
  | .s l,some n=>if 0<=n/\jd P t=true then(l[n.toNat]?).bind λc=>p (.i .u8 c.toNat) else none
  | .ag l,some n=>(jP P t).bind λ(m,e)=>if 0<=n/\n<m/\(n.toNat+1)*aQ P e<=l.length/\(P.info? e).isSome=true then(cW P e (l.drop (n.toNat*aQ P e))).bind λa=>p a.strip else none
  |_,_=>none
 | .build t parts=>if ku P t=false then none else(anE P t).bind λz=>(sC P t z (parts.toList.map λx=>(x.1,s.ev x.2))).bind λl=>p (.ag l)
 | .buildSlice t len parts=>(gY P t).bind λe=>(sx (aQ P e) 0 (parts.toList.map λx=>(x.1,s.ev x.2))).bind λl=>
   if parts.size=len/\len*aQ P e<=2^24/\bL P e=true then some (.sq (some (s.nx+i)) (aQ P e) l,{ made:=some e }) else none
 | .slice t x E hi none=>match s.ev x with
  | .s l=>(fu s l.length E hi).bind λ(a,b)=>if jd P t=true then p (.s ((l.take b).drop a)) else none
  | .sq _ k l=>(gY P t).bind λe=>if bL P e=true/\(k=aQ P e\/l= []) then(fu s (l.length/aQ P e) E hi).bind λ(a,b)=>p (.sq none (aQ P e) ((l.take (b*aQ P e)).drop (a*aQ P e))) else none
  |_=>none
 | .fieldAddr t x f=>match s.ev x with
  | .sp l=>(eW P t f).bind λ(off,_)=>p (.sp (l.drop off))
  | .bx id o=>(eW P t f).bind λ(off,_)=>p (.bx id (o+off))
  |_=>none
 | .indexAddr t x ix=>match s.ev x,gV (s.ev ix) with
  | .sq _ k l,some n=>(gY P t).bind λe=>if k=aQ P e/\0<=n/\(n.toNat+1)*aQ P e<=l.length/\bL P e=true then p (.sp (l.drop (n.toNat*aQ P e))) else none
  | .sp l,some n=>(jP P t).bind λ(m,e)=>if 0<=n/\n<m/\bL P e=true then p (.sp (l.drop (n.toNat*aQ P e))) else none
  | .bx id o,some n=>(jP P t).bind λ(m,e)=>if 0<=n/\n<m/\bL P e=true then p (.bx id (o+n.toNat*aQ P e)) else none
  |_,_=>none
 | .load t a=>match s.ev a with
  | .sp l=>(cW P t l).bind λa=>p a.strip
  | .bx id o=>match s.B id with
   |some (_,l)=>(cW P t (l.drop o)).bind p
   |none=>none
  |_=>none
 | .store t a x=>match s.ev a,eU (s.ev x) with
  | .bx id o,some l=>match s.B id with
   |some (false,cells)=>if l.length=aQ P t/\0<l.length/\o+l.length<=cells.length then some (.tu [],{ bx:=some (id,(false,lay cells o l)) }) else none
   |_=>none
  |_,_=>none
 | .box t x=>(eU (s.ev x)).bind λl=>if mt (o.dst.getD 0) then some (.bx (s.nx+i) 0,{ bx:=some (s.nx+i,(false,l)) }) else p (.sp l)
 | .alloc t=>(anE P t).bind λl=>some (.bx (s.nx+i) 0,{ bx:=some (s.nx+i,(false,l)) })
 | .makeFunc (.func f) first cap=>(jv s first.toList).bind λ(l1,f1)=>(jv s cap.toList).bind λ(l2,f2)=>some (.fn f l1 l2,{ pL:=f1++f2 })
 | .call c=>match c.callee with
  | .builtin .len=>match c.args.toList,c.argTypes.toList with
   | [x],[t]=>match s.ev x with
    | .s l=>if jd P t=true then p (.i .i64 l.length) else none
    | .sq _ k l=>(gY P t).bind λe=>if bL P e=true/\(k=aQ P e\/l= []) then p (.i .i64 (l.length/aQ P e:Nat)) else none
    |_=>none
   |_,_=>none
  | .builtin .append=>match c.args.toList,c.argTypes.toList with
   | [.tmp t,y],[ty,H]=>match s.T t,s.ev y with
    | .sq (some τ) k l,.sq _ k' m=>(gY P ty).bind λe=>
     if ty=H/\s.lv τ=some e/\k=aQ P e/\(k'=k\/m= [])/\bL P e=true/\(τ<s.nx\/dsts (τ-s.nx)=some t)/\(l.length+m.length)*(qM P e+1)<=2^46 then
      some (.sq (some (s.nx+i)) k (l++m),{ kill:=some τ,made:=some e }) else none
    | .sq none 0 [],.sq _ k' m=>(gY P ty).bind λe=>
     if ty=H/\(k'=aQ P e\/m= [])/\bL P e=true/\m.length*(qM P e+1)<=2^46 then
      some (.sq (some (s.nx+i)) (aQ P e) m,{ made:=some e }) else none
    |_,_=>none
   |_,_=>none
  | .builtin .max=>match c.args.toList with
   | [x,y]=>(It max (s.ev x) (s.ev y)).bind p
   |_=>none
  | .builtin .min=>match c.args.toList with
   | [x,y]=>(It min (s.ev x) (s.ev y)).bind p
   |_=>none
  | .value f=>match s.ev f with
   | .fn f l1 l2=>if(c.args.toList.all λx=>(s.ev x).jh)=true then
     (bif mt (o.dst.getD 0) then mY P tb s i f (l1++(c.args.toList.map λx=>(s.ev x).strip)++l2) (s.B 1)
      else(tb f (l1++(c.args.toList.map λx=>(s.ev x).strip)++l2)).bind (jH P s.nx i)) else none
   |_=>none
  |_=>none
 |_=>none
def sI(T:Nat->AV)(dst:Option Nat)(a:AV):Nat->AV:=
 match dst with
 |some d=>Lo T d a
 |none=>T
@[simp] theorem L3 (T:Nat->AV) (d:Nat) (a:AV):sI T (some d) a=Lo T d a:=rfl
@[simp] theorem Y5 (T:Nat->AV) (a:AV):sI T none a=T:=rfl
def upd (s : AS) (i : Nat) (dst : Option Nat) (a : AV) (u : jA) : AS :=
  { s with
    T := sI s.T dst a
    B := let p := (match u.bx with | some (id, x) => Lo s.B id (some x) | none => s.B)
         u.pL.foldl (fun B id => Lo B id ((B id).map fun x => (true, x.2))) p
    lv := let l1 := (match u.kill with | some τ => Lo s.lv τ none | none => s.lv)
          match u.made with | some e => Lo l1 (s.nx + i) (some e) | none => l1 }
def iM(dsts:Nat->Option Nat)(o:Oper)(s:AS):Option Bool:=
 match o.guard with
 |none=>some true
 |some (j,want)=>match dsts j with
  |some d=>match s.T d with
   | .b t=>some (bif want then t else !t)
   | .tu _=>some false
   |_=>none
  |none=>none
def sf(o:Oper)(s:AS):Bool:=match o.dst with
 |some d=>s.n-d !=0
 |none=>true
noncomputable def b_(P:Program)(tb:qd)(mt:Nat->Bool)(dsts:Nat->Option Nat)(i:Nat)(o:Oper)(s:AS):Option AS:=
 bif sf o s then
  match iM dsts o s with
  |some b=>bif b then(gX P tb mt dsts i o s).map λx=>upd s i o.dst x.1 x.2 else some (upd s i o.dst (.tu []) {})
  |none=>none
 else none
noncomputable def fJ(P:Program)(tb:qd)(mt:Nat->Bool)(dsts:Nat->Option Nat):Nat->List Oper->AS->Option AS
 |_,[],s=>some s
 |i,o::r,s=>(b_ P tb mt dsts i o s).bind (fJ P tb mt dsts (i+1) r)
noncomputable def FL(P:Program)(tb:qd)(mt:Nat->Bool)(ops:Array Oper)(s:AS):Option AS:=
 (fJ P tb mt (λj=>(ops[j]?).bind (·.dst)) 0 ops.toList s).map λs'=> { s' with nx:=s.nx+ops.size }
def aga:=@Option.ne_none_iff_exists'
structure Mem where
 bm:Nat->Nat
 tm:Nat->Value
def RC(fr:Nat->Prop)(lv:Nat->Option TypeId)(g:Gh)(w:World)(m:Mem)(a:AV)(y:Value):Prop:=
 Rd g w a.strip y/\∀τ k l,a=.sq (some τ) k l->¬fr τ/\((lv τ).isSome->y=m.tm τ)
def RV(fr:Nat->Prop)(lv:Nat->Option TypeId)(g:Gh)(w:World)(m:Mem)(a:AV)(y:Value):Prop:=
 RC fr lv g w m a y\/∃id off,a=.bx id off/\¬fr id/\y=.pointer (some ⟨m.bm id,off,none⟩)
structure Mv(fr fr':Nat->Prop)(lv LM:Nat->Option TypeId)(g g':Gh)(w w':World)(m m':Mem):Prop where
 ext:Lw g g' w w'
 fre:∀id,¬fr id->¬fr' id
 tok:∀τ,¬fr τ->(LM τ).isSome->(lv τ).isSome/\m'.tm τ=m.tm τ
 box:∀id,¬fr id->m'.bm id=m.bm id
section
variable{fr fr':Nat->Prop}{lv LM:Nat->Option TypeId}{g g':Gh}{w w':World}{m m':Mem}{a:AV}{y:Value}
theorem RC.mv(h:RC fr lv g w m a y)(k:Mv fr fr' lv LM g g' w w' m m'):RC fr' LM g' w' m' a y:=
 ⟨h.1.mono k.ext,λτ s l e=>by
  obtain⟨h1,h2⟩:=h.2 τ s l e;exact⟨k.fre τ h1,λhl=>by rw[(k.tok τ h1 hl).2];exact h2 (k.tok τ h1 hl).1⟩⟩
theorem RV.mv(h:RV fr lv g w m a y)(k:Mv fr fr' lv LM g g' w w' m m'):RV fr' LM g' w' m' a y:=by
 rcases h with h|⟨id,off,rfl,h1,rfl⟩
 ·exact .inl (h.mv k)
 ·exact .inr ⟨id,off,rfl,k.fre id h1,by rw[k.box id h1]⟩
theorem RC.of(h:Rd g w a y)(hs:a.strip=a):RC fr lv g w m a y:=⟨by simp_all,λτ k l e=>by subst e;cases hs⟩
theorem RC.strip(h:RC fr lv g w m a y):RC fr lv g w m a.strip y:=by
 refine⟨?_,?_⟩
 ·have:a.strip.strip=a.strip:=by cases a <;>rfl
  rw[this];exact h.1
 ·intro τ k l e;cases a <;>simp at e
theorem eH(a:AV):a.strip.strip=a.strip:=by cases a <;>rfl
theorem Rd.strip(h:Rd g w a y):Rd g w a.strip y:=by
 cases a with
 |sq c k l=>exact h.tok
 |_=>exact h
theorem RC.cw(h:Rd g w a y):RC fr lv g w m a.strip y:=⟨by rw[eH];exact h.strip,λτ k l e=>by cases a <;>simp at e⟩
theorem RV.rd(h:RV fr lv g w m a y)(hb:∀id off,a≠.bx id off):Rd g w a y:=by
 rcases h with h|⟨id,off,e,_⟩
 ·cases a with
  |sq c k l=>exact h.1.tok
  |_=>exact h.1
 simp_all
theorem RC.rd(h:RC fr lv g w m a y):Rd g w a y:=by
 cases a with
 |sq c k l=>exact h.1.tok
 |_=>exact h.1
end
structure SR(P:Program)(g0:Gh)(w0:World)(fr:Nat->Prop)(s:AS)(g:Gh)(w:World)(m:Mem)(tmps:Array Value):Prop where
 size:tmps.size=s.n
 tmps:∀t,RV fr s.lv g w m (s.T t) (tmps.getD t undef)
 free:∀id,fr id->s.B id=none/\s.lv id=none
 boxes:∀id ro cells,s.B id=some (ro,cells)->∃(ys:List Value) (ty:TypeId),w0.heap.size<=m.bm id/\w.heap[m.bm id]?=some (.cells ys.toArray ty (0,0))/\ys.length=cells.length/\(∀y∈ys,y.oneCell'=true)/\
  (∀(j:Nat) (a:AV) (y:Value),cells[j]?=some a->ys[j]?=some y->RC fr s.lv g w m a y)/\g.hw (m.bm id)=if ro then cells.length else 0
 cD:∀i j,s.B i≠none->s.B j≠none->m.bm i=m.bm j->i=j
 cB:∀τ e,s.lv τ=some e->∃n ys,w.ownsRow w0.heap.size e (aQ P e) (m.tm τ) n ys/\∀c,(m.tm τ).ownBlock=some c->g.hw c=n*aQ P e
 c_:∀σ τ c,s.lv σ≠none->s.lv τ≠none->(m.tm σ).ownBlock=some c->(m.tm τ).ownBlock=some c->σ=τ
 vd:∀τ id,s.lv τ≠none->s.B id≠none->(m.tm τ).ownBlock≠some (m.bm id)
 wi:WI g w
 ext:Lw g0 g w0 w
 keeps:anw g0 g w0 w
 gi:∀g g' w w',Lw g g' w w'->g0.ex g.hw g.aD w->g0.ex g'.hw g'.aD w'
 fV:g0.ex g.hw g.aD w
 pins:∀id b,g0.iF id=some b->¬fr id/\m.bm id=b
section
variable{P:Program}{g0:Gh}{w0:World}{fr:Nat->Prop}{s:AS}{g:Gh}{w:World}{m:Mem}{tmps:Array Value}
theorem Mv.pins{fr fr':Nat->Prop}{lv LM:Nat->Option TypeId}{g g':Gh}{w w':World}{m m':Mem}(k:Mv fr fr' lv LM g g' w w' m m'){id b:Nat}(h:¬fr id/\m.bm id=b):¬fr' id/\m'.bm id=b:=⟨k.fre id h.1,(k.box id h.1).trans h.2⟩
theorem Mv.refl(fr:Nat->Prop)(lv:Nat->Option TypeId)(g:Gh)(w:World)(m:Mem):Mv fr fr lv lv g g w w m m:=⟨.refl _ _,λ_ h=>h,λ_ _ h=>⟨h,rfl⟩,λ_ _=>rfl⟩
theorem SR.put (h : SR P g0 w0 fr s g w m tmps) {d : Nat} (hd : d < s.n) {a : AV} {y : Value} (hr : RV fr s.lv g w m a y) : SR P g0 w0 fr { s with T := Lo s.T d a } g w m (tmps.setIfInBounds d y) :=
  { h with
    size := by simp [h.size]
    tmps := fun t => by
      by_cases e : t = d
      · subst e
        simp only [bc]
        rw [aba, aaz (by rw [h.size]; exact hd)]
        exact hr
      · simp only [aL _ _ _ _ e]
        rw [aba, aaL (Ne.symm e), <- aba]
        exact h.tmps t }
theorem SR.grow(h:SR P g0 w0 fr s g w m tmps){g':Gh}{w':World}(p:Lw g g' w w')(hW:WI g' w')(I:anw g0 g' w0 w')
  (hb:∀id,s.B id≠none->w'.heap[m.bm id]?=w.heap[m.bm id]?/\g'.hw (m.bm id)=g.hw (m.bm id))
  (ht:∀τ c,s.lv τ≠none->(m.tm τ).ownBlock=some c->w'.heap[c]?=w.heap[c]?/\g'.hw c=g.hw c):SR P g0 w0 fr s g' w' m tmps:=by
 have H:Mv fr fr s.lv s.lv g g' w w' m m:=⟨p,λ_ h=>h,λ_ _ h=>⟨h,rfl⟩,λ_ _=>rfl⟩
 refine { h with tmps:=λt=>(h.tmps t).mv H,boxes:=?_,cB:=?_,wi:=hW,ext:=h.ext.trans p,keeps:=I,fV:=h.gi _ _ _ _ p h.fV }
 ·intro id ro cells e;obtain⟨ys,ty,h1,h2,E,M,L,J⟩:=h.boxes id ro cells e;obtain⟨k1,k2⟩:=hb id (by grind);exact⟨ys,ty,h1,k1.trans h2,E,M,λj a y O N=>(L j a y O N).mv H,k2.trans J⟩
 ·intro τ e he;obtain⟨n,ys,⟨h1,h2⟩,E⟩:=h.cB τ e he;have hl:s.lv τ≠none:=by simp_all
  refine⟨n,ys,⟨h1,?_⟩,λc hc=>((ht τ c hl hc).2).trans (E c hc)⟩;rcases h2 with h2|⟨c,cap,cur,hv,hr⟩
  ·grind
  ·refine .inr ⟨c,cap,cur,hv,hr.1,?_,hr.2.2⟩;rw[(ht τ c hl (by rw[hv];rfl)).1];exact hr.2.1
theorem SR.lt(h:SR P g0 w0 fr s g w m tmps){id:Nat}(hb:s.B id≠none):m.bm id<w.heap.size/\g.aD (m.bm id)=none:=by
 obtain⟨⟨ro,cells⟩,e⟩:=aga.1 hb;obtain⟨ys,ty,h1,h2,_⟩:=h.boxes id ro cells e;refine⟨(aah.1 h2).1,?_⟩;cases hm:g.aD (m.bm id) with
 |none=>rfl
 |some d=>obtain⟨es,ck,p,_⟩:=h.wi.aD _ d hm;simp_all
theorem SR.LK(h:SR P g0 w0 fr s g w m tmps){τ c:Nat}(hb:s.lv τ≠none)(hc:(m.tm τ).ownBlock=some c):w0.heap.size<=c/\c<w.heap.size/\g.aD c=none:=by
 obtain⟨e,he⟩:=aga.1 hb;obtain⟨n,ys,⟨h1,h2⟩,_⟩:=h.cB τ e he;rcases h2 with ⟨h2,_⟩|⟨c',cap,cur,hv,hr⟩
 ·rw[h2] at hc;cases hc
 ·rw[hv] at hc;cases hc;refine⟨hr.1,(aah.1 hr.2.1).1,?_⟩;cases hm:g.aD c' with
  |none=>rfl
  |some d=>obtain⟨es,ck,p,_⟩:=h.wi.aD _ d hm;simp_all
theorem SR.keep(h:SR P g0 w0 fr s g w m tmps){g':Gh}{w':World}(E:Lw g g' w w')(hW:WI g' w')(p:anw g g' w w'):SR P g0 w0 fr s g' w' m tmps:=
 h.grow E hW (h.keeps.trans h.ext.size p) (λid hb=>⟨p.block _ (h.lt hb).1 (h.lt hb).2,p.hw _ (h.lt hb).1⟩)
  (λτ c hl hc=>⟨p.block _ (h.LK hl hc).2.1 (h.LK hl hc).2.2,p.hw _ (h.LK hl hc).2.1⟩)
theorem SR.kill(h:SR P g0 w0 fr s g w m tmps)(τ:Nat):SR P g0 w0 fr { s with lv:=Lo s.lv τ none } g w m tmps:=by
 have p:∀σ,Lo s.lv τ none σ≠none->s.lv σ≠none:=λσ I=>by
  by_cases e:σ=τ
  ·simp_all
  simp_all
 have H:Mv fr fr s.lv (Lo s.lv τ none) g g w w m m:=⟨.refl _ _,λ_ h=>h,λσ _ h=>⟨by
  by_cases e:σ=τ
  ·simp_all
  simp_all,rfl⟩,λ_ _=>rfl⟩
 refine { h with tmps:=λt=>(h.tmps t).mv H,free:=λid E=>⟨(h.free id E).1,?_⟩,boxes:=?_,cB:=λσ e he=>?_,c_:=λσ ρ c h1 h2=>h.c_ σ ρ c (p _ h1) (p _ h2),vd:=λσ id h1=>h.vd σ id (p _ h1) }
 ·by_cases e:id=τ
  ·subst e;simp
  ·simp only[aL _ _ _ _ e];exact(h.free id E).2
 ·intro id ro cells e;obtain⟨ys,ty,h1,h2,N,M,L,J⟩:=h.boxes id ro cells e;exact⟨ys,ty,h1,h2,N,M,λj a y U O=>(L j a y U O).mv H,J⟩
 ·by_cases e':σ=τ
  ·simp_all
  ·simp only[aL _ _ _ _ e'] at he;exact h.cB σ e he
theorem SR.made(h:SR P g0 w0 fr s g w m tmps){id:Nat}(hf:fr id){e:TypeId}{y:Value}{n:Nat}{ys:List Value}(ho:w.ownsRow w0.heap.size e (aQ P e) y n ys)(hh:∀c,y.ownBlock=some c->g.hw c=n*aQ P e)
  (hnb:∀id c,s.B id≠none->y.ownBlock=some c->c≠m.bm id) (Yx:∀τ c,s.lv τ≠none->y.ownBlock=some c->(m.tm τ).ownBlock≠some c):
  SR P g0 w0 (λj=>fr j/\j≠id) { s with lv:=Lo s.lv id (some e) } g w { m with tm:=Lo m.tm id y } tmps:=by
 have N:Mv fr (λj=>fr j/\j≠id) s.lv (Lo s.lv id (some e)) g g w w m { m with tm:=Lo m.tm id y } :=⟨.refl _ _,λ_ h k=>h k.1,λσ J h=>by
  have e':σ≠id:=λe=>J (e▸hf)
  simp_all,λ_ _=>rfl⟩
 have H:∀σ,σ≠id->Lo s.lv id (some e) σ=s.lv σ:=λσ e'=>aL _ _ _ _ e'
 refine { h with tmps:=λt=>(h.tmps t).mv N,free:=λj L=>⟨(h.free j L.1).1,?_⟩,boxes:=?_,cB:=λσ e' he=>?_,c_:=λσ ρ c h1 h2 E I=>?_,vd:=λσ j h1 h2 E=>?_,pins:=λid b e=>N.pins (h.pins id b e) }
 ·dsimp only;rw[H j L.2];exact(h.free j L.1).2
 ·intro j ro cells Y;obtain⟨ys,ty,h1,h2,E,I,W,U⟩:=h.boxes j ro cells Y;exact⟨ys,ty,h1,h2,E,I,λj a y Z p=>(W j a y Z p).mv N,U⟩
 ·by_cases p:σ=id
  ·grind [bc]
  ·dsimp only at he;rw[H σ p] at he;obtain⟨O,ys',k1,k2⟩:=h.cB σ e' he;refine⟨O,ys',?_,λc hc=>k2 c ?_⟩
   ·simp_all
   simp_all
 ·by_cases p:σ=id
  ·by_cases M:ρ=id
   ·omega
   simp_all
  ·by_cases M:ρ=id
   ·simp_all
   ·simp only[aL _ _ _ _ p,aL _ _ _ _ M] at E I;dsimp only at h1 h2;rw[H σ p] at h1;rw[H ρ M] at h2;exact h.c_ σ ρ c h1 h2 E I
 ·by_cases p:σ=id
  ·grind [bc]
  ·simp only[aL _ _ _ _ p] at E;dsimp only at h1;rw[H σ p] at h1;exact h.vd σ j h1 h2 E
theorem SR.less(h:SR P g0 w0 fr s g w m tmps)(id:Nat):SR P g0 w0 (λj=>fr j/\j≠id) s g w m tmps:=by
 have p:Mv fr (λj=>fr j/\j≠id) s.lv s.lv g g w w m m:=⟨.refl _ _,λ_ h k=>h k.1,λσ _ h=>⟨h,rfl⟩,λ_ _=>rfl⟩
 refine { h with tmps:=λt=>(h.tmps t).mv p,free:=λj E=>h.free j E.1,boxes:=?_,pins:=λid b e=>p.pins (h.pins id b e) };intro j ro cells M;obtain⟨ys,ty,h1,h2,L,J,I,H⟩:=h.boxes j ro cells M;exact⟨ys,ty,h1,h2,L,J,λj a y O N=>(I j a y O N).mv p,H⟩
theorem SR.boxed(h:SR P g0 w0 fr s g w m tmps){id:Nat}(hf:fr id){cells:List AV}{ys:List Value}{blk:Nat}{ty:TypeId}(hb:w0.heap.size<=blk)(ho:w.heap[blk]?=some (.cells ys.toArray ty (0,0)))
  (hl:ys.length=cells.length) (h1:∀y∈ys,y.oneCell'=true) (hr:∀(j:Nat) (a:AV) (y:Value),cells[j]?=some a->ys[j]?=some y->RC fr s.lv g w m a y) (hh:g.hw blk=0)
  (hnb:∀i,s.B i≠none->blk≠m.bm i) (Yx:∀τ,s.lv τ≠none->(m.tm τ).ownBlock≠some blk):
  SR P g0 w0 (λj=>fr j/\j≠id) { s with B:=Lo s.B id (some (false,cells)) } g w { m with bm:=Lo m.bm id blk } tmps:=by
 have L:Mv fr (λj=>fr j/\j≠id) s.lv s.lv g g w w m { m with bm:=Lo m.bm id blk } :=⟨.refl _ _,λ_ h k=>h k.1,λσ _ h=>⟨h,rfl⟩,λj H=>by
  have e':j≠id:=λe=>H (e▸hf)
  simp_all⟩
 have J:∀j,j≠id->Lo s.B id (some (false,cells)) j=s.B j:=λσ e'=>aL _ _ _ _ e'
 refine { h with tmps:=λt=>(h.tmps t).mv L,free:=λj H=>⟨?_,(h.free j H.1).2⟩,boxes:=?_,cD:=λi j k1 k2 E=>?_,vd:=λσ j k1 k2 E=>?_,pins:=λid b e=>L.pins (h.pins id b e) }
 ·dsimp only;rw[J j H.2];exact(h.free j H.1).1
 ·intro j ro O I;by_cases p:j=id
  ·subst p;simp only[bc,Option.some.injEq,Prod.mk.injEq] at I;obtain⟨rfl,rfl⟩:=I;exact⟨ys,ty,by simpa using hb,by simpa using ho,hl,h1,λj a y N p=>(hr j a y N p).mv L,by simpa using hh⟩
  ·dsimp only at I;rw[J j p] at I;obtain⟨ys,ty,h1,h2,Y,W,U,Z⟩:=h.boxes j ro O I;exact⟨ys,ty,by simp_all,by simp_all,Y,W,λj a y N p=>(U j a y N p).mv L,by simp_all⟩
 ·by_cases p:i=id
  ·by_cases M:j=id
   ·omega
   simp_all
  ·by_cases M:j=id
   ·grind [bc,aL]
   ·simp only[aL _ _ _ _ p,aL _ _ _ _ M] at E;dsimp only at k1 k2;rw[J i p] at k1;rw[J j M] at k2;exact h.cD i j k1 k2 E
 ·by_cases p:j=id
  ·simp_all
  ·simp only[aL _ _ _ _ p] at E;dsimp only at k2;rw[J j p] at k2;exact h.vd σ j k1 k2 E
end
def afW:=@Go.setRow_other
def abY:=@Nat.zero_add
def aeg:=@Go.cell_of_row
section
variable{P:Program}{g0:Gh}{w0:World}{fr:Nat->Prop}{s:AS}{g:Gh}{w:World}{m:Mem}{tmps:Array Value}
theorem xh{α:Type}(l:List α)(o:Nat)(x:List α)(h:o+x.length<=l.length):(l.take o++x++l.drop (o+x.length)).length=l.length:=by grind
theorem BX{α:Type}(l x:List α)(o j:Nat)(h:o+x.length<=l.length):(l.take o++x++l.drop (o+x.length))[j]?=if j<o then l[j]? else if j<o+x.length then x[j-o]? else l[j]?:=by
 grind
theorem SR.stored(h:SR P g0 w0 fr s g w m tmps){id o:Nat}{cells l:List AV}{xs:List Value}(hB:s.B id=some (false,cells))(hx:xs.length=l.length)(h1:∀y∈xs,y.oneCell'=true)
  (hr:∀(j:Nat) (a:AV) (y:Value),l[j]?=some a->xs[j]?=some y->RC fr s.lv g w m a y) (hl:o+l.length<=cells.length):
  ∃w',(storeCells ⟨m.bm id,o,none⟩ xs).run P w=.ok () w'/\SR P g0 w0 fr { s with B:=Lo s.B id (some (false,lay cells o l)) } g w' m tmps:=by
 obtain⟨ys,ty,k1,k2,k3,k4,Y,k6⟩:=h.boxes id false cells hB;have bH:=run_storeCells_at P (m.bm id) o ty xs 0 ys.toArray w k2 (by grind) h1;simp only[aeS] at bH;refine⟨_,bH,?_⟩;have cr:s.B id≠none:=by simp_all
 have aK:=(h.lt cr).1;have RI:g.hw (m.bm id)=0:=by grind
 have I:Lw g g w (w.setRow (m.bm id) (ys.take o++xs++ys.drop (o+xs.length)).toArray):=by
  refine⟨by simp[World.setRow],λ_=>aax _,λb oo ho=>?_,λ_ _ e=>e,rfl,rfl,rfl,λb o e hs=>by
   rw[afW _ _ _ _ (λe'=>by subst e';rw[k2] at e;cases e;cases hs)];exact e⟩
  grind [cell_setRow_other]
 have Cn:WI g (w.setRow (m.bm id) (ys.take o++xs++ys.drop (o+xs.length)).toArray):=by
  refine⟨λb hb=>h.wi.out b (by simp_all),λb d hd=>?_,h.wi.cz.mono I⟩;obtain⟨es,ck,E,p⟩:=h.wi.aD b d hd;have ahB:b≠m.bm id:=λe=>by simp_all
  exact⟨es,ck,by grind [setRow_other],λe he=>by obtain⟨a,ha,Cd⟩:=p e he;exact⟨a,ha,Cd.mono I⟩⟩
 have hK:anw g0 g w0 (w.setRow (m.bm id) (ys.take o++xs++ys.drop (o+xs.length)).toArray):=
  ⟨λb hb hm=>by rw[afW _ _ _ _ (by omega)];exact h.keeps.block b hb hm,h.keeps.hw,h.keeps.aD⟩
 have L:Mv fr fr s.lv s.lv g g w (w.setRow (m.bm id) (ys.take o++xs++ys.drop (o+xs.length)).toArray) m m:=⟨I,λ_ h=>h,λ_ _ h=>⟨h,rfl⟩,λ_ _=>rfl⟩
 have Z:∀j x,j≠id->Lo s.B id x j=s.B j:=λσ x e'=>aL _ _ _ _ e'
 have M:∀j,Lo s.B id (some (false,lay cells o l)) j≠none->s.B j≠none:=λj H=>by
  grind
 exact {
  size:=h.size
  tmps:=λt=>(h.tmps t).mv L
  free:=λj H=>⟨by
   have:j≠id:=λe=>cr (e▸(h.free j H).1)
   dsimp only;rw[Z j _ this];exact(h.free j H).1,(h.free j H).2⟩
  boxes:=λj ro xT J=>by
   by_cases p:j=id
   ·subst p;simp only[bc,Option.some.injEq,Prod.mk.injEq] at J;obtain⟨rfl,rfl⟩:=J;refine⟨ys.take o++xs++ys.drop (o+xs.length),ty,k1,setRow_heap w _ _ _ _ _ k2,?_,λy hy=>?_,λj a y E p=>?_,by grind⟩
    ·unfold lay
     simp_all
    ·grind
    ·unfold lay at E;rw[BX _ _ _ _ (by omega)] at E p;rw[hx] at p;split at E
     ·rename_i H;rw[aay H] at p;exact(Y j a y E p).mv L
     ·rename_i H;rw[aat H] at p;split at E
      ·rename_i O;rw[aay O] at p;exact(hr _ a y E p).mv L
      ·rename_i O;rw[aat O] at p;exact(Y j a y E p).mv L
   ·dsimp only at J;rw[Z j _ p] at J;obtain⟨ys',Qu,Ay,Cp,Ga,YM,E8,N⟩:=h.boxes j ro xT J;have F7:m.bm j≠m.bm id:=λe=>p (h.cD j id (by simp_all) cr e)
    exact⟨ys',Qu,Ay,by grind [setRow_other],Ga,YM,λj a y E p=>(E8 j a y E p).mv L,N⟩
  cD:=λi j a b c=>h.cD i j (M i a) (M j b) c
  cB:=λτ e he=>by
   obtain⟨n,zs,⟨q1,U⟩,q3⟩:=h.cB τ e he;refine⟨n,zs,⟨q1,?_⟩,q3⟩;rcases U with U|⟨c,cap,cur,hv,W⟩
   ·grind
   ·have hc:c≠m.bm id:=λe'=>h.vd τ id (by simp_all) cr (by grind [Value.ownBlock])
    exact .inr ⟨c,cap,cur,hv,W.1,by grind [setRow_other],W.2.2⟩
  c_:=h.c_
  vd:=λτ j a b=>h.vd τ j a (M j b)
  wi:=Cn
  ext:=h.ext.trans I
  gi:=h.gi
  fV:=h.gi _ _ _ _ I h.fV
  pins:=h.pins
  keeps:=hK }
theorem SR.froze(h:SR P g0 w0 fr s g w m tmps){id:Nat}{ro:Bool}{cells:List AV}(hB:s.B id=some (ro,cells)):
  ∃g',SR P g0 w0 fr { s with B:=Lo s.B id (some (true,cells)) } g' w m tmps/\Lw g g' w w/\Rd g' w (.sp cells) (.pointer (some ⟨m.bm id,0,none⟩)):=by
 obtain⟨ys,ty,k1,k2,W,U,O,k6⟩:=h.boxes id ro cells hB;have cr:s.B id≠none:=by simp_all
 have aK:=(h.lt cr).1;have hle:g.hw (m.bm id)<=cells.length:=by grind
 have H:Lw g { g with hw:=Lo g.hw (m.bm id) cells.length } w w:=by
  refine⟨aax _,λb=>?_,λ_ _ _=>rfl,λ_ _ e=>e,rfl,rfl,rfl,λ_ _ e _=>e⟩;by_cases e:b=m.bm id
  ·simp_all
  simp_all
 have L:Mv fr fr s.lv s.lv g { g with hw:=Lo g.hw (m.bm id) cells.length } w w m m:=⟨H,λ_ h=>h,λ_ _ h=>⟨h,rfl⟩,λ_ _=>rfl⟩
 have Y:∀j x,j≠id->Lo s.B id x j=s.B j:=λσ x e'=>aL _ _ _ _ e'
 have N:∀j,Lo s.B id (some (true,cells)) j≠none->s.B j≠none:=λj I=>by
  grind
 refine⟨{ g with hw:=Lo g.hw (m.bm id) cells.length },?_,H,?_⟩
 ·exact {
   size:=h.size
   tmps:=λt=>(h.tmps t).mv L
   free:=λj I=>⟨by
    have:j≠id:=λe=>cr (e▸(h.free j I).1)
    dsimp only;rw[Y j _ this];exact(h.free j I).1,(h.free j I).2⟩
   boxes:=λj vy xT J=>by
    by_cases p:j=id
    ·subst p;simp only[bc,Option.some.injEq,Prod.mk.injEq] at J;obtain⟨rfl,rfl⟩:=J;exact⟨ys,ty,k1,k2,W,U,λj a y E p=>(O j a y E p).mv L,by simp⟩
    ·dsimp only at J;rw[Y j _ p] at J;obtain⟨ys',Qu,Ay,Cp,Ga,YM,E8,h6'⟩:=h.boxes j vy xT J;have M:m.bm j≠m.bm id:=λe=>p (h.cD j id (by simp_all) cr e)
     exact⟨ys',Qu,Ay,Cp,Ga,YM,λj a y E p=>(E8 j a y E p).mv L,by simp_all⟩
   cD:=λi j a b c=>h.cD i j (N i a) (N j b) c
   cB:=λτ e he=>by
    obtain⟨n,Z,q1,q3⟩:=h.cB τ e he;refine⟨n,Z,q1,λc hc=>?_⟩;have WX:c≠m.bm id:=λe'=>h.vd τ id (by simp_all) cr (by grind)
    simp_all
   c_:=h.c_
   vd:=λτ j a b=>h.vd τ j a (N j b)
   wi:=⟨λb hb=>by
     have M:b≠m.bm id:=by omega
     simp only[aL _ _ _ _ M];exact h.wi.out b hb,
    λb d hd=>by
     obtain⟨es,ck,E,p⟩:=h.wi.aD b d hd;exact⟨es,ck,E,λe he=>by obtain⟨a,ha,Cd⟩:=p e he;exact⟨a,ha,Cd.mono H⟩⟩,h.wi.cz.mono H⟩
   ext:=h.ext.trans H
   gi:=h.gi
   fV:=h.gi _ _ _ _ H h.fV
   pins:=h.pins
   keeps:=⟨h.keeps.block,λb hb=>by
    have M:b≠m.bm id:=by omega
    simp only[aL _ _ _ _ M];exact h.keeps.hw b hb,h.keeps.aD⟩ }
 ·refine .sp cells (m.bm id) 0 ys W U (λj y I=>⟨?_,?_⟩) (λj a y E p=>((O j a y E p).mv L).rd)
  ·simp only[bc,abY]
   grind
  ·rw[abY,aeg w _ j _ ty _ k2];grind
end
def aff:=@Go.run_underlying
def Enters(P:Program)(f:FuncId):Prop:=∀(xs:Array Value) (w:World),Sem.run P (callFunc f xs) w=.ok (.enter f xs) w
def zE(P:Program)(e:TypeId)(l:List AV):AS:= { T:=λ_=>.any,B:=Lo (λ_=>none) 0 (some (false,[.sq (some 0) (aQ P e) l])),lv:=Lo (λ_=>none) 0 (some e),nx:=1,n:=0 }
theorem wH{P:Program}{e:TypeId}{l:List AV}{id:Nat}(h:id≠0):(zE P e l).B id=none:=by simp_all [zE]
theorem qb{P:Program}{e:TypeId}{l:List AV}{id:Nat}(h:id≠0):(zE P e l).lv id=none:=by simp_all [zE]
theorem wG{P:Program}{e:TypeId}{l:List AV} :(zE P e l).B 0=some (false,[.sq (some 0) (aQ P e) l]):=rfl
theorem IN{P:Program}{e:TypeId}{l:List AV} :(zE P e l).lv 0=some e:=rfl
def oN(P:Program)(e:TypeId)(bo:Nat)(f:FuncId)(args r:List AV):Prop:=
 ∀g0 w0 g w m l ys,SR P g0 w0 (λj=>1<=j) (zE P e l) g w m #[]->m.bm 0=bo->l.length+r.length<=1099511627776->cS g w args ys->
  Calls P f ys.toArray w λx w'=>∃y g' m',x=.returned y/\Rd g' w' (.tu []) y/\SR P g0 w0 (λj=>1<=j) (zE P e (l++r)) g' w' m' #[]/\m'.bm 0=bo/\Lw g g' w w'
section
variable{P:Program}{e:TypeId}
def F1(P:Program)(e:TypeId)(l:List AV)(wd:Option (List AV)):AS:=
 { T:=λ_=>.any,B:=λid=>if id=0 then some (false,[.sq (some 0) (aQ P e) l]) else if id=1 then wd.map (λc=>(false,c)) else none,lv:=Lo (λ_=>none) 0 (some e),nx:=2,n:=0 }
theorem nO{l:List AV}{wd:Option (List AV)} :(F1 P e l wd).B 0=some (false,[.sq (some 0) (aQ P e) l]):=rfl
theorem mC{l:List AV}{wd:Option (List AV)} :(F1 P e l wd).B 1=wd.map (λc=>(false,c)):=rfl
theorem Bu{l:List AV}{wd:Option (List AV)}{id:Nat}(h0:id≠0)(h1:id≠1):(F1 P e l wd).B id=none:=by
 show(if id=0 then _ else if id=1 then _ else none)=none
 simp_all
theorem iZ{l:List AV}{wd:Option (List AV)} :(F1 P e l wd).lv 0=some e:=rfl
theorem Bt{l:List AV}{wd:Option (List AV)}{id:Nat}(h:id≠0):(F1 P e l wd).lv id=none:=aL (λ_=>none) 0 (some e) id h
theorem mD{l:List AV}{wd:Option (List AV)}{id:Nat}(h:(F1 P e l wd).B id≠none):id=0\/id=1:=by
 grind [Bu]
theorem lS{l:List AV}{wd:Option (List AV)}{id:Nat}(h:(F1 P e l wd).lv id≠none):id=0:=aaO λh0=>h (Bt h0)
def nS(c:List AV):Prop:=∀a∈c,∀τ k l,a≠.sq (some τ) k l
end
def Xr(g0:Gh)(N:Nat):Prop:=∀hw aD w b o o',N<=b->w.heap[b]?=some o->((∀c t f,o≠.cells c t f)/\∀es ck,o≠.map es ck)->(∀c t f,o'≠.cells c t f)->g0.ex hw aD w->g0.ex hw aD { w with heap:=w.heap.setIfInBounds b o' }
structure oO(P:Program)(e:TypeId)(bo b1:Nat)(rc:Gh->World->Prop)(f:FuncId)(args wd r:List AV)(z:AV):Prop where
 plain:nS wd
 ok:∀g0 w0 g w m l ys,SR P g0 w0 (λj=>2<=j) (F1 P e l (some wd)) g w m #[]->m.bm 0=bo->m.bm 1=b1->Xr g0 w.heap.size->rc { hw:=g.hw,aD:=g.aD } w->l.length+r.length<=1099511627776->cS g w args ys->
  Calls P f ys.toArray w λx w'=>∃y g' m',x=.returned y/\Rd g' w' z y/\SR P g0 w0 (λj=>2<=j) (F1 P e (l++r) (some wd)) g' w' m' #[]/\m'.bm 0=bo/\m'.bm 1=b1/\Lw g g' w w'
def jw(P:Program)(tb:qd):Prop:=(∀f args res,tb f args=some res->Enters P f/\aq P f args res)/\(∀f args r,tb.ac f args=some r->Enters P f/\oN P tb.ty tb.bo f args r)/\∀f args wd r,tb.a2 f args wd=some r->Enters P f/\oO P tb.ty tb.bo tb.b1 tb.rc f args wd r.1 r.2
def jb(P:Program)(tb:qd)(g0:Gh):Prop:=jw P tb/\(∀f args r,tb.ac f args=some r->g0.iF 0=some tb.bo)/\
 ∀f args wd r,tb.a2 f args wd=some r->g0.iF 0=some tb.bo/\g0.iF 1=some tb.b1/\∀hw aD w,g0.ex hw aD w->tb.rc { hw:=hw,aD:=aD } w
class pN(tb:qd):Prop where
 ac:∀f args,tb.ac f args=none
 a2:∀f args wd,tb.a2 f args wd=none
theorem jb.of{P:Program}{tb:qd}{g0:Gh}(h:jw P tb)(hn:pN tb):jb P tb g0:=⟨h,λf args r e=>(by rw[hn.ac] at e;cases e),λf args wd r e=>(by rw[hn.a2] at e;cases e)⟩
section
variable{fr:Nat->Prop}{lv:Nat->Option TypeId}{g:Gh}{w:World}{m:Mem}{y:Value}
theorem RV.i{k n}(h:RV fr lv g w m (.i k n) y):y=.int k n:=by have:=h.rd (by simp);cases this;rfl
theorem RV.b{t}(h:RV fr lv g w m (.b t) y):y=.bool t:=by have:=h.rd (by simp);cases this;rfl
theorem RV.s{l}(h:RV fr lv g w m (.s l) y):y=sv l:=by have:=h.rd (by simp);cases this;rfl
theorem RV.bx{id off}(h:RV fr lv g w m (.bx id off) y):¬fr id/\y=.pointer (some ⟨m.bm id,off,none⟩):=by
 rcases h with h|⟨p,E,e,h1,h2⟩
 ·have:=h.1;cases this
 simp_all
theorem RV.sp{l}(h:RV fr lv g w m (.sp l) y):∃b o ys,y=.pointer (some ⟨b,o,none⟩)/\(∀y∈ys,y.oneCell'=true)/\(∀j y,ys[j]?=some y->o+j<g.hw b/\w.cell? ⟨b,o+j,none⟩=some y)/\cS g w l ys:=by
 have:=h.rd (by simp);cases this with
 |sp cells b o ys h1 H E p=>exact⟨b,o,ys,rfl,H,E,h1,p⟩
theorem RV.ag{l}(h:RV fr lv g w m (.ag l) y):∃ys,y=.agg ys.toArray/\(∀y∈ys,y.oneCell'=true)/\cS g w l ys:=by
 have:=h.rd (by simp);cases this with
 |ag cells ys h1 E p=>exact⟨ys,rfl,E,h1,p⟩
theorem RV.tu{l}(h:RV fr lv g w m (.tu l) y):∃ys,y=.tuple ys.toArray/\cS g w l ys:=by
 have:=h.rd (by simp);cases this with
 |tu cells ys h1 p=>exact⟨ys,rfl,h1,p⟩
theorem RV.fn{f l1 l2}(h:RV fr lv g w m (.fn f l1 l2) y):∃y1 y2,y=.func (.func f) y1.toArray y2.toArray/\cS g w l1 y1/\cS g w l2 y2:=by
 have:=h.rd (by simp);cases this with
 |fn _ _ _ y1 y2 h1 h2 E p=>exact⟨y1,y2,rfl,⟨h1,E⟩,h2,p⟩
theorem Rd.QC{c k l}(h:Rd g w (.sq c k l) y):(y=.slice none 0 0/\l= [])\/∃b o n p ys,y=.slice (some ⟨b,o,none⟩) n p/\0<k/\l.length=n*k/\n<=p/\(∀y∈ys,y.oneCell'=true)/\
  (∀j y,ys[j]?=some y->o+j<g.hw b/\w.cell? ⟨b,o+j,none⟩=some y)/\cS g w l ys:=by
 cases h with
 |nil=>simp_all
 |sq _ _ _ b o n p ys h0 h1 h2 J I H E=>exact .inr ⟨b,o,n,p,ys,rfl,h0,h2,J,I,H,h1,E⟩
theorem RC.zS{a:AV}(h:Rd g w a y):RV fr lv g w m a.strip y:=.inl (RC.cw h)
theorem RV.cw{a:AV}(h:Rd g w a y)(hs:a.strip=a):RV fr lv g w m a y:=.inl (.of h hs)
end
theorem GQ(g:Gh)(w:World)(v:Value):Rd g w (vV v) v:=by
 cases v with
 |int k n=>exact .i k n
 |bool t=>exact .b t
 |string x=>
  have:Rd g w (.s x.data.toList) (sv x.data.toList):=.s _
  simp_all
 |slice p n c=>
  unfold vV;split <;>first
   |exact .v _
   |(simp_all;exact .nil _ _)
   |simp_all
 |_=>exact .v _
theorem zp(v:Value):(vV v).strip=vV v:=by
 cases v with
 |slice p n c=>unfold vV;split <;>simp_all
 |_=>rfl
section
variable{P:Program}{g0:Gh}{w0:World}{fr:Nat->Prop}{s:AS}{g:Gh}{w:World}{m:Mem}{a:Act}{o:Oper}{i:Nat}
theorem SR.ev(h:SR P g0 w0 fr s g w m a.tmps)(x:Operand):RV fr s.lv g w m (s.ev x) (a.eval x):=by
 cases x with
 |tmp t=>exact h.tmps t
 |const v=>exact .cw (GQ g w v) (zp v)
 |global b=>exact .cw (.v _) rfl
 |func f=>exact .cw (.fn f [] [] [] [] rfl rfl (λ_ _ _ e=>by simp at e) (λ_ _ _ e=>by simp at e)) rfl
def fX(P:Program)(g0:Gh)(w0:World)(fr:Nat->Prop)(s:AS)(i:Nat)(a:Act)(o:Oper)(w:World)(z:AV)(u:jA):Prop:=
 ∀(K:Act->World->Prop) (Q:Exit->Act->World->Prop),(∀a' w' g' m',SR P g0 w0 (λj=>fr j/\j≠s.nx+i) (upd s i o.dst z u) g' w' m' a'.tmps->a'.defers= []->K a' w')->o.wp P a w K Q
theorem put_defers(a:Act)(d:Option Tmp)(y:Value)(h:a.defers= []):(a.put d y).defers= []:=by cases d <;>exact h
theorem SR.iR{tmps:Array Value}(h:SR P g0 w0 fr s g w m tmps){dst:Option Nat}(hd:∀d,dst=some d->d<s.n){z:AV}{y:Value}(hr:RV fr s.lv g w m z y)(a:Act)(ht:a.tmps=tmps):
  SR P g0 w0 fr { s with T:=sI s.T dst z } g w m (a.put dst y).tmps:=by
 subst ht;cases dst with
 |none=>exact h
 |some d=>exact h.put (hd d rfl) hr
theorem Dk(s:AS)(i:Nat)(dst:Option Nat)(z:AV):upd s i dst z {} = { s with T:=sI s.T dst z } :=by
 rfl
theorem fX.IU(h:SR P g0 w0 fr s g w m a.tmps)(H:a.defers= [])(hd:∀d,o.dst=some d->d<s.n){z:AV}{y:Value}(hrun:(execOp a.eval o).run P w=.ok (.value y) w)(hr:RV fr s.lv g w m z y):fX P g0 w0 fr s i a o w z {} :=by
 intro K Q p;unfold Oper.wp;rw[hrun];refine p _ _ g m ?_ (put_defers _ _ _ H);rw[Dk];have E:Mv fr (λj=>fr j/\j≠s.nx+i) s.lv s.lv g g w w m m:=⟨.refl _ _,λ_ h k=>h k.1,λσ _ h=>⟨h,rfl⟩,λ_ _=>rfl⟩
 exact(h.less _).iR hd (hr.mv E) a rfl
theorem bT{t:TypeId}{d:TypeDesc}(h:P.underlying t=some d)(w:World):(underlying t).run P w=.ok d w:=aff h w
theorem oX{t:TypeId}{b:Bool}(h:fv P t=some b)(w:World):(isAgg t).run P w=.ok b w:=by
 unfold fv at h;cases hu:P.underlying t with
 |none=>simp_all
 |some d=>
  rw[hu] at h;unfold isAgg;simp only[aaw,bT hu,aas];cases d <;>simp_all
theorem pI{t:TypeId}{d:TypeDesc}(h:P.underlying t=some d):∃j,P.info? t=some j:=by
 grind [Program.underlying]
theorem ew{t:TypeId}{j:TypeInfo}(h:P.info? t=some j)(w:World):(sizeOf t).run P w=.ok (aQ P t) w:=by
 unfold sizeOf typeInfo aQ
 simp_all
theorem dy{e:TypeId}(h:bL P e=true):∃j z,P.info? e=some j/\j.zero=some z/\z.cells.size=j.size/\0<j.size/\aQ P e=j.size/\qM P e=j.bytes:=by
 unfold bL at h;cases hi:P.info? e with
 |none=>simp_all
 |some j=>
  rw[hi] at h;simp only at h;cases hz:j.zero with
  |none=>simp_all
  |some z=>
   simp_all [aQ,qM]
end
end Go.Proofs.YtjagmhagphbfcaaGreatDoor
