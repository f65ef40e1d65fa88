/- Lemmas, part 11. -/
import Derived.Laws.BytesString
import Derived.Laws.IdiomStrings
import Derived.Laws.Strings
import Derived.Laws.StructEq
import Derived.Laws.Small
import Derived.Stop.BytesEq
import Derived.Test.YtjagmhagphbfcaaGreatDoorO10
set_option maxRecDepth 100000
set_option linter.all false
namespace Go.Proofs.YtjagmhagphbfcaaGreatDoor
def afj:=@Option.isSome_iff_exists
def adm:=@Option.bind_eq_some_iff
open Go Go.Proofs
section
variable{P:Program}{g0:Gh}{w0:World}{fr:Nat->Prop}{s:AS}{g:Gh}{w:World}{m:Mem}{a:Act}{o:Oper}{i:Nat}
theorem anA(b o n:Nat):(⟨b,o,none⟩:Addr).add n=⟨b,o+n,none⟩:=by unfold Addr.add;grind
theorem toList_mk(l:List UInt8):(⟨l.toArray⟩:ByteArray).toList=l:=by
 rw[ByteArray.toList_eq]
def lG(P:Program)(g:Gh)(w:World)(z:AV)(c:Sem Value):Prop:=∃Z,c.run P w=.ok Z w/\Rd g w z Z
theorem J7{op:BinOp}{t:TypeId}{ox oy:Operand}{k:IntKind}{a b:Int}{z:AV}(h:JC op k a b=some z):
  lG P g w z (do eqGuard op t ox oy (.int k a) (.int k b);binOp op t (.int k a) (.int k b))/\z.strip=z:=by
 have hg:(eqGuard op t ox oy (.int k a) (.int k b)).run P w=.ok () w:=by cases op <;>rfl
 unfold lG;simp only[aaw,hg,aas];cases op <;>simp only[JC,Option.some.injEq,reduceCtorEq] at h
 case quo=>
  split at h
  ·cases h
  ·rename_i hb;cases h;exact⟨⟨_,by simp_all [binOp,Op.intDiv],.i _ _⟩,rfl⟩
 case rem=>
  split at h
  ·cases h
  ·rename_i hb;cases h;exact⟨⟨_,by simp_all [binOp,Op.intDiv],.i _ _⟩,rfl⟩
 case shl=>
  split at h
  ·cases h
  ·rename_i hb;cases h;exact⟨⟨_,by simp[binOp,Op.shift,hb],.i _ _⟩,rfl⟩
 case shr=>
  split at h
  ·cases h
  ·rename_i hb;cases h;exact⟨⟨_,by simp[binOp,Op.shift,hb],.i _ _⟩,rfl⟩
 all_goals subst h
 case and=>exact⟨⟨_,by simp[binOp,Op.intBits],.i _ _⟩,rfl⟩
 case add=>exact⟨⟨_,by simp[binOp,Op.intArith],.i _ _⟩,rfl⟩
 case sub=>exact⟨⟨_,by simp[binOp,Op.intArith],.i _ _⟩,rfl⟩
 case mul=>exact⟨⟨_,by simp[binOp,Op.intArith],.i _ _⟩,rfl⟩
 all_goals exact⟨⟨_,by simp[binOp,Op.intCmp],.b _⟩,rfl⟩
theorem alP{op:BinOp}{t:TypeId}{ox oy:Operand}{k k':IntKind}{a b:Int}{z:AV}(h:alD op k a b=some z):
  lG P g w z (do eqGuard op t ox oy (.int k a) (.int k' b);binOp op t (.int k a) (.int k' b))/\z.strip=z:=by
 have hg:(eqGuard op t ox oy (.int k a) (.int k' b)).run P w=.ok () w:=by cases op <;>rfl
 unfold lG;simp only[aaw,hg,aas];cases op <;>simp only[alD,JC,reduceCtorEq] at h
 all_goals
  split at h
  ·cases h
  ·rename_i hb;cases h;exact⟨⟨_,by simp[binOp,Op.shift,hb],.i _ _⟩,rfl⟩
theorem J6{op:BinOp}{t:TypeId}{ox oy:Operand}{a b:List UInt8}{z:AV}(h:JB op a b=some z):
  lG P g w z (do eqGuard op t ox oy (sv a) (sv b);binOp op t (sv a) (sv b))/\z.strip=z:=by
 have hg:(eqGuard op t ox oy (sv a) (sv b)).run P w=.ok () w:=by cases op <;>rfl
 unfold lG;simp only[aaw,hg,aas];cases op <;>simp only[JB,Option.some.injEq,reduceCtorEq] at h
 case add=>
  split at h
  ·cases h
  ·rename_i hb;cases h;refine⟨⟨sv (a++b),?_,.s _⟩,rfl⟩;have p:¬((((⟨a.toArray⟩:ByteArray).size+(⟨b.toArray⟩:ByteArray).size:Nat):Int)>IntKind.i64.max):=by grind [ByteArray.size]
   have e:(⟨a.toArray⟩:ByteArray)++⟨b.toArray⟩=⟨(a++b).toArray⟩:=by
    rfl
   simp_all [binOp,Op.stringOp]
 all_goals
  subst h;refine⟨⟨_,?_,.b _⟩,rfl⟩
  grind [toList_mk,Sem.run_pure,binOp,Op.stringOp]
theorem akS{t:TypeId}(h:jd P t=true):P.underlying t=some .string:=by grind [jd]
theorem asf{t:TypeId}{k:IntKind}(h:nG P t=some k):P.underlying t=some (.int k):=by
 grind [nG]
theorem akO{t:TypeId}(h:(nG P t).isSome=true):∃k,P.underlying t=some (.int k):=by
 grind [nG]
theorem tq(w:World){t:TypeId}{xs:Array Value}{o:Nat}{v:Value}(h:P.underlying t=some .string\/∃k,P.underlying t=some (.int k))(hv:xs[o]?=some v):(part t xs o).run P w=.ok v w:=by
 rcases h with h|⟨k,h⟩ <;>simp[part,isAgg,aff h,hv]
theorem akR(w:World){t:TypeId}(h:akC P t=true)(a b:List UInt8)(k k':IntKind)(x y x' p:Int):
  (Op.equal t (.agg #[sv a,.int k x,.int k' y]) (.agg #[sv b,.int k x',.int k' p])).run P w=.ok (a==b&&(x==x'&&y==p)) w/\P.eqGuardType P.depth t=false:=by
 unfold akC at h;split at h
 ·rename_i fs hu;rw[aaZ,aaZ,Bool.not_eq_true',Bool.not_eq_true'] at h;obtain⟨⟨h1,h2⟩,h⟩:=h;refine⟨?_,h2⟩;split at h
  ·rename_i f J hf;simp only[aaZ,bne_iff_ne,ac6] at h;obtain⟨⟨⟨⟨⟨⟨⟨n1,N⟩,o1⟩,o2⟩,s1⟩,c2⟩,i2⟩,h⟩:=h;split at h
   ·rename_i gs O;rw[aaZ,Bool.not_eq_true'] at h;obtain⟨U,h⟩:=h;split at h
    ·rename_i q Z hq;simp only[aaZ,bne_iff_ne,ac6] at h;obtain⟨⟨⟨⟨⟨m1,m2⟩,M⟩,p2⟩,H⟩,E⟩:=h;obtain⟨k1,H⟩:=akO H;obtain⟨k2,E⟩:=akO E;have s1:=akS s1;obtain⟨ii,i2⟩:=afj.1 i2;have Y:P.fieldsOf t=fs:=by grind [Program.fieldsOf]
     have W:P.fieldsOf J.type=gs:=by grind [Program.fieldsOf]
     have L:∀z z1 z2,(part J.type #[z,z1,z2] 1).run P w=.ok (.agg #[z1,z2]) w:=λz z1 z2=>by
      simp_all [aff,run_sizeOf,part,isAgg]
     have I:(Op.equalIn 9999 J.type (.agg #[.int k x,.int k' y]) (.agg #[.int k x',.int k' p])).run P w=.ok (x==x'&&y==p) w:=by
      have a1 (x y):=tq (xs:= #[.int k x,.int k' y]) (o:=0) (v:=.int k x) w (.inr ⟨_,H⟩) rfl;have a2 (x y):=tq (xs:= #[.int k x,.int k' y]) (o:=1) (v:=.int k' y) w (.inr ⟨_,E⟩) rfl;have a3:=run_equalIn_int w 9997 _ k _ x x' H;have a4:=run_equalIn_int w 9997 _ k' _ y p E;rw[run_equalIn_struct w 9998 _ _ _ (by simp_all) U,W,hq];simp only[Op.eqFields,m1,m2,ne_eq,not_false_eq_true,acC,M,p2,aaw,a1,a3,aas];cases(x==x')
      ·rfl
      ·simp only[aeF,abX,ab3,aaw,a2,a4,aas];cases(y==p) <;>rfl
     have b1 (a) (x y:Int):=tq (xs:= #[sv a,.int k x,.int k' y]) (o:=0) (v:=sv a) w (.inl s1) rfl;have b2:=run_equalIn_string w 9998 _ ⟨a.toArray⟩ ⟨b.toArray⟩ s1;rw[ByteArray.toList_eq,ByteArray.toList_eq] at b2;have b2:(Op.equalIn 9999 f.type (sv a) (sv b)).run P w=.ok (a==b) w:=b2;show(Op.equalIn 10000 t _ _).run P w=_;rw[run_equalIn_struct w 9999 _ _ _ (by simp_all) h1,Y,hf];simp only[Op.eqFields,n1,N,ne_eq,not_false_eq_true,acC,o1,o2,aaw,b1,b2,aas];cases(a==b)
     ·rfl
     ·simp only[aeF,abX,ab3,aaw,L,I,aas,Bool.true_and];cases(x==x'&&y==p) <;>rfl
    ·cases h
   ·cases h
  ·cases h
 ·cases h
theorem uU:∀ {l:List AV} {c:List UInt8} {ys:List Value},iY l=some c->cS g w l ys->ys=(c.map λb=>(b.toNat:Int)).map (Value.int .u8)
 | [],c,ys,h,hr=>by cases h;cases hr.nE;rfl
 |x::l,c,ys,h,hr=>by
  obtain⟨y,ys',rfl,h1,h2⟩:=hr.dX;cases x with
  |i k n=>
   cases k <;>simp only[iY,reduceCtorEq] at h
   split at h
   ·rename_i hn;cases hb:iY l with
    |none=>simp_all
    |some c'=>
     rw[hb] at h;cases h;cases h1;rw[uU hb h2];have:((UInt8.ofNat n.toNat).toNat:Int)=n:=by
      rw[UInt8.toNat_ofNat'];omega
     simp_all
   ·cases h
  |_=>simp only[iY,reduceCtorEq] at h
theorem ar2(w:World){t:TypeId}{n:Nat}(h:aq8 P t=some n)(a b:List UInt8)(ha:a.length=n)(hb:b.length=n):
  (Op.equal t (.agg (a.map Extern.Stop.cell).toArray) (.agg (b.map Extern.Stop.cell).toArray)).run P w=.ok (a==b) w/\P.eqGuardType P.depth t=false:=by
 unfold aq8 at h;split at h
 ·rename_i m e hu;split at h
  ·rename_i hh;cases h;obtain⟨i,hi⟩:=afj.1 hh.2.2.2;have hk:=asf hh.2.1;exact⟨run_equalIn_bytes w 9998 t e n hu hk (λw=>by grind [run_sizeOf]) a b ha hb,hh.1⟩
  ·cases h
 ·cases h
theorem MI{op:BinOp}{t:TypeId}{ox oy:Operand}{x y z:AV}{X Y:Value}(hx:RV fr s.lv g w m x X)(hy:RV fr s.lv g w m y Y)(h:PQ (ub P t) (akC P t) (aq8 P t) op x y=some z):
  lG P g w z (do eqGuard op t ox oy X Y;binOp op t X Y)/\z.strip=z:=by
 unfold PQ at h;split at h
 ·cases hx.i;cases hy.i
  grind [J7,alP]
 ·cases hx.s;cases hy.s;exact J6 h
 ·cases hx.b;cases hy.b;rename_i a b;split at h
  ·rename_i ht;have hu:P.underlying t=some .bool:=by grind [ub]
   have hg:(eqGuard op t ox oy (.bool a) (.bool b)).run P w=.ok () w:=by cases op <;>rfl
   unfold lG;simp only[aaw,hg,aas];cases op <;>simp only[PO,Option.some.injEq,reduceCtorEq] at h
   all_goals
    subst h;refine⟨⟨_,?_,.b _⟩,rfl⟩
    simp_all [run_equal_bool,binOp]
  ·cases h
 ·obtain⟨xs,rfl,_,I⟩:=hx.ag;obtain⟨ys,rfl,_,H⟩:=hy.ag;split at h
  ·rename_i ht;unfold akQ at h;split at h
   ·rename_i a k x q y b k' x' O E;split at h
    ·rename_i hk;obtain⟨rfl,rfl⟩:=hk;have three:∀ {u:List UInt8} {x y:Int} {p:List Value},cS g w [.s u,.i k x,.i q y] p->p= [sv u,.int k x,.int q y]:=by
      intro u x y p hz;obtain⟨z1,p,rfl,r1,hz⟩:=hz.dX;obtain⟨z2,p,rfl,L,hz⟩:=hz.dX;obtain⟨z3,p,rfl,J,hz⟩:=hz.dX;cases hz.nE;cases r1;cases L;cases J;rfl
     rw[three I,three H];obtain⟨N,M⟩:=akR w ht a b k q x y x' E;have hg:(eqGuard op t ox oy (.agg #[sv a,.int k x,.int q y]) (.agg #[sv b,.int k x',.int q E])).run P w=.ok () w:=by
      simp_all [eqGuard]
     unfold lG;simp only[aaw,hg,aas];cases op <;>simp only[Option.some.injEq,reduceCtorEq] at h
     all_goals
      subst h;refine⟨⟨_,?_,.b _⟩,rfl⟩
      simp_all [binOp]
    ·cases h
   ·cases h
  ·obtain⟨n,hw,h⟩:=adm.1 h;obtain⟨a,h1,h⟩:=adm.1 h;obtain⟨b,h2,h⟩:=adm.1 h;split at h
   ·rename_i hl;rw[uU h1 I,uU h2 H];obtain⟨N,M⟩:=ar2 w hw a b hl.1 hl.2;have c1:∀l:List UInt8,(l.map λb=>(b.toNat:Int)).map (Value.int .u8)=l.map Extern.Stop.cell:=λl=>by rw[List.map_map];rfl
    rw[c1,c1];have hg:(eqGuard op t ox oy (.agg (a.map Extern.Stop.cell).toArray) (.agg (b.map Extern.Stop.cell).toArray)).run P w=.ok () w:=by
     simp_all [eqGuard]
    unfold lG;simp only[aaw,hg,aas];cases op <;>simp only[Option.some.injEq,reduceCtorEq] at h
    all_goals
     subst h;refine⟨⟨_,?_,.b _⟩,rfl⟩
     simp_all [binOp]
   ·cases h
 ·cases h
end
def ac8:=@List.mem_of_mem_drop
def aee:=@List.mem_of_mem_take
def aek:=@List.getElem?_toArray
section
variable{P:Program}{g0:Gh}{w0:World}{fr:Nat->Prop}{s:AS}{g:Gh}{w:World}{m:Mem}{a:Act}{o:Oper}{i:Nat}
theorem Rd.vC{l:List AV}{ys:List Value}(h:cS g w l ys)(h1:∀y∈ys,y.oneCell'=true):Rd g w (.ag l) (.agg ys.toArray):=.ag l ys h.1 h1 h.2
theorem DW{ft:TypeId}{l:List AV}{ys:List Value}{off:Nat}{z:AV}(hr:cS g w l ys)(h1:∀y∈ys,y.oneCell'=true)(h:cW P ft (l.drop off)=some z):lG P g w z (part ft ys.toArray off):=by
 unfold cW at h;unfold part;split at h
 ·rename_i ht;split at h
  ·rename_i hs;cases h;obtain⟨d,hd⟩:∃d,P.underlying ft=some d:=by
    unfold fv at ht;cases hu:P.underlying ft with
    |none=>simp_all
    |some d=>grind
   obtain⟨j,E⟩:=pI hd;refine⟨.agg ((ys.drop off).take (aQ P ft)).toArray,?_,Rd.vC ((hr.drop off).take _) (λy hy=>h1 y (ac8 (aee hy)))⟩
   simp_all [oX,ew]
  ·cases h
 ·rename_i ht;obtain⟨y,hy,p⟩:=hr.get (j:=off) (a:=z) (by simpa using h);refine⟨y,?_,p⟩
  simp_all [oX]
 ·cases h
theorem run_load{t:TypeId}{l:List AV}{ys:List Value}{b o:Nat}{z:AV}(hr:cS g w l ys)(h1:∀y∈ys,y.oneCell'=true)(hc:∀j y,ys[j]?=some y->w.cell? ⟨b,o+j,none⟩=some y)(h:cW P t l=some z):
  lG P g w z (loadVar t ⟨b,o,none⟩):=by
 unfold cW at h;unfold loadVar;split at h
 ·rename_i ht;split at h
  ·rename_i hs;cases h;obtain⟨d,hd⟩:∃d,P.underlying t=some d:=by
    unfold fv at ht;cases hu:P.underlying t with
    |none=>simp_all
    |some d=>grind
   obtain⟨j,E⟩:=pI hd;refine⟨.agg (ys.take (aQ P t)).toArray,?_,Rd.vC (hr.take _) (λy hy=>h1 y (aee hy))⟩;have hl:(loadCells ⟨b,o,none⟩ (ys.take (aQ P t)).length).run P w=.ok (ys.take (aQ P t)).toArray w:=
    run_loadCells_list w ⟨b,o,none⟩ _ (λj v hv=>by
     rw[anA]
     grind)
   have hlen:(ys.take (aQ P t)).length=aQ P t:=by simp[hr.1];omega
   simp_all [oX,ew]
  ·cases h
 ·rename_i ht;obtain⟨y,hy,p⟩:=hr.get (j:=0) (a:=z) h;refine⟨y,?_,p⟩;have H:=hc 0 y hy
  simp_all [oX]
 ·cases h
theorem zw{t:TypeId}{f off:Nat}{ft:TypeId}(h:eW P t f=some (off,ft)):∃fs x j,P.underlying t=some (.struct fs)/\fs[f]?=some x/\x.offset=off/\x.type=ft/\P.info? ft=some j/\aQ P ft≠0:=by
 unfold eW at h;split at h
 ·rename_i fs hu;cases hf:fs[f]? with
  |none=>simp_all
  |some x=>
   rw[hf] at h;simp only[abN] at h;split at h
   ·rename_i hz;cases h;have:∃j,P.info? x.type=some j:=by
     cases hi:P.info? x.type with
     |none=>grind [aQ]
     |some j=>grind
    grind
   ·cases h
 ·cases h
theorem nQ{t:TypeId}{f off:Nat}{ft:TypeId}(h:eW P t f=some (off,ft))(b o:Nat):(Instr.fieldAt t (.pointer (some ⟨b,o,none⟩)) f).run P w=.ok (.pointer (some ⟨b,o+off,none⟩)) w:=by
 obtain⟨fs,x,j,h1,h2,rfl,rfl,E,p⟩:=zw h;unfold Instr.fieldAt;simp only[aaw,bT h1,aas,h2,Instr.sureAddr,aaS,fieldPlace,ew E,p,ab3,anA]
theorem zx{t:TypeId}{n:Nat}{e:TypeId}(h:jP P t=some (n,e)):P.underlying t=some (.array n e):=by
 grind [jP]
theorem eY{t:TypeId}{e:TypeId}(h:gY P t=some e):P.underlying t=some (.slice e):=by
 grind [gY]
theorem kg{t:TypeId}(h:jd P t=true):P.underlying t=some .string:=by
 grind [jd]
theorem sT{t:TypeId}{k}(h:nG P t=some k):P.underlying t=some (.int k):=by
 grind [nG]
theorem RV.aqm{x:AV}{n:Int}{y:Value}(h:RV fr s.lv g w m x y)(hn:gV x=some n):∃k,y=.int k n:=by
 cases x <;>simp[gV] at hn
 subst hn;exact⟨_,h.i⟩
theorem nf{t:TypeId}{n:Nat}{e:TypeId}(ht:jP P t=some (n,e))(he:bL P e=true){k:IntKind}{ix:Int}(h0:0<=ix)(h1:ix<n)(b o:Nat):
  (Instr.indexAt t (.pointer (some ⟨b,o,none⟩)) (.int k ix)).run P w=.ok (.pointer (some ⟨b,o+ix.toNat*aQ P e,none⟩)) w:=by
 obtain⟨j,z,p,_⟩:=dy he;unfold Instr.indexAt;simp only[aaw,asIntOf,aaS,aas,bT (zx ht),Instr.sureAddr]
 simp_all [ew,anA]
theorem run_indexAt_slice{t:TypeId}{n c:Nat}{e:TypeId}(ht:gY P t=some e)(he:bL P e=true){k:IntKind}{ix:Int}(h0:0<=ix)(h1:ix<n)(b o:Nat):
  (Instr.indexAt t (.slice (some ⟨b,o,none⟩) n c) (.int k ix)).run P w=.ok (.pointer (some ⟨b,o+ix.toNat*aQ P e,none⟩)) w:=by
 obtain⟨j,z,p,_⟩:=dy he;unfold Instr.indexAt;simp only[aaw,asIntOf,aaS,aas,bT (eY ht)]
 simp_all [ew,anA]
theorem run_index_string{t:TypeId}(ht:jd P t=true){k:IntKind}{ix:Int}{l:List UInt8}{c:UInt8}(h0:0<=ix)(h1:l[ix.toNat]?=some c):(Instr.index t (sv l) (.int k ix)).run P w=.ok (.int .u8 c.toNat) w:=by
 unfold Instr.index sv;simp only[aaw,asIntOf,aaS,aas,bT (kg ht),h0,acC];have:(⟨l.toArray⟩:ByteArray)[ix.toNat]?=some c:=by
  have p:=(abi.1 h1).1;rw[getElem?_pos (⟨l.toArray⟩:ByteArray) ix.toNat (by grind [ByteArray.size])];congr 1;rw[aaf p] at h1;cases h1;rfl
 simp_all
theorem yF{t:TypeId}{n:Nat}{e:TypeId}(ht:jP P t=some (n,e))(he:(P.info? e).isSome=true){k:IntKind}{ix:Int}(h0:0<=ix)(h1:ix<n){l:List AV}{ys:List Value}{z:AV}(hr:cS g w l ys)(p:∀y∈ys,y.oneCell'=true)
  (h:cW P e (l.drop (ix.toNat*aQ P e))=some z):lG P g w z (Instr.index t (.agg ys.toArray) (.int k ix)):=by
 obtain⟨j,E⟩:=afj.1 he;obtain⟨Z,hz,H⟩:=DW (P:=P) hr p h;refine⟨Z,?_,H⟩;unfold Instr.index;simp only[aaw,asIntOf,aaS,aas,bT (zx ht),h0,h1,and_self,acC,ew E,hz]
theorem QM{t:TypeId}{l:List UInt8}(ht:jd P t=true)(ty:TypeId):(Builtin.len_ #[t] ty #[sv l]).run P w=.ok (.int .i64 l.length) w:=by
 unfold Builtin.len_;simp only[aek,abe,aaw,bT (kg ht),aas,aaS,goInt];rfl
theorem run_len_slice{t e:TypeId}{p:Option Addr}{n c:Nat}(ht:gY P t=some e)(ty:TypeId):(Builtin.len_ #[t] ty #[.slice p n c]).run P w=.ok (.int .i64 n) w:=by
 unfold Builtin.len_
 simp_all [bT,eY,goInt]
theorem wL(E:Bool)(h:SR P g0 w0 fr s g w m a.tmps){n cap:Nat}{p hi:Option Operand}{x y:Nat}(hb:fu s n p hi=some (x,y))(hc:n<=cap):
  x<=y/\y<=n/\(Instr.sliceBounds E n cap (p.map a.eval) (hi.map a.eval) none).run P w=.ok (x,y,cap) w:=by
 have I:∀(k:IntKind) (q:Int) (r:Nat) (code:BoundsCode),0<=q->q<=r->(Instr.sliceBound (.int k q) r code).run P w=.ok q.toNat w:=λk q r code h1 h2=>by
  simp_all [Instr.sliceBound,asIntOf]
 unfold fu at hb;unfold Instr.sliceBounds;cases hi with
 |none=>
  cases p with
  |none=>cases hb;simp_all
  |some l=>
   simp only at hb;cases hl:gV (s.ev l) with
   |none=>simp_all
   |some q=>
    rw[hl] at hb;simp only[abN] at hb;split at hb
    ·rename_i hq;cases hb;obtain⟨k,hk⟩:=(h.ev l).aqm hl
     simp_all
    ·cases hb
 |some u=>
  simp only at hb;cases hu:gV (s.ev u) with
  |none=>simp_all
  |some r=>
   rw[hu] at hb;simp only[abN] at hb;split at hb
   ·rename_i hr;obtain⟨k',J⟩:=(h.ev u).aqm hu;have H:r<=(cap:Int):=by omega
    cases p with
    |none=>
     cases hb
     simp_all
    |some l=>
     simp only at hb;cases hl:gV (s.ev l) with
     |none=>simp_all
     |some q=>
      rw[hl] at hb;simp only[abN] at hb;split at hb
      ·rename_i hq;cases hb;obtain⟨k,hk⟩:=(h.ev l).aqm hl;refine⟨by omega,by omega,?_⟩;have hq2:q<=((r.toNat:Nat):Int):=by omega
       simp_all
      ·cases hb
   ·cases hb
end
end Go.Proofs.YtjagmhagphbfcaaGreatDoor
