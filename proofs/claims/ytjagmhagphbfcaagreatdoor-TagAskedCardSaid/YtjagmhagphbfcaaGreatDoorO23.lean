/- Lemmas, part 23. -/
import Derived.DeepKeys4
import Derived.WideKeyElems
import Derived.Test.YtjagmhagphbfcaaGreatDoorO22
set_option maxRecDepth 100000
set_option linter.all false
namespace Go.Proofs.YtjagmhagphbfcaaGreatDoor
def afM:=@Go.MapKept.run_getObj_map
open Go
open Go.Proofs
open Go.ChangeShapes
open Go.WideShapes
open Go.MapKept
open Go.ChangeMaps (setBlock)
section
variable{P:Program}
theorem wK{t k e:TypeId}(K:WideMaps.KeyLaw P k)(ht:P.underlying t=some (.map k e)){w:World}{b:Nat}{es:Array MapEntry}{ck:Nat}{z:Value}(hz:(zeroValue e).run P w=.ok z w)(hb:w.heap[b]?=some (.map es ck))
  (I:∀x∈es.toList,∃l,keyOf P k x.key=some l) {key:Value} {kl:Lit} (p:keyOf P k key=some kl):
  ∃v ok,(Instr.lookup t (.map (some b)) key true).run P w=.ok (.tuple #[v,.bool ok]) w/\(ok=true->∃x∈es.toList,x.key=key/\v=x.val)/\(ok=false->v=z):=by
 rcases K.find w p es.toList I with ⟨h1,_⟩|⟨j,E,h1,h2,H⟩
 ·exact⟨z,false,by simp[Instr.lookup,aff ht,afM hb,K.check w _ p,h1,hz,Result.andThen],by simp,λ_=>rfl⟩
 ·exact⟨E.val,true,by simp[Instr.lookup,aff ht,afM hb,K.check w _ p,h1,Result.andThen],λ_=>⟨E,List.mem_of_getElem? h2,H,rfl⟩,by simp⟩
theorem wJ{t k e:TypeId}(K:WideMaps.KeyLaw P k)(ht:P.underlying t=some (.map k e)){w:World}{b:Nat}{es:Array MapEntry}{ck:Nat}(hb:w.heap[b]?=some (.map es ck))
  (L:∀x∈es.toList,∃l,keyOf P k x.key=some l) {key val:Value} {kl:Lit} (p:keyOf P k key=some kl):
  ∃es' J,(Instr.mapUpdate t (.map (some b)) key val).run P w=.ok () (setBlock w b (.map es' J))/\∀x∈es'.toList,(x.key=key/\x.val=val)\/x∈es.toList:=by
 rcases K.find w p es.toList L with ⟨h1,h2⟩|⟨j,I,h1,h2,H⟩
 ·refine⟨es.push ⟨key,val,ck⟩,ck+1,?_,λx hx=>?_⟩
  ·simp[Instr.mapUpdate,aff ht,afM hb,K.check w false p,h1,MapKept.run_setObj_map _ hb,Result.andThen,setBlock]
  grind
 ·have E:es[j]?=some I:=by grind
  refine⟨es.modify j (λe'=> { e' with key:=key,val:=val }),ck,?_,λx hx=>?_⟩
  ·simp[Instr.mapUpdate,aff ht,afM hb,K.check w false p,h1,E,H,K.stays w p,MapKept.run_setObj_map _ hb,Result.andThen,setBlock]
  grind [MapFrom.mem_modify]
variable[l:cL P]
theorem Nt:WideMaps.KeyLaw P 192:=by
 obtain⟨fs,rfl,_⟩:=l.amN;exact deep_law (m:=3) (by omega) (by kernel_rfl) (by kernel_rfl) (by kernel_rfl)
end
section
variable{P:Program}{g0:Gh}{w0:World}
theorem E4{t J e:TypeId}(K:WideMaps.KeyLaw P J)(ht:P.underlying t=some (.map J e)){z:Value}(hz:∀w,(zeroValue e).run P w=.ok z w){zA:AV}(hzA:∀g w,Rd g w zA z){o:Oper}{x q:Operand}(hop:o.op=.lookup t x q true){s1:AS}{nx k:Nat}(hnx:s1.nx=nx)(hd:∀d,o.dst=some d->d<s1.n)
  {d:Value->Option AV} (hx:s1.ev x=.mm d) {cells:List AV} (hq:s1.ev q=.ag cells) {I:Value} {kl:Lit} (N:∀g w y,Rd g w (.ag cells) y->y=I) (vg:keyOf P J I=some kl) (WR:∀v a,d v=some a->∃l,keyOf P J v=some l):
  Hand P g0 w0 nx k o s1 (λs2=>(∃a,d I=some a/\s2=upd s1 k o.dst (.tu [a,.b true]) {})\/s2=upd s1 k o.dst (.tu [zA,.b false]) {}):=by
 subst hnx;intro g w m a KK Q H Y W;have L:=(H.ev x).rd (by simp_all);rw[hx] at L;have Z:=(H.ev q).rd (by simp_all);rw[hq] at Z;have WA:=N g w _ Z;obtain⟨b,hb,I3⟩:∃b,g.aD b=some d/\a.eval x=.map (some b):=by
  generalize a.eval x=y at L;cases L with
  |mm d b h=>simp_all
 obtain⟨es,ck,ET,Ch⟩:=H.wi.aD b d hb;obtain⟨v,ok,h1,h2,h3⟩:=wK K ht (hz w) ET (λy hy=>by
  grind) vg
 have he:execOp a.eval o=(do pure (Next.value (<-Instr.lookup t (.map (some b)) I true))):=by
  unfold execOp
  simp_all
 cases ok with
 |true=>
  obtain⟨x0,m1,m2,rfl⟩:=h2 rfl;obtain⟨a',sN,Cd⟩:=Ch x0 (Array.mem_toList_iff.1 m1);have M:fX P g0 w0 (λj=>s1.nx+k<=j) s1 k a o w (.tu [a',.b true]) {} :=dU H Y hd he ⟨_,h1,.tu _ _ rfl (λj a2 y E p=>by
   match j with
   |0=>simp_all
   |1=>simp at E p;subst E p;exact .b _
   |j+2=>grind)⟩ rfl
  refine M KK Q (λa2 w' g' m' U O=>W _ g' w' m' a2 (.inl ⟨a',by simp_all,rfl⟩) (U.sub λj hj=>⟨by omega,by omega⟩) O)
 |false=>
  have hv:=h3 rfl;subst hv;have M:fX P g0 w0 (λj=>s1.nx+k<=j) s1 k a o w (.tu [zA,.b false]) {} :=dU H Y hd he ⟨_,h1,.tu _ _ rfl (λj a2 y E p=>by
   match j with
   |0=>simp_all
   |1=>simp at E p;subst E p;exact .b _
   |j+2=>grind)⟩ rfl
  refine M KK Q (λa2 w' g' m' U O=>W _ g' w' m' a2 (.inr rfl) (U.sub λj hj=>⟨by omega,by omega⟩) O)
theorem E3{t I e:TypeId}(K:WideMaps.KeyLaw P I)(ht:P.underlying t=some (.map I e)){o:Oper}{x q v:Operand}(hop:o.op=.mapUpdate t x q v){s1:AS}{nx k:Nat}(hnx:s1.nx=nx)(hd:∀d,o.dst=some d->d<s1.n)
  {d:Value->Option AV} (hx:s1.ev x=.mm d) {cells:List AV} (hq:s1.ev q=.ag cells) {J:Value} {kl:Lit} (N:∀g w y,Rd g w (.ag cells) y->y=J) (vg:keyOf P I J=some kl) (WR:∀v a,d v=some a->∃l,keyOf P I v=some l)
  (hnb:∀id off,s1.ev v≠.bx id off) (hdv:d J=some (s1.ev v).strip):
  Hand P g0 w0 nx k o s1 (λs2=>s2=upd s1 k o.dst (.tu []) {}):=by
 subst hnx;intro g w m a KK Q p ba hK;have L:=(p.ev x).rd (by simp_all);rw[hx] at L;have Z:=(p.ev q).rd (by simp_all);rw[hq] at Z;have WA:=N g w _ Z;have M:=((p.ev v).rd hnb).strip;obtain⟨b,hb,I3⟩:∃b,g.aD b=some d/\a.eval x=.map (some b):=by
  generalize a.eval x=y at L;cases L with
  |mm d b h=>simp_all
 obtain⟨es,ck,U,Ch⟩:=p.wi.aD b d hb;obtain⟨es',E,h1,h2⟩:=wJ K ht U (λy hy=>by
  grind) (val:=a.eval v) vg
 have fM:b<w.heap.size:=(aah.1 U).1;have C7:(setBlock w b (.map es' E)).heap[b]?=some (.map es' E):=by grind [setBlock]
 have Y:∀c,c≠b->(setBlock w b (.map es' E)).heap[c]?=w.heap[c]?:=λc hc=>by
  grind [setBlock]
 have H:Lw g g w (setBlock w b (.map es' E)):=by
  refine⟨by simp[setBlock],λ_=>aax _,λc oo _=>?_,λ_ _ h=>h,rfl,rfl,rfl,λc o e hs=>by
   rw[Y c (λe'=>by subst e';rw[U] at e;cases e;cases hs)];exact e⟩
  grind [World.cell?]
 have hW:WI g (setBlock w b (.map es' E)):=by
  refine⟨λc hc=>p.wi.out c (by grind [setBlock]),λc d' W=>?_,p.wi.cz.mono H⟩;by_cases hc:c=b
  ·subst hc;rw[hb] at W;cases W;refine⟨es',E,C7,λy hy=>?_⟩;rcases h2 y (Array.mem_toList_iff.2 hy) with ⟨e1,e2⟩|O
   ·exact⟨_,by rw[e1];exact hdv,by rw[e2];exact M.mono H⟩
   ·obtain⟨a',k1,k2⟩:=Ch y (Array.mem_toList_iff.1 O);exact⟨a',k1,k2.mono H⟩
  ·obtain⟨Sv,ck2,k1,k2⟩:=p.wi.aD c d' W;exact⟨Sv,ck2,by simp_all,λy hy=>by obtain⟨a',k3,k4⟩:=k2 y hy;exact⟨a',k3,k4.mono H⟩⟩
 have E6:anw g g w (setBlock w b (.map es' E)):=⟨λc _ hc=>Y c (λe=>by simp_all),λ_ _=>rfl,λ_ _=>rfl⟩
 have O:=p.keep H hW E6;have hrun:(execOp a.eval o).run P w=.ok .skip (setBlock w b (.map es' E)):=by
  unfold execOp
  simp_all
 unfold Oper.wp;rw[hrun];refine hK _ g _ m _ rfl ?_ (put_defers _ _ _ ba);exact((O.less (s1.nx+k)).sub λj hj=>⟨by omega,by omega⟩).iR (dst:=o.dst) hd (z:=.tu []) (y:=undef) (.cw (.tu [] [] rfl (λ_ _ _ e=>by simp at e)) rfl) a rfl
end
def aeP:=@or_false
end Go.Proofs.YtjagmhagphbfcaaGreatDoor
namespace Go.Proofs.YtjagmhagphbfcaaGreatDoor
open Go Go.Proofs
open Go.ChangeShapes Go.WideShapes Go.MapKept
section
theorem BU{α β:Type}(f:α->Option β):∀(l:List α),(∀x∈l,∃y,f x=some y)->∃ys,l.mapM f=some ys
 | [],_=>⟨[],by simp⟩
 |x::l,h=>by
  obtain⟨y,hy⟩:=h x (by simp);obtain⟨ys,p⟩:=BU f l (λz hz=>h z (by grind))
  simp_all
def lY(w s:List UInt8):List AV:=ao w++ [.s s]
def tt(w s:List UInt8):List Value:=(w.map λc=>.int .u8 c.toNat)++ [sv s]
def rB(w s:List UInt8):Value:=.agg (tt w s).toArray
theorem Ep(w s:List UInt8){g:Gh}{wd:World}{y:Value}(h:Rd g wd (.ag (lY w s)) y):y=rB w s:=by
 generalize hc:AV.ag (lY w s)=a at h;cases h with
 |ag cells ys h1 h2 p=>
  cases hc;unfold rB;congr 2;apply aer;intro j;unfold lY at h1 p;unfold tt;by_cases H:j<w.length
  ·obtain⟨y,hy⟩:∃y,ys[j]?=some y:=⟨ys[j]'(by grind [ao]),aaf _⟩
   have:=p j (.i .u8 w[j].toNat) y (by grind [ao]) hy;rw[hy,abJ (by grind)];cases this
   grind
  ·by_cases E:j=w.length
   ·subst E;obtain⟨y,hy⟩:∃y,ys[w.length]?=some y:=⟨ys[w.length]'(by grind [ao]),aaf _⟩
    have:=p w.length (.s s) y (by grind [ao]) hy;rw[hy,abK (by simp)];cases this;simp
   grind [ao]
 |_=>cases hc
variable{P:Program}[l:cL P]
theorem XB:P.cellsOf 5=1:=by obtain⟨fs,rfl,_⟩:=l.amN;kernel_rfl
theorem anK:P.cellsOf 9=1:=by obtain⟨fs,rfl,_⟩:=l.amN;kernel_rfl
theorem FF:P.cellsOf 116=10:=by obtain⟨fs,rfl,_⟩:=l.amN;kernel_rfl
theorem FE:P.cellsOf 192=11:=by obtain⟨fs,rfl,_⟩:=l.amN;kernel_rfl
theorem ae_:P.underlying 116=some (.array 10 5):=by simp_all [aX]
theorem u5:P.underlying 5=some (.int .u8):=by simp_all [aX]
theorem u9:P.underlying 9=some .string:=by simp_all [aX]
theorem u97:P.underlying 97=some (.map 192 117):=by simp_all [aX]
theorem Y6:∃fs,P.underlying 192=some (.struct fs)/\fs.all (·.name != "_")=true/\fs.toList.map (λf=>(f.type,f.offset))= [(116,0),(9,10)]:=by
 rw[aX];have h:(match Tryz.prog.underlying 192 with|some (.struct fs)=>fs.all (·.name != "_")&&(fs.toList.map (λf=>(f.type,f.offset))== [(116,0),(9,10)])|_=>false)=true:=by kernel_rfl
 grind
theorem afS:P.keyType 192=true:=by obtain⟨fs,rfl,_⟩:=l.amN;kernel_rfl
theorem ZK(w:List UInt8)(hw:w.length=10)(d:Nat):∃L,P.keyLits (d+2) 116 (w.map λc=>.int .u8 c.toNat)=some L:=by
 unfold Program.keyLits;rw[ae_];simp only[FF,abz,hw,acC,XB,Nat.mul_one];obtain⟨ys,E⟩:=BU (λi=>P.keyLits (d+1) 5 (((w.map λc=>Value.int .u8 c.toNat).drop i).take 1)) (List.range 10) (λi hi=>by
  have p:i<w.length:=by simp_all
  have e:((w.map λc=>Value.int .u8 c.toNat).drop i).take 1= [.int .u8 w[i].toNat]:=by
   grind [List.drop_eq_getElem_cons]
  rw[e];unfold Program.keyLits;rw[u5];have hb:(Lit.int .u8 (w[i].toNat:Int)).wf=true:=by
   have:=w[i].toNat_lt;have h1:IntKind.u8.min=0:=by decide
   have h2:IntKind.u8.max=255:=by decide
   show(decide (IntKind.u8.min<=(w[i].toNat:Int))&&decide ((w[i].toNat:Int)<=IntKind.u8.max))=true
   grind
  simp_all)
 simp_all
theorem ZJ(w s:List UInt8)(hw:w.length=10)(hs:s.length<=1000)(d:Nat):∃L,P.keyLits (d+3) 192 (tt w s)=some L:=by
 obtain⟨fs,hf,h1,h2⟩:=Y6 (P:=P);unfold Program.keyLits;rw[hf];have hl:(tt w s).length=P.cellsOf 192:=by grind [FE,tt]
 simp only[hl,h1,and_self,acC];obtain⟨ys,I⟩:=BU (λf:Field=>P.keyLits (d+2) f.type (((tt w s).drop f.offset).take (P.cellsOf f.type))) fs.toList (λf H=>by
  have hm:(f.type,f.offset)∈fs.toList.map (λf=>(f.type,f.offset)):=ac4.2 ⟨f,H,rfl⟩;rw[h2] at hm;simp only[abZ,Prod.mk.injEq,List.mem_nil_iff,aeP] at hm;rcases hm with ⟨E,p⟩|⟨E,p⟩
  ·simp_all [FF,ZK,tt]
  ·rw[E,p,anK];have e:((tt w s).drop 10).take 1= [sv s]:=by
    unfold tt
    simp_all
   rw[e];unfold Program.keyLits;rw[u9];have:s.toArray.size<=maxLen:=by grind [maxLen]
   simp_all [ByteArray.size])
 simp_all
theorem Nz(w s:List UInt8)(hw:w.length=10)(hs:s.length<=1000):∃kl,keyOf P 192 (rB w s)=some kl:=by
 obtain⟨fs,hf,_,_⟩:=Y6 (P:=P);have E:∃d,P.types.size+1=d+3:=by
  have:P.types.size=Tryz.prog.types.size:=by obtain⟨fs,rfl,_⟩:=l.amN;rfl
  simp_all
 obtain⟨d,hd⟩:=E;obtain⟨L,p⟩:=ZJ (P:=P) w s hw hs d;unfold keyOf;rw[hf];have H:(rB w s).formed P 192=true:=by
  grind [FE,rB,Value.formed,tt]
 simp only[afS,H,Bool.and_self,acC];exact⟨_,by rw[hd];show Option.map _ (P.keyLits (d+3) 192 (rB w s).cells.toList)=_;rw[show(rB w s).cells.toList=tt w s from rfl,p];rfl⟩
end
end Go.Proofs.YtjagmhagphbfcaaGreatDoor
namespace Go.Proofs.YtjagmhagphbfcaaGreatDoor
open Go Go.Proofs
theorem Tn:∀ {l m:List UInt8},l.map (λc=>Value.int .u8 c.toNat)=m.map (λc=>Value.int .u8 c.toNat)->l=m
 | [],[],_=>rfl
 | [],_::_,h=>by simp at h
 |_::_,[],h=>by simp at h
 |a::l,b::m,h=>by
  simp only[List.map_cons,abg,Value.int.injEq,adM] at h;rw[Tn h.2,UInt8.toNat_inj.1 (by omega:a.toNat=b.toNat)]
theorem Ny{w s w' s':List UInt8}(hw:w.length=10)(H:w'.length=10)(h:rB w s=rB w' s'):w=w'/\s=s':=by
 unfold rB tt at h;simp only[Value.agg.injEq] at h;have h2:=congrArg Array.toList h;simp only at h2;obtain⟨E,p⟩:=List.append_inj h2 (by simp[hw,H]);refine⟨Tn E,?_⟩;simpa[sv] using p
open Classical in
noncomputable def bF(h:ay)(v:Value):Option AV:=
 if hx:∃p:List UInt8×List UInt8,p.1.length=10/\p.2.length<=17/\v=rB p.1 p.2 then some (.sq none 2 (bt (bf h hx.choose.1 hx.choose.2 (-1) 0 false))) else none
theorem Ed(h:ay)(w s:List UInt8)(hw:w.length=10)(hs:s.length<=17):bF h (rB w s)=some (.sq none 2 (bt (bf h w s (-1) 0 false))):=by
 have hx:∃p:List UInt8×List UInt8,p.1.length=10/\p.2.length<=17/\rB w s=rB p.1 p.2:=⟨(w,s),hw,hs,rfl⟩
 unfold bF;rw[agp hx];obtain⟨h1,_,E⟩:=hx.choose_spec;obtain⟨I,H⟩:=Ny hw h1 E;rw[<-I,<-H]
theorem zU{P:Program}[l:cL P](h:ay)(v:Value)(a:AV)(hv:bF h v=some a):∃kl,keyOf P 192 v=some kl:=by
 unfold bF at hv;split at hv
 ·rename_i hx;obtain⟨h1,h2,p⟩:=hx.choose_spec;rw[p];exact Nz _ _ h1 (by omega)
 ·cases hv
theorem Pc{g:Gh}{w0:World}(h:ay)(d:Value->Option AV)(w s:List UInt8)(bo p:Nat){ps ph E:Value}(hs:Rd g w0 (.sp [.s s]) ps)(hh:Rd g w0 (.sp (aj h d)) ph)(hw:Rd g w0 (.sp (ao w)) E)
  (hn:0<g.hw p) (hc:w0.cell? ⟨p,0,none⟩=some (.func (.func 167) #[] #[ps,.pointer (some ⟨bo,0,none⟩),ph,.pointer (some ⟨p,0,none⟩),E])):
  ∀k,Rd g w0 (Cl h d w s bo k) (.func (.func 167) #[] #[ps,.pointer (some ⟨bo,0,none⟩),ph,.pointer (some ⟨p,0,none⟩),E])/\Rd g w0 (.sp [Cl h d w s bo k]) (.pointer (some ⟨p,0,none⟩)):=by
 have J:∀a,Rd g w0 a (.func (.func 167) #[] #[ps,.pointer (some ⟨bo,0,none⟩),ph,.pointer (some ⟨p,0,none⟩),E])->Rd g w0 (.sp [a]) (.pointer (some ⟨p,0,none⟩)):=λa ha=>
  .sp [a] p 0 [.func (.func 167) #[] #[ps,.pointer (some ⟨bo,0,none⟩),ph,.pointer (some ⟨p,0,none⟩),E]] rfl (by simp[Value.oneCell'])
   (λj y M=>by
    grind)
   (λj b y H I=>by
    grind)
 intro k
 induction k with
 |zero=>exact⟨.any _,J _ (.any _)⟩
 |succ k L=>
  have h1:Rd g w0 (Cl h d w s bo (k+1)) (.func (.func 167) #[] #[ps,.pointer (some ⟨bo,0,none⟩),ph,.pointer (some ⟨p,0,none⟩),E]):=by
   refine .fn 167 [] [.sp [.s s],kP bo,.sp (aj h d),.sp [Cl h d w s bo k],.sp (ao w)] [] [ps,.pointer (some ⟨bo,0,none⟩),ph,.pointer (some ⟨p,0,none⟩),E] rfl rfl (λj a y H _=>by grind) (λj a y H I=>?_)
   match j with
   |0=>simp_all
   |1=>simp at H I;subst H I;exact .v _
   |2=>simp_all
   |3=>simp_all
   |4=>simp_all
   |j+5=>grind
  simp_all
theorem rU{α β:Type}(f:α->List β)(B:Nat):∀(l:List α),(∀x∈l,(f x).length<=B)->(l.flatMap f).length<=l.length*B
 | [],_=>by simp
 |x::l,h=>by
  have h1:=h x (by simp);have h2:=rU f B l (λy hy=>h y (by grind));simp only[aco,abj,ab0]
  grind
theorem ll(h:ay)(w:List UInt8):∀(s:List UInt8) (last n:Int) (b:Bool),(bf h w s last n b).length<=11^s.length
 | [],last,n,b=>by simp[bf]
 |r::s,last,n,b=>by
  have p:=ll h w s;have h0:0<11^s.length:=Nat.pow_pos (by omega);unfold bf;rw[abj];have h1:=rU (λd=>if(((d+1)%10:Nat):Int) !=last||h.R.isEmpty then
    (if fK h r (w.getD d 0) then bf h w s (((d+1)%10:Nat):Int) (10*n+(((d+1)%10:Nat):Int)) (b||(r !=63&&r !=w.getD d 0)) else[]) else[]) (11^s.length) (List.range 10) (λd _=>by
   grind)
  grind
section
variable{P:Program}{g0:Gh}{w0:World}{fr:Nat->Prop}{s:AS}{g:Gh}{w:World}{m:Mem}{a:Act}{o:Oper}
theorem Ab(h:SR P g0 w0 fr s g w m a.tmps)(H:a.defers= []){f:FuncId}{cap:Array Operand}{d:Nat}(hd:d<s.n)(p:o.dst=some d)(hop:o.op=.makeFunc (.func f) #[] cap){K:Act->World->Prop}{Q:Exit->Act->World->Prop}
  (E:∀a':Act,SR P g0 w0 fr { s with T:=Lo s.T d (.v (.func (.func f) #[] (cap.map a.eval))) } g w m a'.tmps->a'.defers= []->(∀x≠d,a'.tmps.getD x undef=a.tmps.getD x undef)->a'.tmps.getD d undef=.func (.func f) #[] (cap.map a.eval)->K a' w):o.wp P a w K Q:=by
 have hrun:(execOp a.eval o).run P w=.ok (.value (.func (.func f) #[] (cap.map a.eval))) w:=by
  simp only[execOp,hop,Instr.makeFunc,aaw,aaS,aas,Array.map_empty]
 unfold Oper.wp;rw[hrun];refine E _ ?_ (put_defers _ _ _ H) ?_ ?_
 ·have:=h.iR (dst:=o.dst) (λd' e=>by rw[p] at e;cases e;exact hd) (z:=.v (.func (.func f) #[] (cap.map a.eval))) (.cw (.v _) rfl) a rfl;rw[p] at this ⊢;exact this
 ·intro x hx;rw[p];show(a.tmps.setIfInBounds d _).getD x undef=_;rw[aba,aaL (Ne.symm hx),<-Array.getD_eq_getD_getElem?]
 ·rw[p];show(a.tmps.setIfInBounds d _).getD d undef=_;rw[aba,aaz (by rw[h.size];exact hd)];rfl
theorem xe (h : SR P g0 w0 fr s g w m a.tmps) (ba : a.defers = []) {t : TypeId} {x y : Operand} {id : Nat} {c : AV} {v : Value} (J : o.dst = none) (hop : o.op = .store t x y) (hx : s.ev x = .bx id 0) (N : s.B id = some (false, [c])) (hy : a.eval y = v) (h1 : v.cells = #[v]) (ho : v.oneCell' = true) (hs : aQ P t = 1)
    {K : Act -> World -> Prop} {Q : Exit -> Act -> World -> Prop} (M : ∀ w', SR P g0 w0 fr { s with B := Lo s.B id (some (false, [.v v])) } g w' m a.tmps -> K a w') : o.wp P a w K Q := by
  have E := h.ev x
  rw [hx] at E
  obtain ⟨L, W⟩ := E.bx
  obtain ⟨w', O, U⟩ := h.stored (l := [.v v]) (xs := [v]) N rfl (by simpa using ho) (fun j a' Y p I => by
    match j with
    | 0 => simp at p I; subst p I; exact .of (.v _) rfl
    | j + 1 => simp at p) (o := 0) (by simp)
  obtain ⟨j, H⟩ : ∃ j, P.info? t = some j := by
    cases hi : P.info? t with
    | none => have : aQ P t = 0 := by simp [aQ, hi]
              omega
    | some j => exact ⟨j, rfl⟩
  have Z : j.size = 1 := by simpa [aQ, H] using hs
  have hrun : (execOp a.eval o).run P w = .ok .skip w' := by
    simp only [execOp, hop, Instr.storeAt, W, hy, Instr.sureAddr, storeVar, aaw, aaS, aas, ew H, h1]
    rw [aat (by rw [hs]; simp)]
    rw [O]; rfl
  unfold Oper.wp
  rw [hrun]
  have e : a.put o.dst undef = a := by rw [J]; rfl
  show K (a.put o.dst undef) w'
  rw [e]
  exact M w' (by simpa [lay] using U)
end
section
variable{P:Program}{g0:Gh}{w0:World}
def Tv(P:Program)(g0:Gh)(w0:World)(c:Code)(R:Exit->Act->World->Prop)(s:AS):Prop:=∀a w,ST P g0 w0 s a w->c.wp P R a w
theorem ajr{x y:Code}{R:Exit->Act->World->Prop}{s:AS}(h:swp P g0 w0 x (λe s'=>match e with| .normal=>Tv P g0 w0 y R s'|e=>∀a w e',c8 e'=some e->ST P g0 w0 s' a w->R e' a w) s):Tv P g0 w0 (.seq x y) R s:=by
 intro a w p;refine wp_seq (wp_mono (h a w p) ?_);rintro e a' w' ⟨x',s',he,hq,hs'⟩;cases e <;>simp only[c8,Option.some.injEq,reduceCtorEq] at he <;>subst he
 ·exact hq a' w' hs'
 ·exact hq a' w' _ rfl hs'
 ·exact hq a' w' _ rfl hs'
theorem Bz{g1:Gh}{rs:List ResultVar}{res:AV}{c:Code}{s:AS}(h1:g1.hw=g0.hw)(h2:g1.aD=g0.aD)(h:swp P g1 w0 c (λe s=>(e=.normal\/e=.ret)/\Dn P rs s res) s):Tv P g1 w0 c (ID P rs g0 w0 res) s:=by
 intro a w p;refine wp_mono (h a w p) ?_;rintro e a' w' ⟨x,s',he,⟨hx,hf⟩,hs⟩;exact⟨x,s',g1,he,hx,hf,h1,h2,hs⟩
theorem MS{g:Gh}{w:World}{a:AV}{b:Nat}(h:Rd g w (.sp [a]) (.pointer (some ⟨b,0,none⟩))):∃y,0<g.hw b/\w.cell? ⟨b,0,none⟩=some y/\Rd g w a y:=by
 cases h with
 |sp cells b o ys h1 H p E=>
  match ys,h1 with
  | [y],_=>
   obtain⟨k1,k2⟩:=p 0 y rfl
   grind
theorem Nf(h:ay)(d:Value->Option AV)(wd s:List UInt8){T:Nat->AV}{B:Nat->Option (Bool×List AV)}{lv:Nat->Option TypeId}{nx:Nat}{a:Act}{w:World}(bH:ST P g0 w0 ⟨T,B,lv,nx,33⟩ a w)
  (t3:T 3=.sp (aj h d)) (t4:T 4=.sp (ao wd)) (t5:T 5=.sp [.s s]) (t7:T 7=.bx 7 0) (b7:B 7=some (false,lY wd s)) (t10:T 10=.bx 19 0) (UD:B 19=some (false,[.sq none 0 []])) (t11:T 11=.bx 20 0) (b20:B 20=some (false,[.v .nilFunc])) (I:aQ P 194=1)
  (k:Nat) {id:Nat} {o1 o2:Oper} (Wg:o1.op=.makeFunc (.func 167) #[] #[.tmp 5,.tmp 10,.tmp 3,.tmp 11,.tmp 4]) (hd1:o1.dst=some 24) (WJ:o1.guard=none) (hop2:o2.op=.store 194 (.tmp 11) (.tmp 24)) (hd2:o2.dst=none) (hg2:o2.guard=none):
  (Code.region id #[o1,o2] false).wp P (λe a' w'=>e=.normal/\∃bo p,ST P (Kg g0 bo) w0 ⟨p,eh (false,[.sq (some 0) (aQ P 120) []]),bG 0 120,1,33⟩ a' w'/\p 3=.sp (aj h d)/\p 4=.sp (ao wd)/\p 5=.sp [.s s]/\p 7=.sp (lY wd s)/\p 10=.bx 0 0/\p 11=.sp [Cl h d wd s bo k]) a w:=by
 refine nB WJ hg2 ?_;obtain⟨g,m,aJ,ba⟩:=bH;refine Ab aJ ba (d:=24) (by simp_all) hd1 Wg (λa' h1 J dS h24=>?_);generalize L:Value.func (.func 167) #[] (#[Operand.tmp 5,.tmp 10,.tmp 3,.tmp 11,.tmp 4].map a.eval)=X at h1 h24;have N:X.cells= #[X]/\X.oneCell'=true:=by subst L;exact⟨rfl,rfl⟩
 refine xe h1 J hd2 hop2 (x:=.tmp 11) (y:=.tmp 24) (id:=20) (c:=.v .nilFunc) (v:=X) ?_ b20 h24 N.1 N.2 I (λw' h2=>?_)
 ·simp_all
 have Cp:SR P g0 w0 (λj=>nx<=j) ⟨Lo T 24 (.v X),Lo B 20 (some (false,[.v X])),lv,nx,33⟩ g w' m a'.tmps:=h2;obtain⟨g3,h3,Y,hr3⟩:=Cp.froze (id:=20) (ro:=false) (cells:= [.v X]) (by simp);have Ga:SR P g0 w0 (λj=>nx<=j) ⟨Lo T 24 (.v X),Lo (Lo B 20 (some (false,[.v X]))) 20 (some (true,[.v X])),lv,nx,33⟩ g3 w' m a'.tmps:=h3;obtain⟨g4,Z,H,hr4⟩:=Ga.froze (id:=7) (ro:=false) (cells:=lY wd s) (by simp[b7]);have M:SR P g0 w0 (λj=>nx<=j) ⟨Lo T 24 (.v X),Lo (Lo (Lo B 20 (some (false,[.v X]))) 20 (some (true,[.v X]))) 7 (some (true,lY wd s)),lv,nx,33⟩ g4 w' m a'.tmps:=Z;obtain⟨y,hn,hc,hy⟩:=MS (hr3.mono H);have ZR:=s_ hy;subst ZR;have E:∀t z,t≠24->T t=z->RV (λj=>nx<=j) lv g4 w' m z (a'.tmps.getD t undef):=λt z ht hz=>by
  have:=M.tmps t
  simp_all
 have ev:∀t,t≠24->a.eval (.tmp t)=a'.tmps.getD t undef:=λt ht=>(dS t ht).symm
 have p3:=(E 3 _ (by omega) t3).rd (by simp);have p4:=(E 4 _ (by omega) t4).rd (by simp);have p5:=(E 5 _ (by omega) t5).rd (by simp);have p10:=(E 10 _ (by omega) t10).bx.2;have p11:=(E 11 _ (by omega) t11).bx.2;have W:(#[Operand.tmp 5,.tmp 10,.tmp 3,.tmp 11,.tmp 4].map a.eval)= #[a'.tmps.getD 5 undef,.pointer (some ⟨m.bm 19,0,none⟩),a'.tmps.getD 3 undef,.pointer (some ⟨m.bm 20,0,none⟩),a'.tmps.getD 4 undef]:=by
  simp_all
 rw[<-L,W] at hc;have O:=(Pc h d wd s (m.bm 19) (m.bm 20) p5 p3 p4 hn hc k).2;refine⟨rfl,m.bm 19,λt=>if t=3 then .sp (aj h d) else if t=4 then .sp (ao wd) else if t=5 then .sp [.s s] else if t=7 then .sp (lY wd s) else if t=10 then .bx 0 0 else if t=11 then .sp [Cl h d wd s (m.bm 19) k] else .any,
  ⟨g4,_,M.alone (e:=120) (i0:=19) (by simp[UD]) _ (λt=>?_),J⟩,rfl,rfl,rfl,rfl,rfl,rfl⟩
 ·try dsimp only
  split
  ·rename_i e;subst e;exact .cw p3 rfl
  ·split
   ·rename_i e;subst e;exact .cw p4 rfl
   ·split
    ·rename_i e;subst e;exact .cw p5 rfl
    ·split
     ·rename_i e;subst e;have U:=(E 7 _ (by omega) t7).bx.2;rw[U];exact .cw hr4 rfl
     ·split
      ·rename_i e;subst e;exact .inr ⟨0,0,rfl,by omega,by rw[p10]⟩
      ·split
       ·rename_i e;subst e;rw[p11];exact .cw O rfl
       ·exact .cw (.any _) rfl
end
@[simp] abbrev aiq:List Nat:=[0,1,2,3,4,5,6,7,8,9,10,11,22]
section
variable{P:Program}[l:cL P]
theorem bY(w:List UInt8):(ao w).map AV.strip=ao w:=by unfold ao;rw[List.map_map];rfl
theorem GU{g0:Gh}{w0:World}{rs:List ResultVar}{res:AV}{s:AS}(hf:Dn P rs s res):∀a w e',c8 e'=some .ret->ST P g0 w0 s a w->ID P rs g0 w0 res e' a w:=λa w e' he hs=>⟨.ret,s,g0,he,.inr rfl,hf,rfl,rfl,hs⟩
theorem zW(h:ay)(w s:List UInt8)(hw:w.length=10)(hv:sH h)(hs:s.length<=11):aq P 137 [.ag (aj h (bF h)),.ag (ao w),.s s] (.sq none 2 (bt (bf h w s (-1) 0 false))):=by
 refine qF (lf (P:=P) Tryz.func137) rfl (Nat.le_of_ble_eq_true rfl) (λg0 w0 a w' eF hex U=>?_);refine(?_:Tv P g0 w0 _ _ _) a w' U;clear U eF hex a w';have N:(ao w).length=10:=by simp[ao,hw]
 have jF:List.take 10 (ao w)=ao w:=aa1 (by omega);have H:jb P a_ g0:=.of (au P) ⟨λ_ _=>rfl,λ_ _ _=>rfl⟩;refine ajr ?_;refine bD ?_ (aY (tb:=a_) (mt:=λ_=>false) (Q:=λe s1=>e=.normal/\s1.T 3=.sp (aj h (bF h))/\s1.T 4=.sp (ao w)/\s1.T 5=.sp [.s s]/\s1.nx=4/\s1.n=33/\s1.B=λ_=>none) H mixed ?_)
 rotate_left
 ·refine oR [0,1,2,3,4,5,6] (λh=>Bool.noConfusion h) (λK p=>?_);simp[aj,o6];refine p _ ⟨rfl,by simp[aj,o6],by simp[bY],by simp,rfl,rfl,?_⟩
  funext j;simp
 rintro e ⟨T,B,lv,nx,n⟩ ⟨rfl,t3,t4,t5,rfl,rfl,rfl⟩;simp only at t3 t4 t5;refine ajr ?_;refine bD ?_ (aY (tb:=a_) (mt:=λ_=>false) (Q:=λe s1=>e=.normal/\s1.T 3=.sp (aj h (bF h))/\s1.T 4=.sp (ao w)/\s1.T 5=.sp [.s s]/\s1.T 7=.bx 7 0/\s1.B 7=some (false,lY w s)/\s1.nx=9/\s1.n=33) H mixed ?_)
 rotate_left
 ·refine oR [0,1,2,3,4,5,6,7] (λh=>Bool.noConfusion h) (λK p=>?_);simp[t3,t4,t5,N,jF,bY];refine p _ ⟨rfl,by simp,by simp,by simp,by simp,?_,rfl,rfl⟩;simp[lY,N]
 rintro e ⟨T,B,lv,nx,n⟩ ⟨rfl,t3,t4,t5,t7,E,rfl,rfl⟩;simp only at t3 t4 t5 t7 E;refine ajr (bO ?_);obtain⟨kl,gg⟩:=Nz (P:=P) w s hw (by omega);refine je (tb:=a_) (mt:=λ_=>false) (o:=?o) 3 H ?hk ?hg ?hh
 case hk=>exact rfl
 case hg=>exact rfl
 intro K p;have ZX:List.take 11 (ao w++ [AV.s s])=ao w++ [AV.s s]:=aa1 (by simp[N]);simp[t3,t7,E,aj,o6,lY,N,ZX];refine p _ ⟨_,E4 (x:=.tmp 17) (q:=.tmp 18) (zA:=.sq none 2 []) Nt u97 (z:=.slice none 0 0) (λw=>?hz) (λg w=>.nil _ _) ?hop ?hnx ?hd (d:=bF h) ?hx (cells:=lY w s) ?hq (λg w y hy=>Ep _ _ hy) gg (λv a hv=>zU (P:=P) h v a hv),?post⟩
 case hz=>obtain⟨fs,rfl,_⟩:=l.amN;exact Tryz.zeroValue117 w
 case hop=>rfl
 case hnx=>rfl
 case hd=>intro d hd;cases hd;exact Nat.le_of_ble_eq_true rfl
 case hx=>rw[bg];simp
 case hq=>rw[bg];simp[lY]
 case post=>
  rintro s2 (⟨a,ha,rfl⟩|rfl)
  ·have sN:=Ed h w s hw (by omega);rw[ha] at sN;cases sN;refine⟨rfl,?_⟩;simp[upd];refine aY (tb:=a_) (mt:=λ_=>false) H mixed ?_
   repeat' first|apply nI|(refine eI aiq λK p=>?_;simp[t3];apply p)
   refine GU ?_;simp[Dn,aH]
  ·refine⟨rfl,?_⟩;simp[upd];refine bD ?_ (aY (tb:=a_) (mt:=λ_=>false) (Q:=λe s1=>e=.normal/\s1.T 3=.sp (aj h (bF h))/\s1.T 4=.sp (ao w)/\s1.T 5=.sp [.s s]/\s1.T 7=.bx 7 0/\s1.B 7=some (false,lY w s)/\s1.n=33/\s1.nx=19) H mixed ?_)
   rotate_left
   ·
    repeat' first|apply nI|(refine eI aiq λK p=>?_;simp[t3];apply p)
    exact⟨rfl,by simp,by simp[t4],by simp[t5],by simp[t7],by simp[E],rfl,rfl⟩
   rintro e ⟨T,B,lv,nx,n⟩ ⟨rfl,t3,t4,t5,t7,E,rfl,rfl⟩;simp only at t3 t4 t5 t7 E;refine ajr ?_;refine bD ?_ (aY (tb:=a_) (mt:=λ_=>false) (Q:=λe s1=>e=.normal/\s1.T 3=.sp (aj h (bF h))/\s1.T 4=.sp (ao w)/\s1.T 5=.sp [.s s]/\s1.T 7=.bx 7 0/\s1.B 7=some (false,lY w s)/\s1.n=33/\s1.nx=20/\
    s1.T 10=.bx 19 0/\s1.B 19=some (false,[.sq none 0 []])) H mixed ?_)
   rotate_left
   ·
    repeat apply nI
    refine eI aiq ?_;intro K p;simp[t3]
    repeat' (first|apply p|(refine aE (λhc=>?_) (λhc=>?_) <;>(try simp only[aan,aac] at hc) <;>simp[hc,t3])|fail)
    exact⟨rfl,by simp,by simp[t4],by simp[t5],by simp[t7],by simp[E],rfl,rfl,by simp,by simp⟩
   rintro e ⟨T,B,lv,nx,n⟩ ⟨rfl,t3,t4,t5,t7,E,rfl,rfl,t10,I⟩;simp only at t3 t4 t5 t7 E t10 I;refine ajr ?_;refine bD ?_ (aY (tb:=a_) (mt:=λ_=>false) (Q:=λe s1=>e=.normal/\s1.T 3=.sp (aj h (bF h))/\s1.T 4=.sp (ao w)/\s1.T 5=.sp [.s s]/\s1.T 7=.bx 7 0/\s1.B 7=some (false,lY w s)/\s1.n=33/\s1.nx=21/\
    s1.T 10=.bx 19 0/\s1.B 19=some (false,[.sq none 0 []])/\s1.T 11=.bx 20 0/\s1.B 20=some (false,[.v .nilFunc])) H mixed ?_)
   rotate_left
   ·
    repeat apply nI
    refine eI aiq ?_;intro K p;simp[t3]
    repeat' (first|apply p|(refine aE (λhc=>?_) (λhc=>?_) <;>(try simp only[aan,aac] at hc) <;>simp[hc,t3])|fail)
    exact⟨rfl,by simp,by simp[t4],by simp[t5],by simp[t7],by simp[E],rfl,rfl,by simp[t10],by simp[I],by simp,by simp⟩
   rintro e ⟨T,B,lv,nx,n⟩ ⟨rfl,t3,t4,t5,t7,E,rfl,rfl,t10,I,t11,b20⟩;simp only at t3 t4 t5 t7 E t10 I t11 b20;intro a0' Y U;refine wp_seq (wp_mono (Nf h (bF h) w s U t3 t4 t5 t7 E t10 I t11 b20 (by simp) (s.length+1) rfl rfl rfl rfl rfl rfl) ?_);rintro e a' w' ⟨rfl,bo,T',jl,M,L,Yf,J,UZ,Y9⟩;refine Bz (g1:=Kg g0 bo) rfl rfl ?_ a' w' jl;clear U jl a0' Y a' w' t3 t4 t5 t7 E t10 I t11 b20;have oB:oN P 120 bo 167 (j8 h (bF h) w s bo s.length 0 (-1) 0 false) (bt (bf h w s (-1) 0 false)):=SZ h (bF h) w s bo hw hv (by omega) s.length ⟨0,-1,0,false⟩ ⟨Nat.le_of_eq (by simp),aet _,⟨Int.le_refl _,by simp⟩,⟨Int.le_refl _,by decide⟩⟩;obtain⟨F,hF,KU⟩:=IA (P:=P) (e:=120) (bo:=bo) (f:=167) (ι:=Unit) (λ_=>j8 h (bF h) w s bo s.length 0 (-1) 0 false) (λ_=>bt (bf h w s (-1) 0 false)) (λ_=>True) (λ_ _ _ _ _=>rfl) (λ_ _=>oB);have Z:=KU () trivial;have ahW:jb P (yI 167 F 120 bo a_) (Kg g0 bo):=⟨BL (aR Tryz.func167) hF (au P),λ_ _ _ _=>rfl,λ_ _ _ _ h=>by cases h⟩
   have W:jb P a_ (Kg g0 bo):=.of (au P) ⟨λ_ _=>rfl,λ_ _ _=>rfl⟩;have O:Cl h (bF h) w s bo (s.length+1)=.fn 167 [] [.sp [.s s],kP bo,.sp (aj h (bF h)),.sp [Cl h (bF h) w s bo s.length],.sp (ao w)]:=rfl;simp only[j8,aj,o6,aaT,aaV,kP] at Z;have hlen:(bt (bf h w s (-1) 0 false)).length<=1099511627776:=by
    rw[fC];have h1:=ll h w s (-1) 0 false;have h2:11^s.length<=11^11:=aef (by omega) hs;have h3:(11:Nat)^11=285311670611:=by decide
    omega
   refine bO ?_;refine bD ?_ (aY (tb:=yI 167 F 120 bo a_) (mt:=λd=>d==27) (Q:=λe s1=>e=.normal/\s1.T 3=.sp (aj h (bF h))/\s1.T 7=.sp (lY w s)/\s1.T 10=.bx 0 0/\(∃τ,s1.B=eh (false,[.sq (some τ) 2 (bt (bf h w s (-1) 0 false))])/\s1.lv=bG τ 120)/\s1.n=33) ahW mixed ?_)
   rotate_left
   ·
    repeat apply nI
    refine eI aiq ?_;intro K p;simp[M,L,Yf,J,UZ,Y9,O,aj,o6,kP,kh,Z,dD,hlen]
    repeat' (first|apply p|(refine aE (λhc=>?_) (λhc=>?_) <;>(try simp only[aan,aac] at hc) <;>simp[hc,M,L,Yf,J,UZ,Y9,O,aj,o6,kP,kh,Z,dD,hlen])|fail)
    exact⟨rfl,by simp[aj,o6],by simp,by simp,⟨_,by simp,rfl⟩,rfl⟩
   rintro e ⟨T,B,lv,nx,n⟩ ⟨rfl,t3,t7,t10,⟨τ,hB,cT⟩,rfl⟩;simp only at t3 t7 t10 hB cT;subst hB cT;refine bO ?_;refine je (tb:=a_) (mt:=λ_=>false) (o:=?o2) 4 W ?hk2 ?hg2 ?hh2
   case hk2=>exact rfl
   case hg2=>exact rfl
   intro K p;simp[t3,t7,t10,aj,o6,lY,N,ZX];refine p _ ⟨_,E3 (x:=.tmp 29) (q:=.tmp 30) (v:=.tmp 31) Nt u97 ?hop2 ?hnx2 ?hd2 (d:=bF h) ?hx2 (cells:=lY w s) ?hq2 (λg w y hy=>Ep _ _ hy) gg (λv a hv=>zU (P:=P) h v a hv) ?hnb ?hdv,?post2⟩
   case hop2=>rfl
   case hnx2=>rfl
   case hd2=>intro d hd;cases hd
   case hx2=>rw[bg];simp
   case hq2=>rw[bg];simp[lY]
   case hnb=>intro id off;rw[bg];simp
   case hdv=>rw[bg];simp;exact Ed h w s hw (by omega)
   case post2=>
    rintro s2 rfl;refine⟨rfl,?_⟩;simp[upd];refine aY (tb:=a_) (mt:=λ_=>false) W mixed ?_
    repeat' first|apply nI|(refine eI aiq λK p=>?_;simp[t10];apply p)
    simp[Dn,aH]
end
def ael:=@List.length_filter_le
@[simp] abbrev aio:List Nat:=[0,1,2,3,4,5,6,7,9,14,15,16,17,28]
@[simp] abbrev aix:List Nat:=[0,2,3,5,6,7,8,9]
theorem ln:∀(l:List (Int×Bool)) (i:Nat) (x:Int×Bool),l[i]?=some x->(bt l).drop (i*2)=.i .i64 x.1::.b x.2::bt (l.drop (i+1))
 | [],i,t,h=>by simp at h
 |t'::l,0,t,h=>by simp at h;subst h;rfl
 |t'::l,i+1,t,h=>by
  have:=ln l i t (by simpa using h)
  grind [bt,zY]
def jU(t:Tag)(x:Int×Bool):Bool:=decide (t.low<=x.1)&&decide (x.1<=t.high)
def cF(h:ay)(w:List UInt8)(t:Tag):List (Int×Bool):=(bf h w t.reads (-1) 0 false).filter (jU t)
theorem Fs{α:Type}(p:α->Bool)(l:List α)(k:Nat)(hk:k<l.length):(l.take (k+1)).filter p=(l.take k).filter p++if p l[k] then[l[k]] else[]:=by
 grind [List.take_succ_eq_append_getElem]
theorem vp{α:Type}(p:α->Bool)(l:List α)(k:Nat):((l.take k).filter p).length<=l.length:=aaY (ael _ _) (by grind)
section
variable{P:Program}[l:cL P]
def dF:List AV->Option AV
 | [.i .i64 n,.i .i64 a,.i .i64 b]=>some (.b (decide (a<=n)&&decide (n<=b)))
 |_=>none
theorem Hd(n a b:Int):aq P 130 [.i .i64 n,.i .i64 a,.i .i64 b] (.b (decide (a<=n)&&decide (n<=b))):=by
 refine fi (au P) (lf Tryz.func130) ?_
 repeat' first|apply nI|(refine eI [0,1,2,6] λK p=>?_;simp[*];first|apply p|(refine aE (λhc=>?_) (λhc=>?_) <;>(try simp only[aan,aac] at hc) <;>simp[*] <;>repeat' (first|apply p|(refine aE (λhc=>?_) (λhc=>?_) <;>(try simp only[aan,aac] at hc) <;>simp[hc, *])|fail))|fail)
 all_goals simp[Dn,aH,Tryz.f130, *]
theorem kB:Den P 130 dF:=λargs res h=>by
 unfold dF at h
 grind [Hd]
theorem nU(h:ay)(w s:List UInt8)(hs:s.length<=11):(bf h w s (-1) 0 false).length<=285311670611:=by
 have h1:=ll h w s (-1) 0 false;have h2:11^s.length<=11^11:=aef (by omega) hs;omega
theorem zI(h:ay)(w:List UInt8)(t:Tag)(hw:w.length=10)(hv:sH h)(ht:t.reads.length<=11):aq P 89 [.ag (aj h (bF h)),.ag (ao w),.ag (fP t)] (.sq none 2 (bt (cF h w t))):=by
 obtain⟨F,hd,E⟩:=cC (P:=P) (f:=137) (ι:=Unit) (λ_=> [.ag (aj h (bF h)),.ag (ao w),.s t.reads]) (λ_=>.sq none 2 (bt (bf h w t.reads (-1) 0 false))) (λ_=>True) (λ_ _ _ _ _=>rfl) (λ_ _=>zW h w t.reads hw hv ht);have E:=E () trivial;have I:(ao w).length=10:=by grind [ao]
 have J:List.take 10 (ao w)=ao w:=aa1 (by omega);have N:=bY w;have hb:=nU h w t.reads ht;simp only[aj,o6,aaT,aaV] at E;refine fi (ak (aR Tryz.func137) hd (ak (aR Tryz.func130) kB (au P))) (lf Tryz.func89) ?_;unfold cF;generalize hL:bf h w t.reads (-1) 0 false=L at E hb;have hlen:=fC L
 repeat apply nI
 refine eI aio ?_;intro K p;simp[aj,o6,N,fP]
 repeat' (first|apply p|(refine aE (λhc=>?_) (λhc=>?_) <;>(try simp only[aan,aac] at hc) <;>simp[hc,aj,o6,I,J,N,fP])|fail)
 repeat apply nI
 refine eI aio ?_;intro K p;simp
 repeat' (first|apply p|(refine aE (λhc=>?_) (λhc=>?_) <;>(try simp only[aan,aac] at hc) <;>simp[hc])|fail)
 repeat apply nI
 refine eI aio ?_;intro K p;simp[I,J,ab,E,hlen]
 repeat' (first|apply p|(refine aE (λhc=>?_) (λhc=>?_) <;>(try simp only[aan,aac] at hc) <;>simp[hc,I,J,N,ab,E,hlen])|fail)
 repeat apply nI
 refine amF (λd T B lv nx=>∃k τ,k+d=L.length/\T 5=.sp (fP t)/\T 14=.sq none 2 (bt L)/\T 15=.i .i64 L.length/\T 16=.i .i64 k/\T 7=.sq (some τ) 2 (bt ((L.take k).filter (jU t)))/\lv τ=some 120/\τ<nx) L.length ?_ ?_
 ·exact⟨0,4,by simp,by rfl,by simp,by simp,by simp,by rfl,by simp,by simp⟩
 ·rintro d T B lv nx ⟨k,τ,hk,t5,t14,t15,t16,t7,cT,hnx⟩;have w1:=aS ((k:Int)+1);by_cases O:k<L.length
  ·have U:=ln L k L[k] (by grind);have Y:=Fs (jU t) L k O;have Oe:=vp (jU t) L k;have M:=fC ((L.take k).filter (jU t));have W:(k+1)*2<=2*L.length:=by omega
   have a1:τ<nx+1+4+9:=by omega
   have a2:¬τ=nx+1+4+9+2:=by omega
   have a3:(2*((L.take k).filter (jU t)).length+2)*17<=70368744177664:=by omega
   cases hc:jU t L[k] with
   |true=>
    have H:=hc;unfold jU at H
    repeat' first|apply nI|(refine eI aio λK p=>?_;simp[t5,t14,t15,t16,t7,cT,O,hlen,W,U,fP,ab,az,dF,H,w1,M,a1,a2,a3];apply p)
    refine aN (d-1) ⟨k+1,nx+1+4+9+3,by omega,by rfl,by simp,by simp,by simp,by simp_all [bt,zY],by simp,by simp⟩
   |false=>
    have H:=hc;unfold jU at H
    repeat' first|apply nI|(refine eI aio λK p=>?_;simp[t5,t14,t15,t16,t7,O,hlen,W,U,fP,ab,az,dF,H,w1];apply p)
    refine aN (d-1) ⟨k+1,τ,by omega,by rfl,by simp,by simp,by simp,by simp_all,by omega,by grind⟩
  ·have Z:k=L.length:=by omega
   subst Z
   repeat' first|apply nI|(refine eI aio λK p=>?_;simp[t15,t16,t7];apply p)
   simp[Dn,aH,Tryz.f89]
theorem uw(L:List (Int×Bool))(hb:L.length<=285311670611):aq P 133 [.sq none 2 (bt L)] (.sq none 1 ((L.map (·.1)).map (AV.i .i64))):=by
 refine fi (au P) (lf Tryz.func133) ?_;have hlen:=fC L
 repeat apply nI
 refine eI aix ?_;intro K p;simp
 repeat' (first|apply p|(refine aE (λhc=>?_) (λhc=>?_) <;>(try simp only[aan,aac] at hc) <;>simp[hc])|fail)
 repeat apply nI
 refine eI aix ?_;intro K p;simp
 repeat' (first|apply p|(refine aE (λhc=>?_) (λhc=>?_) <;>(try simp only[aan,aac] at hc) <;>simp[hc])|fail)
 repeat apply nI
 refine eI aix ?_;intro K p;simp[hlen]
 repeat' (first|apply p|(refine aE (λhc=>?_) (λhc=>?_) <;>(try simp only[aan,aac] at hc) <;>simp[hc,hlen])|fail)
 repeat apply nI
 refine amF (λd T B lv nx=>∃k τ,k+d=L.length/\T 6=.sq none 2 (bt L)/\T 7=.i .i64 L.length/\T 8=.i .i64 k/\T 3=.sq (some τ) 1 (((L.take k).map (·.1)).map (AV.i .i64))/\lv τ=some 3/\τ<nx) L.length ?_ ?_
 ·simp_all
 ·rintro d T B lv nx ⟨k,τ,hk,t6,t7,t8,t3,M,hnx⟩;have w1:=aS ((k:Int)+1);by_cases E:k<L.length
  ·have H:=ln L k L[k] (by grind);have J:(k+1)*2<=2*L.length:=by omega
   have a1:τ<nx+1+4:=by omega
   have a2:¬τ=nx+1+4+3:=by omega
   have a4:min k L.length=k:=by omega
   have a3:(k+1)*9<=70368744177664:=by omega
   have N:L.take (k+1)=L.take k++ [L[k]]:=aaN E
   repeat' first|apply nI|(refine eI aix λK p=>?_;simp[t6,t7,t8,t3,M,E,hlen,J,H,w1,a1,a2,a3,a4];apply p)
   refine aN (d-1) ⟨k+1,nx+1+4+4,by omega,by simp,by simp,by simp,?_,by simp,by simp⟩;simp
   grind [List.take_succ_eq_append_getElem]
  ·have I:k=L.length:=by omega
   subst I
   repeat' first|apply nI|(refine eI aix λK p=>?_;simp[t7,t8,t3];apply p)
   simp[Dn,aH,Tryz.f133]
def Kn(L:List (Int×Bool)):AV:=.sq none 1 ((L.map (·.1)).map (AV.i .i64))
noncomputable def dh(h:ay)(s:List UInt8)(i:Int):List AV:=aj h (bF h)++ [.s s,.i .i64 i]
theorem ru(h:ay)(w s:List UInt8)(i:Int)(hw:w.length=10)(hv:sH h)(hs:s.length<=11):aq P 82 [.ag (dh h s i),.ag (ao w)] (Kn (bf h w s (-1) 0 false)):=by
 obtain⟨F,hd,E⟩:=cC (P:=P) (f:=137) (ι:=Unit) (λ_=> [.ag (aj h (bF h)),.ag (ao w),.s s]) (λ_=>.sq none 2 (bt (bf h w s (-1) 0 false))) (λ_=>True) (λ_ _ _ _ _=>rfl) (λ_ _=>zW h w s hw hv hs);have E:=E () trivial;obtain⟨G,gd,p⟩:=cC (P:=P) (f:=133) (ι:=Unit) (λ_=> [.sq none 2 (bt (bf h w s (-1) 0 false))]) (λ_=>Kn (bf h w s (-1) 0 false)) (λ_=>True) (λ_ _ _ _ _=>rfl) (λ_ _=>uw _ (nU h w s hs));have p:=p () trivial;have H:(ao w).length=10:=by grind [ao]
 have I:List.take 10 (ao w)=ao w:=aa1 (by omega);have M:=bY w;simp only[aj,o6,aaT,aaV] at E;refine fi (ak (aR Tryz.func137) hd (ak (aR Tryz.func133) gd (au P))) (lf Tryz.func82) ?_;unfold Kn at p ⊢;generalize bf h w s (-1) 0 false=L at E p
 repeat' first|apply nI|(refine eI [0,1,2,3,4] λK J=>?_;simp[dh,aj,o6,H,I,M,ab,az,E,p];apply J)
 simp[Dn,aH,Tryz.f82]
theorem wQ(h:ay)(w s:List UInt8)(i:Nat)(t:Tag)(hi:h.tags[i]?=some t)(hw:w.length=10)(hv:sH h)(ht:t.reads.length<=11):aq P 77 [.ag (dh h s i),.ag (ao w)] (Kn (cF h w t)):=by
 obtain⟨F,hd,E⟩:=cC (P:=P) (f:=89) (ι:=Unit) (λ_=> [.ag (aj h (bF h)),.ag (ao w),.ag (fP t)]) (λ_=>.sq none 2 (bt (cF h w t))) (λ_=>True) (λ_ _ _ _ _=>rfl) (λ_ _=>zI h w t hw hv ht);have E:=E () trivial;obtain⟨G,gd,p⟩:=cC (P:=P) (f:=133) (ι:=Unit) (λ_=> [.sq none 2 (bt (cF h w t))]) (λ_=>Kn (cF h w t)) (λ_=>True) (λ_ _ _ _ _=>rfl) (λ_ _=>uw _ (aaY (ael _ _) (nU h w t.reads ht)));have p:=p () trivial;have I:(ao w).length=10:=by grind [ao]
 have J:List.take 10 (ao w)=ao w:=aa1 (by omega);have N:=bY w;have H:=fA h.tags i t hi;have hlen:=cV h.tags;have O:i<h.tags.length:=(abi.1 hi).1;have hle:(i+1)*3<=h.tags.length*3:=by omega
 simp only[aj,o6,fP,aaT,aaV] at E;refine fi (ak (aR Tryz.func89) hd (ak (aR Tryz.func133) gd (au P))) (lf Tryz.func77) ?_;unfold Kn at p ⊢;generalize cF h w t=L at E p
 repeat' first|apply nI|(refine eI [0,1,2,3,4] λK M=>?_;simp[dh,aj,o6,I,J,N,ab,az,E,p,H,hlen,hle];apply M)
 simp[Dn,aH,Tryz.f77]
end
def aeQ:=@List.mem_flatMap
def aec:=@List.take_append_of_le_length
def e_:List UInt8->List UInt8->List (List UInt8)
 | [],_=> [[]]
 |c::L,S=>if c=63 then(List.range S.length).flatMap λk=>(e_ L (S.take k++S.drop (k+1))).map (S.getD k 0:: ·) else(e_ L S).map (c:: ·)
theorem th:∀(L S w:List UInt8),w∈e_ L S->w.length=L.length
 | [],S,w,h=>by grind [e_]
 |c::L,S,w,h=>by
  unfold e_ at h;split at h
  ·simp only[aeQ,ac4] at h;obtain⟨k,_,v,hv,rfl⟩:=h;simp[th L _ v hv]
  ·simp only[ac4] at h;obtain⟨v,hv,rfl⟩:=h;simp[th L _ v hv]
def rN(Y:List UInt8->List AV)(L sp pre:List UInt8):List AV:=(e_ L sp).flatMap λv=>Y (pre++v)
theorem Va(Y:List UInt8->List AV)(sp pre:List UInt8):rN Y [] sp pre=Y pre:=by simp[rN,e_]
theorem MV(Y:List UInt8->List AV)(c:UInt8)(L sp pre:List UInt8)(h:c≠63):rN Y (c::L) sp pre=rN Y L sp (pre++ [c]):=by
 grind [List.flatMap_map,rN,e_]
def rP(Y:List UInt8->List AV)(L sp pre:List UInt8)(n:Nat):List AV:=(List.range n).flatMap λk=>rN Y L (sp.take k++sp.drop (k+1)) (pre++ [sp.getD k 0])
theorem MU(Y:List UInt8->List AV)(L sp pre:List UInt8):rN Y (63::L) sp pre=rP Y L sp pre sp.length:=by
 simp[rN,rP,e_,List.flatMap_map,List.flatMap_assoc]
theorem QP(Y:List UInt8->List AV)(L sp pre:List UInt8):rP Y L sp pre 0= []:=rfl
theorem IQ(Y:List UInt8->List AV)(L sp pre:List UInt8)(n:Nat):rP Y L sp pre (n+1)=rP Y L sp pre n++rN Y L (sp.take n++sp.drop (n+1)) (pre++ [sp.getD n 0]):=by
 grind [List.range_succ,rP]
theorem Tx(Y:List UInt8->List AV)(L sp pre:List UInt8):∀(d n:Nat),(rP Y L sp pre n).length<=(rP Y L sp pre (n+d)).length
 |0,n=>aax _
 |d+1,n=>by
  have:=Tx Y L sp pre d n;rw[show n+(d+1)=(n+d)+1 from by omega,IQ,abj];omega
def iA(pre:List UInt8):List AV:=ao pre++List.replicate (10-pre.length) .any
theorem jO(pre:List UInt8)(h:pre.length<=10):(iA pre).length=10:=by grind [iA,ao]
theorem Di(pre:List UInt8)(h:pre.length=10):iA pre=ao pre:=by simp_all [iA]
theorem oQ(pre:List UInt8):nS (iA pre):=by
 intro a ha τ k l e
 grind [iA,ao]
theorem IG(pre:List UInt8)(c:UInt8)(h:pre.length<10):lay (iA pre) pre.length [.i .u8 c.toNat]=iA (pre++ [c]):=by
 unfold lay iA;have e:10-pre.length=(10-(pre++ [c]).length)+1:=by grind
 have h1:(ao pre++List.replicate (10-pre.length) AV.any).take pre.length=ao pre:=by
  grind [ao]
 have h2:(ao pre++List.replicate (10-pre.length) AV.any).drop (pre.length+1)=List.replicate (10-(pre++ [c]).length) AV.any:=by
  simp_all [List.drop_append,ao]
 simp_all [ao]
theorem Dh(pre:List UInt8)(c:UInt8)(h:pre.length<10)(j:Nat):(iA pre)[j]?=(iA (pre++ [c]))[j]?\/(iA pre)[j]?=some .any:=by
 by_cases p:j<pre.length
 ·grind [iA,ao]
 ·by_cases h2:j<10
  ·right;unfold iA;rw[abK (by grind [ao]),List.getElem?_replicate,aay (by grind [ao])]
  grind [jO]
theorem Ql{p q:List UInt8}(hl:p.length=q.length)(h:iA p=iA q):p=q:=by
 have h1:=congrArg (List.take p.length) h;unfold iA at h1;rw[aec (by simp[ao]),aa1 (by simp[ao]),hl,aec (by simp[ao]),aa1 (by simp[ao])] at h1;have:∀ {l m:List UInt8},ao l=ao m->l=m:=by
  intro l
  induction l with
  |nil=>simp_all [ao]
  |cons a l E=>intro m hm;cases m with
   |nil=>grind [ao]
   |cons b m=>
    simp only[ao,List.map_cons,abg] at hm;rw[oG hm.1,E hm.2]
 grind
section
variable{P:Program}{g0:Gh}{w0:World}
theorem ST.wkB{s:AS}{a:Act}{w:World}(h:ST P g0 w0 s a w){c c':List AV}(M:s.B 1=some (false,c))(hl:c'.length=c.length)(hw:∀j:Nat,c'[j]?=c[j]?\/c'[j]?=some AV.any):ST P g0 w0 { s with B:=Lo s.B 1 (some (false,c')) } a w:=by
 obtain⟨g,m,p,N⟩:=h;have E:∀j,Lo s.B 1 (some (false,c')) j≠none->s.B j≠none:=λj I=>by
  by_cases e:j=1
  ·simp_all
  simp_all
 refine⟨g,m,?_,N⟩;exact { p with
  free:=λid H=>⟨by
   have e:id≠1:=λe=>by have:=(p.free id H).1;simp_all
   dsimp only;rw[aL _ _ _ _ e];exact(p.free id H).1,(p.free id H).2⟩
  boxes:=λid ro cells e'=>by
   by_cases e:id=1
   ·subst e;simp only[bc,Option.some.injEq,Prod.mk.injEq] at e';obtain⟨rfl,rfl⟩:=e';obtain⟨ys,ty,k1,k2,W,L,U,O⟩:=p.boxes 1 false c M;refine⟨ys,ty,k1,k2,by omega,L,λj a y J Y=>?_,by grind⟩;rcases hw j with h1|h1
    ·grind
    ·rw[h1] at J;cases J;exact⟨.any _,λ_ _ _ e=>by cases e⟩
   ·dsimp only at e';rw[aL _ _ _ _ e] at e';exact p.boxes id ro cells e'
  cD:=λi j hi I=>p.cD i j (E i hi) (E j I)
  vd:=λσ id h1 h2=>p.vd σ id h1 (E id h2) }
theorem JA{e:TypeId}{bo b1:Nat}{rc:Gh->World->Prop}{f:FuncId}{ι:Type}(args wd:ι->List AV)(res:ι->List AV×AV)(ok:ι->Prop)(p:∀x y,ok x->ok y->args x=args y->wd x=wd y->res x=res y)(h:∀x,ok x->oO P e bo b1 rc f (args x) (wd x) (res x).1 (res x).2):
  ∃F:List AV->List AV->Option (List AV×AV),(∀a c r,F a c=some r->oO P e bo b1 rc f a c r.1 r.2)/\∀x,ok x->F (args x) (wd x)=some (res x):=by
 classical
 refine⟨λa c=>if hx:∃x,ok x/\a=args x/\c=wd x then some (res hx.choose) else none,λa c r hr=>?_,λx hx=>?_⟩
 ·simp only at hr;split at hr
  ·grind
  ·cases hr
 ·have hex:∃y,ok y/\args x=args y/\wd x=wd y:=⟨x,hx,rfl,rfl⟩
  grind
def yJ(f:FuncId)(F:List AV->List AV->Option (List AV×AV))(e:TypeId)(bo b1:Nat)(rc:Gh->World->Prop)(tb:qd):qd:= { fn:=tb.fn,ty:=e,bo:=bo,a2:=λg a c=>if g=f then F a c else none,b1:=b1,rc:=rc }
theorem te(f:FuncId)(F:List AV->List AV->Option (List AV×AV))(e:TypeId)(bo b1:Nat)(rc:Gh->World->Prop)(tb:qd)(a c:List AV):(yJ f F e bo b1 rc tb).a2 f a c=F a c:=by simp[yJ]
theorem BM(f:FuncId)(F:List AV->List AV->Option (List AV×AV))(e:TypeId)(bo b1:Nat)(rc:Gh->World->Prop)(tb:qd):(yJ f F e bo b1 rc tb).ty=e:=(rfl)
theorem IT{f:FuncId}{F:List AV->List AV->Option (List AV×AV)}{e:TypeId}{bo b1:Nat}{rc:Gh->World->Prop}{tb:qd}(he:Enters P f)(E:∀a c r,F a c=some r->oO P e bo b1 rc f a c r.1 r.2)(p:jw P tb):jw P (yJ f F e bo b1 rc tb):=
 ⟨p.1,⟨λg a r hr=>(by cases hr),λg a c r hr=>(by
  grind [yJ])⟩⟩
def yv(lp:Nat):AV:=.v (.func (.yield lp) #[] #[])
def Nx(h:ay)(d:Value->Option AV)(lp b1:Nat):Nat->AV
 |0=>.any
 |k+1=>.fn 174 [] [.sp [yv lp],kP b1,.sp (aj h d),.sp [Nx h d lp b1 k]]
def j6(h:ay)(d:Value->Option AV)(lp b1 k:Nat)(i:Int)(sp:List UInt8):List AV:= [.i .i64 i,.s sp,.sp [yv lp],kP b1,.sp (aj h d),.sp [Nx h d lp b1 k]]
def x_(h:ay)(d:Value->Option AV)(lp b1 k:Nat)(i:Int)(sp:List UInt8):List AV:= [.i .i64 i,.s sp,.sp [yv lp],.bx 1 0,.sp (aj h d),.sp [Nx h d lp b1 k]]
structure PV where
 pre:List UInt8
 sp:List UInt8
structure JG(k:Nat)(x:PV):Prop where
 k:11<=x.pre.length+k
 i:x.pre.length<=10
 n:x.sp.length<=100
 a:∀c∈x.sp,c.toNat<128
theorem wN{ty:Nat}{l wd c:List AV}{z:AV}{rt:Nat}{s:AS}{τ:Nat}(h0:s.B 0=some (false,[.sq (some τ) (aQ P ty) l]))(p:s.lv τ=some ty)(h1:s.B 1=some (false,c))(hl:wd.length=c.length)(hw:∀j:Nat,wd[j]?=c[j]?\/wd[j]?=some AV.any)(hz:s.T rt=z){e:Exit}{a:Act}{w:World}(hx:c8 e=some .normal\/c8 e=some .ret)(E:ST P g0 w0 s a w):ac7 P g0 w0 ty l wd z rt e a w:=by
 have h2:=E.wkB h1 hl hw;have hf:JK P ty l wd z rt { s with B:=Lo s.B 1 (some (false,wd)) } :=⟨⟨τ,by simp_all,p⟩,by simp,hz⟩
 rcases hx with hx|hx
 ·exact⟨_,_,hx,.inl rfl,hf,h2⟩
 ·exact⟨_,_,hx,.inr rfl,hf,h2⟩
end
@[simp] abbrev ah_:List Nat:=[0,1,2,3,4,5,8,9,11,20,34,35,36,55]
section
variable{P:Program}[l:cL P]
def X8(P:Program)(g0:Gh)(w0:World)(h:ay)(d:Value->Option AV)(Y:List UInt8->List AV)(lp b1 k:Nat)(l:List AV)(pre sp:List UInt8)(b pos:Nat)(a:Act)(w:World):Prop:=
 ∃T τ nx g m,SR P g0 w0 (λj=>nx<=j) ⟨T,bQ (false,[.sq (some τ) 10 (l++rP Y (h.L.drop (pre.length+1)) sp pre pos)]) (false,iA pre),bG τ 116,nx,56⟩ g w m a.tmps/\a.defers= []/\T 0=.i .i64 pre.length/\T 1=.s sp/\T 3=.bx 1 0/\T 5=.sp [Nx h d lp b1 (k+1)]/\T 34=.v (.pointer (some ⟨b,0,none⟩))/\w.heap[b]?=some (.stringIter ⟨sp.toArray⟩ pos)
set_option maxHeartbeats 1000000 in
theorem Na(h:ay)(d:Value->Option AV)(Y:List UInt8->List AV)(lp bo b1:Nat)(rec:Loop)(hL:h.L.length=10)(qt:rec.params.size=1)(rc:Gh->World->Prop)(Cc:∀g g' w w',Lw g g' w w'->rc { hw:=g.hw,aD:=g.aD } w->rc { hw:=g'.hw,aD:=g'.aD } w')(ED:∀g w,rc g w->w.heap[lp]?=some (.loop rec))
  (hY:∀w,w.length=10->YOk P 116 bo b1 lp rec rc (.ag (ao w)) (ao w) (Y w)) (k:Nat)
  (ih:∀x,JG k x->oO P 116 bo b1 rc 174 (j6 h d lp b1 k x.pre.length x.sp) (iA x.pre) (rN Y (h.L.drop x.pre.length) x.sp x.pre) (.b true))
  (x:PV) (hx:JG (k+1) x):oO P 116 bo b1 rc 174 (j6 h d lp b1 (k+1) x.pre.length x.sp) (iA x.pre) (rN Y (h.L.drop x.pre.length) x.sp x.pre) (.b true):=by
 obtain⟨F,hF,KU⟩:=JA (P:=P) (e:=116) (bo:=bo) (b1:=b1) (rc:=rc) (f:=174) (ι:=PV) (λx=>j6 h d lp b1 k x.pre.length x.sp) (λx=>iA x.pre) (λx=>(rN Y (h.L.drop x.pre.length) x.sp x.pre,.b true)) (JG k) (λx y _ _ e1 e2=>by
  obtain⟨p1,s1⟩:=x;obtain⟨p2,s2⟩:=y;simp only[j6,abg,AV.i.injEq,AV.s.injEq,adM,abQ] at e1 e2
  grind [Ql]) ih
 obtain⟨pre,sp⟩:=x;obtain⟨hk,hi,hn,ha⟩:=hx;simp only at hk hi hn ha;refine IB Cc (lf (P:=P) Tryz.func174) rfl (args':=x_ h d lp b1 (k+1) pre.length sp) (oQ _) rfl rfl (Nat.le_of_ble_eq_true rfl) rfl rfl (λt=>by
  match t with
  |0=>exact .inl rfl
  |1=>exact .inl rfl
  |2=>exact .inl rfl
  |3=>exact .inr (.inr ⟨rfl,rfl⟩)
  |4=>exact .inl rfl
  |5=>exact .inl rfl
  |t+6=>exact .inl rfl) (λg0 w0 l a w hle EG Wf KE hy V3 bH=>?_)
 have vL:jb P (yJ 174 F 116 bo b1 rc a_) g0:=⟨IT (aR Tryz.func174) hF (au P),λ_ _ _ h=>(by cases h),λ_ _ _ _ _=>⟨EG,Wf,KE⟩⟩
 have H:jb P a_ g0:=.of (au P) ⟨λ_ _=>rfl,λ_ _ _=>rfl⟩;have hNx:Nx h d lp b1 (k+1)=.fn 174 [] [.sp [yv lp],kP b1,.sp (aj h d),.sp [Nx h d lp b1 k]]:=rfl;have F3:=jO pre hi;refine(?_:Tv P g0 w0 _ _ _) a w bH;clear bH;have cq:∀hw aD w',g0.ex hw aD w'->w.heap.size<=w'.heap.size:=V3;refine ajr ?_;refine bD ?_ (aY (tb:=a_) (mt:=λ_=>false) (Q:=λe s1=>e=.normal/\s1.T 0=.i .i64 pre.length/\s1.T 1=.s sp/\s1.T 2=.sp [yv lp]/\s1.T 3=.bx 1 0/\s1.T 4=.sp (aj h d)/\s1.T 5=.sp [Nx h d lp b1 (k+1)]/\s1.B=bQ (false,[.sq (some 0) 10 l]) (false,iA pre)/\s1.lv=bG 0 116/\s1.nx=3/\s1.n=56) H mixed ?_)
 rotate_left
 ·
  repeat apply nI
  refine eI ah_ ?_;simp_all [x_]
 rintro e ⟨T,B,lv,nx,n⟩ ⟨rfl,t0,t1,t2,t3,t4,t5,p,E,rfl,rfl⟩;simp only at t0 t1 t2 t3 t4 t5 p E;subst p E;have Qo:((pre.length:Int)=10)↔pre.length=10:=by omega
 have aiA:aQ P 116=10:=by simp
 by_cases pc:pre.length=10
 ·refine ajr (bO ?_);refine bD ?_ (aY (tb:=a_) (mt:=λ_=>false) (Q:=λe s1=>e=.normal/\s1.T 2=.sp [yv lp]/\s1.T 3=.bx 1 0/\s1.T 11=.b true/\s1.B=bQ (false,[.sq (some 0) 10 l]) (false,iA pre)/\s1.lv=bG 0 116/\s1.nx=5/\s1.n=56) H mixed ?_)
  rotate_left
  ·
   repeat apply nI
   refine eI ah_ ?_;simp_all
  rintro e ⟨T,B,lv,nx,n⟩ ⟨rfl,t2,t3,t11,p,E,rfl,rfl⟩;simp only at t2 t3 t11 p E;subst p E;have I9:=Di pre pc;have jF:(ao pre).take 10=ao pre:=aa1 (by simp_all);have lr:(ao pre).length=10:=by simp_all
  have bH:=bY pre;have V_:rN Y (h.L.drop pre.length) sp pre=Y pre:=by grind [Va]
  rw[V_] at hle ⊢;refine wo (by simp_all) (bO ?_);refine JU (tb:=a_) (mt:=λ_=>false) (o:=?o) 2 H ?hk ?hg ?hnd ?hh
  case hk=>exact rfl
  case hg=>exact rfl
  case hnd=>rfl
  intro K I;simp[t2,t3,I9,jF,lr,yv];refine I _ ⟨_,HD (e:=116) (kk:=10) aiA.symm (hY pre pc) ED (by grind [oQ]) qt (c:= { callee:=.value (.tmp 12),args:= #[.tmp 13],argTypes:= #[116] }) (x:=.tmp 12) (q:=.tmp 13) ?hop ?hc ?hargs ?hx ?hq rfl ?hd EG Wf KE hle,?post⟩
  case hop=>rfl
  case hc=>rfl
  case hargs=>rfl
  case hx=>rfl
  case hq=>rfl
  case hd=>simp_all
  case post=>
   rintro s2 rfl;refine⟨rfl,?_⟩;simp;refine aY (tb:=a_) (mt:=λ_=>false) H mixed ?_;refine L0 ?_;intro a w e' he hs;refine wN (τ:=7) (c:=ao pre) ?_ ?_ ?_ ?_ ?_ ?_ (.inr he) hs
   ·simp
   ·simp
   ·simp
   ·rw[I9]
   ·simp_all
   ·simp
 ·have O:pre.length<10:=by omega
  have Hs:=O;have Au:h.L.drop pre.length=h.L[pre.length]::h.L.drop (pre.length+1):=aa4 (by omega);generalize nv:h.L[pre.length]'(by omega)=c at Au;have vi:h.L[pre.length]?=some c:=by simp_all
  have w1:=aS ((pre.length:Int)+1);have hlc:(pre++ [c]).length=pre.length+1:=by simp
  have Gb:((c.toNat:Int)==63)=(c==63):=kn c 63 (by omega);refine ajr (bO ?_);refine bD ?_ (aY (tb:=a_) (mt:=λ_=>false) (Q:=λe s1=>e=.normal/\s1.T 0=.i .i64 pre.length/\s1.T 1=.s sp/\s1.T 3=.bx 1 0/\s1.T 4=.sp (aj h d)/\s1.T 5=.sp [Nx h d lp b1 (k+1)]/\s1.T 11=.b false/\s1.B=bQ (false,[.sq (some 0) 10 l]) (false,iA pre)/\s1.lv=bG 0 116/\s1.nx=5/\s1.n=56) H mixed ?_)
  rotate_left
  ·
   repeat apply nI
   refine eI ah_ ?_;simp_all
  rintro e ⟨T,B,lv,nx,n⟩ ⟨rfl,t0,t1,t3,t4,t5,t11,p,E,rfl,rfl⟩;simp only at t0 t1 t3 t4 t5 t11 p E;subst p E;refine zB (by simp_all) (aY (tb:=a_) (mt:=λ_=>false) H mixed (Gj ?_));refine ajr (bO ?_);refine bD ?_ (aY (tb:=a_) (mt:=λ_=>false) (Q:=λe s1=>e=.normal/\s1.T 0=.i .i64 pre.length/\s1.T 1=.s sp/\s1.T 3=.bx 1 0/\s1.T 4=.sp (aj h d)/\s1.T 5=.sp [Nx h d lp b1 (k+1)]/\s1.T 20=.b (!(c==63))/\s1.B=bQ (false,[.sq (some 0) 10 l]) (false,iA pre)/\s1.lv=bG 0 116/\s1.nx=11/\s1.n=56) H mixed ?_)
  rotate_left
  ·
   repeat apply nI
   refine eI ah_ ?_;simp_all [aj,o6,bne]
  rintro e ⟨T,B,lv,nx,n⟩ ⟨rfl,t0,t1,t3,t4,t5,t20,p,E,rfl,rfl⟩;simp only at t0 t1 t3 t4 t5 t20 p E;subst p E;by_cases uL:c=63
  ·subst uL;have V_:rN Y (h.L.drop pre.length) sp pre=rP Y (h.L.drop (pre.length+1)) sp pre sp.length:=by grind [MU]
   rw[V_] at hle ⊢;refine zB (by simp_all) (aY (tb:=a_) (mt:=λ_=>false) H mixed (Gj ?_));intro a1 w1' Ez;obtain⟨g1,m1,dJ,jY⟩:=Ez;refine wp_seq (wp_seq (nB rfl rfl ?_));refine Ir (tb:=a_) (mt:=λ_=>false) (dsts:=λ_=>none) (i:=0) (z:=.s sp) (u:= {}) H dJ jY (λd hd=>by grind) (aax _) ?mv _ _ (λa2 w2 g2 m2 fE jq=>?_)
   case mv=>simp_all [pv]
   have Ah:SR P g0 w0 (λj=>12<=j) ⟨Lo T 33 (.s sp),bQ (false,[.sq (some 0) 10 l]) (false,iA pre),bG 0 116,11,56⟩ g2 w2 m2 a2.tmps:=fE.sub λj hj=>⟨by grind,by grind⟩
   refine D6 Ah jq (d:=34) (by simp_all) rfl (t:=9) u9 (x:=.tmp 33) rfl (l:=sp) (by rfl) (λa3 N jG hE3=>?_);have hN:w.heap.size<=w2.heap.size:=cq _ _ _ Ah.fV;have C6:w0.heap.size<=w2.heap.size:=Ah.ext.size;generalize hb:w2.heap.size=b at N hN C6;have P7:(w2.alloc (.stringIter ⟨sp.toArray⟩ 0)).heap[b]?=some (.stringIter ⟨sp.toArray⟩ 0):=by grind [heap_alloc_new]
   have Z3:SR P g0 w0 (λj=>12<=j) ⟨Lo (Lo T 33 (.s sp)) 34 (.v (.pointer (some ⟨b,0,none⟩))),bQ (false,[.sq (some 0) 10 (l++rP Y (h.L.drop (pre.length+1)) sp pre 0)]) (false,iA pre),bG 0 116,12,56⟩ g2 (w2.alloc (.stringIter ⟨sp.toArray⟩ 0)) m2 a3.tmps:=by
    rw[QP,acO];exact { N with size:=N.size,tmps:=N.tmps,free:=N.free,boxes:=N.boxes }
   have N6:X8 P g0 w0 h d Y lp b1 k l pre sp b 0 a3 (w2.alloc (.stringIter ⟨sp.toArray⟩ 0)):=⟨_,0,12,g2,m2,Z3,jG,by simp[t0],by simp[t1],by simp[t3],by simp[t5],by simp,P7⟩
   refine af6 (wp_mono (Q:=λe a w=>e=.exit 0/\X8 P g0 w0 h d Y lp b1 k l pre sp b sp.length a w) (afX (sp.length+1) ?hl) ?hend)
   case hend=>
    rintro e a4 w4 ⟨rfl,T4,τ4,Q6,g4,m4,aoa,EX,q0,q1,q3,q5,Zr,aoc⟩;simp only[Exit.inBlock,acC,Exit.then];refine wp_mono (vQ (s:=⟨T4,bQ (false,[.sq (some τ4) 10 (l++rP Y (h.L.drop (pre.length+1)) sp pre sp.length)]) (false,iA pre),bG τ4 116,Q6,56⟩) (tb:=a_) (mt:=λ_=>false) (Q:=λe s1=>e=.ret/\s1.B=bQ (false,[.sq (some τ4) 10 (l++rP Y (h.L.drop (pre.length+1)) sp pre sp.length)]) (false,iA pre)/\s1.lv=bG τ4 116/\s1.T 8=.b true) H mixed ?_ aoa EX) ?_
    ·
     repeat' first|apply nI|(refine eI ah_ λK I=>?_;simp[q0];apply I)
     simp_all
    rintro e a5 W ⟨x,s5,g5,m5,he,⟨rfl,p,E,h8⟩,d_,rK,_⟩;exact wN (τ:=τ4) (c:=iA pre) (by simp_all) (by simp_all) (by simp_all) rfl (λ_=>.inl rfl) h8 (.inr he) ⟨g5,m5,d_,rK⟩
   case hl=>
    refine(?key:∀(n pos:Nat) (a:Act) (w:World),pos<=sp.length->sp.length<pos+n->X8 P g0 w0 h d Y lp b1 k l pre sp b pos a w->Code.rounds P _ _ n a w) (sp.length+1) 0 a3 _ (aet _) (by omega) N6;intro n
    induction n with
    |zero=>omega
    |succ n ihn=>
     intro pos a w hp hn hinv;obtain⟨T,τ,nx,g,m,aJ,ba,q0,q1,q3,q5,Zr,P7⟩:=hinv;rw[afe];refine wp_seq (nB rfl rfl ?_);refine IY aJ ba (d:=35) (by simp_all) rfl (x:=.tmp 34) rfl (b:=b) (by simp_all) P7 C6 hy hN (λO a' r wd hr M lN=>?_) (λRJ a' M lN=>?_)
     ·obtain⟨rfl,rfl⟩:=hr (ha _ (abG O));refine BR M lN (d:=36) (by simp_all) rfl (x:=.tmp 35) (ix:=0) rfl (by rw[bg];simp;rfl) rfl (λa2 fE jq=>?_);have WB:(w.putObj b (.stringIter ⟨sp.toArray⟩ (pos+1))).heap[b]?=some (.stringIter ⟨sp.toArray⟩ (pos+1)):=adu (aah.1 P7).1;have Z:=KU ⟨pre++ [sp[pos]],sp.take pos++sp.drop (pos+1)⟩ ⟨by grind,by simp_all,by grind,λc hc=>by
       grind⟩
      have ag0:(pre++ [sp[pos]]).length=pre.length+1:=by simp
      simp only[j6,ag0,aj,o6,aaT,aaV,yv,kP,Int.natCast_add,Int.cast_ofNat_Int] at Z;have hgd:sp.getD pos 0=sp[pos]:=by grind
      have hsu:=IQ Y (h.L.drop (pre.length+1)) sp pre pos;rw[hgd] at hsu;have du:=Tx Y (h.L.drop (pre.length+1)) sp pre (sp.length-(pos+1)) (pos+1);rw[show pos+1+(sp.length-(pos+1))=sp.length from by omega,hsu,abj] at du;have eu:l.length+(rP Y (h.L.drop (pre.length+1)) sp pre pos).length+(rN Y (h.L.drop (pre.length+1)) (sp.take pos++sp.drop (pos+1)) (pre++ [sp[pos]])).length<=1099511627776:=by omega
      have N2:(iA pre).take pre.length++.i .u8 sp[pos].toNat::(iA pre).drop (pre.length+1)=iA (pre++ [sp[pos]]):=by
       have:=IG pre sp[pos] Hs
       simp_all
      have w2':=aS ((pos:Int)+1);have N0:min pos sp.length=pos:=by omega
      have agk:¬(9223372036854775807<(pos:Int)+((sp.length-(pos+1):Nat):Int)):=by omega
      have Rr:pos<=sp.length:=by omega
      have hp3:(0:Int)<=(pos:Int)+1:=by omega
      have hp4:(pos:Int)+1<=sp.length:=by omega
      refine wp_mono (vQ (s:=⟨Lo (Lo T 35 (.tu [.b true,.i .i64 pos,.i .i32 sp[pos].toNat])) 36 (.b true),bQ (false,[.sq (some τ) 10 (l++rP Y (h.L.drop (pre.length+1)) sp pre pos)]) (false,iA pre),bG τ 116,nx,56⟩) (tb:=yJ 174 F 116 bo b1 rc a_) (mt:=λd=>d==54) (Q:=λe s1=>e=.normal/\s1.T 0=.i .i64 pre.length/\s1.T 1=.s sp/\s1.T 3=.bx 1 0/\s1.T 5=.sp [Nx h d lp b1 (k+1)]/\s1.T 34=.v (.pointer (some ⟨b,0,none⟩))/\(∃τ',s1.B=bQ (false,[.sq (some τ') 10 (l++rP Y (h.L.drop (pre.length+1)) sp pre (pos+1))]) (false,iA (pre++ [sp[pos]]))/\s1.lv=bG τ' 116)/\s1.n=56) vL mixed ?awp fE jq) ?_
      case awp=>
       repeat' first|apply nI|(refine eI ah_ λK I=>?_;simp[q0,q1,q3,q5,Zr,hNx,yv,kP,aj,o6,O,Hs,F3,N2,w1,w2',N0,agk,Rr,hp3,hp4,te,Z,BM,eu];apply I)
       exact⟨rfl,by rfl,by rfl,by rfl,by rfl,by rfl,⟨_,by grind,rfl⟩,rfl⟩
      rintro e a5 W ⟨x,⟨T5,B5,lv5,U,n5⟩,g5,m5,he,⟨rfl,r0,r1,r3,r5,Zq,⟨τ5,p,E⟩,Wp⟩,d_,rK,J⟩;simp only at r0 r1 r3 r5 Zq p E Wp;subst p E Wp;have Ch:e=.normal:=by cases e <;>simp[c8] at he ⊢
      subst Ch;have NM:ST P g0 w0 ⟨T5,bQ (false,[.sq (some τ5) 10 (l++rP Y (h.L.drop (pre.length+1)) sp pre (pos+1))]) (false,iA (pre++ [sp[pos]])),bG τ5 116,U,56⟩ a5 W:=⟨g5,m5,d_,rK⟩
      obtain⟨g6,m6,jm,EW⟩:=NM.wkB (c':=iA pre) (CI (false,[.sq (some τ5) 10 (l++rP Y (h.L.drop (pre.length+1)) sp pre (pos+1))]) (false,iA (pre++ [sp[pos]]))) (by grind) (Dh pre sp[pos] Hs);have Z2:SR P g0 w0 (λj=>U<=j) ⟨T5,bQ (false,[.sq (some τ5) 10 (l++rP Y (h.L.drop (pre.length+1)) sp pre (pos+1))]) (false,iA pre),bG τ5 116,U,56⟩ g6 W m6 a5.tmps:=by
       simp_all
      exact ihn (pos+1) a5 W (by omega) (by omega) ⟨T5,τ5,U,g6,m6,Z2,EW,r0,r1,r3,r5,Zq,J.obj b _ WB rfl⟩
     ·have TR:pos=sp.length:=by omega
      subst TR;refine BR M lN (d:=36) (by simp_all) rfl (x:=.tmp 35) (ix:=0) rfl (by rw[bg];simp;rfl) rfl (λa2 fE jq=>?_);refine wp_mono (vQ (s:=⟨Lo (Lo T 35 (.tu [.b false])) 36 (.b false),bQ (false,[.sq (some τ) 10 (l++rP Y (h.L.drop (pre.length+1)) sp pre sp.length)]) (false,iA pre),bG τ 116,nx,56⟩) (tb:=a_) (mt:=λ_=>false) (Q:=λe s1=>e=.exit 0/\s1.T 0=.i .i64 pre.length/\s1.T 1=.s sp/\s1.T 3=.bx 1 0/\s1.T 5=.sp [Nx h d lp b1 (k+1)]/\s1.T 34=.v (.pointer (some ⟨b,0,none⟩))/\s1.B=bQ (false,[.sq (some τ) 10 (l++rP Y (h.L.drop (pre.length+1)) sp pre sp.length)]) (false,iA pre)/\s1.lv=bG τ 116/\s1.n=56) H mixed ?awp2 fE jq) ?_
      case awp2=>
       repeat' first|apply nI|(refine eI ah_ λK I=>?_;simp;apply I)
       simp_all
      rintro e a5 W ⟨x,⟨T5,B5,lv5,U,n5⟩,g5,m5,he,⟨rfl,r0,r1,r3,r5,Zq,p,E,Wp⟩,d_,rK,J⟩;simp only at r0 r1 r3 r5 Zq p E Wp;subst p E Wp;have Ch:e=.exit 0:=by cases e <;>simp[c8] at he ⊢;exact he
      subst Ch;exact⟨rfl,T5,τ,U,g5,m5,d_,rK,r0,r1,r3,r5,Zq,J.obj b _ P7 rfl⟩
  ·have aiv:(c==63)=false:=by grind
   have V_:rN Y (h.L.drop pre.length) sp pre=rN Y (h.L.drop (pre.length+1)) sp (pre++ [c]):=by grind [MV]
   rw[V_] at hle ⊢;have Z:=KU ⟨pre++ [c],sp⟩ ⟨by grind,by simp_all,hn,ha⟩;simp only[j6,hlc,aj,o6,aaT,aaV,yv,kP,Int.natCast_add,Int.cast_ofNat_Int] at Z;have N2:(iA pre).take pre.length++.i .u8 c.toNat::(iA pre).drop (pre.length+1)=iA (pre++ [c]):=by
    have:=IG pre c O
    simp_all
   refine wo (by simp_all) (bD ?_ (aY (tb:=yJ 174 F 116 bo b1 rc a_) (mt:=λd=>d==32) (Q:=λe s1=>e=.ret/\∃τ,s1.B=bQ (false,[.sq (some τ) 10 (l++rN Y (h.L.drop (pre.length+1)) sp (pre++ [c]))]) (false,iA (pre++ [c]))/\s1.lv=bG τ 116/\s1.T 8=.b true) vL mixed ?_))
   rotate_left
   ·
    repeat' first|apply nI|(refine eI ah_ λK I=>?_;simp[t0,t1,t3,t4,t5,aj,o6,vi,F3,N2,O,hNx,yv,kP,w1,te,Z,BM,hle];apply I)
    exact⟨rfl,_,rfl,rfl,by simp⟩
   rintro e s1 ⟨rfl,τ,p,E,h8⟩;intro a w e' he hs;refine wN (τ:=τ) (c:=iA (pre++ [c])) ?_ ?_ ?_ ?_ ?_ ?_ (.inr he) hs
   ·simp_all
   ·simp_all
   ·simp_all
   ·grind
   ·grind [Dh]
   ·exact h8
theorem Ea(h:ay)(d:Value->Option AV)(Y:List UInt8->List AV)(lp bo b1:Nat)(rec:Loop)(H:h.L.length=10)(p:rec.params.size=1)(rc:Gh->World->Prop)(J:∀g g' w w',Lw g g' w w'->rc { hw:=g.hw,aD:=g.aD } w->rc { hw:=g'.hw,aD:=g'.aD } w')(I:∀g w,rc g w->w.heap[lp]?=some (.loop rec))
  (E:∀w,w.length=10->YOk P 116 bo b1 lp rec rc (.ag (ao w)) (ao w) (Y w)):
  ∀k x,JG k x->oO P 116 bo b1 rc 174 (j6 h d lp b1 k x.pre.length x.sp) (iA x.pre) (rN Y (h.L.drop x.pre.length) x.sp x.pre) (.b true)
 |0,x,hx=>by have:=hx.k;have:=hx.i;omega
 |k+1,x,hx=>Na h d Y lp bo b1 rec H p rc J I E k (Ea h d Y lp bo b1 rec H p rc J I E k) x hx
end
section
variable{P:Program}{g0:Gh}{w0:World}
theorem M_{g:Gh}{w1:World}(h:ay)(d:Value->Option AV)(lp b1 p:Nat){E ph:Value}(hy:Rd g w1 (.sp [yv lp]) E)(hh:Rd g w1 (.sp (aj h d)) ph)
  (hn:0<g.hw p) (hc:w1.cell? ⟨p,0,none⟩=some (.func (.func 174) #[] #[E,.pointer (some ⟨b1,0,none⟩),ph,.pointer (some ⟨p,0,none⟩)])):
  ∀k,Rd g w1 (Nx h d lp b1 k) (.func (.func 174) #[] #[E,.pointer (some ⟨b1,0,none⟩),ph,.pointer (some ⟨p,0,none⟩)])/\Rd g w1 (.sp [Nx h d lp b1 k]) (.pointer (some ⟨p,0,none⟩)):=by
 have J:∀a,Rd g w1 a (.func (.func 174) #[] #[E,.pointer (some ⟨b1,0,none⟩),ph,.pointer (some ⟨p,0,none⟩)])->Rd g w1 (.sp [a]) (.pointer (some ⟨p,0,none⟩)):=λa ha=>
  .sp [a] p 0 [.func (.func 174) #[] #[E,.pointer (some ⟨b1,0,none⟩),ph,.pointer (some ⟨p,0,none⟩)]] rfl (by simp[Value.oneCell'])
   (λj y M=>by
    grind)
   (λj b y H I=>by
    grind)
 intro k
 induction k with
 |zero=>exact⟨.any _,J _ (.any _)⟩
 |succ k L=>
  have h1:Rd g w1 (Nx h d lp b1 (k+1)) (.func (.func 174) #[] #[E,.pointer (some ⟨b1,0,none⟩),ph,.pointer (some ⟨p,0,none⟩)]):=by
   refine .fn 174 [] [.sp [yv lp],kP b1,.sp (aj h d),.sp [Nx h d lp b1 k]] [] [E,.pointer (some ⟨b1,0,none⟩),ph,.pointer (some ⟨p,0,none⟩)] rfl rfl (λj a y H _=>by grind) (λj a y H I=>?_)
   match j with
   |0=>simp_all
   |1=>simp at H I;subst H I;exact .v _
   |2=>simp_all
   |3=>simp_all
   |j+4=>grind
  simp_all
theorem SR.XQ{fr:Nat->Prop}{s:AS}{g:Gh}{w:World}{m:Mem}{tmps:Array Value}{e:TypeId}(h:SR P g0 w0 fr s g w m tmps){i0 i1 τ:Nat}{l wd:List AV}(H:s.B i0=some (false,[.sq (some τ) (aQ P e) l]))(L:s.lv τ=some e)(hi:i0≠i1)(N:s.B i1=some (false,wd))(M:nS wd)(E:Nat->AV)
  (I:∀t,RV (λj=>2<=j) (bG 0 e) g w { bm:=λj=>if j=1 then m.bm i1 else m.bm i0,tm:=λ_=>m.tm τ } (E t) (tmps.getD t undef)):
  SR P { g0 with iF:=λid=>if id=0 then some (m.bm i0) else if id=1 then some (m.bm i1) else none } w0 (λj=>2<=j) ⟨E,bQ (false,[.sq (some 0) (aQ P e) l]) (false,wd),bG 0 e,2,s.n⟩ g w { bm:=λj=>if j=1 then m.bm i1 else m.bm i0,tm:=λ_=>m.tm τ } tmps:=by
 have h2:=h.Bs (g1:= { g0 with iF:=λid=>if id=0 then some (m.bm i0) else if id=1 then some (m.bm i1) else none }) (wd:=some wd) H L hi (λc hc=>by simp_all) rfl rfl h.gi h.fV (λid b e'=>by
  grind)
 exact {
  size:=h.size
  tmps:=I
  free:=λid J=>by have p:=h2.free id J;rw[eL] at p;exact p
  boxes:=λid ro cells e=>h2.boxes id ro cells (by simp_all [eL])
  cD:=λi j hi O=>h2.cD i j (by simp_all [eL]) (by simp_all [eL])
  cB:=h2.cB
  c_:=h2.c_
  vd:=λσ id h1 U=>h2.vd σ id h1 (by simp_all [eL])
  wi:=h2.wi,ext:=h2.ext,keeps:=h2.keeps,gi:=h2.gi,fV:=h2.fV,pins:=h2.pins }
theorem ae7{fr:Nat->Prop}{s:AS}{g:Gh}{w:World}{m:Mem}{tmps:Array Value}(p:SR P g0 w0 fr s g w m tmps){i:Nat}{c c':List AV}(M:s.B i=some (false,c))(hl:c'.length=c.length)(hw:∀j:Nat,c'[j]?=c[j]?\/c'[j]?=some AV.any):SR P g0 w0 fr { s with B:=Lo s.B i (some (false,c')) } g w m tmps:=by
 have E:∀j,Lo s.B i (some (false,c')) j≠none->s.B j≠none:=λj I=>by
  by_cases e:j=i
  ·simp_all
  simp_all
 exact { p with
  free:=λid H=>⟨by
   have e:id≠i:=λe=>by have:=(p.free id H).1;simp_all
   dsimp only;rw[aL _ _ _ _ e];exact(p.free id H).1,(p.free id H).2⟩
  boxes:=λid ro cells e'=>by
   by_cases e:id=i
   ·subst e;simp only[bc,Option.some.injEq,Prod.mk.injEq] at e';obtain⟨rfl,rfl⟩:=e';obtain⟨ys,ty,k1,k2,U,L,O,N⟩:=p.boxes id false c M;refine⟨ys,ty,k1,k2,by omega,L,λj a y J W=>?_,by grind⟩;rcases hw j with h1|h1
    ·grind
    ·rw[h1] at J;cases J;exact⟨.any _,λ_ _ _ e=>by cases e⟩
   ·dsimp only at e';rw[aL _ _ _ _ e] at e';exact p.boxes id ro cells e'
  cD:=λi j hi I=>p.cD i j (E i hi) (E j I)
  vd:=λσ id h1 h2=>p.vd σ id h1 (E id h2) }
theorem QQ(h:ay)(d:Value->Option AV)(lp:Nat){T:Nat->AV}{B:Nat->Option (Bool×List AV)}{lv:Nat->Option TypeId}{nx τ:Nat}{l wd:List AV}{a:Act}{w:World}(bH:ST P g0 w0 ⟨T,B,lv,nx,12⟩ a w)
  (t2:T 2=.sp (aj h d)) (t3:T 3=.sp [yv lp]) (t4:T 4=.bx 3 0) (b3:B 3=some (false,wd)) (TH:wd.length=10) (t5:T 5=.bx 4 0) (b4:B 4=some (false,[.v .nilFunc])) (b0:B 0=some (false,[.sq (some τ) (aQ P 116) l])) (cT:lv τ=some 116) (H:aQ P 199=1)
  (k:Nat) {id:Nat} {o1 o2:Oper} (Wg:o1.op=.makeFunc (.func 174) #[] #[.tmp 3,.tmp 4,.tmp 2,.tmp 5]) (hd1:o1.dst=some 6) (WJ:o1.guard=none) (hop2:o2.op=.store 199 (.tmp 5) (.tmp 6)) (hd2:o2.dst=none) (hg2:o2.guard=none):
  (Code.region id #[o1,o2] false).wp P (λe a' w'=>e=.normal/\∃bo b1 I,ST P { g0 with iF:=λid=>if id=0 then some bo else if id=1 then some b1 else none } w0 ⟨I,bQ (false,[.sq (some 0) (aQ P 116) l]) (false,iA []),bG 0 116,2,12⟩ a' w'/\I 2=.sp (aj h d)/\I 5=.sp [Nx h d lp b1 k]/\(∀b,g0.iF 0=some b->bo=b)) a w:=by
 refine nB WJ hg2 ?_;obtain⟨g,m,M,ba⟩:=bH;refine Ab M ba (d:=6) (by simp_all) hd1 Wg (λa' h1 J dS h24=>?_);generalize L:Value.func (.func 174) #[] (#[Operand.tmp 3,.tmp 4,.tmp 2,.tmp 5].map a.eval)=X at h1 h24;have O:X.cells= #[X]/\X.oneCell'=true:=by subst L;exact⟨rfl,rfl⟩
 refine xe h1 J hd2 hop2 (x:=.tmp 5) (y:=.tmp 6) (id:=4) (c:=.v .nilFunc) (v:=X) ?_ b4 h24 O.1 O.2 H (λw' h2=>?_)
 ·simp_all
 have Cp:SR P g0 w0 (λj=>nx<=j) ⟨Lo T 6 (.v X),Lo B 4 (some (false,[.v X])),lv,nx,12⟩ g w' m a'.tmps:=h2;obtain⟨g3,Z,W,hr3⟩:=Cp.froze (id:=4) (ro:=false) (cells:= [.v X]) (by simp);have N:SR P g0 w0 (λj=>nx<=j) ⟨Lo T 6 (.v X),Lo (Lo B 4 (some (false,[.v X]))) 4 (some (true,[.v X])),lv,nx,12⟩ g3 w' m a'.tmps:=Z;obtain⟨y,hn,hc,hy⟩:=MS hr3;have ZR:=s_ hy;subst ZR;have p:∀t z,t≠6->T t=z->RV (λj=>nx<=j) lv g3 w' m z (a'.tmps.getD t undef):=λt z ht hz=>by
  have:=N.tmps t
  simp_all
 have ev:∀t,t≠6->a.eval (.tmp t)=a'.tmps.getD t undef:=λt ht=>(dS t ht).symm
 have p2:=(p 2 _ (by omega) t2).rd (by simp);have p3:=(p 3 _ (by omega) t3).rd (by simp);have p4:=(p 4 _ (by omega) t4).bx.2;have p5:=(p 5 _ (by omega) t5).bx.2;have U:(#[Operand.tmp 3,.tmp 4,.tmp 2,.tmp 5].map a.eval)= #[a'.tmps.getD 3 undef,.pointer (some ⟨m.bm 3,0,none⟩),a'.tmps.getD 2 undef,.pointer (some ⟨m.bm 4,0,none⟩)]:=by
  simp_all
 rw[<-L,U] at hc;have E:=(M_ h d lp (m.bm 3) (m.bm 4) p3 p2 hn hc k).2;have Y:=ae7 N (i:=3) (c:=wd) (c':=iA []) (by simp[b3]) (by grind [jO]) (λj=>by
  by_cases hj:j<10
  ·right;show(List.replicate 10 AV.any)[j]?=_;grind
  grind [jO])
 refine⟨rfl,m.bm 0,m.bm 3,λt=>if t=2 then .sp (aj h d) else if t=5 then .sp [Nx h d lp (m.bm 3) k] else .any,
  ⟨g3,_,Y.XQ (e:=116) (i0:=0) (i1:=3) (τ:=τ) (l:=l) (wd:=iA []) (by simp[b0]) cT (by omega) (by simp) (oQ _) _ (λt=>?_),J⟩,rfl,rfl,λb hb=>(M.pins 0 b hb).2⟩
 try dsimp only
 split
 ·rename_i e;subst e;exact .cw p2 rfl
 ·split
  ·rename_i e;subst e;rw[p5];exact .cw E rfl
  ·exact .cw (.any _) rfl
end
@[simp] abbrev aiX:List Nat:=[0,1,2,3,4,5]
section
variable{P:Program}
def X7(P:Program)(bo:Nat)(rc:Gh->World->Prop)(f:FuncId)(args r:List AV):Prop:=
 ∀g0 w0 g w m l ys,SR P g0 w0 (λj=>1<=j) (zE P 116 l) g w m #[]->m.bm 0=bo->Xr g0 w.heap.size->rc { hw:=g.hw,aD:=g.aD } w->l.length+r.length<=1099511627776->cS g w args ys->
  Calls P f ys.toArray w λx w'=>∃y g' m',x=.returned y/\SR P g0 w0 (λj=>1<=j) (zE P 116 (l++r)) g' w' m' #[]/\m'.bm 0=bo/\Lw g g' w w'
theorem M5{g0:Gh}{w0:World}{fr:Nat->Prop}{s:AS}{g:Gh}{w:World}{m:Mem}{a:Act}{o:Oper}{i:Nat}(h:SR P g0 w0 fr s g w m a.tmps)(E:a.defers= [])(hd:∀d,o.dst=some d->d<s.n){t:TypeId}{x:Operand}(hop:o.op=.box t x){lp:Nat}(hx:s.ev x=yv lp):fX P g0 w0 fr s i a o w (.sp [yv lp]) {} :=by
 have p:=(h.ev x).rd (by grind [yv]);rw[hx] at p;have H:=s_ p;refine wU (ys:= [.func (.yield lp) #[] #[]]) (ty:=t) h E hd ?_ (by simp[Value.oneCell']) (.cons (.v _) (.nil _ _));simp only[execOp,hop,Instr.box,newVar,newRow,H,newObj,aaw,aaS,Sem.run,aas];rfl
variable[l:cL P]
theorem BO(h:ay)(d:Value->Option AV)(Y:List UInt8->List AV)(lp bo:Nat)(rec:Loop)(hL:h.L.length=10)(qt:rec.params.size=1)(rc:Gh->World->Prop)(Cc:∀g g' w w',Lw g g' w w'->rc { hw:=g.hw,aD:=g.aD } w->rc { hw:=g'.hw,aD:=g'.aD } w')(ED:∀g w,rc g w->w.heap[lp]?=some (.loop rec))(hS:h.S.length<=100)(hSa:∀c∈h.S,c.toNat<128)
  (hY:∀b1 w,w.length=10->YOk P 116 bo b1 lp rec rc (.ag (ao w)) (ao w) (Y w)):X7 P bo rc 148 [.ag (aj h d),yv lp] (rN Y h.L h.S []):=by
 intro g0 w0 g w m l ys p YI hy pe hle hr;refine aey (lf (P:=P) Tryz.func148) rfl ?_;have cq:ys.toArray.size=ys.length:=by simp
 rw[cq];have Ag:ys.length=2:=hr.1;have bH:ST P { g0 with ex:=lz g0 g w,iF:=λid=>if id=0 then some bo else none } w0 (a1 P 116 [.ag (aj h d),yv lp] l 12) { tmps:=ys.toArray++Array.replicate (12-ys.length) undef,defers:= [] } w:=by
  refine⟨g,m,?_,rfl⟩;exact {
   size:=by simp_all
   tmps:=λt=>by
    rw[aba,aev];simp only[afb];split
    ·rename_i ht;have Rn:(ys.toArray[t]?).getD undef=ys[t]:=by grind
     rw[Rn];show RV _ _ _ _ _ (List.getD [AV.ag (aj h d),yv lp] t (.tu [])).strip _;have rE:t< [AV.ag (aj h d),yv lp].length:=by grind
     rw[abM,aaf rE,aem];exact RC.zS (hr.2 t _ _ (aaf rE) (aaf ht))
    ·rename_i ht;have Rn:((Array.replicate (12-ys.length) undef)[t-ys.length]?).getD undef=undef:=by
      grind
     rw[Rn];show RV _ _ _ _ _ (List.getD [AV.ag (aj h d),yv lp] t (.tu [])).strip _;rw[abM,aby (by simp_all),ahj];exact .cw (.tu [] [] rfl (λ_ _ _ e=>by simp at e)) rfl
   free:=p.free,boxes:=p.boxes,cD:=p.cD,cB:=p.cB,c_:=p.c_,vd:=p.vd,wi:=p.wi
   ext:=⟨p.ext.1,p.ext.2,p.ext.3,p.ext.4,p.ext.5,p.ext.6,p.ext.7,p.ext.8⟩
   keeps:=⟨p.keeps.1,p.keeps.2,p.keeps.3⟩
   gi:=rZ p.gi g w
   fV:=rY p.fV
   pins:=λid b e=>by
    simp_all }
 generalize Ar:({ g0 with ex:=lz g0 g w,iF:=λid=>if id=0 then some bo else none } :Gh)=g1 at bH;have xD:jb P a_ g1:=.of (au P) ⟨λ_ _=>rfl,λ_ _ _=>rfl⟩;refine wp_mono (Q:=λe a w'=>(e=.normal\/e=.ret)/\∃τ nx g' m' T,SR P g1 w0 (λj=>nx<=j) ⟨T,eh (false,[.sq (some τ) (aQ P 116) (l++rN Y h.L h.S [])]),bG τ 116,nx,12⟩ g' w' m' a.tmps/\a.defers= []) ?_ ?_
 ·have hNA:Nx h d lp=Nx h d lp:=rfl;obtain⟨ga,ma,Z1,N⟩:=bH;refine wp_seq (nB rfl rfl ?_);refine Ir (tb:=a_) (mt:=λ_=>false) (dsts:=λ_=>none) (i:=0) (z:=.sp (aj h d)) (u:= {}) xD Z1 N (λd hd=>by cases hd;exact Nat.le_of_ble_eq_true rfl) (aax _) ?bx _ _ (λa2 w2 g2 m2 fE jq=>?_)
  case bx=>rfl
  refine M5 (i:=1) fE jq (λd hd=>by cases hd;exact Nat.le_of_ble_eq_true rfl) rfl (lp:=lp) ?bv _ _ (λa3 w3 g3 m3 cU jG=>?_)
  case bv=>rfl
  have Z0:ST P g1 w0 ⟨Lo (Lo (λt=>(List.getD [AV.ag (aj h d),yv lp] t (.tu [])).strip) 2 (.sp (aj h d))) 3 (.sp [yv lp]),eh (false,[.sq (some 0) (aQ P 116) l]),bG 0 116,3,12⟩ a3 w3:=by
   refine⟨g3,m3,?_,jG⟩;exact { cU.sub (fr':=λj=>3<=j) (λj O=>⟨⟨by show 1<=j;omega,by show j≠1+0;omega⟩,by show j≠1+1;omega⟩) with size:=cU.size }
  refine(?_:Tv P g1 w0 _ _ _) a3 w3 Z0;clear Z0 cU jG fE jq Z1 N;refine ajr ?_;refine bD ?_ (aY (tb:=a_) (mt:=λ_=>false) (Q:=λe s1=>e=.normal/\s1.T 2=.sp (aj h d)/\s1.T 3=.sp [yv lp]/\s1.T 4=.bx 3 0/\(∃wd,s1.B 3=some (false,wd)/\wd.length=10)/\s1.B 0=some (false,[.sq (some 0) (aQ P 116) l])/\s1.lv=bG 0 116/\s1.nx=4/\s1.n=12) xD mixed ?_)
  rotate_left
  ·
   repeat apply nI
   refine eI aiX ?_;simp_all
  rintro e ⟨T,B,lv,nx,n⟩ ⟨rfl,t2,t3,t4,⟨wd,Z,TH⟩,b0,E,rfl,rfl⟩;simp only at t2 t3 t4 Z b0 E;subst E;refine ajr ?_;refine bD ?_ (aY (tb:=a_) (mt:=λ_=>false) (Q:=λe s1=>e=.normal/\s1.T 2=.sp (aj h d)/\s1.T 3=.sp [yv lp]/\s1.T 4=.bx 3 0/\s1.B 3=some (false,wd)/\s1.T 5=.bx 4 0/\s1.B 4=some (false,[.v .nilFunc])/\s1.B 0=some (false,[.sq (some 0) (aQ P 116) l])/\s1.lv=bG 0 116/\s1.nx=5/\s1.n=12) xD mixed ?_)
  rotate_left
  ·
   repeat apply nI
   refine eI aiX ?_;simp_all
  rintro e ⟨T,B,lv,nx,n⟩ ⟨rfl,t2,t3,t4,Z,t5,b4,b0,E,rfl,rfl⟩;simp only at t2 t3 t4 Z t5 b4 b0 E;subst E;intro a5 w5 NM;refine wp_seq (wp_mono (QQ h d lp NM t2 t3 t4 Z TH t5 b4 b0 (dA _ _) (by simp) 12 rfl rfl rfl rfl rfl rfl) ?_);rintro e a6 w6 ⟨rfl,M,b1,T6,agn,q2,q5,mr⟩;have ahA:M=bo:=mr bo (by rw[<-Ar];rfl);subst ahA;obtain⟨F,hF,KU⟩:=JA (P:=P) (e:=116) (bo:=M) (b1:=b1) (rc:=rc) (f:=174) (ι:=Unit) (λ_=>j6 h d lp b1 11 0 h.S) (λ_=>iA []) (λ_=>(rN Y h.L h.S [],.b true)) (λ_=>True) (λ_ _ _ _ _ _=>rfl) (λ_ _=>by
   have:=Ea h d Y lp M b1 rec hL qt rc Cc ED (hY b1) 11 ⟨[],h.S⟩ ⟨by simp,by simp,hS,hSa⟩
   grind)
  have rS:=KU () trivial;simp only[j6,aj,o6,aaT,aaV,yv,kP] at rS;have hNx:Nx h d lp b1 12=.fn 174 [] [.sp [yv lp],kP b1,.sp (aj h d),.sp [Nx h d lp b1 11]]:=rfl;have vL:jb P (yJ 174 F 116 M b1 rc a_) { g1 with iF:=λid=>if id=0 then some M else if id=1 then some b1 else none } :=
   ⟨IT (aR Tryz.func174) hF (au P),λ_ _ _ h=>(by cases h),λ_ _ _ _ _=>⟨rfl,rfl,λhw aD w' he=>by
    have RL:g1.ex hw aD w':=he;rw[<-Ar] at RL;exact Cc g { hw:=hw,aD:=aD } w w' RL.2 pe⟩⟩
  refine wp_mono (fj (tb:=yJ 174 F 116 M b1 rc a_) (mt:=λd=>d==11) vL mixed _ (λe s1=>e=.normal/\∃τ,s1.B=bQ (false,[.sq (some τ) 10 (l++rN Y h.L h.S [])]) (false,iA [])/\s1.lv=bG τ 116/\s1.n=12) _ a6 w6 ?_ agn) ?_
  ·
   repeat' first|apply nI|(refine eI aiX λK hK=>?_;simp[q2,q5,hNx,yv,kP,aj,o6,te,rS,BM,hle];apply hK)
   grind
  ·rintro e a7 w7 ⟨x,⟨T7,B7,lv7,nx7,n7⟩,he,⟨rfl,τ,hB,E,hn⟩,g7,m7,U,yX⟩;simp only at hB E hn;subst hB E hn;have Ch:e=.normal:=by cases e <;>simp[c8] at he ⊢
   subst Ch;have J:SR P g1 w0 (λj=>nx7<=j) ⟨T7,bQ (false,[.sq (some τ) 10 (l++rN Y h.L h.S [])]) (false,iA []),bG τ 116,nx7,12⟩ g7 w7 m7 a7.tmps:=U.Uv (ex':=g1.ex) (pin':=g1.iF) U.gi U.fV (λid b e=>by
    rw[<-Ar] at e;dsimp only at e;split at e
    ·rename_i W;cases e;subst W;exact U.pins 0 _ rfl
    ·cases e)
   refine⟨.inl rfl,τ,nx7,g7,m7,T7,?_,yX⟩;have qQ:∀j z,eh (false,[AV.sq (some τ) (aQ P 116) (l++rN Y h.L h.S [])]) j=some z->j=0/\bQ (false,[AV.sq (some τ) 10 (l++rN Y h.L h.S [])]) (false,iA []) j=some z:=λj z hz=>by
    by_cases W:j=0
    ·simp_all
    simp_all [eh]
   have H:∀j,eh (false,[AV.sq (some τ) (aQ P 116) (l++rN Y h.L h.S [])]) j≠none->j=0/\bQ (false,[AV.sq (some τ) 10 (l++rN Y h.L h.S [])]) (false,iA []) j≠none:=λj O=>by
    obtain⟨z,hz⟩:=aga.1 O
    grind
   exact { J with
    free:=λid fg=>⟨by
     by_cases W:id=0
     ·subst W;have:=(J.free 0 fg).1;grind
     grind,(J.free id fg).2⟩
    boxes:=λid ro cells e=>J.boxes id ro cells (qQ id _ e).2
    cD:=λi j hi O=>J.cD i j (H i hi).2 (H j O).2
    vd:=λσ id h1 h2=>J.vd σ id h1 (H id h2).2 }
 ·rintro e a w' ⟨he,τ,nx,g',m',T,I,ba⟩;subst Ar;obtain⟨k1,k2⟩:=I.fV;obtain⟨k3,k4⟩:=I.pins 0 bo (by simp);have cn:=I.small (g1:=g0) (o8 _) (dA _ _) rfl rfl p.gi k1 (λid b e=>by
   obtain⟨q1,q2⟩:=p.pins id b e
   simp_all)
  have jW:(results Tryz.f148 a.tmps).run P w'=.ok (.tuple #[]) w':=by
   rw[cX]
   simp_all
  have hE:Lw g g' w w':=⟨k2.1,k2.2,k2.3,k2.4,k2.5,k2.6,k2.7,k2.8⟩
  rcases he with rfl|rfl
  ·exact⟨ba,_,jW,.tuple #[],g',_,rfl,cn,k4,hE⟩
  ·exact⟨ba,_,jW,.tuple #[],g',_,rfl,cn,k4,hE⟩
end
end Go.Proofs.YtjagmhagphbfcaaGreatDoor
