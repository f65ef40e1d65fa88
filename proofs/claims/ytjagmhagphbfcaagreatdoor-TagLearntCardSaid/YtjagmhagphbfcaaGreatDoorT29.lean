/- Lemmas, part 29. -/
import Derived.ProofKit
import Derived.OpenShut
import Derived.SliceStrings
import Derived.ChangeSlices
import Derived.ChangeCalls
import Derived.Test.YtjagmhagphbfcaaGreatDoorT28
set_option maxRecDepth 100000
set_option linter.all false
namespace Go.Proofs.YtjagmhagphbfcaaGreatDoor
open Go renaming Value→am,World→ap,TypeId→b8
open Go Go.Proofs Go.Conc Go.ChangeShapes Go.WideShapes Go.ChangeAt Go.RowKit
variable{W:ap}{a:Addr}{cap e fuel len p:Nat}{h:Bool}{α:Type}
structure AU(W:ap):Prop where
 s0:W.shape? 0=some (140,3)
 s1:W.shape? 1=some (3,1)
 s2:W.shape? 2=some (226,256)
 s3:W.shape? 3=some (229,32)
def oT(p:Program)(fits:b8->Bool):Nat->b8->Bool
 |0,_=>false
 |d+1,e=>fits e||match p.underlying e with
  |some (.struct fs)=>fs.any λf=>oT p fits d f.type
  |some (.array _ e')=>oT p fits d e'
  |_=>false
theorem s9{p:Program}{fits:b8->Bool} :∀(d:Nat) (e count off n:Nat),rowAt p fits d e count off n=true->oT p fits d e=true
 |0,_,_,_,_,h=>by simp[rowAt] at h
 |d+1,e,count,off,n,h=>by
  unfold rowAt at h;unfold oT;simp only at h;split at h
  ·cases h
  ·rw[adr] at h ⊢;rcases h with h|h
   ·simp only[aaZ] at h;exact .inl h.2
   ·right;rw[aaZ] at h;have h2:=h.2;split at h2
    ·rename_i fs hu;simp only[aaZ] at h2;rw[hu];simp only;rw[Array.any_eq_true] at h2 ⊢;obtain⟨i,hi,hf⟩:=h2.2;simp only[aaZ] at hf;exact⟨i,hi,s9 d _ _ _ _ hf.2⟩
    ·rename_i m e' hu;rw[hu];exact s9 d _ _ _ _ h2
    ·cases h2
theorem Hb{count:Program}{d off u n:Nat}(hu:∀m E,count.underlying u≠some (.array m E))(h:liesAt count d e p off u n=true):oT count (sameLayout count count.depth · u) count.depth e=true:=by
 cases d with
 |zero=>simp[liesAt] at h
 |succ d=>
  unfold liesAt at h;rw[adr] at h;rcases h with h|h
  ·exact s9 _ _ _ _ _ h
  ·split at h
   ·rename_i m E e;exact absurd e (hu m E)
   ·cases h
def CR(p:Program)(u:b8):Bool:= [140,3,226,229].all λt=> !oT p (sameLayout p p.depth · u) p.depth t
theorem XN:CR Tryz.prog 9=true:=by kernel_rfl
theorem SX:CR Tryz.prog 51=true:=by kernel_rfl
theorem Ov(E:AU W){u:b8}(hu:∀m H,Tryz.prog.underlying u≠some (.array m H))(ha:CR Tryz.prog u=true){base n:Nat}(h:W.has Tryz.prog .any base a u n):
  4<=a.block/\a.spot=none/\∃row cells,W.shape? a.block=some (row,cells):=by
 obtain⟨_,hs,row,cells,h1,h2⟩:=h;refine⟨af2 λI=>?_,hs,row,cells,h1⟩;have p:=Hb hu h2;unfold CR at ha;simp only[List.all_cons,List.all_nil,Bool.and_true,aaZ,Bool.not_eq_true'] at ha;obtain⟨a0,a1,a2,a3⟩:=ha;have hb:a.block=0\/a.block=1\/a.block=2\/a.block=3:=by omega
 rcases hb with hb|hb|hb|hb <;>rw[hb] at h1
 ·rw[E.s0] at h1;cases h1;rw[a0] at p;cases p
 ·rw[E.s1] at h1;cases h1;rw[a1] at p;cases p
 ·rw[E.s2] at h1;cases h1;rw[a2] at p;cases p
 ·rw[E.s3] at h1;cases h1;rw[a3] at p;cases p
def iw(W:ap)(v:am)(a:AV):Prop:=∀E:List Gd,∃(h:List Gd) (y:am),(∀x∈h,FW W x)/\(v.oneCell'=true->y.oneCell'=true)/\
 ∀p,(∀S,aI S (rk (E++(h++p))) y v)/\Rd (gW (E++(h++p))) (iq (E++(h++p)) W) a y
def qL(W:ap)(vs:List am)(la:List AV):Prop:=∀E:List Gd,∃(h:List Gd) (ys:List am),(∀x∈h,FW W x)/\((∀v∈vs,v.oneCell'=true)->∀y∈ys,y.oneCell'=true)/\
 ∀p,(∀S,AR S (rk (E++(h++p))) ys.toArray vs.toArray)/\cS (gW (E++(h++p))) (iq (E++(h++p)) W) la ys
section
variable{W:ap}
theorem qL.nil:qL W [] []:=λp=>⟨[],[],by simp,by simp,λh=>⟨λ_=>AR.empty,.nil _ _⟩⟩
theorem qL.cons{v:am}{a:AV}{vs:List am}{la:List AV}(h:iw W v a)(k:qL W vs la):qL W (v::vs) (a::la):=λH=>by
 obtain⟨L,y,h1,h2,O⟩:=h H;obtain⟨p,ys,k1,k2,N⟩:=k (H++L);refine⟨L++p,y::ys,λx hx=>(abH.1 hx).elim (h1 x) (k1 x),λhv z hz=>?_,λE=>?_⟩
 ·rcases abZ.1 hz with rfl|hz
  ·exact h2 (hv v (by simp))
  ·exact k2 (λu hu=>hv u (by simp[hu])) z hz
 ·obtain⟨r1,M⟩:=O (p++E);obtain⟨J,I⟩:=N E;rw[ae9] at J I;rw[ae9];refine⟨λS=>?_,.cons M I⟩;have:=(AR.single (r1 S)).append (J S);simpa using this
theorem iw.int(k:IntKind)(n:Int):iw W (.int k n) (.i k n):=λp=>⟨[],.int k n,by simp,id,λh=>⟨λ_=>.int k n,.i k n⟩⟩
theorem iw.bool(b:Bool):iw W (.bool b) (.b b):=λp=>⟨[],.bool b,by simp,id,λh=>⟨λ_=>.bool b,.b b⟩⟩
theorem Mp(s:ByteArray):sv s.data.toList=.string s:=by
 show Value.string ⟨s.data.toList.toArray⟩=_;rw[af5]
theorem iw.str(s:ByteArray):iw W (.string s) (.s s.data.toList):=λp=>⟨[],.string s,by simp,id,λh=>⟨λ_=>.string s,by
 have:=Rd.s (g:=gW (p++([]++h))) (w:=iq (p++([]++h)) W) s.data.toList;rwa[Mp] at this⟩⟩
theorem iw.ag{cs:Array am}{la:List AV}(h:qL W cs.toList la)(h1:∀v∈cs.toList,v.oneCell'=true):iw W (.agg cs) (.ag la):=λI=>by
 obtain⟨L,ys,k1,k2,J⟩:=h I;refine⟨L,.agg ys.toArray,k1,λe=>(by cases e),λH=>?_⟩;obtain⟨E,p⟩:=J H;exact⟨λS=>.agg _ _ (by simpa using(E S).1) (by simpa using(E S).2),.ag _ _ p.1 (k2 h1) p.2⟩
theorem iw.nil(k:Nat):iw W (.slice none 0 0) (.sq none k []):=λp=>⟨[],.slice none 0 0,by simp,id,λh=>⟨λ_=>.cE 0 0,.nil _ _⟩⟩
theorem iw.sl{c o k:Nat}{ys:List am}{la:List AV}(hk:0<k)(hc:4<=c)(L:∃row cells,W.shape? c=some (row,cells))(O:ys.length=len*k)(p:len<=cap)(J:∀v∈ys,Closed v)(h1:∀v∈ys,v.oneCell'=true)
  (hr:∀g w,cS g w la ys) (hw:∀(i:Nat) (v:am),ys[i]?=some v->W.cell? ⟨c,o+i,none⟩=some v):iw W (.slice (some ⟨c,o,none⟩) len cap) (.sq none k la):=λh=>by
 have N:ys.length=la.length:=(hr (gW []) W).1;refine⟨[⟨c,o,ys.toArray⟩],.slice (some ⟨4+h.length,0,none⟩) len cap,λx hx=>?_,λ_=>rfl,λI=>?_⟩
 ·rw[acE] at hx;subst hx;refine⟨hc,?_,λv hv=>J v (by simpa using hv)⟩;obtain⟨row,cells,e⟩:=L;unfold World.shape? at e;split at e
  ·rename_i H el fr hz;refine⟨H,el,fr,hz,λi v hi=>?_⟩;have:=hw i v (by simpa using hi);unfold World.cell? at this;simp only[hz] at this;rw[afV];exact this
  ·cases e
 ·have E:(h++([⟨c,o,ys.toArray⟩]++I))[h.length]?=some ⟨c,o,ys.toArray⟩:=by simp
  refine⟨λS=>?_,?_⟩
  ·have:=aI.slice (S:=S) (4+h.length) c o 0 none len cap (QN E);rw[abY] at this;exact this
  ·refine .sq none k la (4+h.length) 0 len cap ys hk N (by omega) p h1 (λj y M=>?_) (hr _ _).2;rw[abY];exact Kt E (by simpa using M)
end
theorem xR(k:IntKind)(n:Int):Closed (.int k n):=λ_ _=>.int k n
theorem xQ(s:ByteArray):Closed (.string s):=λ_ _=>.string s
def aen:=@Go.Proofs.Tryz.underlying9
def aha:=@Go.DataW.trod_string
def aeO:=@Go.Proofs.Tryz.underlying3
def afN:=@Go.Proofs.Tryz.underlying22
theorem xS:Tryz.prog.cellsOf 9=1:=by kernel_rfl
theorem XC:Tryz.prog.cellsOf 3=1:=by kernel_rfl
theorem SD:Tryz.prog.cellsOf 49=2:=by kernel_rfl
theorem Ju:Tryz.prog.cellsOf 51=3:=by kernel_rfl
theorem SE:Tryz.prog.cellsOf 25=5:=by kernel_rfl
theorem SG:Tryz.prog.cellsOf 22=1:=by kernel_rfl
theorem SF:Tryz.prog.cellsOf 23=1:=by kernel_rfl
theorem Qt:Tryz.prog.cellTypes Tryz.prog.depth 25=some [9,9,9,22,23]:=by kernel_rfl
theorem VA(m:Nat)(h:b8):Tryz.prog.underlying 9≠some (.array m h):=by rw[aen];simp
theorem Q_(m:Nat)(h:b8):Tryz.prog.underlying 51≠some (.array m h):=by rw[Tryz.underlying51];simp
theorem xU{base t:Nat}(ht:Tryz.prog.underlying t=some (.slice e))(h:Cell.okWide Tryz.prog W .any base t (.slice (some a) len cap)):len<=cap/\W.has Tryz.prog .any base a e cap:=by
 unfold Cell.okWide at h;rw[ht] at h;simp only at h;unfold Cell.ok at h;rw[ht] at h;exact⟨h.1,h.2.2⟩
theorem Ri{l:List α}(h:l.length=3):∃a b c,l= [a,b,c]:=by
 match l,h with
 | [a,b,c],_=>exact⟨a,b,c,rfl⟩
theorem afP{l:List α}(h:l.length=5):∃a b c d e,l= [a,b,c,d,e]:=by
 match l,h with
 | [a,b,c,d,e],_=>exact⟨a,b,c,d,e,rfl⟩
theorem c9(c o i:Nat):(⟨c,o,none⟩:Addr).add i=⟨c,o+i,none⟩:=by
 unfold Addr.add;split
 ·rename_i h;subst h;rfl
 ·rfl
section
variable{H:Type}{enc:b8×am->H}{W:ap}
theorem Dt{base:Nat}{sp:Nat->Bool}{cs:List am}{x:DataW H×List MemPlace}(held:DataW.trod enc Tryz.prog W base sp h fuel 51 cs=some x):∃s lo hi,cs= [.string s,.int .i64 lo,.int .i64 hi]:=by
 obtain⟨xs,n,_,_,hl,hn,hf⟩:=DataW.trod_struct Tryz.underlying51 held;rw[Ju] at hl;have hn:xs.length=2:=hn;obtain⟨a,b,c,rfl⟩:=Ri hl;have h0:DataW.trod enc Tryz.prog W base sp h n 9 (([a,b,c].drop 0).take (Tryz.prog.cellsOf 9))=xs[0]?:=hf 0 _ rfl;have h1:DataW.trod enc Tryz.prog W base sp h n 49 (([a,b,c].drop 1).take (Tryz.prog.cellsOf 49))=xs[1]?:=hf 1 _ rfl;rw[xS,aaf (by omega)] at h0;rw[SD,aaf (by omega)] at h1;obtain⟨s,J,_⟩:=aha aen h0;obtain⟨p,m,_,_,hl2,hm,hg⟩:=DataW.trod_struct Tryz.underlying49 h1;have hm:p.length=2:=hm;have g0:DataW.trod enc Tryz.prog W base sp h m 3 (([b,c].drop 0).take (Tryz.prog.cellsOf 3))=p[0]?:=hg 0 _ rfl;have g1:DataW.trod enc Tryz.prog W base sp h m 3 (([b,c].drop 1).take (Tryz.prog.cellsOf 3))=p[1]?:=hg 1 _ rfl;rw[XC,aaf (by omega)] at g0 g1;obtain⟨lo,I,_⟩:=DataW.trod_int aeO g0;obtain⟨hi,E,_⟩:=DataW.trod_int aeO g1;refine⟨s,lo,hi,?_⟩;cases J;cases I;cases E;rfl
theorem FD{base:Nat}{x y z:am}(h:W.cells? base a 3=some [x,y,z]):W.cell? a=some x/\W.cell? (a.add 1)=some y/\W.cell? (a.add 2)=some z:=by
 unfold World.cells? at h;split at h
 ·simp only[agG,List.range_zero,aaV,aaT,ag3,List.mapM_nil] at h;have p:a.add 0=a:=by simp[Addr.add]
  rw[p] at h;cases h0:W.cell? a with
  |none=>rw[h0] at h;simp at h
  |some u=>
   cases h1:W.cell? (a.add 1) with
   |none=>rw[h0,h1] at h;simp at h
   |some v=>
    cases h2:W.cell? (a.add 2) with
    |none=>rw[h0,h1,h2] at h;simp at h
    |some t=>
     rw[h0,h1,h2] at h;simp at h;obtain⟨rfl,rfl,rfl⟩:=h;exact⟨rfl,rfl,rfl⟩
 ·cases h
def qX(t:ByteArray×Int×Int):List am:= [.string t.1,.int .i64 t.2.1,.int .i64 t.2.2]
def IK(t:ByteArray×Int×Int):Tag:=⟨t.1.data.toList,t.2.1,t.2.2⟩
theorem Dv:∀(l:List (ByteArray×Int×Int)) (i:Nat),(l.flatMap qX)[i]?=(l[i/3]?).bind λt=>(qX t)[i%3]?
 | [],i=>by simp
 |t::l,i=>by
  rw[aco];by_cases hi:i<3
  ·rw[abJ (by simpa[qX] using hi),Nat.div_eq_of_lt hi,Nat.mod_eq_of_lt hi];rfl
  ·rw[abK (by simp[qX];omega),show(qX t).length=3 from rfl,Dv l (i-3)];obtain⟨k,rfl⟩:∃k,i=k+3:=⟨i-3,by omega⟩
   rw[Nat.add_sub_cancel,Nat.add_div_right _ (by decide),Nat.add_mod_right];rfl
theorem Du(g:Gh)(w:ap):∀l:List (ByteArray×Int×Int),cS g w (bI (l.map IK)) (l.flatMap qX)
 | []=>.nil g w
 |t::l=>by
  have h:=Du g w l;rw[List.map_cons,aco];show cS g w (fP (IK t)++bI (l.map IK)) (qX t++_);refine cS.append ?_ h;have:=Rd.s (g:=g) (w:=w) t.1.data.toList;rw[Mp] at this;exact .cons this (.cons (.i _ _) (.cons (.i _ _) (.nil _ _)))
theorem ast(l:List (ByteArray×Int×Int)):(l.flatMap qX).length=l.length*3:=by
 induction l with
 |nil=>rfl
 |cons t l h=>rw[aco,abj,h];simp[qX];omega
theorem Kl{base:Nat}{sp:Nat->Bool}(J:∀b,sp b=true){v:am}{x:DataW H×List MemPlace}(N:AU W)(M:Cell.okWide Tryz.prog W .any p 22 v)(held:DataW.trod enc Tryz.prog W base sp h fuel 22 [v]=some x):
  ∃l:List (List UInt8),iw W v (.sq none 1 (l.map .s)):=by
 rcases open_strings afN aen xS held with ⟨e,_⟩|⟨a,len,cap,b0,e,_,hl,_,hlen,_,O,_⟩
 ·simp only[abg,abQ] at e;subst e;exact⟨[],.nil 1⟩
 ·simp only[abg,abQ] at e;subst e;rw[J,aay rfl] at hlen;obtain⟨_,hh⟩:=xU afN M;obtain⟨I,hs,E⟩:=Ov N VA XN hh;obtain⟨c,o,spot⟩:=a;simp only at hs I E;subst hs;have gf:∀(g:Gh) (w:ap) (l:List ByteArray),cS g w ((l.map λs=>s.data.toList).map AV.s) (l.map Value.string):=by
   intro g w l
   induction l with
   |nil=>exact .nil g w
   |cons s l L=>
    have:=Rd.s (g:=g) (w:=w) s.data.toList;rw[Mp] at this;exact .cons this L
  refine⟨(b0.take len).map λs=>s.data.toList,iw.sl (ys:=(b0.take len).map Value.string) (by decide) I E (by simp[hlen];omega) hl (λv hv=>?_) (λv hv=>?_) (λg w=>gf g w _) (λi v hi=>?_)⟩
  ·obtain⟨s,_,rfl⟩:=ac4.1 hv;exact xQ s
  ·obtain⟨s,_,rfl⟩:=ac4.1 hv;rfl
  ·rw[aeq] at hi;cases hs:(b0.take len)[i]? with
   |none=>rw[hs] at hi;cases hi
   |some s=>
    rw[hs] at hi;cases hi;rw[acF] at hs;split at hs
    ·have U:=(abi.1 hs).1;have:=O i U;rw[abM,hs] at this;simpa[c9] using this
    ·cases hs
theorem Kk{base:Nat}{sp:Nat->Bool}{v:am}{x:DataW H×List MemPlace}(Y:AU W)(V:Cell.okWide Tryz.prog W .any p 23 v)(held:DataW.trod enc Tryz.prog W base sp h fuel 23 [v]=some x):
  ∃l:List Tag,iw W v (.sq none 3 (bI l)):=by
 rcases DataW.trod_slice aei held with ⟨e,_⟩|⟨a,len,cap,elems,rest,n,_,e,_,_,hl,_,hlen,L,_⟩
 ·simp only[abg,abQ] at e;subst e;exact⟨[],.nil 3⟩
 ·simp only[abg,abQ] at e;subst e;obtain⟨_,hh⟩:=xU aei V;obtain⟨J,hs,I⟩:=Ov Y Q_ SX hh;obtain⟨c,o,spot⟩:=a;simp only at hs J I;subst hs;rw[Ju] at L;have hex:∀i,∃t:ByteArray×Int×Int,i<len->∀j y,(qX t)[j]?=some y->W.cell? ⟨c,o+(i*3+j),none⟩=some y:=by
   intro i;by_cases hi:i<len
   ·have:=L i hi;rw[aaf (by omega)] at this;rw[adm] at this;obtain⟨cs,h1,h2⟩:=this;obtain⟨s,lo,U,rfl⟩:=Dt h2;obtain⟨O,N,M⟩:=FD h1;refine⟨(s,lo,U),λ_ j y b0=>?_⟩
    match j with
    |0=>cases b0;simpa[c9] using O
    |1=>cases b0;rw[show o+(i*3+1)=o+i*3+1 from by omega];simpa[c9] using N
    |2=>cases b0;rw[show o+(i*3+2)=o+i*3+2 from by omega];simpa[c9] using M
    |j+3=>simp[qX] at b0
   ·exact⟨default,λheld=>absurd held hi⟩
  obtain⟨f,hf⟩:=Classical.axiomOfChoice hex;refine⟨((List.range len).map f).map IK,iw.sl (ys:=((List.range len).map f).flatMap qX) (by decide) J I (by rw[ast];simp) hl (λv hv=>?_) (λv hv=>?_) (λg w=>Du g w _) (λi v hi=>?_)⟩
  ·obtain⟨t,_,ht⟩:=aeQ.1 hv;simp only[qX,abZ,adz,aeP] at ht;rcases ht with rfl|rfl|rfl
   ·exact xQ _
   ·exact xR _ _
   ·exact xR _ _
  ·obtain⟨t,_,ht⟩:=aeQ.1 hv;simp only[qX,abZ,adz,aeP] at ht;rcases ht with rfl|rfl|rfl <;>rfl
  ·rw[Dv] at hi;rw[adm] at hi;obtain⟨t,h1,h2⟩:=hi;rw[aeq,aeb] at h1;obtain⟨k,Z,rfl⟩:=h1;obtain⟨E,hk⟩:=abi.1 Z;have E:i/3<len:=by simpa using E
   have hk:i/3=k:=by simpa using hk
   subst hk;have:=hf (i/3) E (i%3) v h2;rw[show i/3*3+i%3=i from by omega] at this;exact this
theorem G5{base:Nat}{sp:Nat->Bool}(Y:∀b,sp b=true){v:am}{d:DataW H}{ps:List MemPlace}(O:AU W)(b0:Value.okWide Tryz.prog W .any p 25 v)(held:DataW.Trod enc Tryz.prog W base sp h 25 v d ps):
  ∃hs:ay,iw W v (eG hs):=by
 unfold Value.okWide at b0;rw[Tryz.underlying25] at b0;obtain⟨cs,rfl,V,ts,N,_,U⟩:=b0;rw[Qt] at N;cases N;rw[SE] at V;obtain⟨fuel,held⟩:=held;have hc:(Value.agg cs).cells=cs:=rfl;rw[hc] at held;obtain⟨xs,n,_,_,_,hn,hf⟩:=DataW.trod_struct Tryz.underlying25 held;have hn:xs.length=5:=hn;obtain⟨c0,c1,c2,c3,c4,E⟩:=afP (show cs.toList.length=5 by simpa using V);rw[E] at hf;have h0:DataW.trod enc Tryz.prog W base sp h n 9 (([c0,c1,c2,c3,c4].drop 0).take (Tryz.prog.cellsOf 9))=xs[0]?:=hf 0 _ rfl;have h1:DataW.trod enc Tryz.prog W base sp h n 9 (([c0,c1,c2,c3,c4].drop 1).take (Tryz.prog.cellsOf 9))=xs[1]?:=hf 1 _ rfl;have h2:DataW.trod enc Tryz.prog W base sp h n 9 (([c0,c1,c2,c3,c4].drop 2).take (Tryz.prog.cellsOf 9))=xs[2]?:=hf 2 _ rfl;have J:DataW.trod enc Tryz.prog W base sp h n 22 (([c0,c1,c2,c3,c4].drop 3).take (Tryz.prog.cellsOf 22))=xs[3]?:=hf 3 _ rfl;have I:DataW.trod enc Tryz.prog W base sp h n 23 (([c0,c1,c2,c3,c4].drop 4).take (Tryz.prog.cellsOf 23))=xs[4]?:=hf 4 _ rfl;rw[xS,aaf (by omega)] at h0 h1 h2;rw[SG,aaf (by omega)] at J;rw[SF,aaf (by omega)] at I;clear hf;obtain⟨s0,e0,_⟩:=aha aen h0;obtain⟨s1,e1,_⟩:=aha aen h1;obtain⟨s2,e2,_⟩:=aha aen h2;cases e0;cases e1;cases e2;have k3:Cell.okWide Tryz.prog W .any p 22 c3:=by
  obtain⟨u,hu,b0⟩:=U 3 c3 (by rw[<-Array.getElem?_toList,E];rfl);cases hu;exact b0
 have k4:Cell.okWide Tryz.prog W .any p 23 c4:=by
  obtain⟨u,hu,b0⟩:=U 4 c4 (by rw[<-Array.getElem?_toList,E];rfl);cases hu;exact b0
 obtain⟨al,o3⟩:=Kl Y O k3 J;obtain⟨Z,o4⟩:=Kk O k4 I;have L:c3.oneCell'=true:=by
  rcases DataW.trod_slice afN J with ⟨e,_⟩|⟨a,len,cap,_,_,_,_,e,_⟩ <;>(cases e;rfl)
 have M:c4.oneCell'=true:=by
  rcases DataW.trod_slice aei I with ⟨e,_⟩|⟨a,len,cap,_,_,_,_,e,_⟩ <;>(cases e;rfl)
 refine⟨⟨s0.data.toList,s1.data.toList,s2.data.toList,al,Z⟩,iw.ag (la:=o6 _) ?_ ?_⟩
 ·rw[E];exact .cons (.str s0) (.cons (.str s1) (.cons (.str s2) (.cons o3 (.cons o4 .nil))))
 ·rw[E];intro v hv;simp only[abZ,adz,aeP] at hv;rcases hv with rfl|rfl|rfl|rfl|rfl
  ·rfl
  ·rfl
  ·rfl
  ·exact L
  ·exact M
end
end Go.Proofs.YtjagmhagphbfcaaGreatDoor
