/- Lemmas, part 29. -/
import Derived.ProofKit
import Derived.OpenShut
import Derived.SliceStrings
import Derived.ChangeSlices
import Derived.ChangeCalls
import Derived.Test.YtjagmhagphbfcaaGreatDoorO28
set_option maxRecDepth 100000
set_option linter.all false
namespace Go.Proofs.YtjagmhagphbfcaaGreatDoor
open Go Go.Proofs Go.Conc Go.ChangeShapes Go.WideShapes Go.ChangeAt Go.RowKit
structure AU(W:World):Prop where
 s0:W.shape? 0=some (140,3)
 s1:W.shape? 1=some (3,1)
 s2:W.shape? 2=some (226,256)
 s3:W.shape? 3=some (229,32)
def oT(p:Program)(fits:TypeId->Bool):Nat->TypeId->Bool
 |0,_=>false
 |d+1,e=>fits e||match p.underlying e with
  |some (.struct fs)=>fs.any λf=>oT p fits d f.type
  |some (.array _ e')=>oT p fits d e'
  |_=>false
theorem s9{p:Program}{fits:TypeId->Bool} :∀(d:Nat) (e count off n:Nat),rowAt p fits d e count off n=true->oT p fits d e=true
 |0,_,_,_,_,h=>by grind [rowAt]
 |d+1,e,count,off,n,h=>by
  unfold rowAt at h;unfold oT;simp only at h;split at h
  ·cases h
  ·rw[adr] at h ⊢;rcases h with h|h
   ·simp_all
   ·right;rw[aaZ] at h;have h2:=h.2;split at h2
    ·rename_i fs hu;simp only[aaZ] at h2;rw[hu];simp only;rw[Array.any_eq_true] at h2 ⊢;obtain⟨i,hi,hf⟩:=h2.2;simp only[aaZ] at hf;exact⟨i,hi,s9 d _ _ _ _ hf.2⟩
    ·rename_i m e' hu;rw[hu];exact s9 d _ _ _ _ h2
    ·cases h2
theorem Hb{p:Program}{d e count off u n:Nat}(hu:∀m E,p.underlying u≠some (.array m E))(h:liesAt p d e count off u n=true):oT p (sameLayout p p.depth · u) p.depth e=true:=by
 cases d with
 |zero=>grind [liesAt]
 |succ d=>
  unfold liesAt at h;rw[adr] at h
  grind [s9]
def CR(p:Program)(u:TypeId):Bool:= [140,3,226,229].all λt=> !oT p (sameLayout p p.depth · u) p.depth t
theorem XN:CR Tryz.prog 9=true:=by kernel_rfl
theorem SX:CR Tryz.prog 51=true:=by kernel_rfl
theorem Ov{W:World}(p:AU W){u:TypeId}(hu:∀m E,Tryz.prog.underlying u≠some (.array m E))(ha:CR Tryz.prog u=true){base n:Nat}{a:Addr}(h:W.has Tryz.prog .any base a u n):
  4<=a.block/\a.spot=none/\∃row cells,W.shape? a.block=some (row,cells):=by
 obtain⟨_,hs,row,cells,h1,h2⟩:=h;refine⟨af2 λI=>?_,hs,row,cells,h1⟩;have H:=Hb hu h2;unfold CR at ha;simp only[List.all_cons,List.all_nil,Bool.and_true,aaZ,Bool.not_eq_true'] at ha;obtain⟨a0,a1,a2,a3⟩:=ha;have hb:a.block=0\/a.block=1\/a.block=2\/a.block=3:=by omega
 rcases hb with hb|hb|hb|hb <;>rw[hb] at h1
 ·rw[p.s0] at h1;simp_all
 ·rw[p.s1] at h1;simp_all
 ·rw[p.s2] at h1;simp_all
 ·rw[p.s3] at h1;simp_all
def iw(W:World)(v:Value)(a:AV):Prop:=∀H:List Gd,∃(p:List Gd) (y:Value),(∀x∈p,FW W x)/\(v.oneCell'=true->y.oneCell'=true)/\
 ∀E,(∀S,aI S (rk (H++(p++E))) y v)/\Rd (gW (H++(p++E))) (iq (H++(p++E)) W) a y
def qL(W:World)(vs:List Value)(la:List AV):Prop:=∀H:List Gd,∃(p:List Gd) (ys:List Value),(∀x∈p,FW W x)/\((∀v∈vs,v.oneCell'=true)->∀y∈ys,y.oneCell'=true)/\
 ∀E,(∀S,AR S (rk (H++(p++E))) ys.toArray vs.toArray)/\cS (gW (H++(p++E))) (iq (H++(p++E)) W) la ys
section
variable{W:World}
theorem qL.nil:qL W [] []:=λE=>⟨[],[],by simp,by simp,λp=>⟨λ_=>AR.empty,.nil _ _⟩⟩
theorem qL.cons{v:Value}{a:AV}{vs:List Value}{la:List AV}(h:iw W v a)(k:qL W vs la):qL W (v::vs) (a::la):=λH=>by
 obtain⟨L,y,h1,h2,O⟩:=h H;obtain⟨p,ys,k1,k2,N⟩:=k (H++L);refine⟨L++p,y::ys,λx hx=>(abH.1 hx).elim (h1 x) (k1 x),λhv z hz=>?_,λE=>?_⟩
 ·grind
 ·obtain⟨r1,M⟩:=O (p++E);obtain⟨J,I⟩:=N E;rw[ae9] at J I;rw[ae9];refine⟨λS=>?_,.cons M I⟩;have:=(AR.single (r1 S)).append (J S)
  grind
theorem iw.int(k:IntKind)(n:Int):iw W (.int k n) (.i k n):=λE=>⟨[],.int k n,by simp,id,λp=>⟨λ_=>.int k n,.i k n⟩⟩
theorem iw.bool(b:Bool):iw W (.bool b) (.b b):=λE=>⟨[],.bool b,by simp,id,λp=>⟨λ_=>.bool b,.b b⟩⟩
theorem Mp(s:ByteArray):sv s.data.toList=.string s:=by
 rfl
theorem iw.str(s:ByteArray):iw W (.string s) (.s s.data.toList):=λE=>⟨[],.string s,by simp,id,λp=>⟨λ_=>.string s,by
 have:=Rd.s (g:=gW (E++([]++p))) (w:=iq (E++([]++p)) W) s.data.toList;omega⟩⟩
theorem iw.ag{cs:Array Value}{la:List AV}(h:qL W cs.toList la)(h1:∀v∈cs.toList,v.oneCell'=true):iw W (.agg cs) (.ag la):=λI=>by
 obtain⟨L,ys,k1,k2,J⟩:=h I;refine⟨L,.agg ys.toArray,k1,λe=>(by cases e),λH=>?_⟩;obtain⟨E,p⟩:=J H;exact⟨λS=>.agg _ _ (by simpa using(E S).1) (by simpa using(E S).2),.ag _ _ p.1 (k2 h1) p.2⟩
theorem iw.nil(k:Nat):iw W (.slice none 0 0) (.sq none k []):=λE=>⟨[],.slice none 0 0,by simp,id,λp=>⟨λ_=>.cE 0 0,.nil _ _⟩⟩
theorem iw.sl{c o len cap k:Nat}{ys:List Value}{la:List AV}(hk:0<k)(hc:4<=c)(M:∃row cells,W.shape? c=some (row,cells))(O:ys.length=len*k)(E:len<=cap)(J:∀v∈ys,Closed v)(h1:∀v∈ys,v.oneCell'=true)
  (hr:∀g w,cS g w la ys) (hw:∀(i:Nat) (v:Value),ys[i]?=some v->W.cell? ⟨c,o+i,none⟩=some v):iw W (.slice (some ⟨c,o,none⟩) len cap) (.sq none k la):=λp=>by
 have L:ys.length=la.length:=(hr (gW []) W).1;refine⟨[⟨c,o,ys.toArray⟩],.slice (some ⟨4+p.length,0,none⟩) len cap,λx hx=>?_,λ_=>rfl,λI=>?_⟩
 ·rw[acE] at hx;subst hx;refine⟨hc,?_,λv hv=>J v (by omega)⟩
  grind [World.shape?,World.cell?]
 ·have H:(p++([⟨c,o,ys.toArray⟩]++I))[p.length]?=some ⟨c,o,ys.toArray⟩:=by simp
  refine⟨λS=>?_,?_⟩
  ·have:=aI.slice (S:=S) (4+p.length) c o 0 none len cap (QN H)
   simp_all
  ·refine .sq none k la (4+p.length) 0 len cap ys hk L (by omega) E h1 (λj y N=>?_) (hr _ _).2;rw[abY];exact Kt H (by grind)
end
theorem xR(k:IntKind)(n:Int):Closed (.int k n):=λ_ _=>.int k n
theorem xQ(s:ByteArray):Closed (.string s):=λ_ _=>.string s
def aha:=@Go.DataW.trod_string
def aen:=@Go.Proofs.Tryz.underlying9
def afN:=@Go.Proofs.Tryz.underlying22
theorem xS:Tryz.prog.cellsOf 9=1:=by kernel_rfl
theorem XC:Tryz.prog.cellsOf 3=1:=by kernel_rfl
theorem SD:Tryz.prog.cellsOf 49=2:=by kernel_rfl
theorem Ju:Tryz.prog.cellsOf 51=3:=by kernel_rfl
theorem SE:Tryz.prog.cellsOf 25=5:=by kernel_rfl
theorem SG:Tryz.prog.cellsOf 22=1:=by kernel_rfl
theorem SF:Tryz.prog.cellsOf 23=1:=by kernel_rfl
theorem Qt:Tryz.prog.cellTypes Tryz.prog.depth 25=some [9,9,9,22,23]:=by kernel_rfl
theorem VA(m:Nat)(p:TypeId):Tryz.prog.underlying 9≠some (.array m p):=by simp_all
theorem Q_(m:Nat)(p:TypeId):Tryz.prog.underlying 51≠some (.array m p):=by simp_all
theorem xU{W:World}{base t e:Nat}{a:Addr}{len cap:Nat}(ht:Tryz.prog.underlying t=some (.slice e))(h:Cell.okWide Tryz.prog W .any base t (.slice (some a) len cap)):len<=cap/\W.has Tryz.prog .any base a e cap:=by
 simp_all [Cell.okWide,Cell.ok]
theorem Ri{α:Type}{l:List α}(h:l.length=3):∃a b c,l= [a,b,c]:=by
 match l,h with
 | [a,b,c],_=>simp_all
theorem afP{α:Type}{l:List α}(h:l.length=5):∃a b c d e,l= [a,b,c,d,e]:=by
 match l,h with
 | [a,b,c,d,e],_=>simp_all
theorem c9(c o i:Nat):(⟨c,o,none⟩:Addr).add i=⟨c,o+i,none⟩:=by
 unfold Addr.add
 simp_all
section
variable{H:Type}{enc:TypeId×Value->H}{W:World}
theorem Dt{fuel base:Nat}{sp:Nat->Bool}{held:Bool}{cs:List Value}{x:DataW H×List MemPlace}(h:DataW.trod enc Tryz.prog W base sp held fuel 51 cs=some x):∃s E hi,cs= [.string s,.int .i64 E,.int .i64 hi]:=by
 obtain⟨xs,n,_,_,hl,hn,hf⟩:=DataW.trod_struct Tryz.underlying51 h;rw[Ju] at hl;have hn:xs.length=2:=hn;obtain⟨a,b,c,rfl⟩:=Ri hl;have h0:DataW.trod enc Tryz.prog W base sp held n 9 (([a,b,c].drop 0).take (Tryz.prog.cellsOf 9))=xs[0]?:=hf 0 _ rfl;have h1:DataW.trod enc Tryz.prog W base sp held n 49 (([a,b,c].drop 1).take (Tryz.prog.cellsOf 49))=xs[1]?:=hf 1 _ rfl;rw[xS,aaf (by omega)] at h0;rw[SD,aaf (by omega)] at h1;obtain⟨s,I,_⟩:=aha aen h0;obtain⟨p,m,_,_,hl2,hm,hg⟩:=DataW.trod_struct Tryz.underlying49 h1;have hm:p.length=2:=hm;have g0:DataW.trod enc Tryz.prog W base sp held m 3 (([b,c].drop 0).take (Tryz.prog.cellsOf 3))=p[0]?:=hg 0 _ rfl;have g1:DataW.trod enc Tryz.prog W base sp held m 3 (([b,c].drop 1).take (Tryz.prog.cellsOf 3))=p[1]?:=hg 1 _ rfl
 grind [XC,DataW.trod_int,Tryz.underlying3]
theorem FD{base:Nat}{a:Addr}{x y z:Value}(h:W.cells? base a 3=some [x,y,z]):W.cell? a=some x/\W.cell? (a.add 1)=some y/\W.cell? (a.add 2)=some z:=by
 unfold World.cells? at h;split at h
 ·simp only[agG,List.range_zero,aaV,aaT,ag3,List.mapM_nil] at h;have p:a.add 0=a:=by rfl
  rw[p] at h;cases h0:W.cell? a with
  |none=>simp_all
  |some u=>
   cases h1:W.cell? (a.add 1) with
   |none=>simp_all
   |some v=>
    cases h2:W.cell? (a.add 2) with
    |none=>simp_all
    |some t=>
     simp_all
 ·cases h
def qX(t:ByteArray×Int×Int):List Value:= [.string t.1,.int .i64 t.2.1,.int .i64 t.2.2]
def IK(t:ByteArray×Int×Int):Tag:=⟨t.1.data.toList,t.2.1,t.2.2⟩
theorem Dv:∀(l:List (ByteArray×Int×Int)) (i:Nat),(l.flatMap qX)[i]?=(l[i/3]?).bind λt=>(qX t)[i%3]?
 | [],i=>by simp
 |t::l,i=>by
  rw[aco];by_cases hi:i<3
  ·rw[abJ (by simpa[qX] using hi),Nat.div_eq_of_lt hi,Nat.mod_eq_of_lt hi];rfl
  ·rw[abK (by simp[qX];omega),show(qX t).length=3 from rfl,Dv l (i-3)]
   grind
theorem Du(g:Gh)(w:World):∀l:List (ByteArray×Int×Int),cS g w (bI (l.map IK)) (l.flatMap qX)
 | []=>.nil g w
 |t::l=>by
  have p:=Du g w l;rw[List.map_cons,aco];show cS g w (fP (IK t)++bI (l.map IK)) (qX t++_);refine cS.append ?_ p;have:=Rd.s (g:=g) (w:=w) t.1.data.toList;rw[Mp] at this;exact .cons this (.cons (.i _ _) (.cons (.i _ _) (.nil _ _)))
theorem Mi(l:List (ByteArray×Int×Int)):(l.flatMap qX).length=l.length*3:=by
 induction l with
 |nil=>rfl
 |cons t l p=>grind [qX]
theorem Kl{fuel base:Nat}{sp:Nat->Bool}(J:∀b,sp b=true){held:Bool}{v:Value}{x:DataW H×List MemPlace}(N:AU W){b0:Nat}(M:Cell.okWide Tryz.prog W .any b0 22 v)(h:DataW.trod enc Tryz.prog W base sp held fuel 22 [v]=some x):
  ∃l:List (List UInt8),iw W v (.sq none 1 (l.map .s)):=by
 rcases open_strings afN aen xS h with ⟨e,_⟩|⟨a,len,cap,p,e,_,hl,_,hlen,_,O,_⟩
 ·simp only[abg,abQ] at e;subst e;exact⟨[],.nil 1⟩
 ·simp only[abg,abQ] at e;subst e;rw[J,aay rfl] at hlen;obtain⟨_,hh⟩:=xU afN M;obtain⟨I,hs,E⟩:=Ov N VA XN hh;obtain⟨c,o,spot⟩:=a;simp only at hs I E;subst hs;have gf:∀(g:Gh) (w:World) (l:List ByteArray),cS g w ((l.map λs=>s.data.toList).map AV.s) (l.map Value.string):=by
   intro g w l
   induction l with
   |nil=>exact .nil g w
   |cons s l L=>
    have:=Rd.s (g:=g) (w:=w) s.data.toList;rw[Mp] at this;exact .cons this L
  refine⟨(p.take len).map λs=>s.data.toList,iw.sl (ys:=(p.take len).map Value.string) (by decide) I E (by simp_all) hl (λv hv=>?_) (λv hv=>?_) (λg w=>gf g w _) (λi v hi=>?_)⟩
  ·grind [xQ]
  ·obtain⟨s,_,rfl⟩:=ac4.1 hv;rfl
  grind [c9]
theorem Kk{fuel base:Nat}{sp:Nat->Bool}{held:Bool}{v:Value}{x:DataW H×List MemPlace}(N:AU W){b0:Nat}(M:Cell.okWide Tryz.prog W .any b0 23 v)(h:DataW.trod enc Tryz.prog W base sp held fuel 23 [v]=some x):
  ∃l:List Tag,iw W v (.sq none 3 (bI l)):=by
 rcases DataW.trod_slice aei h with ⟨e,_⟩|⟨a,len,cap,elems,rest,n,_,e,_,_,hl,_,hlen,I,_⟩
 ·simp only[abg,abQ] at e;subst e;exact⟨[],.nil 3⟩
 ·simp only[abg,abQ] at e;subst e;obtain⟨_,hh⟩:=xU aei M;obtain⟨E,hs,p⟩:=Ov N Q_ SX hh;obtain⟨c,o,spot⟩:=a;simp only at hs E p;subst hs;rw[Ju] at I;have hex:∀i,∃t:ByteArray×Int×Int,i<len->∀j y,(qX t)[j]?=some y->W.cell? ⟨c,o+(i*3+j),none⟩=some y:=by
   intro i;by_cases hi:i<len
   ·have:=I i hi;rw[aaf (by omega)] at this;rw[adm] at this;obtain⟨cs,h1,h2⟩:=this;obtain⟨s,J,L,rfl⟩:=Dt h2;obtain⟨Y,U,O⟩:=FD h1;refine⟨(s,J,L),λ_ j y Z=>?_⟩
    grind [c9,qX]
   ·exact⟨default,λh=>absurd h hi⟩
  obtain⟨f,hf⟩:=Classical.axiomOfChoice hex;refine⟨((List.range len).map f).map IK,iw.sl (ys:=((List.range len).map f).flatMap qX) (by decide) E p (by grind [Mi]) hl (λv hv=>?_) (λv hv=>?_) (λg w=>Du g w _) (λi v hi=>?_)⟩
  ·obtain⟨t,_,ht⟩:=aeQ.1 hv;simp only[qX,abZ,adz,aeP] at ht
   grind [xQ,xR]
  ·obtain⟨t,_,ht⟩:=aeQ.1 hv;simp only[qX,abZ,adz,aeP] at ht;rcases ht with rfl|rfl|rfl <;>rfl
  ·rw[Dv] at hi
   grind
theorem G5{base:Nat}{sp:Nat->Bool}(U:∀b,sp b=true){held:Bool}{v:Value}{d:DataW H}{ps:List MemPlace}(N:AU W){b0:Nat}(E:Value.okWide Tryz.prog W .any b0 25 v)(h:DataW.Trod enc Tryz.prog W base sp held 25 v d ps):
  ∃hs:ay,iw W v (eG hs):=by
 unfold Value.okWide at E;rw[Tryz.underlying25] at E;obtain⟨cs,rfl,cq,ts,M,_,O⟩:=E;rw[Qt] at M;cases M;rw[SE] at cq;obtain⟨fuel,h⟩:=h;have hc:(Value.agg cs).cells=cs:=rfl;rw[hc] at h;obtain⟨xs,n,_,_,_,hn,hf⟩:=DataW.trod_struct Tryz.underlying25 h;have hn:xs.length=5:=hn;obtain⟨c0,c1,c2,c3,c4,p⟩:=afP (show cs.toList.length=5 by omega);rw[p] at hf;have h0:DataW.trod enc Tryz.prog W base sp held n 9 (([c0,c1,c2,c3,c4].drop 0).take (Tryz.prog.cellsOf 9))=xs[0]?:=hf 0 _ rfl;have h1:DataW.trod enc Tryz.prog W base sp held n 9 (([c0,c1,c2,c3,c4].drop 1).take (Tryz.prog.cellsOf 9))=xs[1]?:=hf 1 _ rfl;have h2:DataW.trod enc Tryz.prog W base sp held n 9 (([c0,c1,c2,c3,c4].drop 2).take (Tryz.prog.cellsOf 9))=xs[2]?:=hf 2 _ rfl;have J:DataW.trod enc Tryz.prog W base sp held n 22 (([c0,c1,c2,c3,c4].drop 3).take (Tryz.prog.cellsOf 22))=xs[3]?:=hf 3 _ rfl;have I:DataW.trod enc Tryz.prog W base sp held n 23 (([c0,c1,c2,c3,c4].drop 4).take (Tryz.prog.cellsOf 23))=xs[4]?:=hf 4 _ rfl;rw[xS,aaf (by omega)] at h0 h1 h2;rw[SG,aaf (by omega)] at J;rw[SF,aaf (by omega)] at I;clear hf;obtain⟨s0,e0,_⟩:=aha aen h0;obtain⟨s1,e1,_⟩:=aha aen h1;obtain⟨s2,e2,_⟩:=aha aen h2;cases e0;cases e1;cases e2;have k3:Cell.okWide Tryz.prog W .any b0 22 c3:=by
  obtain⟨u,hu,E⟩:=O 3 c3 (by rw[<-Array.getElem?_toList,p];rfl)
  simp_all
 have k4:Cell.okWide Tryz.prog W .any b0 23 c4:=by
  obtain⟨u,hu,E⟩:=O 4 c4 (by rw[<-Array.getElem?_toList,p];rfl)
  simp_all
 obtain⟨al,o3⟩:=Kl U N k3 J;obtain⟨Y,Z⟩:=Kk N k4 I;have L:c3.oneCell'=true:=by
  rcases DataW.trod_slice afN J with ⟨e,_⟩|⟨a,len,cap,_,_,_,_,e,_⟩ <;>(cases e;rfl)
 have afq:c4.oneCell'=true:=by
  rcases DataW.trod_slice aei I with ⟨e,_⟩|⟨a,len,cap,_,_,_,_,e,_⟩ <;>(cases e;rfl)
 refine⟨⟨s0.data.toList,s1.data.toList,s2.data.toList,al,Y⟩,iw.ag (la:=o6 _) ?_ ?_⟩
 ·rw[p];exact .cons (.str s0) (.cons (.str s1) (.cons (.str s2) (.cons o3 (.cons Z .nil))))
 ·rw[p];intro v hv;simp only[abZ,adz,aeP] at hv;rcases hv with rfl|rfl|rfl|rfl|rfl
  ·rfl
  ·rfl
  ·rfl
  ·exact L
  omega
end
end Go.Proofs.YtjagmhagphbfcaaGreatDoor
