/- Lemmas, part 7. -/
import Derived.Conc.DeferLaws
import Derived.Conc.CompanyDraw
import Derived.Test.YtjagmhagphbfcaaGreatDoorO06
set_option maxRecDepth 100000
set_option linter.all false
namespace Go.Proofs.YtjagmhagphbfcaaGreatDoor
def acp:=@List.all_eq_true
def abG:=@List.getElem_mem
open Go Go.Conc Go.Proofs
def anD:Array Oper:= #[{ dst:=some 4,op:=Op.load 131 (Operand.tmp 0),type:=131,pos:= "news.go:68",after:= #[],guard:=none },{ dst:=some 5,op:=Op.load 3 (Operand.tmp 1),type:=3,pos:= "news.go:68",after:= #[],guard:=none },{ dst:=some 6,op:=Op.load 25 (Operand.tmp 2),type:=25,pos:= "news.go:68",after:= #[],guard:=none },{ dst:=some 7,op:=Op.load 28 (Operand.tmp 3),type:=28,pos:= "news.go:68",after:= #[],guard:=none },{ dst:=some 8,op:=Op.load 3 (Operand.tmp 1),type:=3,pos:= "news.go:68",after:= #[],guard:=none },{ dst:=some 9,op:=Op.call { callee:=Callee.value (Operand.func 103),args:= #[Operand.tmp 6,Operand.tmp 7,Operand.tmp 8],argTypes:= #[25,28,3] },type:=3,pos:= "news.go:68",after:= #[{ on:=2,ground:=Ground.data },{ on:=3,ground:=Ground.data },{ on:=4,ground:=Ground.data }],guard:=none },{ dst:=some 10,op:=Op.build 134 #[(0,Operand.tmp 5),(1,Operand.tmp 9)],type:=134,pos:= "news.go:68",after:= #[{ on:=1,ground:=Ground.data },{ on:=5,ground:=Ground.data }],guard:=none },{ dst:=none,op:=Op.send (Operand.tmp 4) (Operand.tmp 10),type:=0,pos:= "news.go:68",after:= #[{ on:=0,ground:=Ground.data },{ on:=6,ground:=Ground.data },{ on:=5,ground:=Ground.chain }],guard:=none }]
theorem AG:Tryz.f102.body=some (.region 0 anD true):=rfl
theorem MO:∀J l1 l2 I H E p:Bool,(Region.ready .any anD #[J,l1,l2,I,H,E,p,false]).isEmpty=false:=by decide+kernel
def GP(J l1 l2 I H p E:Bool)(i:Nat):Bool:=(i==0&& !J)||(i==1&& !l1)||(i==2&& !l2)||(i==3&& !I)||(i==4&& !H)||(i==5&& !p&&l2&&I&&H)||(i==6&& !E&&l1&&p)||(i==7&&J&&p&&E)
theorem MP:∀J l1 l2 I H E p:Bool,((Region.ready .any anD #[J,l1,l2,I,H,E,p,false]).all (GP J l1 l2 I H E p))=true:=by decide+kernel
theorem J_:(Region.ready .any anD #[true,true,true,true,true,true,true,true]).isEmpty=true:=by decide+kernel
def arr(L:Nat->Bool):Array Bool:= #[L 0,L 1,L 2,L 3,L 4,L 5,L 6,false]
def P3(L:Nat->Bool)(j:Nat):Nat->Bool:=λi=>if i=j then true else L i
theorem SS(L:Nat->Bool){j:Nat}(h:j<7):(arr L).setIfInBounds j true=arr (P3 L j):=by
 rcases j with _|_|_|_|_|_|_|j <;>first|(simp[arr,P3];done)|omega
def still(L:Nat->Bool):Nat:=1+(!L 0).toNat+(!L 1).toNat+(!L 2).toNat+(!L 3).toNat+(!L 4).toNat+(!L 5).toNat+(!L 6).toNat
theorem Mq(L:Nat->Bool){j:Nat}(h:j<7)(hl:L j=false):still (P3 L j)+1=still L:=by
 grind [still,P3]
structure Ta(L:Nat->Bool):Prop where
 a:L 6=true->L 1=true/\L 5=true
 b:L 5=true->L 2=true/\L 3=true/\L 4=true
theorem Ta.up{L:Nat->Bool}(h:Ta L){j:Nat}(E:j=5->L 2=true/\L 3=true/\L 4=true)(p:j=6->L 1=true/\L 5=true):Ta (P3 L j):=by
 have ha:=h.a;have hb:=h.b;constructor
 ·grind [P3]
 grind [P3]
structure WS(val:Nat->Value)(T:Nat->Value)(L:Nat->Bool):Prop where
 cap:∀k,k<4->T k=val (100+k)
 Ur:∀j,j<7->L j=true->T (4+j)=val j
theorem WS.upW{val T:Nat->Value}{L:Nat->Bool}(h:WS val T L)(j:Nat):WS val (up T (4+j) (val j)) (P3 L j):=by
 refine⟨λk hk=>?_,λi hi hl=>?_⟩
 ·unfold up;rw[aat (by omega)];exact h.cap k hk
 ·unfold up;by_cases e:i=j
  ·simp_all
  ·rw[aat (by omega)];refine h.Ur i hi ?_
   grind [P3]
def under:Frame:= { (default:Frame) with fn:=266,defers:= [],mode:=.panicking [goexitEntry] }
structure fp(w:World)(bo bi bh bp c:Nat)(i:Int)(s1 s2 s3:ByteArray)(av tv pv:Value):Prop where
 o:Holds w bo #[.chan (some c)] 131
 i:Holds w bi #[.int .i64 i] 3
 h:Holds w bh #[.string s1,.string s2,.string s3,av,tv] 25
 p:Holds w bp #[pv] 28
section
variable{P:Program}[Twin P Tryz.prog]{K:fO}{Sd:aG}
theorem JV{b:Frame}{T:Nat->Value}{rest:List Nat}{k:List Item}{cs:List Frame}{w:World}{c:Nat}{y:Value}(hk:b.kind≠.early)(H:T 4=.chan (some c))(I:T 10=y):
  stepG Tryz.prog false (G (b.at (aF 11 T) (.inRegion anD (7::rest)::k)) cs) w=.comm (G (b.at (aF 11 T) (.inRegion anD (7::rest)::k)) cs) #[scase c y (.tuple #[])] true .send w #[]:=by
 have ho:anD[7]?=some anD[7]:=rfl;have p:(aF 11 T).eval (.tmp 4)=.chan (some c):=by grind [ae]
 have E:(aF 11 T).eval (.tmp 10)=y:=by grind [ae]
 have hr:(execOp (aF 11 T).eval anD[7]).run Tryz.prog w=.ok (.comm #[scase c y (.tuple #[])] true .send) w:=by
  show(Pure.pure (.comm #[{ chan:=(aF 11 T).eval (.tmp 4),send:=some ((aF 11 T).eval (.tmp 10)),zero:=.tuple #[] }] true .send):Sem Next).run Tryz.prog w=_;rw[p,E];rfl
 have he:(execOp (aF 11 T).eval anD[7]).events Tryz.prog w #[]= #[]:=rfl;rw[stepG_comm ho (by rfl) hk hr];rfl
theorem AX(T:Nat->Value):∃n,QuitsIn Tryz.prog n (Conc.served (G ((baseD 102).at (aF 11 T) [.inRegion anD [7]]) [under]) undef):=by
 have e:Conc.served (G ((baseD 102).at (aF 11 T) [.inRegion anD [7]]) [under]) undef=G ((baseD 102).at (aF 11 T) [.inRegion anD []]) [under]:=by
  rfl
 rw[e];refine⟨5,QuitsIn.ctl rfl (λw=>stepG_region_end) (QuitsIn.ctl rfl (λw=>stepG_end) ?_)⟩;refine .inr ⟨rfl,G under [],λw=>?_,.inr ⟨rfl,{ G under [] with status:=.finished },λw=>?_,.inl rfl⟩⟩
 ·have hr:(results Tryz.f102 (aF 11 T).tmps).run Tryz.prog w=.ok (.tuple #[]) w:=results_none rfl _ _ _;have he:(results Tryz.f102 (aF 11 T).tmps).events Tryz.prog w #[]= #[]:=events_results_none rfl _ _;simp[G,stepG,unwind,doReturn,Frame.at,baseD,aF,under,Tryz.func102,GStep.after] at hr he ⊢;simp only[hr,he];rfl
 rfl
theorem fp.agree{w w':World}{Ow:aG}{bo bi bh bp c:Nat}{i:Int}{s1 s2 s3:ByteArray}{av tv pv:Value}(h:fp w bo bi bh bp c i s1 s2 s3 av tv pv)(ha:aU Ow Sd w w')
  (ho:Sd bo) (hi:Sd bi) (hh:Sd bh) (hp:Sd bp):fp w' bo bi bh bp c i s1 s2 s3 av tv pv:=
 ⟨h.o.agree ha (.inr ho),h.i.agree ha (.inr hi),h.h.agree ha (.inr hh),h.p.agree ha (.inr hp)⟩
def Y3(bo bi bh bp c:Nat)(i r:Int)(s1 s2 s3:ByteArray)(av tv pv:Value):Nat->Value
 |0=>.chan (some c)
 |1=>.int .i64 i
 |2=>.agg #[.string s1,.string s2,.string s3,av,tv]
 |3=>pv
 |4=>.int .i64 i
 |5=>.int .i64 r
 |6=>.agg #[.int .i64 i,.int .i64 r]
 |100=>.pointer (some ⟨bo,0,none⟩)
 |101=>.pointer (some ⟨bi,0,none⟩)
 |102=>.pointer (some ⟨bh,0,none⟩)
 |103=>.pointer (some ⟨bp,0,none⟩)
 |_=>undef
theorem Xn:∀(fuel t:Nat),Region.linearise.go .any anD fuel t #[true,true,true,true,true,true,true,true] []= []:=by
 intro fuel t;have h:=J_;cases fuel with
 |zero=>rfl
 |succ fuel=>
  rfl
theorem Gf(hS:Setup P Tryz.prog K K)(hnb:∀f,K.j4 f=false)(hf:K.s 103=true)(hb:∃fn c,P.funcs[103]?=some fn/\fn.body=some c){V:D1}{D:Nat->Bool}{w0:World}{bo bi bh bp c:Nat}{i r:Int}{s1 s2 s3:ByteArray}{av tv av' tv' pv:Value}
  (ho:Sd bo) (hi:Sd bi) (hh:Sd bh) (hp:Sd bp) (iC:∀b,D b=true->Sd b) (yW:∀g,K.g g=true->D g=true/\V g=none) (hV:Vw P V D) (hg:P.globals.size<=w0.heap.size) (hD:mh K.S V D w0)
  (hy:AR K.S (B6 V D) #[.agg #[.string s1,.string s2,.string s3,av',tv'],pv,.int .i64 i] #[.agg #[.string s1,.string s2,.string s3,av,tv],pv,.int .i64 i])
  (hc:∀w,aU (λ_=>False) Sd w0 w->∀t:Nat->Question->Nat,Calls P 103 #[.agg #[.string s1,.string s2,.string s3,av',tv'],pv,.int .i64 i] { cK V D w with tape:=t } fun| .returned x,_=>x=.int .i64 r|_,_=>False):
  ∀(fuel t:Nat) (L:Nat->Bool) (T:Nat->Value) (w:World) (Ow:aG),still L<=fuel->Ta L->WS (Y3 bo bi bh bp c i r s1 s2 s3 av tv pv) T L->
   fp w bo bi bh bp c i s1 s2 s3 av tv pv->eo Ow Sd w.heap.size->aU (λ_=>False) Sd w0 w->
   WT Tryz.prog false Sd (AtSend Tryz.prog ⟨Sd,c,.agg #[.int .i64 i,.int .i64 r]⟩) ⟨G ((baseD 102).at (aF 11 T) [.inRegion anD (Region.linearise.go .any anD fuel t (arr L) [])]) [under],w,Ow⟩:=by
 intro fuel
 induction fuel with
 |zero=>grind [still]
 |succ fuel ih=>
  intro t L T w Ow bH O H I M J;have cr:(Region.ready .any anD (arr L)).isEmpty=false:=MO (L 0) (L 1) (L 2) (L 3) (L 4) (L 5) (L 6);have WC:((Region.ready .any anD (arr L)).all (GP (L 0) (L 1) (L 2) (L 3) (L 4) (L 5) (L 6)))=true:=MP (L 0) (L 1) (L 2) (L 3) (L 4) (L 5) (L 6);simp only[Region.linearise.go];change WT Tryz.prog false Sd (AtSend Tryz.prog ⟨Sd,c,.agg #[.int .i64 i,.int .i64 r]⟩) ⟨G ((baseD 102).at (aF 11 T) [.inRegion anD (match(Region.ready .any anD (arr L))[t%(Region.ready .any anD (arr L)).length]? with
   |some i=>Region.linearise.go .any anD fuel (t/(Region.ready .any anD (arr L)).length) ((arr L).setIfInBounds i true) [i]
   |none=> [].reverse)]) [under],w,Ow⟩
  generalize Region.ready .any anD (arr L)=rd at cr WC;have hlen:0<rd.length:=by grind
  have aK:=Nat.mod_lt t hlen;rw[aaf aK];simp only;rw[linearise_go_acc,List.reverse_singleton,List.singleton_append];have hm:=acp.1 WC _ (abG aK);generalize rd[t%rd.length]=j at hm;generalize t/rd.length=t';unfold GP at hm;simp only[adr,aaZ,ac6,Bool.not_eq_true'] at hm;have hk:(baseD 102).kind≠.early:=by simp[baseD]
  have next:∀j,j<7->L j=false->(j=5->L 2=true/\L 3=true/\L 4=true)->(j=6->L 1=true/\L 5=true)->∀w1 N,fp w1 bo bi bh bp c i s1 s2 s3 av tv pv->eo N Sd w1.heap.size->aU (λ_=>False) Sd w0 w1->
    WT Tryz.prog false Sd (AtSend Tryz.prog ⟨Sd,c,.agg #[.int .i64 i,.int .i64 r]⟩) ⟨G ((baseD 102).at (aF 11 (up T (4+j) (Y3 bo bi bh bp c i r s1 s2 s3 av tv pv j))) [.inRegion anD (Region.linearise.go .any anD fuel t' ((arr L).setIfInBounds j true) [])]) [under],w1,N⟩:=by
   intro j Y hl Z W w1 N OD pK U;rw[SS L Y];have:=Mq L Y hl;exact ih t' (P3 L j) _ w1 N (by omega) (O.up Z W) (H.upW j) OD pK U
  have c0:=H.cap 0 (by omega);have c1:=H.cap 1 (by omega);have c2:=H.cap 2 (by omega);have c3:=H.cap 3 (by omega);rcases hm with ((((((⟨rfl,h⟩|⟨rfl,h⟩)|⟨rfl,h⟩)|⟨rfl,h⟩)|⟨rfl,h⟩)|⟨⟨⟨⟨rfl,h⟩,g2⟩,g3⟩,g4⟩)|⟨⟨⟨rfl,h⟩,g1⟩,g5⟩)|⟨⟨⟨rfl,g0⟩,g5⟩,g6⟩
  ·have ev:(aF 11 T).eval (.tmp 0)=.pointer (some ⟨bo,0,none⟩):=by rw[ae (by decide)];exact c0
   exact WT.load (o:=anD[0]) (v:=.chan (some c)) rfl (by rfl) hk rfl (.inr ho) I.o (λw' E=>(I2 (o:=anD[0]) rfl ev E rfl).1) (λw' E=>(I2 (o:=anD[0]) rfl ev E rfl).2) (next 0 (by omega) h (by omega) (by omega) w Ow I M J)
  ·have ev:(aF 11 T).eval (.tmp 1)=.pointer (some ⟨bi,0,none⟩):=by rw[ae (by decide)];exact c1
   exact WT.load (o:=anD[1]) (v:=.int .i64 i) rfl (by rfl) hk rfl (.inr hi) I.i (λw' E=>(LN (o:=anD[1]) rfl ev E rfl).1) (λw' E=>(LN (o:=anD[1]) rfl ev E rfl).2) (next 1 (by omega) h (by omega) (by omega) w Ow I M J)
  ·have ev:(aF 11 T).eval (.tmp 2)=.pointer (some ⟨bh,0,none⟩):=by rw[ae (by decide)];exact c2
   exact WT.load (o:=anD[2]) rfl (by rfl) hk rfl (.inr hh) I.h (λw' E=>(Rj (o:=anD[2]) rfl ev E).1) (λw' E=>(Rj (o:=anD[2]) rfl ev E).2) (next 2 (by omega) h (by omega) (by omega) w Ow I M J)
  ·have ev:(aF 11 T).eval (.tmp 3)=.pointer (some ⟨bp,0,none⟩):=by rw[ae (by decide)];exact c3
   exact WT.load (o:=anD[3]) (v:=pv) rfl (by rfl) hk rfl (.inr hp) I.p (λw' E=>(ZI (o:=anD[3]) rfl ev E rfl).1) (λw' E=>(ZI (o:=anD[3]) rfl ev E rfl).2) (next 3 (by omega) h (by omega) (by omega) w Ow I M J)
  ·have ev:(aF 11 T).eval (.tmp 1)=.pointer (some ⟨bi,0,none⟩):=by rw[ae (by decide)];exact c1
   exact WT.load (o:=anD[4]) (v:=.int .i64 i) rfl (by rfl) hk rfl (.inr hi) I.i (λw' E=>(LN (o:=anD[4]) rfl ev E rfl).1) (λw' E=>(LN (o:=anD[4]) rfl ev E rfl).2) (next 4 (by omega) h (by omega) (by omega) w Ow I M J)
  ·
   have e6:(aF 11 T).eval (.tmp 6)=.agg #[.string s1,.string s2,.string s3,av,tv]:=by rw[ae (by decide)];exact H.Ur 2 (by omega) g2
   have e7:(aF 11 T).eval (.tmp 7)=pv:=by rw[ae (by decide)];exact H.Ur 3 (by omega) g3
   have e8:(aF 11 T).eval (.tmp 8)=.int .i64 i:=by rw[ae (by decide)];exact H.Ur 4 (by omega) g4
   refine WT.enter (o:=anD[5]) (f:=103) (args:= #[.agg #[.string s1,.string s2,.string s3,av,tv],pv,.int .i64 i]) rfl (by rfl) hk (λw'=>?_) (λw'=>?_) ?_
   ·have:=(lU (o:=anD[5]) (ev:=(aF 11 T).eval) (w:=w') rfl rfl Tryz.func103 rfl (by decide)).1
    simp_all
   ·rfl
   ·refine AM hS hnb hf hb (w:=w) hV ?_ ?_ yW iC M (Kp:=λ_=>False) (λ_ h=>h.elim) hy (λx v t h=>h) (hc w J) (λρ1 x x' v1 w1 N h1 h2 h3 h4 Z W h7 h8 _ h9 _=>?_)
    ·exact hD.same hV J.size λb hb=>J.oV b (iC b hb)
    ·exact aaY hg J.size
    ·subst h8;cases h7;rw[j0 (o:=anD[5]) (d:=9) rfl rfl];have F8:=h9;exact next 5 (by omega) h (λ_=>⟨g2,g3,g4⟩) (by omega) w1 N (I.agree F8 ho hi hh hp) ⟨h3.vc,λc hc=>abD (M.sd c hc) W,h3.yz⟩ (J.trans F8)
  ·
   have e5:(aF 11 T).eval (.tmp 5)=.int .i64 i:=by rw[ae (by decide)];exact H.Ur 1 (by omega) g1
   have e9:(aF 11 T).eval (.tmp 9)=.int .i64 r:=by rw[ae (by decide)];exact H.Ur 5 (by omega) g5
   exact WT.pure (o:=anD[6]) (v:=.agg #[.int .i64 i,.int .i64 r]) rfl (by rfl) hk rfl (λw'=>(FH (o:=anD[6]) rfl e5 e9).1) (λw'=>(FH (o:=anD[6]) rfl e5 e9).2) (next 6 (by omega) h (by omega) (λ_=>⟨g1,g5⟩) w Ow I M J)
  ·
   have e4:T 4=.chan (some c):=H.Ur 0 (by omega) g0;have Ux:T 10=.agg #[.int .i64 i,.int .i64 r]:=H.Ur 6 (by omega) g6;have gb:=O.b g5;have ga:=O.a g6;have gU:(arr L).setIfInBounds 7 true= #[true,true,true,true,true,true,true,true]:=by
    unfold arr
    simp_all
   rw[gU,Xn];obtain⟨nq,hq⟩:=AX T;refine .stop rfl λw' ha=>⟨_,.tuple #[],nq,JV hk e4 Ux,hq⟩
theorem Dd(I:Setup P Tryz.prog K K)(hnb:∀f,K.j4 f=false)(hf:K.s 103=true)(hb:∃fn c,P.funcs[103]?=some fn/\fn.body=some c){V:D1}{D:Nat->Bool}{w:World}{bo bi bh bp c:Nat}{i r:Int}{s1 s2 s3:ByteArray}{av tv av' tv' pv:Value}
  (ho:Sd bo) (hi:Sd bi) (hh:Sd bh) (hp:Sd bp) (iC:∀b,D b=true->Sd b) (H:∀g,K.g g=true->D g=true/\V g=none) (hV:Vw P V D) (hg:P.globals.size<=w.heap.size) (L:mh K.S V D w) (O:∀b,Sd b->b<w.heap.size)
  (hy:AR K.S (B6 V D) #[.agg #[.string s1,.string s2,.string s3,av',tv'],pv,.int .i64 i] #[.agg #[.string s1,.string s2,.string s3,av,tv],pv,.int .i64 i])
  (hc:∀w1,aU (λ_=>False) Sd w w1->∀t:Nat->Question->Nat,Calls P 103 #[.agg #[.string s1,.string s2,.string s3,av',tv'],pv,.int .i64 i] { cK V D w1 with tape:=t } fun| .returned x,_=>x=.int .i64 r|_,_=>False)
  (J:fp w bo bi bh bp c i s1 s2 s3 av tv pv) (d:Deferred) (hd:d.target=.fn (.func 102) #[.pointer (some ⟨bo,0,none⟩),.pointer (some ⟨bi,0,none⟩),.pointer (some ⟨bh,0,none⟩),.pointer (some ⟨bp,0,none⟩)]) (p:d.args= #[]):
  WT Tryz.prog false Sd (AtSend Tryz.prog ⟨Sd,c,.agg #[.int .i64 i,.int .i64 r]⟩) ⟨born Tryz.prog d,w,λ_=>False⟩:=by
 have N:∀w',stepG Tryz.prog false (born Tryz.prog d) w'=.go (G ((baseD 102).at (aF 11 (λk=>(#[.pointer (some ⟨bo,0,none⟩),.pointer (some ⟨bi,0,none⟩),.pointer (some ⟨bh,0,none⟩),.pointer (some ⟨bp,0,none⟩)]:Array Value).getD k undef)) [.code (.region 0 anD true)]) [under]) w' #[]:=by
  intro w';have M:Frame.enter Tryz.prog 102 #[.pointer (some ⟨bo,0,none⟩),.pointer (some ⟨bi,0,none⟩),.pointer (some ⟨bh,0,none⟩),.pointer (some ⟨bp,0,none⟩)] .deferred=(baseD 102).at (aF 11 (λk=>(#[.pointer (some ⟨bo,0,none⟩),.pointer (some ⟨bi,0,none⟩),.pointer (some ⟨bh,0,none⟩),.pointer (some ⟨bp,0,none⟩)]:Array Value).getD k undef)) [.code (.region 0 anD true)]:=by
   rw[enter_atD _ Tryz.func102 AG,<-um _ 11 (by simp)];rfl
  rw[<-M];obtain⟨W,ar⟩:=d;simp only at hd p;subst hd p;rfl
 refine WT.ctl rfl N ?_;refine WT.own rfl λw' ha=>?_
 refine⟨_,_,_,stepG_region_draw,⟨aax _,λ_ _ _=>rfl,rfl,rfl,rfl⟩,λe he=>by grind,?_⟩;have hm:Tryz.prog.follows .mixedOrders=true:=by kernel_rfl
 have U:bU (λ_=>False) w' { w' with drawn:=w'.drawn+1 } =λ_=>False:=by
  grind [bU]
 rw[U];simp only[Region.schedule,hm,Bool.true_or,acC];have E:aU (λ_=>False) Sd w { w' with drawn:=w'.drawn+1 } :=ha.trans ⟨aax _,λ_ _=>rfl,λ_ _=>rfl,rfl,rfl,rfl⟩;refine Gf I hnb hf hb (w0:=w) ho hi hh hp iC H hV hg L hy hc anD.size _ (λ_=>false) _ _ _ (by decide) ⟨λh=>(by cases h),λh=>(by cases h)⟩ ⟨λk hk=>?_,λj _ h=>(by cases h)⟩ (J.agree E ho hi hh hp) ⟨λ_ h=>h.elim,λc hc=>abD (O c hc) ha.size,λ_ h=>h.elim⟩ E;rcases k with _|_|_|_|k <;>first|rfl|omega
end
def XT:Array Oper:= #[{ dst:=some 1,op:=Op.box 25 (Operand.tmp 0),type:=0,pos:= "news.go:59",after:= #[],guard:=none },{ dst:=some 2,op:=Op.assign (Operand.const (Value.int IntKind.i64 0)),type:=3,pos:= "news.go:59",after:= #[],guard:=none },{ dst:=some 3,op:=Op.assign (Operand.const (Value.int IntKind.i64 0)),type:=3,pos:= "news.go:59",after:= #[{ on:=1,ground:=Ground.chain }],guard:=none },{ dst:=some 4,op:=Op.assign (Operand.const (Value.int IntKind.i64 0)),type:=29,pos:= "news.go:59",after:= #[{ on:=2,ground:=Ground.chain }],guard:=none }]
def AP:Array Oper:= #[{ dst:=some 15,op:=Op.load 25 (Operand.tmp 1),type:=25,pos:= "news.go:60",after:= #[],guard:=none },{ dst:=some 16,op:=Op.call { callee:=Callee.value (Operand.func 74),args:= #[Operand.tmp 15,Operand.const (Value.slice none 0 0)],argTypes:= #[25,155] },type:=101,pos:= "news.go:60",after:= #[{ on:=0,ground:=Ground.data }],guard:=none },{ dst:=some 14,op:=Op.move (Operand.tmp 16),type:=101,pos:= "news.go:60",after:= #[{ on:=1,ground:=Ground.data }],guard:=none },{ dst:=some 17,op:=Op.extract (Operand.tmp 14) 0,type:=99,pos:= "news.go:60",after:= #[{ on:=2,ground:=Ground.data }],guard:=none },{ dst:=some 18,op:=Op.extract (Operand.tmp 14) 1,type:=100,pos:= "news.go:60",after:= #[{ on:=2,ground:=Ground.data },{ on:=7,ground:=Ground.gcOnly Departure.lateStores }],guard:=none },{ dst:=some 19,op:=Op.extract (Operand.tmp 14) 2,type:=29,pos:= "news.go:60",after:= #[{ on:=2,ground:=Ground.data },{ on:=8,ground:=Ground.gcOnly Departure.lateStores }],guard:=none },{ dst:=some 5,op:=Op.alloc 99,type:=0,pos:= "news.go:60",after:= #[],guard:=none },{ dst:=none,op:=Op.store 99 (Operand.tmp 5) (Operand.tmp 17),type:=0,pos:= "news.go:60",after:= #[{ on:=6,ground:=Ground.data },{ on:=3,ground:=Ground.data },{ on:=1,ground:=Ground.chain },{ on:=0,ground:=Ground.phase },{ on:=1,ground:=Ground.phase },{ on:=2,ground:=Ground.phase },{ on:=3,ground:=Ground.phase },{ on:=4,ground:=Ground.textOnly Departure.lateStores },{ on:=5,ground:=Ground.textOnly Departure.lateStores },{ on:=6,ground:=Ground.phase }],guard:=none },{ dst:=some 6,op:=Op.assign (Operand.tmp 18),type:=100,pos:= "news.go:60",after:= #[{ on:=4,ground:=Ground.data },{ on:=7,ground:=Ground.chain },{ on:=0,ground:=Ground.phase },{ on:=1,ground:=Ground.phase },{ on:=2,ground:=Ground.phase },{ on:=3,ground:=Ground.phase },{ on:=4,ground:=Ground.phase },{ on:=5,ground:=Ground.textOnly Departure.lateStores },{ on:=6,ground:=Ground.phase },{ on:=7,ground:=Ground.phase }],guard:=none },{ dst:=some 4,op:=Op.assign (Operand.tmp 19),type:=29,pos:= "news.go:60",after:= #[{ on:=5,ground:=Ground.data },{ on:=8,ground:=Ground.chain },{ on:=0,ground:=Ground.phase },{ on:=1,ground:=Ground.phase },{ on:=2,ground:=Ground.phase },{ on:=3,ground:=Ground.phase },{ on:=4,ground:=Ground.phase },{ on:=5,ground:=Ground.phase },{ on:=6,ground:=Ground.phase },{ on:=7,ground:=Ground.phase },{ on:=8,ground:=Ground.phase }],guard:=none }]
def ak2:Array Oper:= #[{ dst:=some 20,op:=Op.move (Operand.tmp 4),type:=29,pos:= "news.go:61",after:= #[],guard:=none },{ dst:=some 21,op:=Op.binOp BinOp.neq 29 (Operand.tmp 20) (Operand.const (Value.int IntKind.i64 0)) 29,type:=4,pos:= "news.go:61",after:= #[{ on:=0,ground:=Ground.data }],guard:=none }]
def ak3:Array Oper:= #[{ dst:=some 22,op:=Op.move (Operand.tmp 4),type:=29,pos:= "news.go:62",after:= #[{ on:=2,ground:=Ground.gcOnly Departure.lateStores }],guard:=none },{ dst:=some 2,op:=Op.assign (Operand.const (Value.int IntKind.i64 0)),type:=3,pos:= "news.go:62",after:= #[{ on:=0,ground:=Ground.textOnly Departure.lateStores }],guard:=none },{ dst:=some 3,op:=Op.assign (Operand.const (Value.int IntKind.i64 0)),type:=3,pos:= "news.go:62",after:= #[{ on:=1,ground:=Ground.chain },{ on:=0,ground:=Ground.textOnly Departure.lateStores },{ on:=1,ground:=Ground.phase }],guard:=none },{ dst:=some 4,op:=Op.assign (Operand.tmp 22),type:=29,pos:= "news.go:62",after:= #[{ on:=0,ground:=Ground.data },{ on:=2,ground:=Ground.chain },{ on:=0,ground:=Ground.phase },{ on:=1,ground:=Ground.phase },{ on:=2,ground:=Ground.phase }],guard:=none }]
def Qh:Array Oper:= #[{ dst:=some 23,op:=Op.makeChan 131 (Operand.const (Value.int IntKind.i64 0)),type:=131,pos:= "news.go:65",after:= #[],guard:=none },{ dst:=some 7,op:=Op.alloc 131,type:=0,pos:= "news.go:65",after:= #[],guard:=none },{ dst:=none,op:=Op.store 131 (Operand.tmp 7) (Operand.tmp 23),type:=0,pos:= "news.go:65",after:= #[{ on:=1,ground:=Ground.data },{ on:=0,ground:=Ground.data },{ on:=0,ground:=Ground.phase },{ on:=1,ground:=Ground.phase }],guard:=none }]
def PH:Array Oper:= #[{ dst:=some 24,op:=Op.fieldAddr 25 (Operand.tmp 1) 4,type:=0,pos:= "news.go:66",after:= #[],guard:=none },{ dst:=some 25,op:=Op.load 23 (Operand.tmp 24),type:=23,pos:= "news.go:66",after:= #[{ on:=0,ground:=Ground.data }],guard:=none },{ dst:=some 26,op:=Op.call { callee:=Callee.builtin Builtin.len,args:= #[Operand.tmp 25],argTypes:= #[23] },type:=3,pos:= "news.go:66",after:= #[{ on:=1,ground:=Ground.data }],guard:=none },{ dst:=some 27,op:=Op.move (Operand.const (Value.int IntKind.i64 0)),type:=3,pos:= "news.go:66",after:= #[],guard:=none }]
def XS:Array Oper:= #[{ dst:=some 28,op:=Op.binOp BinOp.lss 3 (Operand.tmp 27) (Operand.tmp 26) 3,type:=0,pos:= "news.go:66",after:= #[],guard:=none }]
def UI:Array Oper:= #[{ dst:=some 29,op:=Op.move (Operand.tmp 27),type:=3,pos:= "news.go:66",after:= #[],guard:=none },{ dst:=some 8,op:=Op.alloc 3,type:=0,pos:= "news.go:66",after:= #[],guard:=none },{ dst:=none,op:=Op.store 3 (Operand.tmp 8) (Operand.tmp 29),type:=0,pos:= "news.go:66",after:= #[{ on:=1,ground:=Ground.data },{ on:=0,ground:=Ground.data },{ on:=0,ground:=Ground.phase },{ on:=1,ground:=Ground.phase }],guard:=none }]
def vT:Array Oper:= #[{ dst:=some 30,op:=Op.move (Operand.tmp 6),type:=100,pos:= "news.go:67",after:= #[],guard:=none },{ dst:=some 31,op:=Op.load 99 (Operand.tmp 5),type:=99,pos:= "news.go:67",after:= #[],guard:=none },{ dst:=some 32,op:=Op.load 3 (Operand.tmp 8),type:=3,pos:= "news.go:67",after:= #[],guard:=none },{ dst:=some 33,op:=Op.build 107 #[(0,Operand.tmp 31),(2,Operand.tmp 32)],type:=107,pos:= "news.go:67",after:= #[{ on:=1,ground:=Ground.data },{ on:=2,ground:=Ground.data }],guard:=none },{ dst:=some 34,op:=Op.makeFunc (Fn.func 77) #[Operand.tmp 33] #[],type:=105,pos:= "news.go:67",after:= #[{ on:=3,ground:=Ground.data }],guard:=none },{ dst:=some 35,op:=Op.call { callee:=Callee.value (Operand.func 76),args:= #[Operand.tmp 30,Operand.tmp 34],argTypes:= #[100,105] },type:=28,pos:= "news.go:67",after:= #[{ on:=0,ground:=Ground.data },{ on:=4,ground:=Ground.data }],guard:=none },{ dst:=some 9,op:=Op.alloc 28,type:=0,pos:= "news.go:67",after:= #[],guard:=none },{ dst:=none,op:=Op.store 28 (Operand.tmp 9) (Operand.tmp 35),type:=0,pos:= "news.go:67",after:= #[{ on:=6,ground:=Ground.data },{ on:=5,ground:=Ground.data },{ on:=5,ground:=Ground.chain },{ on:=0,ground:=Ground.phase },{ on:=1,ground:=Ground.phase },{ on:=2,ground:=Ground.phase },{ on:=3,ground:=Ground.phase },{ on:=4,ground:=Ground.phase },{ on:=5,ground:=Ground.phase },{ on:=6,ground:=Ground.phase }],guard:=none }]
def PG:Array Oper:= #[{ dst:=some 36,op:=Op.makeFunc (Fn.func 102) #[] #[Operand.tmp 7,Operand.tmp 8,Operand.tmp 1,Operand.tmp 9],type:=1,pos:= "news.go:68",after:= #[],guard:=none },{ dst:=none,op:=Op.go { callee:=Callee.value (Operand.tmp 36),args:= #[],argTypes:= #[] },type:=0,pos:= "news.go:68",after:= #[{ on:=0,ground:=Ground.data }],guard:=none }]
def zm:Array Oper:= #[{ dst:=some 37,op:=Op.binOp BinOp.add 3 (Operand.tmp 27) (Operand.const (Value.int IntKind.i64 1)) 3,type:=3,pos:= "news.go:66",after:= #[],guard:=none },{ dst:=some 27,op:=Op.move (Operand.tmp 37),type:=3,pos:= "news.go:66",after:= #[{ on:=0,ground:=Ground.data }],guard:=none }]
def sB:Array Oper:= #[{ dst:=some 38,op:=Op.fieldAddr 25 (Operand.tmp 1) 4,type:=0,pos:= "news.go:70",after:= #[],guard:=none },{ dst:=some 39,op:=Op.load 23 (Operand.tmp 38),type:=23,pos:= "news.go:70",after:= #[{ on:=0,ground:=Ground.data }],guard:=none },{ dst:=some 40,op:=Op.call { callee:=Callee.builtin Builtin.len,args:= #[Operand.tmp 39],argTypes:= #[23] },type:=3,pos:= "news.go:70",after:= #[{ on:=1,ground:=Ground.data }],guard:=none },{ dst:=some 41,op:=Op.makeSlice 28 (Operand.tmp 40) (Operand.tmp 40),type:=28,pos:= "news.go:70",after:= #[{ on:=2,ground:=Ground.data },{ on:=2,ground:=Ground.data }],guard:=none },{ dst:=some 10,op:=Op.assign (Operand.tmp 41),type:=28,pos:= "news.go:70",after:= #[{ on:=3,ground:=Ground.data },{ on:=0,ground:=Ground.phase },{ on:=1,ground:=Ground.phase },{ on:=2,ground:=Ground.phase },{ on:=3,ground:=Ground.phase }],guard:=none }]
def yj:Array Oper:= #[{ dst:=some 42,op:=Op.fieldAddr 25 (Operand.tmp 1) 4,type:=0,pos:= "news.go:71",after:= #[],guard:=none },{ dst:=some 43,op:=Op.load 23 (Operand.tmp 42),type:=23,pos:= "news.go:71",after:= #[{ on:=0,ground:=Ground.data }],guard:=none },{ dst:=some 44,op:=Op.call { callee:=Callee.builtin Builtin.len,args:= #[Operand.tmp 43],argTypes:= #[23] },type:=3,pos:= "news.go:71",after:= #[{ on:=1,ground:=Ground.data }],guard:=none },{ dst:=some 45,op:=Op.move (Operand.const (Value.int IntKind.i64 0)),type:=3,pos:= "news.go:71",after:= #[],guard:=none }]
def Iy:Array Oper:= #[{ dst:=some 46,op:=Op.binOp BinOp.lss 3 (Operand.tmp 45) (Operand.tmp 44) 3,type:=0,pos:= "news.go:71",after:= #[],guard:=none }]
def qI:Array Oper:= #[{ dst:=some 47,op:=Op.load 131 (Operand.tmp 7),type:=131,pos:= "news.go:72",after:= #[],guard:=none },{ dst:=some 48,op:=Op.recv 131 (Operand.tmp 47) false,type:=134,pos:= "news.go:72",after:= #[{ on:=0,ground:=Ground.data }],guard:=none },{ dst:=some 11,op:=Op.alloc 134,type:=0,pos:= "news.go:72",after:= #[],guard:=none },{ dst:=none,op:=Op.store 134 (Operand.tmp 11) (Operand.tmp 48),type:=0,pos:= "news.go:72",after:= #[{ on:=2,ground:=Ground.data },{ on:=1,ground:=Ground.data },{ on:=1,ground:=Ground.chain },{ on:=0,ground:=Ground.phase },{ on:=1,ground:=Ground.phase },{ on:=2,ground:=Ground.phase }],guard:=none }]
def kV:Array Oper:= #[{ dst:=some 49,op:=Op.move (Operand.tmp 10),type:=28,pos:= "news.go:73",after:= #[],guard:=none },{ dst:=some 50,op:=Op.fieldAddr 134 (Operand.tmp 11) 0,type:=0,pos:= "news.go:73",after:= #[],guard:=none },{ dst:=some 51,op:=Op.load 3 (Operand.tmp 50),type:=3,pos:= "news.go:73",after:= #[{ on:=1,ground:=Ground.data }],guard:=none },{ dst:=some 52,op:=Op.fieldAddr 134 (Operand.tmp 11) 1,type:=0,pos:= "news.go:73",after:= #[],guard:=none },{ dst:=some 53,op:=Op.load 3 (Operand.tmp 52),type:=3,pos:= "news.go:73",after:= #[{ on:=3,ground:=Ground.data }],guard:=none },{ dst:=some 54,op:=Op.indexAddr 28 (Operand.tmp 49) (Operand.tmp 51),type:=0,pos:= "news.go:73",after:= #[{ on:=0,ground:=Ground.data },{ on:=2,ground:=Ground.data },{ on:=0,ground:=Ground.phase },{ on:=1,ground:=Ground.phase },{ on:=2,ground:=Ground.phase },{ on:=3,ground:=Ground.phase },{ on:=4,ground:=Ground.phase }],guard:=none },{ dst:=none,op:=Op.store 3 (Operand.tmp 54) (Operand.tmp 53),type:=0,pos:= "news.go:73",after:= #[{ on:=5,ground:=Ground.data },{ on:=4,ground:=Ground.data },{ on:=0,ground:=Ground.phase },{ on:=1,ground:=Ground.phase },{ on:=2,ground:=Ground.phase },{ on:=3,ground:=Ground.phase },{ on:=4,ground:=Ground.phase }],guard:=none }]
def Ix:Array Oper:= #[{ dst:=some 55,op:=Op.binOp BinOp.add 3 (Operand.tmp 45) (Operand.const (Value.int IntKind.i64 1)) 3,type:=3,pos:= "news.go:71",after:= #[],guard:=none },{ dst:=some 45,op:=Op.move (Operand.tmp 55),type:=3,pos:= "news.go:71",after:= #[{ on:=0,ground:=Ground.data }],guard:=none }]
def Iw:Array Oper:= #[{ dst:=some 56,op:=Op.move (Operand.tmp 6),type:=100,pos:= "news.go:75",after:= #[],guard:=none },{ dst:=some 57,op:=Op.call { callee:=Callee.builtin Builtin.len,args:= #[Operand.tmp 56],argTypes:= #[100] },type:=3,pos:= "news.go:75",after:= #[{ on:=0,ground:=Ground.data }],guard:=none },{ dst:=some 2,op:=Op.assign (Operand.const (Value.int IntKind.i64 (-1))),type:=3,pos:= "news.go:75",after:= #[{ on:=0,ground:=Ground.textOnly Departure.lateStores },{ on:=1,ground:=Ground.textOnly Departure.lateStoresUnsure }],guard:=none },{ dst:=some 3,op:=Op.assign (Operand.tmp 57),type:=3,pos:= "news.go:75",after:= #[{ on:=1,ground:=Ground.data },{ on:=2,ground:=Ground.chain },{ on:=0,ground:=Ground.phase },{ on:=1,ground:=Ground.phase },{ on:=2,ground:=Ground.phase }],guard:=none }]
def LA:Array Oper:= #[{ dst:=some 58,op:=Op.move (Operand.tmp 10),type:=28,pos:= "news.go:76",after:= #[],guard:=none },{ dst:=some 59,op:=Op.call { callee:=Callee.builtin Builtin.len,args:= #[Operand.tmp 58],argTypes:= #[28] },type:=3,pos:= "news.go:76",after:= #[{ on:=0,ground:=Ground.data }],guard:=none },{ dst:=some 60,op:=Op.move (Operand.const (Value.int IntKind.i64 0)),type:=3,pos:= "news.go:76",after:= #[],guard:=none }]
def Iv:Array Oper:= #[{ dst:=some 61,op:=Op.binOp BinOp.lss 3 (Operand.tmp 60) (Operand.tmp 59) 3,type:=0,pos:= "news.go:76",after:= #[],guard:=none }]
def zl:Array Oper:= #[{ dst:=some 62,op:=Op.move (Operand.tmp 60),type:=3,pos:= "news.go:76",after:= #[],guard:=none },{ dst:=some 63,op:=Op.indexAddr 28 (Operand.tmp 58) (Operand.tmp 60),type:=0,pos:= "news.go:76",after:= #[],guard:=none },{ dst:=some 64,op:=Op.load 3 (Operand.tmp 63),type:=3,pos:= "news.go:76",after:= #[{ on:=1,ground:=Ground.data }],guard:=none },{ dst:=some 12,op:=Op.assign (Operand.tmp 62),type:=3,pos:= "news.go:76",after:= #[{ on:=0,ground:=Ground.data },{ on:=0,ground:=Ground.phase },{ on:=1,ground:=Ground.phase },{ on:=2,ground:=Ground.phase }],guard:=none },{ dst:=some 13,op:=Op.assign (Operand.tmp 64),type:=3,pos:= "news.go:76",after:= #[{ on:=2,ground:=Ground.data },{ on:=3,ground:=Ground.chain },{ on:=0,ground:=Ground.phase },{ on:=1,ground:=Ground.phase },{ on:=2,ground:=Ground.phase },{ on:=3,ground:=Ground.phase }],guard:=none }]
def Lz:Array Oper:= #[{ dst:=some 65,op:=Op.move (Operand.tmp 13),type:=3,pos:= "news.go:77",after:= #[],guard:=none },{ dst:=some 66,op:=Op.move (Operand.tmp 3),type:=3,pos:= "news.go:77",after:= #[],guard:=none },{ dst:=some 67,op:=Op.binOp BinOp.lss 3 (Operand.tmp 65) (Operand.tmp 66) 3,type:=4,pos:= "news.go:77",after:= #[{ on:=0,ground:=Ground.data },{ on:=1,ground:=Ground.data }],guard:=none }]
def PI:Array Oper:= #[{ dst:=some 68,op:=Op.move (Operand.tmp 12),type:=3,pos:= "news.go:78",after:= #[],guard:=none },{ dst:=some 69,op:=Op.move (Operand.tmp 13),type:=3,pos:= "news.go:78",after:= #[{ on:=2,ground:=Ground.gcOnly Departure.lateStores }],guard:=none },{ dst:=some 2,op:=Op.assign (Operand.tmp 68),type:=3,pos:= "news.go:78",after:= #[{ on:=0,ground:=Ground.data },{ on:=0,ground:=Ground.phase },{ on:=1,ground:=Ground.textOnly Departure.lateStores }],guard:=none },{ dst:=some 3,op:=Op.assign (Operand.tmp 69),type:=3,pos:= "news.go:78",after:= #[{ on:=1,ground:=Ground.data },{ on:=2,ground:=Ground.chain },{ on:=0,ground:=Ground.phase },{ on:=1,ground:=Ground.phase },{ on:=2,ground:=Ground.phase }],guard:=none }]
def Ly:Array Oper:= #[{ dst:=some 70,op:=Op.binOp BinOp.add 3 (Operand.tmp 60) (Operand.const (Value.int IntKind.i64 1)) 3,type:=3,pos:= "news.go:76",after:= #[],guard:=none },{ dst:=some 60,op:=Op.move (Operand.tmp 70),type:=3,pos:= "news.go:76",after:= #[{ on:=0,ground:=Ground.data }],guard:=none }]
def zk:Array Oper:= #[{ dst:=some 71,op:=Op.move (Operand.tmp 2),type:=3,pos:= "news.go:81",after:= #[],guard:=none },{ dst:=some 72,op:=Op.move (Operand.tmp 3),type:=3,pos:= "news.go:81",after:= #[{ on:=2,ground:=Ground.gcOnly Departure.lateStores }],guard:=none },{ dst:=some 2,op:=Op.assign (Operand.tmp 71),type:=3,pos:= "news.go:81",after:= #[{ on:=0,ground:=Ground.data },{ on:=0,ground:=Ground.phase },{ on:=1,ground:=Ground.textOnly Departure.lateStores }],guard:=none },{ dst:=some 3,op:=Op.assign (Operand.tmp 72),type:=3,pos:= "news.go:81",after:= #[{ on:=1,ground:=Ground.data },{ on:=2,ground:=Ground.chain },{ on:=0,ground:=Ground.phase },{ on:=1,ground:=Ground.phase },{ on:=2,ground:=Ground.phase }],guard:=none },{ dst:=some 4,op:=Op.assign (Operand.const (Value.int IntKind.i64 0)),type:=29,pos:= "news.go:81",after:= #[{ on:=3,ground:=Ground.chain },{ on:=0,ground:=Ground.phase },{ on:=1,ground:=Ground.phase },{ on:=2,ground:=Ground.phase },{ on:=3,ground:=Ground.phase }],guard:=none }]
def lE:Code:=.seq (.region 6 XS false) (.seq (.cond (.tmp 28) .skip (.exit 0)) (.seq (.block 1 (.seq (.region 7 UI false) (.seq (.region 8 vT false) (.region 9 PG false)))) (.region 10 zm false)))
def sA:Code:=.seq (.region 13 Iy false) (.seq (.cond (.tmp 46) .skip (.exit 2)) (.seq (.block 3 (.seq (.region 14 qI false) (.region 15 kV false))) (.region 16 Ix false)))
def vS:Code:=.seq (.region 19 Iv false) (.seq (.cond (.tmp 61) .skip (.exit 4)) (.seq (.block 5 (.seq (.region 20 zl false) (.seq (.region 21 Lz false) (.cond (.tmp 67) (.region 22 PI false) .skip)))) (.region 23 Ly false)))
def FO:Code:=.seq (.region 17 Iw false) (.seq (.seq (.region 18 LA false) (.block 4 (.loop vS))) (.seq (.region 24 zk false) .ret))
def uR:Code:=.seq (.region 11 sB false) (.seq (.seq (.region 12 yj false) (.block 2 (.loop sA))) FO)
def XR:Code:=.seq (.seq (.region 5 PH false) (.block 0 (.loop lE))) uR
def PF:Code:=.seq (.region 0 XT false) (.seq (.region 1 AP false) (.seq (.seq (.region 2 ak2 false) (.cond (.tmp 21) (.seq (.region 3 ak3 false) .ret) .skip)) (.seq (.region 4 Qh false) XR)))
theorem OR:Tryz.f41.body=some PF:=rfl
end Go.Proofs.YtjagmhagphbfcaaGreatDoor
