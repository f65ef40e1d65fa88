/- Lemmas, part 1. -/
import GoSem.Dispatch
import Derived.Test.YtjagmhagphbfcaaGreatDoorO00
set_option maxRecDepth 100000
set_option linter.all false
namespace Go.Proofs.YtjagmhagphbfcaaGreatDoor
def ads:=@Array.all_eq_true_iff_forall_mem
def aeL:=@Std.Legacy.Range.forIn_eq_forIn_range'
open Go
section
variable{P Q:Program}[Twin P Q]{S:FuncId->Prop}{CO:Code->Prop}{Sh:Nat->Prop}{ρ:Ren}
theorem ai.fact{α β:Type}{A:Ren->α->β->Prop}{s:Sem α}{s':Sem β}{F:Prop}(p:∀v w,cp P S CO Sh ρ v w->F)(h:F->ai P Q S CO Sh ρ A s s'):ai P Q S CO Sh ρ A s s':=
 λv w hw=>h (p v w hw) v w hw
theorem mz{E α β:Type}(l:List E)(B:Ren->α->β->Prop)(f:E->α->Sem (ForInStep α))(g:E->β->Sem (ForInStep β)):
  ∀ {ρ:Ren} (_:∀(x:E) (σ:Ren) (a:α) (b:β),x∈l->ρ.le σ->B σ a b->
   ai P Q S CO Sh σ (λτ p q=>(∃a b,p=.done a/\q=.done b/\B τ a b)\/(∃a b,p=.yield a/\q=.yield b/\B τ a b)) (f x a) (g x b)) {a:α} {b:β} (_:B ρ a b),
  ai P Q S CO Sh ρ B (forIn l a f) (forIn l b g):=by
 induction l with
 |nil=>intro ρ _ a b h;exact ai.pure h
 |cons x l I=>
  intro ρ hf a b h;simp only[List.forIn_cons];refine(hf x ρ a b (by simp) ρ.le_refl h).bind λσ p q hle J=>?_
  rcases J with ⟨a',b',rfl,rfl,hb⟩|⟨a',b',rfl,rfl,hb⟩
  ·exact ai.pure hb
  ·exact I (λy τ u v hy L H=>hf y τ u v (by simp[hy]) (Ren.le_trans hle L) H) hb
def sc(P:Program):Nat->TypeId->Bool
 |0,_=>false
 |k+1,t=>match P.underlying t with
  |some .bool=>true
  |some (.int _)=>true
  |some .string=>true
  |some (.slice _)=>true
  |some (.struct fs)=>fs.all λf=>sc P k f.type
  |some (.array _ e)=>sc P k e
  |_=>false
theorem yk{a a' b b':Addr}(h:bR ρ a a')(k:bR ρ b b')(e:a=b):a'=b':=by
 subst e;obtain⟨d,h1,h2,L⟩:=h;obtain⟨d',k1,k2,J⟩:=k;rw[h1] at k1;obtain⟨p,q,r⟩:=a';obtain⟨I,H,E⟩:=b'
 simp_all
theorem g_{b c d:Nat}(hb:ρ b=some (c,d)):
  ai P Q S CO Sh ρ (λ_ o o'=>o.isSome=o'.isSome/\(b<P.globals.size\/c<P.globals.size->o=o')/\(o=none->d=0)/\((d=0/\o=o')\/∃e n,o=some (e,n)/\P.info? e=none)) (shape b) (shape c):=by
 intro v w hw;unfold shape;refine⟨gP.refl _,rfl,λ_ _=>rfl,λ_=>⟨ρ,_,w,rfl,Ext.refl hw,?_,λe he=>by simp only[Sem.events,Sem.runT] at he;simp at he⟩⟩;by_cases hs:Sh b
 ·obtain⟨xs,e,hi,ys,e',fr,k1,_,k2,_⟩:=hw.sh _ _ _ hb hs;refine⟨by simp[World.shape?,k1,k2],λhg=>(hw.cz _ _ _ hb hg).2.2 hs,λhn=>?_,hw.Bv _ _ _ hb hs⟩;simp[World.shape?,k1] at hn
 ·obtain⟨rfl,o,o',k1,k2,p⟩:=hw.own _ _ _ hb hs;have:v.shape? b=w.shape? c:=by
   unfold World.shape?;rw[k1,k2];cases p with
   |cells xs ys e fr h=>simp only[h.1]
   |_=>rfl
  simp_all
theorem ue{b c d:Nat}(hb:ρ b=some (c,d)):ai P Q S CO Sh ρ (λ_ o o'=>o=none/\o'=none) (viewAt b) (viewAt c):=by
 unfold viewAt;refine(g_ hb).bind λσ o o' hle ho=>?_
 obtain⟨h1,_,I,_⟩:=ho;cases o with
 |some p=>
  cases o' with
  |none=>cases h1
  |some H=>exact ai.pure ⟨rfl,rfl⟩
 |none=>
  cases o' with
  |some H=>cases h1
  |none=>
   have:=I rfl;subst this;refine(dN (hle _ _ hb)).bind λτ x y _ E=>?_
   obtain⟨E,_,J⟩:=E;cases E with
   |cells xs ys e fr h=>simp_all
   |_=>exact ai.pure ⟨rfl,rfl⟩
theorem px{b c d:Nat}(hb:ρ b=some (c,d)):
  ai P Q S CO Sh ρ (λσ o o'=>(o=none/\o'=none)\/∃a a' l,o=some (a,l)/\o'=some (a',l)/\bR σ a a') (numberAt b) (numberAt c):=by
 unfold numberAt;refine(g_ hb).bind λσ o o' hle ho=>?_
 obtain⟨h1,_,I,_⟩:=ho;cases o with
 |some p=>
  cases o' with
  |none=>cases h1
  |some H=>exact ai.pure (.inl ⟨rfl,rfl⟩)
 |none=>
  cases o' with
  |some H=>cases h1
  |none=>
   have:=I rfl;subst this;refine(dN (hle _ _ hb)).bind λτ x y _ E=>?_
   obtain⟨E,_,J⟩:=E;cases E with
   |cells xs ys e fr h=>simp_all
   |number a a' l h=>exact ai.pure (.inr ⟨a,a',l,rfl,rfl,h⟩)
   |_=>exact ai.pure (.inl ⟨rfl,rfl⟩)
theorem bP{a a':Addr}(h:bR ρ a a'):ai P Q S CO Sh ρ (λσ p q=>bR σ p.1 q.1/\p.2=q.2) (behindNumber a) (behindNumber a'):=by
 unfold behindNumber;have h':=h;obtain⟨d,h1,h2⟩:=h;refine(px h1).bind λσ o o' hle ho=>?_
 rcases ho with ⟨rfl,rfl⟩|⟨x,x',l,rfl,rfl,hx⟩
 ·exact ai.pure ⟨h'.mono hle,rfl⟩
 ·exact ai.pure ⟨hx,rfl⟩
theorem k_{a a':Addr}(h:bR ρ a a')(he:a=a')(hg:a.block<P.globals.size):ai P Q S CO Sh ρ (λ_ p q=>p=q) (byteOf a) (byteOf a'):=by
 subst he;obtain⟨d,h1,h2,_⟩:=h;unfold byteOf;cases hs:a.spot with
 |some s=>exact ai.pure rfl
 |none=>
  simp only;refine cQ.bind λσ p q hle J=>?_
  obtain⟨H,E⟩:=J;rw[H,E];simp only[Twin.cellsOf P Q,Twin.bytesOf P Q,Twin.byteOfCell P Q,Twin.depth P Q];unfold noView;refine ai.bind (A:=λ_ _ _=>True) ?_ λI _ _ L _=>?_
  ·refine(ue (hle _ _ h1)).bind λτ o o' _ ho=>?_
   obtain⟨rfl,rfl⟩:=ho;exact ai.pure trivial
  ·refine(g_ (L _ _ (hle _ _ h1))).bind λτ o o' M ho=>?_
   have:=ho.2.1 (.inl hg);subst this;cases o with
   |none=>exact ai.aw (ah _)
   |some p=>
    obtain⟨e,n⟩:=p;simp only;split
    ·exact ai.pure rfl
    ·split
     ·exact ai.pure rfl
     ·exact ai.aw (ah _)
theorem Bj(d:Nat):∀ {ρ:Ren} (k:Nat) (t:TypeId) (_:sc P k t=true) {x x' y I:Value} (_:aI S ρ x x') (_:aI S ρ y I),
  ai P Q S CO Sh ρ (λ_ a b=>a=b) (Op.equalIn d t x y) (Op.equalIn d t x' I):=by
 induction d with
 |zero=>intro ρ k t _ x x' y I _ _;exact ai.aw (an (by simp))
 |succ d ih=>
  intro ρ k t hk x x' y I hx hy;unfold Op.equalIn;refine(aA t).bind λσ u u' hle hu=>?_
  obtain⟨rfl,hu⟩:=hu;cases k with
  |zero=>cases hk
  |succ k=>
  unfold sc at hk;rw[hu] at hk;have hx:=hx.mono hle;have hy:=hy.mono hle;cases u with
  |bool=>
   cases hx <;>first|exact ai.aw (ah _)|(cases hy <;>first|exact ai.pure rfl|exact ai.aw (ah _))
  |string=>
   cases hx <;>first|exact ai.aw (ah _)|(cases hy <;>first|exact ai.pure rfl|exact ai.aw (ah _))
  |slice e=>
   cases hx <;>first|exact ai.aw (ah _)|(cases hy <;>first|exact ai.pure rfl|exact ai.aw (ah _))
  |int ik=>
   cases hx with
   |int k1 a=>
    cases hy with
    |int k2 b=>
     simp only;by_cases qO:k1=k2
     ·rw[aay qO];exact ai.pure rfl
     ·rw[aat qO];exact ai.aw (ah _)
    |ptr b c dd off spot h=>
     by_cases ha:a=0
     ·subst ha;exact ai.pure rfl
     ·refine ai.aw ?_;simp only;split
      all_goals first
       |exact an (by simp)
       |(exfalso;simp_all;done)
    |_=>first|exact ai.aw (ah _)|exact ai.aw (an (by simp))
   |ptr b c dd off spot h=>
    cases hy with
    |int k2 m=>
     by_cases ha:m=0
     ·subst ha;exact ai.pure rfl
     ·refine ai.aw ?_;simp only;split
      all_goals first
       |exact an (by simp)
       |(exfalso;simp_all;done)
    |ptr b2 c2 dd2 rq lg yx=>
     have h1:bR σ ⟨b,off,spot⟩ ⟨c,off+dd,spot⟩:=⟨dd,h,rfl,rfl⟩
     have h2:bR σ ⟨b2,rq,lg⟩ ⟨c2,rq+dd2,lg⟩:=⟨dd2,yx,rfl,rfl⟩
     refine(bP h1).bind λτ p q KG iJ=>?_
     refine(bP (h2.mono KG)).bind λυ p2 q2 du agy=>?_
     refine cQ.bind λY pp qq N hPP=>?_
     obtain⟨hp,hq⟩:=hPP;rw[hp,hq,Twin.globals P Q];obtain⟨a1,l1⟩:=p;obtain⟨H,l1'⟩:=q;obtain⟨a2,l2⟩:=p2;obtain⟨O,l2'⟩:=q2;have W:=iJ.1.mono (Ren.le_trans du N);have U:=agy.1.mono N;refine ai.fact (F:=∀b c d,Y b=some (c,d)->b<P.globals.size\/c<P.globals.size->b=c/\d=0) (λv w hw b c d e hg=>⟨(hw.cz b c d e hg).1,(hw.cz b c d e hg).2.1⟩) λEP=>?_
     simp only at W U ⊢;by_cases hc:a1.block=a2.block/\a1.block<P.globals.size
     ·have EC:∀x x':Addr,bR Y x x'->x.block<P.globals.size->x=x':=by
       rintro⟨xb,xo,xs⟩ ⟨yb,yo,ys⟩ ⟨dx,f1,f2,f3⟩ hg
       grind
      have e1:=EC _ _ W hc.2;have e2:=EC _ _ U (hc.1▸hc.2);subst e1 e2;rw[aay (c:=(a1.block==a2.block&&decide (a1.block<P.globals.size))=true) (by simpa using hc)];refine(k_ W rfl hc.2).bind λZ x x' M L=>?_
      subst L;refine(k_ (U.mono M) rfl (hc.1▸hc.2)).bind λψ y I _ Rn=>?_
      subst Rn;exact ai.pure rfl
     ·have dK:¬(H.block=O.block/\H.block<P.globals.size):=by
       rintro⟨e,hg⟩;obtain⟨d1,f1,_⟩:=W;obtain⟨d2,f2,_⟩:=U
       grind
      rw[aat (c:=(a1.block==a2.block&&decide (a1.block<P.globals.size))=true) (by simpa using hc),aat (c:=(H.block==O.block&&decide (H.block<P.globals.size))=true) (by grind)];refine(dY t).bind λZ x x' M L=>?_
      obtain⟨rfl,_⟩:=L;split
      ·by_cases E:a1=a2
       ·have:=yk W U E;rw[aay (by grind),aay (by grind)];exact ai.pure rfl
       ·rw[aat (by grind)];exact ai.aw (an (by simp))
      ·exact ai.aw (an (by simp))
    |_=>first|exact ai.aw (ah _)|exact ai.aw (an (by simp))
   |_=>
    cases hy <;>first|exact ai.aw (ah _)|exact ai.aw (an (by simp))
  |struct fs=>
   cases hx with
   |agg xs C0 yS Es=>
    cases hy with
    |agg ys ys' Af J=>
     have hX:AR S σ xs C0:=⟨yS,Es⟩
     have hY:AR S σ ys ys':=⟨Af,J⟩
     refine cQ.bind λY p q N iJ=>?_
     obtain⟨hp,hq⟩:=iJ;rw[hp,hq,Twin.stoodInHeld P Q];have EN:∀f∈fs.toList,sc P k f.type=true:=by
      intro f hf;simp only[ads] at hk
      simp_all
     by_cases bH:P.stoodInHeld t=true
     ·rw[aay bH];exact ai.aw (bC.bind (an (by simp)))
     ·rw[aat bH,aat bH,<-Array.forIn_toList,<-Array.forIn_toList];refine ai.bind (mz _ (λ_ (a b:Option Bool×Unit)=>a=b) _ _ ?_ rfl) λτ a b _ E=>?_
      ·intro f τ a b hf M E;subst E;have hl:=Ren.le_trans N M;by_cases hn:f.name≠ "_"
       ·rw[aay hn,aay hn];refine(gK f.type (hX.mono hl) f.offset).bind λυ x x' mN hx=>?_
        refine(gK f.type ((hY.mono hl).mono mN) f.offset).bind λZ y I EM hy=>?_
        refine(ih k f.type (EN f hf) (hx.mono EM) hy).bind λψ r r' _ hr=>?_
        subst hr;cases r
        ·exact ai.pure (.inl ⟨_,_,rfl,rfl,rfl⟩)
        ·exact ai.pure (.inr ⟨_,_,rfl,rfl,rfl⟩)
       ·rw[aat hn,aat hn];exact ai.pure (.inr ⟨_,_,rfl,rfl,rfl⟩)
      ·subst E;obtain⟨r,u⟩:=a;cases r <;>exact ai.pure rfl
    |_=>exact ai.aw (ah _)
   |_=>exact ai.aw (ah _)
  |array n e=>
   cases hx with
   |agg xs C0 yS Es=>
    cases hy with
    |agg ys ys' Af J=>
     have hX:AR S σ xs C0:=⟨yS,Es⟩
     have hY:AR S σ ys ys':=⟨Af,J⟩
     refine(bM e).bind λY m m' N hm=>?_
     obtain⟨rfl,_⟩:=hm;simp only[aeL];refine ai.bind (mz _ (λ_ (a b:Option Bool×Unit)=>a=b) _ _ ?_ rfl) λτ a b _ E=>?_
     ·intro i τ a b _ M E;subst E;have hl:=Ren.le_trans N M;refine(gK e (hX.mono hl) _).bind λυ x x' mN hx=>?_
      refine(gK e ((hY.mono hl).mono mN) _).bind λZ y I EM hy=>?_
      refine(ih k e hk (hx.mono EM) hy).bind λψ r r' _ hr=>?_
      subst hr;cases r
      ·exact ai.pure (.inl ⟨_,_,rfl,rfl,rfl⟩)
      ·exact ai.pure (.inr ⟨_,_,rfl,rfl,rfl⟩)
     ·subst E;obtain⟨r,u⟩:=a;cases r <;>exact ai.pure rfl
    |_=>exact ai.aw (ah _)
   |_=>exact ai.aw (ah _)
  |_=>cases hk
end
def aeS:=@Nat.add_zero
def aaS:=@Go.Sem.run_pure
section
variable{P Q:Program}[Twin P Q]{S:FuncId->Prop}{CO:Code->Prop}{Sh:Nat->Prop}{ρ:Ren}
theorem gZ(ts:Array TypeId)(t:TypeId){x x' y J:Value}(hx:aI S ρ x x')(hy:aI S ρ y J):
  ai P Q S CO Sh ρ (VR S) (Builtin.unsafeAdd_ ts t #[x,y]) (Builtin.unsafeAdd_ ts t #[x',J]):=by
 unfold Builtin.unsafeAdd_;cases hx with
 |jD=>
  refine(iO hy).bind λσ n M hle hn=>?_
  subst hn;by_cases h0:n=0
  ·simp only[aay h0];exact ai.aw (bC.bind (an (by simp)))
  ·simp only[aat h0];by_cases E:n<0
   ·simp only[aay E];exact ai.aw (bC.bind (an (by simp)))
   ·simp only[aat E];exact ai.aw (an (by simp))
 |ptr b c d off spot h1=>
  refine(iO hy).bind λσ n M hle hn=>?_
  subst hn;by_cases h0:n=0
  ·simp only[aay h0];refine(ue (hle _ _ h1)).bind λτ r L H hr=>?_
   obtain⟨rfl,rfl⟩:=hr;exact ai.pure (.ptr b c d off spot (H _ _ (hle _ _ h1)))
  ·simp only[aat h0];by_cases E:n<0
   ·simp only[aay E];exact ai.aw (bC.bind (an (by simp)))
   ·simp only[aat E];refine(g_ (hle _ _ h1)).bind λτ r L H hr=>?_
    obtain⟨hs,_,_,hr⟩:=hr;rcases hr with ⟨rfl,rfl⟩|⟨e,m,rfl,hi⟩
    ·cases r with
     |none=>exact ai.aw (an (by simp))
     |some q=>
      obtain⟨e,m⟩:=q;refine cQ.bind λW p q I N=>?_
      obtain⟨hp,hq⟩:=N;rw[hp,hq,Twin.cellAtBytes P Q,Twin.depth P Q,Twin.cellsOf P Q];simp only[aeS];cases O:cellAtBytes P P.depth e (m/P.cellsOf e) off n with
      |some U=>exact ai.pure (.ptr b c 0 U spot (I _ _ (H _ _ (hle _ _ h1))))
      |none=>exact ai.aw (an (by simp))
    ·cases L with
     |none=>cases hs
     |some q=>
      refine ai.aw (λv=>⟨.unsupported (.unsafePointer "Add"),v,?_,trivial,id⟩);have:P.cellsOf e=0:=by simp[Program.cellsOf,hi]
      simp[program,Sem.run,cellAtBytes,this,unsupported]
 |_=>exact ai.aw (ah _)
theorem yE{a a':Addr}(h:bR ρ a a')(l:Bool):ai P Q S CO Sh ρ (VR S) (asNumber a l) (asNumber a' l):=by
 unfold asNumber;exact(gL (.number a a' l h)).bind λσ r p hle hr=>ai.pure (.ptr r p 0 0 none hr.1)
theorem dq (t : TypeId) {x x' y E : Value} (hx : aI S ρ x x') (hy : aI S ρ y E) : ai P Q S CO Sh ρ (VR S) (movedNumber t x y) (movedNumber t x' E) := by
  unfold movedNumber
  refine (aA t).bind fun σ u M hle hu => ?_
  obtain ⟨rfl, _⟩ := hu
  have hx := hx.mono hle
  have hy := hy.mono hle
  have key : ai P Q S CO Sh σ (VR S)
      (do let .pointer (some n) := x | Builtin.unsafeAdd_ #[] t #[x, y]
          let (a, lost) <- behindNumber n
          match <- Builtin.unsafeAdd_ #[] t #[.pointer (some a), y] with
          | .pointer (some b) => asNumber b lost
          | v => Pure.pure v)
      (do let .pointer (some n) := x' | Builtin.unsafeAdd_ #[] t #[x', E]
          let (a, lost) <- behindNumber n
          match <- Builtin.unsafeAdd_ #[] t #[.pointer (some a), E] with
          | .pointer (some b) => asNumber b lost
          | v => Pure.pure v) := by
    cases hx with
    | ptr b c d off spot h1 =>
      refine (bP (a := ⟨b, off, spot⟩) (a' := ⟨c, off + d, spot⟩) ⟨d, h1, rfl, rfl⟩).bind fun τ p q I H => ?_
      obtain ⟨a, l⟩ := p
      obtain ⟨a', l'⟩ := q
      obtain ⟨ha, hl⟩ := H
      simp only at ha hl ⊢
      subst hl
      refine (gZ _ _ ha.ptr (hy.mono I)).bind fun L r N J hr => ?_
      cases hr with
      | ptr b c d off spot h1 => exact yE (a := ⟨b, off, spot⟩) (a' := ⟨c, off + d, spot⟩) ⟨d, h1, rfl, rfl⟩ l
      | _ => exact ai.pure (by constructor <;> assumption)
    | _ => exact gZ _ _ (by constructor <;> assumption) hy
  cases u <;> first | exact key | exact ai.aw (bC.bind (an (by simp)))
theorem kZ(t:TypeId){x x' y p:Value}(hx:aI S ρ x x')(hy:aI S ρ y p):ai P Q S CO Sh ρ (VR S) (movedPointer t x y) (movedPointer t x' p):=by
 unfold movedPointer;cases hx with
 |ptr b c d off spot h1=>
  refine(px h1).bind λσ o o' hle ho=>?_
  rcases ho with ⟨rfl,rfl⟩|⟨a,a',l,rfl,rfl,ha⟩
  ·exact gZ #[] t (.ptr b c d off spot (hle _ _ h1)) (hy.mono hle)
  ·exact ai.aw (bC.bind (an (by simp)))
 |_=>exact gZ #[] t (by constructor <;>assumption) hy
theorem nK{a a' b b':Addr}(ha:bR ρ a a')(hb:bR ρ b b'):ai P Q S CO Sh ρ (λ_ p q=>p=q) (Op.twoPlaces a b) (Op.twoPlaces a' b'):=by
 unfold Op.twoPlaces;refine cQ.bind λσ p q hle I=>?_
 obtain⟨hp,hq⟩:=I;rw[hp,hq,Twin.globals P Q];have ha:=ha.mono hle;have hb:=hb.mono hle;refine ai.fact (F:=∀b c d,σ b=some (c,d)->b<P.globals.size\/c<P.globals.size->b=c/\d=0) (λv w hw b c d e hg=>⟨(hw.cz b c d e hg).1,(hw.cz b c d e hg).2.1⟩) λEP=>?_
 have H:∀x x':Addr,bR σ x x'->x.block<P.globals.size->x=x':=by
  rintro⟨Z,Y,xs⟩ ⟨U,O,ys⟩ ⟨dx,f1,f2,f3⟩ hg
  grind
 by_cases hc:(a.block !=b.block||decide (a.block>=P.globals.size))=true
 ·rw[aay hc];exact ai.aw (bC.bind (an (by simp)))
 ·have E:a.block=b.block/\a.block<P.globals.size:=by simpa using hc
  have L:=H _ _ ha E.2;have J:=H _ _ hb (E.1▸E.2);subst L J;rw[aat hc];refine(k_ ha rfl E.2).bind λτ x x' M hx=>?_
  subst hx;refine(k_ (hb.mono M) rfl (E.1▸E.2)).bind λN y W _ hy=>?_
  subst hy;exact ai.pure rfl
theorem Bq(k:IntKind){a a' b b':Addr}(ha:bR ρ a a')(hb:bR ρ b b'):ai P Q S CO Sh ρ (VR S) (Op.addrSub k a b) (Op.addrSub k a' b'):=by
 unfold Op.addrSub;refine(nK ha hb).bind λσ p q hle E=>?_
 subst E;exact ai.pure (.int _ _)
theorem Br(op:BinOp){a a' b b':Addr}(ha:bR ρ a a')(hb:bR ρ b b'):ai P Q S CO Sh ρ (VR S) (Op.addrCmp op a b) (Op.addrCmp op a' b'):=by
 unfold Op.addrCmp;refine(nK ha hb).bind λσ p q hle E=>?_
 subst E;cases op <;>first|exact ai.pure (.bool _)|exact ai.aw (an (by simp))
theorem sZ{u:World}{b:Nat}{q:TypeId×Nat}(h:u.shape? b=some q):(viewAt b).run P u=.ok none u/\∀es,(viewAt b).events P u es=es:=by
 constructor
 ·simp[viewAt,shape,Sem.run,h]
 ·intro es;have hr:(shape b).run P u=.ok (some q) u:=by rw[<-h];rfl
  unfold viewAt
  simp_all
def iW(P:Program)(a:Addr)(e:TypeId):Sem Nat:=
 match a.spot with
 |some s=>Pure.pure s
 |none=>if P.cellsOf e=0 then Pure.pure 0 else match byteOfCell P P.depth e (a.off%P.cellsOf e) with
  |some b=>Pure.pure (a.off/P.cellsOf e*P.bytesOf e+b)
  |none=>stuck "byteOf: no such cell"
theorem mV{u:World}{a:Addr}{e:TypeId}{n:Nat}(h:u.shape? a.block=some (e,n)):(byteOf a).run P u=(iW P a e).run P u/\∀es,(byteOf a).events P u es=es:=by
 obtain⟨h1,h2⟩:=sZ (P:=P) h;unfold byteOf iW;cases hs:a.spot with
 |some s=>simp_all
 |none=>
  constructor
  ·have hr:(shape a.block).run P u=.ok (some (e,n)) u:=by rw[<-h];rfl
   have hp:program.run P u=.ok P u:=rfl;simp only[noView,aaw,h1,hr,hp,aas,agK,abX,ab3,aaS]
   grind
  ·intro es;have hr:(shape a.block).run P u=.ok (some (e,n)) u:=by rw[<-h];rfl
   have hp:program.run P u=.ok P u:=rfl;simp only[noView,aej,aaw,h1,h2,hr,hp,aas,aeN,events_program,events_shape,agK,abX,ab3,Sem.events_pure,aaS];by_cases hc:P.cellsOf e=0
   ·simp_all
   ·rw[aat hc];cases byteOfCell P P.depth e (a.off%P.cellsOf e) <;>rfl
theorem mA(k:IntKind)(n:Int){a a':Addr}(ha:bR ρ a a'):ai P Q S CO Sh ρ (VR S) (Op.addrMod k a n) (Op.addrMod k a' n):=by
 obtain⟨d,h1,h2,W⟩:=ha;intro v w hw;have p:(d=0/\v.shape? a.block=w.shape? a'.block)\/∃e n,v.shape? a.block=some (e,n)/\P.info? e=none:=by
  by_cases hs:Sh a.block
  ·exact hw.Bv _ _ _ h1 hs
  ·obtain⟨rfl,o,o',k1,k2,U⟩:=hw.own _ _ _ h1 hs;refine .inl ⟨rfl,?_⟩;unfold World.shape?;rw[k1,k2];cases U with
   |cells xs ys e fr h=>simp only[h.1]
   |_=>rfl
 rcases p with ⟨rfl,p⟩|⟨e,m,p,hi⟩
 ·cases hv:v.shape? a.block with
  |none=>
   have:(Op.addrMod k a n).run P v=.halt (.unsupported .addressObserved) v:=by simp[Op.addrMod,shape,Sem.run,hv,unsupported]
   rw[this];exact⟨trivial,id⟩
  |some q=>
   obtain⟨e,m⟩:=q;have L:w.shape? a'.block=some (e,m):=p▸hv;cases hi:P.info? e with
   |none=>
    have:(Op.addrMod k a n).run P v=.halt (.stuck "no such type") v:=by simp[Op.addrMod,shape,Sem.run,hv,typeInfo,program,hi,stuck]
    rw[this];exact⟨trivial,id⟩
   |some i=>
    obtain⟨b1,_⟩:=mV (P:=P) (a:=a) hv;obtain⟨b2,b3⟩:=mV (P:=Q) (a:=a') L;have H:∀u:World,(typeInfo e).run Q u=.ok i u:=λu=>by simp[typeInfo,Twin.info P Q,program,Sem.run,hi]
    have J:∀u:World,(iW Q a' e).run Q u=(iW P a' e).run P u:=by
     intro u;unfold iW;rw[Twin.cellsOf P Q,Twin.bytesOf P Q,Twin.byteOfCell P Q,Twin.depth P Q];cases a'.spot with
     |some s=>rfl
     |none=>
      simp only;by_cases hc:P.cellsOf e=0
      ·simp_all
      ·rw[aat hc];cases byteOfCell P P.depth e (a'.off%P.cellsOf e) <;>rfl
    have M:∀u:World,(typeInfo e).run P u=.ok i u:=λu=>by simp[typeInfo,program,Sem.run,hi]
    have N:∀u:World,(iW P a' e).run P u=match(iW P a e).run P v with| .ok x _=>.ok x u| .halt x _=>.halt x u:=by
     intro u;have Z:a'.off=a.off:=h2;unfold iW;rw[W,Z];cases a.spot with
     |some s=>rfl
     |none=>
      simp only;by_cases hc:P.cellsOf e=0
      ·simp_all
      ·rw[aat hc];cases byteOfCell P P.depth e (a.off%P.cellsOf e) <;>rfl
    have I:(∃x,(iW P a e).run P v=.ok x v)\/∃s,(iW P a e).run P v=.halt (.stuck s) v:=by
     unfold iW;cases a.spot with
     |some s=>simp_all
     |none=>
      simp only;by_cases hc:P.cellsOf e=0
      ·simp_all
      ·rw[aat hc];cases byteOfCell P P.depth e (a.off%P.cellsOf e) with
       |none=>simp_all
       |some x=>simp_all
    by_cases Y:(decide (n<1)||decide (n.toNat>i.align)||i.align%n.toNat !=0)=true
    ·have:(Op.addrMod k a n).run P v=.halt (.unsupported .addressObserved) v:=by
      simp only[Op.addrMod,aaw,shape,Sem.run,hv,M,aas]
      simp_all
     rw[this];exact⟨trivial,id⟩
    ·rcases I with ⟨x,hx⟩|⟨s,hx⟩
     ·have r0:∀t:Nat->Question->Nat,(Op.addrMod k a n).run P { v with tape:=t } =.ok (.int k ((x%n.toNat:Nat))) { v with tape:=t } :=by
       intro t;have E:World.shape? { v with tape:=t } a.block=some (e,m):=hv;obtain⟨b4,_⟩:=mV (P:=P) (a:=a) E;have VW:(iW P a e).run P { v with tape:=t } =.ok x { v with tape:=t } :=by
        have:=N { v with tape:=t }
        revert hx
        unfold iW;cases a.spot with
        |some s=>simp_all
        |none=>
         simp only;by_cases hc:P.cellsOf e=0
         ·simp_all
         ·rw[aat hc];cases byteOfCell P P.depth e (a.off%P.cellsOf e) with
          |none=>intro hx;cases hx
          |some y=>simp_all
       simp only[Op.addrMod,aaw,shape,Sem.run,E,M,aas]
       simp_all
      have r1:(Op.addrMod k a n).run P v=.ok (.int k ((x%n.toNat:Nat))) v:=by
       simp_all
      have O:(Op.addrMod k a' n).run Q w=.ok (.int k ((x%n.toNat:Nat))) w:=by
       simp only[Op.addrMod,aaw,shape,Sem.run,L,H,aas]
       simp_all
      rw[r1];refine⟨gP.refl _,rfl,λt _=>r0 t,λ_=>⟨ρ,_,w,O,Ext.refl hw,.int _ _,λev he=>?_⟩⟩;simp only[Op.addrMod,aej,events_typeInfo,shape,Sem.run,L,H,aeN] at he;rw[aat Y] at he;simp only[aej,b2,b3,J w,N w,hx,aeN,Sem.events_pure] at he;exact absurd he (Array.not_mem_empty _)
     ·have r1:(Op.addrMod k a n).run P v=.halt (.stuck s) v:=by
       simp only[Op.addrMod,aaw,shape,Sem.run,hv,M,aas]
       simp_all
      rw[r1];exact⟨trivial,id⟩
 ·have:(Op.addrMod k a n).run P v=.halt (.stuck "no such type") v:=by simp[Op.addrMod,shape,Sem.run,p,typeInfo,program,hi,stuck]
  rw[this];exact⟨trivial,id⟩
end
section
variable{P Q:Program}[Twin P Q]{S:FuncId->Prop}{CO:Code->Prop}{Sh:Nat->Prop}{ρ:Ren}
theorem pz(op:BinOp)(k:IntKind)(x y:Int):ai P Q S CO Sh ρ (VR S) (Op.intArith op k x y) (Op.intArith op k x y):=by
 unfold Op.intArith;cases op <;>first|exact ai.pure (.int _ _)|exact ai.aw (ah _)
theorem DG(op:BinOp)(k:IntKind)(x y:Int):ai P Q S CO Sh ρ (VR S) (Op.intDiv op k x y) (Op.intDiv op k x y):=by
 unfold Op.intDiv;by_cases h:y=0
 ·rw[aay h];exact ai.aw (aT _)
 ·rw[aat h];cases op <;>first|exact ai.pure (.int _ _)|exact ai.aw (ah _)
theorem re(op:BinOp)(k:IntKind)(x y:Int):ai P Q S CO Sh ρ (VR S) (Op.intBits op k x y) (Op.intBits op k x y):=by
 unfold Op.intBits;cases op <;>first|exact ai.pure (.int _ _)|exact ai.aw (ah _)
theorem DH(op:BinOp)(x y:Int):ai P Q S CO Sh ρ (VR S) (Op.intCmp op x y) (Op.intCmp op x y):=by
 unfold Op.intCmp;cases op <;>first|exact ai.pure (.bool _)|exact ai.aw (ah _)
theorem wx(op:BinOp)(k:IntKind)(x:Int)(k':IntKind)(y:Int):ai P Q S CO Sh ρ (VR S) (Op.shift op k x k' y) (Op.shift op k x k' y):=by
 unfold Op.shift;by_cases h:y<0
 ·rw[aay h];exact ai.aw (aT _)
 ·rw[aat h];cases op <;>first|exact ai.pure (.int _ _)|exact ai.aw (ah _)
theorem lJ (op : BinOp) (x y : ByteArray) : ai P Q S CO Sh ρ (VR S) (Op.stringOp op x y) (Op.stringOp op x y) := by
  unfold Op.stringOp
  cases op <;> first
    | exact ai.pure (.bool _)
    | exact ai.aw (ah _)
    | (simp only; split
       · exact ai.aw (an (by simp))
       · exact ai.pure (.string _))
set_option maxHeartbeats 1000000 in
theorem Bl (op : BinOp) (t : TypeId) (x y : Operand) (ht : P.eqGuardType P.depth t = false) {a a' b b' : Value} (ha : aI S ρ a a') (hb : aI S ρ b b') :
    ai P Q S CO Sh ρ (fun _ _ _ => True) (eqGuard op t x y a b) (eqGuard op t x y a' b') := by
  have W : ∀ {σ : Ren}, ai P Q S CO Sh σ (fun _ _ _ => True) (eqGuard op t x y .nilIface .nilIface) (eqGuard op t x y .nilIface .nilIface) := by
    intro σ
    unfold eqGuard
    have U : ai P Q S CO Sh σ (fun _ p q => p = q) (Op.eqGuardIn Op.maxDepth t .nilIface .nilIface) (Op.eqGuardIn Op.maxDepth t .nilIface .nilIface) := by
      unfold Op.maxDepth Op.eqGuardIn
      refine (aA t).bind fun τ d d' _ hd => ?_
      obtain ⟨rfl, _⟩ := hd
      cases d <;> exact ai.pure rfl
    have L : ai P Q S CO Sh σ (fun _ _ _ => True)
        (do if <- Op.eqGuardIn Op.maxDepth t .nilIface .nilIface then unsupported (.noEntry "binop/eql: two nil values of an interface type with methods, neither of them the literal nil") : Sem Unit)
        (do if <- Op.eqGuardIn Op.maxDepth t .nilIface .nilIface then unsupported (.noEntry "binop/eql: two nil values of an interface type with methods, neither of them the literal nil") : Sem Unit) := by
      refine U.bind fun τ p q _ E => ?_
      subst E
      cases p
      · exact ai.pure trivial
      · exact ai.aw (an (by simp))
    have hc : ∀ c : Bool, ai P Q S CO Sh σ (fun _ _ _ => True)
        (do if c then return
            if <- Op.eqGuardIn Op.maxDepth t .nilIface .nilIface then unsupported (.noEntry "binop/eql: two nil values of an interface type with methods, neither of them the literal nil") : Sem Unit)
        (do if c then return
            if <- Op.eqGuardIn Op.maxDepth t .nilIface .nilIface then unsupported (.noEntry "binop/eql: two nil values of an interface type with methods, neither of them the literal nil") : Sem Unit) := by
      intro c
      cases c
      · exact L
      · exact ai.pure trivial
    have H : ∀ c : Bool, ai P Q S CO Sh σ (fun _ _ _ => True)
        (do if c then return
            if (x matches .const _) || (y matches .const _) then return
            if <- Op.eqGuardIn Op.maxDepth t .nilIface .nilIface then unsupported (.noEntry "binop/eql: two nil values of an interface type with methods, neither of them the literal nil") : Sem Unit)
        (do if c then return
            if (x matches .const _) || (y matches .const _) then return
            if <- Op.eqGuardIn Op.maxDepth t .nilIface .nilIface then unsupported (.noEntry "binop/eql: two nil values of an interface type with methods, neither of them the literal nil") : Sem Unit) := by
      intro c
      cases c
      · exact hc _
      · exact ai.pure trivial
    exact H _
  have O : ∀ {xs ys us vs : Array Value} {σ : Ren}, ai P Q S CO Sh σ (fun _ _ _ => True) (eqGuard op t x y (.agg xs) (.agg ys)) (eqGuard op t x y (.agg us) (.agg vs)) := by
    intro xs ys us vs σ
    unfold eqGuard
    have H : ∀ c : Bool, ai P Q S CO Sh σ (fun _ _ _ => True)
        (do if c then return
            if !(<- program).eqGuardType (<- program).depth t then return
            if <- Op.eqGuardIn Op.maxDepth t (.agg xs) (.agg ys) then unsupported (.noEntry "binop/eql: two nil values of an interface type with methods, in a part of a struct or an array") : Sem Unit)
        (do if c then return
            if !(<- program).eqGuardType (<- program).depth t then return
            if <- Op.eqGuardIn Op.maxDepth t (.agg us) (.agg vs) then unsupported (.noEntry "binop/eql: two nil values of an interface type with methods, in a part of a struct or an array") : Sem Unit) := by
      intro c
      cases c
      · refine cQ.bind fun τ p q _ E => ?_
        obtain ⟨hp, hq⟩ := E
        refine cQ.bind fun τ Z Y _ E => ?_
        obtain ⟨J, I⟩ := E
        rw [hp, hq, J, I, Twin.eqGuardType P Q, Twin.depth P Q, ht]
        exact ai.pure trivial
      · exact ai.pure trivial
    exact H _
  have L : ∀ {σ : Ren} (a a' b b' : Value), ¬ (a = .nilIface /\ b = .nilIface) -> ¬ (∃ xs ys, a = .agg xs /\ b = .agg ys) -> ¬ (a' = .nilIface /\ b' = .nilIface) -> ¬ (∃ xs ys, a' = .agg xs /\ b' = .agg ys) ->
      ai P Q S CO Sh σ (fun _ _ _ => True) (eqGuard op t x y a b) (eqGuard op t x y a' b') := by
    intro σ a a' b b' h1 h2 N M
    have e : ∀ a b : Value, ¬ (a = .nilIface /\ b = .nilIface) -> ¬ (∃ xs ys, a = .agg xs /\ b = .agg ys) -> eqGuard op t x y a b = Pure.pure () := by
      intro a b h1 h2
      unfold eqGuard
      simp_all
    rw [e a b h1 h2, e a' b' N M]
    exact ai.pure trivial
  have n1 : ∀ {a a' : Value}, aI S ρ a a' -> (a = .nilIface ↔ a' = .nilIface) := fun h => by cases h <;> simp
  have n2 : ∀ {a a' : Value}, aI S ρ a a' -> ((∃ xs, a = .agg xs) ↔ ∃ xs, a' = .agg xs) := fun h => by cases h <;> simp
  grind
end
section
variable{P Q:Program}[Twin P Q]{S:FuncId->Prop}{CO:Code->Prop}{Sh:Nat->Prop}{ρ:Ren}
theorem pW(t:TypeId)(k:Nat)(E:sc P k t=true){x x' y p:Value}(hx:aI S ρ x x')(hy:aI S ρ y p):
  ai P Q S CO Sh ρ (λ_ a b=>a=b) (Op.equal t x y) (Op.equal t x' p):=Bj _ k t E hx hy
def jf:Value->Value->Nat
 | .int _ _,.int _ _=>1
 | .string _,.string _=>2
 | .float _ _,.float _ _=>3
 | .complex _ _ _,.complex _ _ _=>3
 |_,_=>0
theorem binOp_eql(t:TypeId)(x y:Value)(h:jf x y=0):binOp .eql t x y=(do Pure.pure (.bool (<-Op.equal t x y))):=by
 cases x <;>cases y <;>first|rfl|cases h
theorem binOp_neq(t:TypeId)(x y:Value)(h:jf x y=0):binOp .neq t x y=(do Pure.pure (.bool (!(<-Op.equal t x y)))):=by
 cases x <;>cases y <;>first|rfl|cases h
theorem BQ{x x' y p:Value}(hx:aI S ρ x x')(hy:aI S ρ y p):jf x' p=jf x y:=by
 cases hx <;>cases hy <;>rfl
theorem pZ(op:BinOp)(t:TypeId)(hop:op≠.eql/\op≠.neq){a a':Addr}(ha:bR ρ a a')(k:IntKind)(n:Int):
  ai P Q S CO Sh ρ (VR S) (binOp op t (.pointer (some a)) (.int k n)) (binOp op t (.pointer (some a')) (.int k n)):=by
 cases op
 case eql=>simp_all
 case neq=>simp_all
 case add=>
  show ai P Q S CO Sh ρ (VR S) (do if(<-underlying t) matches .unsafePointer then movedPointer t (.pointer (some a)) (.int k n) else movedNumber t (.pointer (some a)) (.int k n))
   (do if(<-underlying t) matches .unsafePointer then movedPointer t (.pointer (some a')) (.int k n) else movedNumber t (.pointer (some a')) (.int k n))
  refine(aA t).bind λσ d d' hle hd=>?_
  obtain⟨rfl,_⟩:=hd;cases d <;>first|exact dq t (ha.mono hle).ptr (.int k n)|exact kZ t (ha.mono hle).ptr (.int k n)
 case sub=>exact dq t ha.ptr (.int k (-n))
 case rem=>
  show ai P Q S CO Sh ρ (VR S) (do Op.addrMod k (<-behindNumber a).1 n) (do Op.addrMod k (<-behindNumber a').1 n);exact(bP ha).bind λσ p q hle E=>mA k n E.1
 case and=>
  show ai P Q S CO Sh ρ (VR S) (do Op.addrMod k (<-behindNumber a).1 (n+1)) (do Op.addrMod k (<-behindNumber a').1 (n+1));exact(bP ha).bind λσ p q hle E=>mA k (n+1) E.1
 all_goals exact ai.aw (an (by simp))
theorem p9(op:BinOp)(t:TypeId)(hop:op≠.eql/\op≠.neq){a a':Addr}(ha:bR ρ a a')(k:IntKind)(n:Int):
  ai P Q S CO Sh ρ (VR S) (binOp op t (.int k n) (.pointer (some a))) (binOp op t (.int k n) (.pointer (some a'))):=by
 cases op
 case eql=>simp_all
 case neq=>simp_all
 case add=>exact dq t ha.ptr (.int k n)
 case and=>
  show ai P Q S CO Sh ρ (VR S) (do Op.addrMod k (<-behindNumber a).1 (n+1)) (do Op.addrMod k (<-behindNumber a').1 (n+1));exact(bP ha).bind λσ p q hle E=>mA k (n+1) E.1
 all_goals exact ai.aw (an (by simp))
theorem pY(op:BinOp)(t:TypeId)(hop:op≠.eql/\op≠.neq){a a' b b':Addr}(ha:bR ρ a a')(hb:bR ρ b b'):
  ai P Q S CO Sh ρ (VR S) (binOp op t (.pointer (some a)) (.pointer (some b))) (binOp op t (.pointer (some a')) (.pointer (some b'))):=by
 have cmp:ai P Q S CO Sh ρ (VR S) (do Op.addrCmp op (<-behindNumber a).1 (<-behindNumber b).1) (do Op.addrCmp op (<-behindNumber a').1 (<-behindNumber b').1):=
  (bP ha).bind λσ p q hle E=>(bP (hb.mono hle)).bind λτ L J H I=>Br op (E.1.mono H) I.1
 have sub:ai P Q S CO Sh ρ (VR S) (do Op.addrSub .u64 (<-behindNumber a).1 (<-behindNumber b).1) (do Op.addrSub .u64 (<-behindNumber a').1 (<-behindNumber b').1):=
  (bP ha).bind λσ p q hle E=>(bP (hb.mono hle)).bind λτ L J H I=>Bq _ (E.1.mono H) I.1
 cases op
 case eql=>simp_all
 case neq=>simp_all
 case sub=>exact sub
 case lss=>exact cmp
 case leq=>exact cmp
 case gtr=>exact cmp
 case geq=>exact cmp
 all_goals exact ai.aw (an (by simp))
theorem qa(op:BinOp)(t:TypeId)(k:IntKind)(n:Int)(k':IntKind)(m:Int):ai P Q S CO Sh ρ (VR S) (binOp op t (.int k n) (.int k' m)) (binOp op t (.int k n) (.int k' m)):=by
 have hk:∀s:Sem Value,ai P Q S CO Sh ρ (VR S) s s->ai P Q S CO Sh ρ (VR S) (if k≠k' then stuck "BinOp: operands of different kinds" else s) (if k≠k' then stuck "BinOp: operands of different kinds" else s):=by
  intro s hs;by_cases h:k≠k'
  ·rw[aay h];exact ai.aw (ah _)
  simp_all
 cases op <;>first
  |exact wx .shl k n k' m
  |exact wx .shr k n k' m
  |exact hk _ (pz _ _ _ _)
  |exact hk _ (DG _ _ _ _)
  |exact hk _ (re _ _ _ _)
  |exact hk _ (DH _ _ _)
theorem l8(op:BinOp)(t:TypeId)(hop:op≠.eql/\op≠.neq)(x y:Value)(h:jf x y=0)(hx:∀a,x≠.pointer a)(hy:∀a,y≠.pointer a):bC P (binOp op t x y):=by
 have:binOp op t x y=stuck "BinOp: no such operator on these operands" :=by
  cases x <;>cases y <;>first
   |exact absurd rfl (hx _)
   |exact absurd rfl (hy _)
   |(simp[jf] at h;done)
   |(cases op <;>first|rfl|exact absurd rfl hop.1|exact absurd rfl hop.2)
 rw[this];exact ah _
theorem jr(op:BinOp)(t:TypeId)(hop:op≠.eql/\op≠.neq)(a:Option Addr)(y:Value)
  (h:¬(a.isSome=true/\((∃k n,y=.int k n)\/∃b,y=.pointer (some b)))) (h2:¬(a=none/\∃k n,y=.int k n)):bC P (binOp op t (.pointer a) y):=by
 have:binOp op t (.pointer a) y=unsupported .addressObserved:=by
  cases a with
  |none=>
   cases y <;>first
    |exact absurd ⟨rfl,_,_,rfl⟩ h2
    |(cases op <;>first|rfl|exact absurd rfl hop.1|exact absurd rfl hop.2|(rename_i b;cases b <;>rfl))
  |some a=>
   cases y with
   |int k n=>simp_all
   |pointer b=>
    cases b with
    |some b=>simp_all
    |none=>cases op <;>first|rfl|simp_all|simp_all
   |_=>cases op <;>first|rfl|exact absurd rfl hop.1|exact absurd rfl hop.2
 rw[this];exact an (by simp)
theorem p8(op:BinOp)(t:TypeId)(hop:op≠.eql/\op≠.neq)(k:IntKind)(n:Int):
  ai P Q S CO Sh ρ (VR S) (binOp op t (.pointer none) (.int k n)) (binOp op t (.pointer none) (.int k n)):=by
 cases op
 case eql=>simp_all
 case neq=>simp_all
 case add=>
  show ai P Q S CO Sh ρ (VR S) (do if(<-underlying t) matches .unsafePointer then movedPointer t (.pointer none) (.int k n) else movedNumber t (.pointer none) (.int k n))
   (do if(<-underlying t) matches .unsafePointer then movedPointer t (.pointer none) (.int k n) else movedNumber t (.pointer none) (.int k n))
  refine(aA t).bind λσ d d' hle hd=>?_
  obtain⟨rfl,_⟩:=hd;cases d <;>first|exact dq t .jD (.int k n)|exact kZ t .jD (.int k n)
 case sub=>exact dq t .jD (.int k (-n))
 all_goals exact ai.aw (an (by simp))
theorem p_(op:BinOp)(t:TypeId)(hop:op≠.eql/\op≠.neq)(k:IntKind)(n:Int):
  ai P Q S CO Sh ρ (VR S) (binOp op t (.int k n) (.pointer none)) (binOp op t (.int k n) (.pointer none)):=by
 cases op
 case eql=>simp_all
 case neq=>simp_all
 case add=>exact dq t .jD (.int k n)
 all_goals exact ai.aw (an (by simp))
theorem oA(op:BinOp)(t:TypeId)(hop:op≠.eql/\op≠.neq)(x:Value)(b:Option Addr)(hx:∀a,x≠.pointer a)(hi:∀k n,x≠.int k n):
  bC P (binOp op t x (.pointer b)):=by
 have:binOp op t x (.pointer b)=unsupported .addressObserved:=by
  cases x <;>first
   |exact absurd rfl (hx _)
   |exact absurd rfl (hi _ _)
   |(cases op <;>first|rfl|exact absurd rfl hop.1|exact absurd rfl hop.2)
 rw[this];exact an (by simp)
theorem GB(op:BinOp)(t:TypeId)(k:Nat)(W:op=.eql\/op=.neq->sc P k t=true){x x' y E:Value}(hx:aI S ρ x x')(hy:aI S ρ y E):
  ai P Q S CO Sh ρ (VR S) (binOp op t x y) (binOp op t x' E):=by
 by_cases O:∃k1 n1 k2 M,x=.int k1 n1/\y=.int k2 M
 ·obtain⟨k1,n1,k2,M,rfl,rfl⟩:=O;cases hx;cases hy;exact qa op t k1 n1 k2 M
 by_cases N:∃s1 s2,x=.string s1/\y=.string s2
 ·obtain⟨s1,s2,rfl,rfl⟩:=N;cases hx;cases hy;have e:∀p,binOp p t (.string s1) (.string s2)=Op.stringOp p s1 s2:=λp=>by cases p <;>rfl
  rw[e];exact lJ _ _ _
 have L:jf x y=0:=by
  cases hx <;>cases hy <;>first|rfl|simp_all|simp_all
 have J:jf x' E=0:=(BQ hx hy).trans L;by_cases h1:op=.eql
 ·subst h1;rw[binOp_eql t x y L,binOp_eql t x' E J];exact(pW t k (W (.inl rfl)) hx hy).bind λσ a b _ U=>ai.pure (by rw[U];exact .bool b)
 by_cases h2:op=.neq
 ·subst h2;rw[binOp_neq t x y L,binOp_neq t x' E J];exact(pW t k (W (.inr rfl)) hx hy).bind λσ a b _ U=>ai.pure (by rw[U];exact .bool _)
 have hop:op≠.eql/\op≠.neq:=⟨h1,h2⟩
 cases hx with
 |ptr b c d off spot h=>
  cases hy with
  |int k n=>exact pZ op t hop (a:=⟨b,off,spot⟩) (a':=⟨c,off+d,spot⟩) ⟨d,h,rfl,rfl⟩ k n
  |ptr b2 c2 d2 H I h2=>exact pY op t hop (a:=⟨b,off,spot⟩) (a':=⟨c,off+d,spot⟩) (b:=⟨b2,H,I⟩) (b':=⟨c2,H+d2,I⟩) ⟨d,h,rfl,rfl⟩ ⟨d2,h2,rfl,rfl⟩
  |_=>exact ai.aw (jr op t hop _ _ (by simp) (by simp))
 |jD=>
  cases hy with
  |int k n=>exact p8 op t hop k n
  |_=>exact ai.aw (jr op t hop _ _ (by simp) (by simp))
 |int k n=>
  cases hy with
  |ptr b2 c2 d2 H I h2=>exact p9 op t hop (a:=⟨b2,H,I⟩) (a':=⟨c2,H+d2,I⟩) ⟨d2,h2,rfl,rfl⟩ k n
  |jD=>exact p_ op t hop k n
  |int k' Y=>simp_all
  |_=>exact ai.aw (l8 op t hop _ _ rfl (by simp) (by simp))
 |_=>
  cases hy <;>first
   |(refine ai.aw (l8 op t hop _ _ L ?_ ?_) <;>(simp;done))
   |(refine ai.aw (oA op t hop _ _ ?_ ?_) <;>(simp;done))
end
def ag3:=@List.mapM_cons
def abC:=@Array.mapM_eq_mapM_toList
section
variable{P Q:Program}[Twin P Q]{S:FuncId->Prop}{CO:Code->Prop}{Sh:Nat->Prop}{ρ:Ren}
def PR(S:FuncId->Prop)(ρ:Ren):List (Nat×Value)->List (Nat×Value)->Prop
 | [],[]=>True
 |(i,x)::xs,(j,y)::ys=>i=j/\aI S ρ x y/\PR S ρ xs ys
 |_,_=>False
theorem PR.mono{σ:Ren}(hle:ρ.le σ):∀ {xs ys:List (Nat×Value)},PR S ρ xs ys->PR S σ xs ys
 | [],[],_=>trivial
 |(_,_)::_,(_,_)::_,⟨h1,h2,p⟩=>⟨h1,h2.mono hle,p.mono hle⟩
 | [],_::_,h=>h.elim
 |_::_,[],h=>h.elim
theorem Fl(off:Nat):∀(xs ys:List Value) (k:Nat) (cs E:Array Value),LR S ρ xs ys->AR S ρ cs E->
  AR S ρ ((xs.zipIdx k).foldl (λcs p=>cs.setIfInBounds (off+p.2) p.1) cs) ((ys.zipIdx k).foldl (λcs p=>cs.setIfInBounds (off+p.2) p.1) E)
 | [],ys,k,cs,E,h,hc=>by rw[h.nil];exact hc
 |x::xs,ys,k,cs,E,h,hc=>by
  obtain⟨y,ys',rfl,H,h'⟩:=h.cons;simp only[List.zipIdx_cons,List.foldl_cons];exact Fl off xs ys' (k+1) _ _ h' (hc.set _ H)
theorem rW(place:Nat->Option (Nat×Nat)):∀(ps qs:List (Nat×Value)) (cs p:Array Value),PR S ρ ps qs->AR S ρ cs p->
  (Instr.fill place cs ps=none/\Instr.fill place p qs=none)\/∃us vs,Instr.fill place cs ps=some us/\Instr.fill place p qs=some vs/\AR S ρ us vs
 | [],[],cs,p,_,hc=>.inr ⟨cs,p,rfl,rfl,hc⟩
 |(i,x)::ps,(j,y)::qs,cs,p,h,hc=>by
  obtain⟨H,E,hp⟩:=h;subst H;simp only[Instr.fill];cases place i with
  |none=>simp_all
  |some q=>
   obtain⟨off,size⟩:=q;simp only;rw[<-E.cells.1,<-hc.1];by_cases hb:x.cells.size≠size||off+x.cells.size>cs.size
   ·simp_all
   ·rw[aat hb,aat hb];refine rW place ps qs _ _ hp ?_;have:=Fl (S:=S) (ρ:=ρ) off x.cells.toList y.cells.toList 0 cs p E.cells.toList hc;rw[<-Array.toList_zipIdx,<-Array.toList_zipIdx,Array.foldl_toList,Array.foldl_toList] at this;exact this
 | [],_::_,_,_,h,_=>h.elim
 |_::_,[],_,_,h,_=>h.elim
theorem JX{E H:Type}(f:E->Sem H)(l:List E)(h:∀x {σ:Ren},ai P Q S CO Sh σ (λ_ a b=>a=b) (f x) (f x)):∀ {ρ:Ren},ai P Q S CO Sh ρ (λ_ a b=>a=b) (l.mapM f) (l.mapM f):=by
 induction l with
 |nil=>intro ρ;exact ai.pure rfl
 |cons x l I=>
  intro ρ;simp only[ag3];refine(h x).bind λσ a b _ J=>I.bind λτ as bs _ p=>?_
  rw[J,p];exact ai.pure rfl
theorem GA(t:TypeId)(hz:ZAt P t){ps qs:Array (Nat×Value)}(h:PR S ρ ps.toList qs.toList):ai P Q S CO Sh ρ (VR S) (Instr.build t ps) (Instr.build t qs):=by
 unfold Instr.build;refine(dz hz).bind λσ z U hle J=>?_
 obtain⟨J,rfl⟩:=J;refine(aA t).bind λτ d d' M hd=>?_
 obtain⟨rfl,_⟩:=hd;have hc:=(J.mono M).cells;have hp:=(h.mono hle).mono M;cases d with
 |struct fs=>
  simp only[abC];refine ai.bind (A:=λ_ a b=>a=b) ?_ λI pl O p N=>?_
  ·refine ai.bind (A:=λ_ a b=>a=b) ?_ λ_ _ _ _ L=>ai.pure (by rw[L])
   refine JX _ _ λx σ=>?_
   refine(bM _).bind λ_ _ _ _ L=>?_
   rw[L.1];exact ai.pure rfl
  ·subst N;rcases rW (S:=S) (ρ:=I) (pl[·]?) _ _ _ _ (hp.mono p) (hc.mono p) with ⟨H,E⟩|⟨us,vs,H,E,hr⟩
   ·rw[H,E];exact ai.aw (ah _)
   ·rw[H,E];exact ai.pure (.agg _ _ hr.1 hr.2)
 |array n e=>
  refine(bM e).bind λI s s' p hs=>?_
  obtain⟨rfl,_⟩:=hs;rcases rW (S:=S) (ρ:=I) (λi=>some (i*s,s)) _ _ _ _ (hp.mono p) (hc.mono p) with ⟨H,E⟩|⟨us,vs,H,E,hr⟩
  ·simp only[H,E];exact ai.aw (ah _)
  ·simp only[H,E];exact ai.pure (.agg _ _ hr.1 hr.2)
 |_=>exact ai.aw (ah _)
theorem Fb{xs:Array Value}(h:AR S ρ xs xs)(i:Nat):aI S ρ xs[i]! xs[i]! :=by
 rw[getElem!_def];cases hx:xs[i]? with
 |none=>exact .bool false
 |some x=>exact h.2 i x x hx hx
theorem pP{xs:Array Value}(h:AR S ρ xs xs)(n m:Nat):AR S ρ ((Array.range n).map (xs[· %m]!)) ((Array.range n).map (xs[· %m]!)):=
 AR.mapRange n _ _ λi _=>Fb h _
theorem u0 (t : TypeId) (hz : yl P t) (len : Nat) {ps qs : Array (Nat × Value)} (h : PR S ρ ps.toList qs.toList) : ai P Q S CO Sh ρ (VR S) (Instr.buildSlice t len ps) (Instr.buildSlice t len qs) := by
  unfold Instr.buildSlice
  refine (aA t).bind fun σ d d' hle hd => ?_
  obtain ⟨rfl, hd⟩ := hd
  cases d with
  | slice e =>
    simp only
    refine (bM e).bind fun τ s s' O hs => ?_
    obtain ⟨rfl, _⟩ := hs
    by_cases hb : len * s > 2 ^ 24
    · rw [aay hb]; exact ai.aw (bC.bind (an (by simp)))
    · rw [aat hb, aat hb]
      have rest : ∀ {E : Ren} (z p : Array Value), τ.le E -> (AR S E z p /\ z = p) -> ai P Q S CO Sh E (VR S)
          (do let some cells := Instr.fill (fun i => some (i * s, s)) ((Array.range (len * s)).map (z[· % z.size]!)) ps.toList | stuck "buildSlice: a part of the wrong size"
              Pure.pure (.slice (some (<- newRow e cells)) len len))
          (do let some cells := Instr.fill (fun i => some (i * s, s)) ((Array.range (len * s)).map (p[· % p.size]!)) qs.toList | stuck "buildSlice: a part of the wrong size"
              Pure.pure (.slice (some (<- newRow e cells)) len len)) := by
        intro E z p H I
        obtain ⟨I, rfl⟩ := I
        rcases rW (S := S) (ρ := E) (fun i => some (i * s, s)) _ _ _ _ (h.mono (Ren.le_trans hle (Ren.le_trans O H))) (pP I (len * s) z.size) with ⟨L, J⟩ | ⟨us, vs, L, J, hr⟩
        · simp only [L, J]; exact ai.aw (ah _)
        · simp only [L, J]
          exact (kY e hr).bind fun M a a' _ ha => ai.pure (ha.1.slice _ _)
      by_cases h0 : len * s = 0
      · simp only [aay h0]
        exact (ai.pure (A := fun E (z p : Array Value) => AR S E z p /\ z = p) ⟨AR.empty, rfl⟩).bind fun E z p H I => rest z p H I
      · simp only [aat h0]
        refine (dz (hz e (.inl hd))).bind fun E z p H I => ?_
        refine (ai.pure (A := fun E (z p : Array Value) => AR S E z p /\ z = p) ⟨I.1.cells, by rw [I.2]⟩).bind fun M z p N I => rest z p (Ren.le_trans H N) I
  | _ => exact ai.aw (ah _)
theorem wz (t : TypeId) (hz : yl P t) {x x' y L : Value} (hx : aI S ρ x x') (hy : aI S ρ y L) : ai P Q S CO Sh ρ (VR S) (Instr.makeSlice t x y) (Instr.makeSlice t x' L) := by
  unfold Instr.makeSlice
  refine (aA t).bind fun σ d d' hle hd => ?_
  obtain ⟨rfl, hd⟩ := hd
  cases d with
  | slice e =>
    refine (iO (hx.mono hle)).bind fun τ n O M hn => ?_
    subst hn
    refine (iO (hy.mono (Ren.le_trans hle M))).bind fun H m m' Y hm => ?_
    subst hm
    refine (dY e).bind fun N i U W hi => ?_
    obtain ⟨rfl, _⟩ := hi
    have rest : ∀ {J : Ren}, ai P Q S CO Sh J (VR S)
        (do askRoom ((IntKind.i64.wrap m).toNat * i.bytes)
            let k := (IntKind.i64.wrap m).toNat * (<- sizeOf e)
            let zero <- if k = 0 then Pure.pure #[] else do Pure.pure (<- zeroValue e).cells
            let a <- newRow e ((Array.range k).map (zero[· % zero.size]!))
            Pure.pure (.slice (some a) (IntKind.i64.wrap n).toNat (IntKind.i64.wrap m).toNat))
        (do askRoom ((IntKind.i64.wrap m).toNat * i.bytes)
            let k := (IntKind.i64.wrap m).toNat * (<- sizeOf e)
            let zero <- if k = 0 then Pure.pure #[] else do Pure.pure (<- zeroValue e).cells
            let a <- newRow e ((Array.range k).map (zero[· % zero.size]!))
            Pure.pure (.slice (some a) (IntKind.i64.wrap n).toNat (IntKind.i64.wrap m).toNat)) := by
      intro J
      refine (rh _).bind fun _ _ _ _ _ => ?_
      refine (bM e).bind fun _ s s' _ hs => ?_
      obtain ⟨rfl, _⟩ := hs
      have fin : ∀ {I : Ren} (z p : Array Value), (AR S I z p /\ z = p) -> ai P Q S CO Sh I (VR S)
          (do let a <- newRow e ((Array.range ((IntKind.i64.wrap m).toNat * s)).map (z[· % z.size]!))
              Pure.pure (.slice (some a) (IntKind.i64.wrap n).toNat (IntKind.i64.wrap m).toNat))
          (do let a <- newRow e ((Array.range ((IntKind.i64.wrap m).toNat * s)).map (p[· % p.size]!))
              Pure.pure (.slice (some a) (IntKind.i64.wrap n).toNat (IntKind.i64.wrap m).toNat)) := by
        intro I z p E
        obtain ⟨E, rfl⟩ := E
        exact (kY e (pP E _ _)).bind fun _ a a' _ ha => ai.pure (ha.1.slice _ _)
      by_cases h0 : (IntKind.i64.wrap m).toNat * s = 0
      · simp only [aay h0]
        exact (ai.pure (A := fun H (z p : Array Value) => AR S H z p /\ z = p) ⟨AR.empty, rfl⟩).bind fun _ z p _ E => fin z p E
      · simp only [aat h0]
        refine (dz (hz e (.inl hd))).bind fun _ z p _ E => ?_
        exact (ai.pure (A := fun H (z p : Array Value) => AR S H z p /\ z = p) ⟨E.1.cells, by rw [E.2]⟩).bind fun _ z p _ E => fin z p E
    simp only
    split
    · refine ai.aw ?_
      split
      · exact bC.bind (aT _)
      · split
        · exact bC.bind (aT _)
        · exact bC.behind (uN _) fun _ => bC.bind (aT _)
    · exact rest
  | _ => exact ai.aw (ah _)
theorem Bh{x x':Value}(hx:aI S ρ x x')(i:Nat):ai P Q S CO Sh ρ (VR S) (Instr.extract x i) (Instr.extract x' i):=by
 unfold Instr.extract;cases hx with
 |tuple xs ys hs h=>
  simp only;cases hi:xs[i]? with
  |none=>exact ai.aw (ah _)
  |some u=>
   obtain⟨v,hv,p⟩:=AR.get ⟨hs,h⟩ hi;rw[hv];exact ai.pure p
 |_=>exact ai.aw (ah _)
theorem Bd(t:TypeId){x x':Option Value}(hx:OV S ρ x x'):ai P Q S CO Sh ρ (VR S) (Instr.makeMap t x) (Instr.makeMap t x'):=by
 unfold Instr.makeMap;have rest:∀ {σ:Ren},ai P Q S CO Sh σ (VR S) (do Pure.pure (.map (some (<-newObj (.map #[] 0))))) (do Pure.pure (.map (some (<-newObj (.map #[] 0))))):=
  (gL (.map #[] #[] 0 ⟨rfl,λi x y h _=>by simp at h⟩)).bind λ_ r p _ hr=>ai.pure (.map r p hr.1)
 rcases hx with ⟨rfl,rfl⟩|⟨u,E,rfl,rfl,hu⟩
 ·exact rest
 ·refine(aA t).bind λσ d d' hle hd=>?_
  obtain⟨rfl,_⟩:=hd;cases d with
  |map k e=>exact(iO (hu.mono hle)).bind λ_ _ _ _ _=>rest
  |_=>exact ai.aw (bC.bind (ah _))
theorem Gv(t:TypeId){x x':Value}(hx:aI S ρ x x')(hm:∀k e,P.underlying t≠some (.map k e)):ai P Q S CO Sh ρ (VR S) (Instr.range t x) (Instr.range t x'):=by
 unfold Instr.range;refine(aA t).bind λσ d d' hle hd=>?_
 obtain⟨rfl,hd⟩:=hd;cases d with
 |map k e=>simp_all
 |string=>
  cases hx with
  |string s=>
   refine(ai.pure (A:=λτ (o o':Obj)=>jI S CO τ o o') (.stringIter s 0)).bind λτ o o' E ho=>?_
   exact(gL ho).bind λ_ r p _ hr=>ai.pure (.ptr r p 0 0 none hr.1)
  |_=>exact ai.aw (bC.bind (ah _))
 |_=>exact ai.aw (bC.bind (ah _))
theorem JW(t:TypeId){x x':Value}(hx:aI S ρ x x'):ai P Q S CO Sh ρ (VR S) (Instr.next x true t) (Instr.next x' true t):=by
 unfold Instr.next
 cases hx with
 |ptr b c d off spot h=>
  by_cases ho:off=0
  ·subst ho;refine ai.fact (F:=d=0\/Sh b) (λv w hw=>?_) λhd=>?_
   ·by_cases hs:Sh b
    ·grind
    ·exact .inl (hw.own _ _ _ h hs).1
   rcases hd with rfl|hs
   ·simp only;refine(dN h).bind λσ o o' hle ho=>?_
    obtain⟨ho,hs,p⟩:=ho;cases ho with
    |stringIter s pos=>
     simp only;by_cases hp:pos<s.size
     ·rw[aay hp,aay hp];refine(eJ (hle _ _ h) hs (.stringIter s _) rfl).bind λτ _ _ _ _=>ai.pure ?_
      exact .tuple _ _ rfl (((AR.empty.push (.bool true)).push (.int _ _)).push (.int _ _)).2
     ·rw[aat hp,aat hp];exact ai.pure (.tuple _ _ rfl (AR.single (.bool false)).2)
    |cells xs ys e fr h=>simp_all
    |_=>exact ai.aw (ah _)
   ·
    intro v w hw;obtain⟨xs,e,hi,ys,e',fr,k1,_⟩:=hw.sh _ _ _ h hs;simp only[getObj,aaw,Sem.run,k1];exact⟨trivial,id⟩
  ·cases off with
   |zero=>omega
   |succ n=>exact ai.aw (ah _)
 |_=>exact ai.aw (ah _)
end
section
variable{P Q:Program}[Twin P Q]{S:FuncId->Prop}{CO:Code->Prop}{Sh:Nat->Prop}{ρ:Ren}
theorem Gr(op:UnOp){x x':Value}(hx:aI S ρ x x'):ai P Q S CO Sh ρ (VR S) (Op.unary op x) (Op.unary op x'):=by
 cases hx with
 |int k n=>
  cases op with
  |neg=>exact pz .sub k 0 n
  |xor=>exact re .xor k _ n
  |_=>exact ai.aw (ah _)
 |bool b=>
  cases op with
  |not=>exact ai.pure (.bool _)
  |_=>exact ai.aw (ah _)
 |_=>cases op <;>first
  |exact ai.aw (an (by simp))
  |exact ai.aw (ah _)
theorem pA(f:ByteArray->Value->Sem (ForInStep ByteArray))(hf:∀(s:ByteArray) {σ:Ren} {x y:Value},aI S σ x y->ai P Q S CO Sh σ (λ_ a b=>a=b) (f s x) (f s y)):
  ∀(xs:List Value) {σ:Ren} {ys:List Value} (_:LR S σ xs ys) (s:ByteArray),ai P Q S CO Sh σ (λ_ a b=>a=b) (forIn xs s (λx s=>f s x)) (forIn ys s (λx s=>f s x)):=by
 intro xs
 induction xs with
 |nil=>intro σ ys h s;rw[h.nil];exact ai.pure rfl
 |cons x xs p=>
  intro σ ys h s;obtain⟨y,ys',rfl,H,h'⟩:=h.cons;simp only[List.forIn_cons];refine(hf s H).bind λτ a b hle E=>?_
  subst E;cases a with
  |done s=>exact ai.pure rfl
  |yield s=>exact p (h'.mono hle) s
theorem pX{x x':Value}(hx:aI S ρ x x'):ai P Q S CO Sh ρ (VR S) (Conv.bytesToString x) (Conv.bytesToString x'):=by
 unfold Conv.bytesToString;cases hx with
 |cE n m=>exact ai.pure (.string _)
 |slice b c d off spot n m h=>
  simp only;refine(ajt (a:=⟨b,off,spot⟩) (a':=⟨c,off+d,spot⟩) ⟨d,h,rfl,rfl⟩ n).bind λσ xs ys _ p=>?_
  rw[<-Array.forIn_toList,<-Array.forIn_toList];refine(pA (λs c=>match c with| .int .u8 n=>Pure.pure (.yield (s.push (UInt8.ofNat n.toNat)))|_=>stuck "bytesToString: byte expected") ?_ _ p.toList _).bind λ_ s s' _ hs=>?_
  ·intro s σ x y h;cases h with
   |int k n=>cases k <;>first|exact ai.pure rfl|exact ai.aw (ah _)
   |_=>exact ai.aw (ah _)
  ·subst hs;exact ai.pure (.string _)
 |_=>exact ai.aw (ah _)
theorem pT{x x':Value}(hx:aI S ρ x x'):ai P Q S CO Sh ρ (VR S) (Conv.runesToString x) (Conv.runesToString x'):=by
 unfold Conv.runesToString;cases hx with
 |cE n m=>exact ai.pure (.string _)
 |slice b c d off spot n m h=>
  simp only;refine(ajt (a:=⟨b,off,spot⟩) (a':=⟨c,off+d,spot⟩) ⟨d,h,rfl,rfl⟩ n).bind λσ xs ys _ p=>?_
  rw[<-Array.forIn_toList,<-Array.forIn_toList];refine(pA (λs c=>match c with| .int .i32 n=>Pure.pure (.yield (s++Utf8.encode n))|_=>stuck "runesToString: rune expected") ?_ _ p.toList _).bind λ_ s s' _ hs=>?_
  ·intro s σ x y h;cases h with
   |int k n=>cases k <;>first|exact ai.pure rfl|exact ai.aw (ah _)
   |_=>exact ai.aw (ah _)
  ·subst hs;exact ai.pure (.string _)
 |_=>exact ai.aw (ah _)
def H0(P:Program)(src dst:TypeId):Bool:=
 (match P.underlying dst with|some (.int _)|some .string=>true|_=>false)&&(match P.underlying src with|some .unsafePointer=>false|_=>true)
theorem Bn(src dst:TypeId)(hd:H0 P src dst=true){x x':Value}(hx:aI S ρ x x'):ai P Q S CO Sh ρ (VR S) (convert src dst x) (convert src dst x'):=by
 unfold convert;refine(aA src).bind λσ a b hle H=>?_
 obtain⟨H,ha⟩:=H;subst H;refine(aA dst).bind λτ c d J E=>?_
 obtain⟨E,hc⟩:=E;subst E;have hx:=(hx.mono hle).mono J;unfold H0 at hd;rw[hc,ha] at hd;have hs:∀e,ai P Q S CO Sh τ (VR S) (do
   match<-underlying e with
   | .int .u8=>Conv.bytesToString x
   | .int .i32=>Conv.runesToString x
   |_=>stuck "Convert: a slice of what to string?") (do
   match<-underlying e with
   | .int .u8=>Conv.bytesToString x'
   | .int .i32=>Conv.runesToString x'
   |_=>stuck "Convert: a slice of what to string?"):=by
  intro e;refine(aA e).bind λL f g I p=>?_
  obtain⟨p,_⟩:=p;subst p;have hx:=hx.mono I;cases f with
  |int k=>cases k <;>first|exact pX hx|exact pT hx|exact ai.aw (ah _)
  |_=>exact ai.aw (ah _)
 cases c with
 |int k=>
  cases hx with
  |int k' n=>cases a <;>exact ai.pure (.int _ _)
  |_=>cases a <;>first
   |exact ai.aw (an (by simp))
   |cases hd
 |string=>
  cases hx with
  |int k' n=>cases a <;>exact ai.pure (.string _)
  |string s=>cases a <;>exact ai.pure (.string _)
  |_=>cases a <;>first
   |exact ai.aw (an (by simp))
   |exact hs _
   |cases hd
 |_=>cases hd
end
def ad_:=@Array.getElem?_map
section
variable{P Q:Program}[Twin P Q]{S:FuncId->Prop}{CO:Code->Prop}{Sh:Nat->Prop}{ρ:Ren}
theorem pV{x x':Value}(hx:aI S ρ x x'):ai P Q S CO Sh ρ (λ_ a b=>a=b) (Builtin.lenOf x) (Builtin.lenOf x'):=by
 cases hx <;>first|exact ai.pure rfl|exact ai.aw (ah _)
theorem eZ(size n:Nat){x x':Value}(hx:aI S ρ x x'):ai P Q S CO Sh ρ (ARR S) (Builtin.firstCells size n x) (Builtin.firstCells size n x'):=by
 cases hx with
 |slice b c d off spot k m h=>exact ajt (a:=⟨b,off,spot⟩) (a':=⟨c,off+d,spot⟩) ⟨d,h,rfl,rfl⟩ _
 |cE k m=>exact ai.pure AR.empty
 |string s=>
  refine ai.pure ⟨rfl,λi x y hx hy=>?_⟩;rw[hx] at hy;cases hy;rw[ad_] at hx;cases h:(s.extract 0 n).data[i]? with
  |none=>rw[h] at hx;cases hx
  |some b=>rw[h] at hx;cases hx;exact .int _ _
 |_=>exact ai.aw (ah _)
theorem pq{xs:Array Value}(h:AR S ρ xs xs)(n:Nat):AR S ρ (Builtin.zeroCells xs n) (Builtin.zeroCells xs n):=by
 unfold Builtin.zeroCells;exact pP h _ _
theorem nu(a:Addr)(n:Nat):gJ P (Builtin.holdsCells a n):=by
 unfold Builtin.holdsCells;refine(HM _).bind λx=>?_
 split <;>exact gJ.pure _
theorem zc(size l n:Nat)(base:Option Addr)(x:Value):gJ P (Builtin.mayShare size l n base x):=by
 unfold Builtin.mayShare;have k:∀b:Bool,gJ P (if !b then Pure.pure true else match x with
   | .slice (some b) _ _=>do Pure.pure (!(<-Builtin.holdsCells b (n*size))||base.any (·.block==b.block))
   |_=>Pure.pure false):=by
  intro b;split
  ·exact gJ.pure _
  ·split
   ·exact(nu _ _).bind λ_=>gJ.pure _
   ·exact gJ.pure _
 cases base with
 |none=>exact(gJ.pure _).bind k
 |some a=>exact(nu _ _).bind λ_=>(Fp _).bind λ_=>(gJ.pure _).bind k
theorem K3(m:Mark):gJ P (mark m):=λ_=>id
theorem AR.opt{xs ys:Array Value}(h:AR S ρ xs ys)(i:Nat):OV S ρ xs[i]? ys[i]?:=by
 cases hx:xs[i]? with
 |none=>exact .inl ⟨rfl,h.Jj hx⟩
 |some x=>obtain⟨y,hy,p⟩:=h.get hx;exact .inr ⟨x,y,rfl,hy,p⟩
def yc(P:Program)(ts:Array TypeId):Bool:=match ts[1]? with
 |some t=>match P.underlying t with|some (.int _)=>false|_=>true
 |none=>true
theorem DK(ts:Array TypeId)(t:TypeId)(hz:∀J,ts[0]?=some J->yl P J)(L:yc P ts=true){xs ys:Array Value}(h:AR S ρ xs ys):ai P Q S CO Sh ρ (VR S) (Builtin.append_ ts t xs) (Builtin.append_ ts t ys):=by
 unfold Builtin.append_;rcases h.opt 0 with ⟨h0,M⟩|⟨s,s',h0,M,hs⟩
 ·rw[h0,M];cases ts[0]? <;>exact ai.aw (ah _)
 rcases h.opt 1 with ⟨h1,k1⟩|⟨x,x',h1,k1,hx⟩
 ·rw[h0,M,h1,k1];cases ts[0]? <;>exact ai.aw (ah _)
 rw[h0,M,h1,k1];cases Y:ts[0]? with
 |none=>exact ai.aw (ah _)
 |some MF=>
  simp only;refine(aA MF).bind λσ d d' hle hd=>?_
  obtain⟨hd,VY⟩:=hd;subst hd;have hs:=hs.mono hle;have hx:=hx.mono hle;cases d with
  |slice elem=>
   simp only;have fin:∀ {τ:Ren} (I afg H:Nat) {mo O new N:Array Value},AR S τ mo O->AR S τ new N->ai P Q S CO Sh τ (VR S)
     (do Pure.pure (.slice (some (<-newRow elem (mo++new++Builtin.zeroCells (<-zeroValue elem).cells (H-I)))) I H))
     (do Pure.pure (.slice (some (<-newRow elem (O++N++Builtin.zeroCells (<-zeroValue elem).cells (H-I)))) I H)):=by
    intro τ I afg H mo O new N ho hn;refine(dz (hz _ Y elem (.inl VY))).bind λυ z z' de p=>?_
    obtain⟨p,he⟩:=p;subst he;refine(kY elem (((ho.mono de).append (hn.mono de)).append (pq p.cells _))).bind λ_ a a' _ ha=>ai.pure (ha.1.slice _ _)
   have Yw:bC P (match s with| .slice _ _ _=>(Pure.pure ():Sem Unit)|_=>stuck "")\/∃base ai4 n m,s=.slice base n m/\s'=.slice ai4 n m/\((base=none/\ai4=none)\/∃a a',base=some a/\ai4=some a'/\bR σ a a'):=by
    cases hs with
    |slice b c d off spot n m hb=>exact .inr ⟨_,_,n,m,rfl,rfl,.inr ⟨_,_,rfl,rfl,d,hb,rfl,rfl⟩⟩
    |cE n m=>exact .inr ⟨_,_,n,m,rfl,rfl,.inl ⟨rfl,rfl⟩⟩
    |_=>exact .inl (ah _)
   rcases Yw with bH|⟨base,ai4,n,m,e1,e2,hb⟩
   ·cases hs with
    |slice=>obtain⟨_,_,h,_⟩:=bH ⟨#[],default,default,default,default⟩;cases h
    |cE=>obtain⟨_,_,h,_⟩:=bH default;cases h
    |_=>exact ai.aw (ah _)
   subst e1 e2;simp only;refine(bM elem).bind λτ size aj0 du W=>?_
   obtain⟨W,_⟩:=W;subst W;cases ht:ts[1]?
   case' none=>refine ai.bind (A:=λ_ a b=>a=b/\a=false) (ai.pure ⟨rfl,rfl⟩) λυ z z' U p=>?_
   case' some J=>
    refine(aA J).bind λυ0 u u' aaI hu=>?_
    obtain⟨hu,LP⟩:=hu;subst hu;refine ai.bind (A:=λ_ a b=>a=b/\a=false) ?_ λυ z z' aaH p=>?_
    ·unfold yc at L;rw[ht] at L;simp only[LP] at L;cases u <;>first|exact ai.pure ⟨rfl,rfl⟩|cases L
    have U:=Ren.le_trans aaI aaH
   all_goals
    obtain⟨p,ZQ⟩:=p;subst p;subst ZQ;have hx:=(hx.mono du).mono U;simp only[abX,ab3,Bool.not_false,acC,false_or];refine(pV hx).bind λφ k k' gB hk=>?_
    subst hk;have hx:=hx.mono gB;have E:=Ren.le_trans (Ren.le_trans du U) gB;have hs:=hs.mono E;have hb:=hb.imp id λ⟨a,a',h1,h2,h3⟩=>(⟨a,a',h1,h2,h3.mono E⟩:∃a a',base=some a/\ai4=some a'/\bR φ a a')
    by_cases hc:n+k<=m
    ·rw[aay hc,aay hc];refine(eZ size k hx).bind λχ ys ys' E Af=>?_
     rcases hb with ⟨rfl,rfl⟩|⟨a,a',rfl,rfl,ha⟩
     ·exact ai.pure (.cE _ _)
     ·exact(gv _ ((ha.mono E).add (n*size)) Af.toList 0).bind λψ _ _ EM _=>ai.pure (bR.slice ((ha.mono E).mono EM) _ _)
    ·rw[aat hc,aat hc];refine(dY elem).bind λχ i i' E hi=>?_
     obtain⟨hi,_⟩:=hi;subst hi;split
     ·exact ai.aw (bC.bind (aT _))
     ·refine(dY elem).bind λχ2 i i' EM hi=>?_
      obtain⟨hi,_⟩:=hi;subst hi;split
      ·refine ai.aw ?_;refine bC.bind (bC.behind (zc _ _ _ _ _) λb=>?_);split
       ·exact bC.behind (K3 _) λ_=>an (by simp)
       ·exact an (by simp)
      ·refine(nL _).bind λχ3 nc nc' Z Wn=>?_
       subst Wn;refine(dY elem).bind λχ4 i i' agY hi=>?_
       obtain⟨hi,_⟩:=hi;subst hi;refine(rh _).bind λχ5 _ _ agX _=>?_
       have I6:=Ren.le_trans (Ren.le_trans (Ren.le_trans E EM) (Ren.le_trans Z agY)) agX;refine(eZ size n (hs.mono I6)).bind λχ6 mo O aaK hold=>?_
       refine(eZ size k ((hx.mono I6).mono aaK)).bind λχ7 new N aaJ dm=>?_
       exact fin _ m _ (hold.mono aaJ) dm
  |_=>exact ai.aw (ah _)
theorem JY(ts:Array TypeId)(t:TypeId){xs ys:Array Value}(h:AR S ρ xs ys):ai P Q S CO Sh ρ (VR S) (Builtin.copy_ ts t xs) (Builtin.copy_ ts t ys):=by
 unfold Builtin.copy_;rcases h.opt 0 with ⟨h0,p⟩|⟨s,s',h0,p,hs⟩
 ·rw[h0,p];cases ts[0]? <;>exact ai.aw (ah _)
 rcases h.opt 1 with ⟨h1,k1⟩|⟨x,x',h1,k1,hx⟩
 ·rw[h0,p,h1,k1];cases ts[0]? <;>exact ai.aw (ah _)
 rw[h0,p,h1,k1];cases ts[0]? with
 |none=>exact ai.aw (ah _)
 |some U=>
  simp only;refine(aA U).bind λσ d d' hle hd=>?_
  obtain⟨hd,_⟩:=hd;subst hd;have hs:=hs.mono hle;have hx:=hx.mono hle;cases d with
  |slice elem=>
   cases hs with
   |slice b c d off spot n m hb=>
    simp only;refine(pV hx).bind λτ k k' H hk=>?_
    subst hk;refine(bM elem).bind λM z N E hz=>?_
    obtain⟨hz,_⟩:=hz;subst hz;refine(eZ z _ ((hx.mono H).mono E)).bind λL cs O J I=>?_
    refine(gv (a:=⟨b,off,spot⟩) (a':=⟨c,off+d,spot⟩) _ ⟨d,J _ _ (E _ _ (H _ _ hb)),rfl,rfl⟩ I.toList 0).bind λ_ _ _ _ _=>ai.pure (.int _ _)
   |cE n m=>
    simp only;refine(pV hx).bind λτ k k' H hk=>?_
    subst hk;refine(bM elem).bind λM z N E hz=>?_
    obtain⟨hz,_⟩:=hz;subst hz;exact(eZ z _ ((hx.mono H).mono E)).bind λL cs O J I=>ai.pure (.int _ _)
   |_=>exact ai.aw (ah _)
  |_=>exact ai.aw (ah _)
def Eo(P:Program)(ts:Array TypeId):Bool:=match ts[0]? with
 |some t=>match P.underlying t with|some (.chan _ _)=>false|_=>true
 |none=>true
theorem My(ts:Array TypeId)(t:TypeId)(p:Eo P ts=true){xs ys:Array Value}(h:AR S ρ xs ys):ai P Q S CO Sh ρ (VR S) (Builtin.len_ ts t xs) (Builtin.len_ ts t ys):=by
 unfold Builtin.len_;rcases h.opt 0 with ⟨h0,E⟩|⟨x,x',h0,E,hx⟩
 ·rw[h0,E];cases ts[0]? <;>exact ai.aw (ah _)
 rw[h0,E];cases ht:ts[0]? with
 |none=>exact ai.aw (ah _)
 |some H=>
  simp only;refine(aA H).bind λσ d d' hle hd=>?_
  obtain⟨hd,I⟩:=hd;subst hd;have hx:=hx.mono hle;unfold Eo at p;rw[ht] at p;simp only[I] at p;have ptr:∀arr,ai P Q S CO Sh σ (VR S) (do
    let .array n _<-underlying arr|stuck "len: pointer to array expected"
    Pure.pure (goInt n)) (do
    let .array n _<-underlying arr|stuck "len: pointer to array expected"
    Pure.pure (goInt n)):=by
   intro arr;refine(aA arr).bind λτ u J _ hu=>?_
   obtain⟨hu,_⟩:=hu;subst hu;cases u <;>first|exact ai.pure (.int _ _)|exact ai.aw (ah _)
  cases hx with
  |map b c hb=>
   cases d with
   |map k e=>
    simp only;refine(dN hb).bind λτ o o' _ ho=>?_
    obtain⟨ho,_,_⟩:=ho;cases ho with
    |map es es' clock h=>simp only[h.1];exact ai.pure (.int _ _)
    |_=>exact ai.aw (ah _)
   |pointer a=>exact ptr a
   |array n e=>exact ai.pure (.int _ _)
   |chan=>cases p
   |_=>exact ai.aw (ah _)
  |_=>cases d <;>first
   |exact ai.pure (.int _ _)
   |exact ptr _
   |(cases p;done)
   |exact ai.aw (ah _)
theorem Mz(ts:Array TypeId)(t:TypeId)(p:Eo P ts=true){xs ys:Array Value}(h:AR S ρ xs ys):ai P Q S CO Sh ρ (VR S) (Builtin.cap_ ts t xs) (Builtin.cap_ ts t ys):=by
 unfold Builtin.cap_;rcases h.opt 0 with ⟨h0,E⟩|⟨x,x',h0,E,hx⟩
 ·rw[h0,E];cases ts[0]? <;>exact ai.aw (ah _)
 rw[h0,E];cases ht:ts[0]? with
 |none=>exact ai.aw (ah _)
 |some H=>
  simp only;refine(aA H).bind λσ d d' hle hd=>?_
  obtain⟨hd,I⟩:=hd;subst hd;have hx:=hx.mono hle;unfold Eo at p;rw[ht] at p;simp only[I] at p;have ptr:∀arr,ai P Q S CO Sh σ (VR S) (do
    let .array n _<-underlying arr|stuck "cap: pointer to array expected"
    Pure.pure (goInt n)) (do
    let .array n _<-underlying arr|stuck "cap: pointer to array expected"
    Pure.pure (goInt n)):=by
   intro arr;refine(aA arr).bind λτ u J _ hu=>?_
   obtain⟨hu,_⟩:=hu;subst hu;cases u <;>first|exact ai.pure (.int _ _)|exact ai.aw (ah _)
  cases hx <;>cases d <;>first
   |exact ai.pure (.int _ _)
   |exact ptr _
   |(cases p;done)
   |exact ai.aw (ah _)
theorem DC(f:Value->Value->Sem Value)(hf:f=Builtin.min2\/f=Builtin.max2){x x' y p:Value}(hx:aI S ρ x x')(hy:aI S ρ y p):ai P Q S CO Sh ρ (VR S) (f x y) (f x' p):=by
 rcases hf with rfl|rfl <;>cases hx <;>cases hy <;>first
  |exact ai.pure (.int _ _)
  |exact ai.aw (an (by simp))
  |exact ai.aw (ah _)
  |skip
 ·rename_i s s';refine(lJ .leq s s').bind λσ b b' _ hb=>(nN hb).bind λτ c c' _ hc=>?_
  subst hc;exact ai.pure (.string _)
 ·rename_i s s';refine(lJ .geq s s').bind λσ b b' _ hb=>(nN hb).bind λτ c c' _ hc=>?_
  subst hc;exact ai.pure (.string _)
theorem ug(f:Value->Value->Sem Value)(hf:f=Builtin.min2\/f=Builtin.max2):∀(xs:List Value) {ρ:Ren} {ys:List Value} (_:LR S ρ xs ys) {x x':Value} (_:aI S ρ x x'),
  ai P Q S CO Sh ρ (VR S) (xs.foldlM f x) (ys.foldlM f x'):=by
 intro xs
 induction xs with
 |nil=>intro ρ ys h x x' hx;rw[h.nil];exact ai.pure hx
 |cons u us p=>
  intro ρ ys h x x' hx;obtain⟨y,ys',rfl,E,h'⟩:=h.cons;simp only[List.foldlM_cons];exact(DC f hf hx E).bind λσ z H hle hz=>p (h'.mono hle) hz
theorem Mw(ts:Array TypeId)(t:TypeId){xs ys:Array Value}(h:AR S ρ xs ys):ai P Q S CO Sh ρ (VR S) (Builtin.min_ ts t xs) (Builtin.min_ ts t ys):=by
 unfold Builtin.min_;have h:=h.toList;cases hx:xs.toList with
 |nil=>exact ai.aw (ah _)
 |cons x us=>
  rw[hx] at h;obtain⟨y,ys',e,p,h'⟩:=h.cons;rw[e];exact ug _ (.inl rfl) _ h' p
theorem Mx(ts:Array TypeId)(t:TypeId){xs ys:Array Value}(h:AR S ρ xs ys):ai P Q S CO Sh ρ (VR S) (Builtin.max_ ts t xs) (Builtin.max_ ts t ys):=by
 unfold Builtin.max_;have h:=h.toList;cases hx:xs.toList with
 |nil=>exact ai.aw (ah _)
 |cons x us=>
  rw[hx] at h;obtain⟨y,ys',e,p,h'⟩:=h.cons;rw[e];exact ug _ (.inr rfl) _ h' p
end
def abA:=@List.eq_nil_of_length_eq_zero
def aaZ:=@Bool.and_eq_true
def ac6:=@beq_iff_eq
section
variable{P Q:Program}[Twin P Q]{S:FuncId->Prop}{CO:Code->Prop}{Sh:Nat->Prop}{ρ:Ren}
theorem pB(empty:Bool)(d:Nat):∀ {ρ:Ren} (k:Nat) (t:TypeId) (_:sc P k t=true) {x x':Value} (_:aI S ρ x x'),
  ai P Q S CO Sh ρ (λ_ _ _=>True) (Instr.checkKey empty d t x) (Instr.checkKey empty d t x'):=by
 induction d with
 |zero=>intro ρ k t _ x x' _;exact ai.aw (an (by simp))
 |succ d N=>
  intro ρ k t hk x x' hx;unfold Instr.checkKey;refine(aA t).bind λσ u Z hle hu=>?_
  obtain⟨E,hu⟩:=hu;subst E;cases k with
  |zero=>cases hk
  |succ k=>
  unfold sc at hk;rw[hu] at hk;have hx:=hx.mono hle;cases u with
  |struct fs=>
   cases hx with
   |agg xs L p J=>
    have H:AR S σ xs L:=⟨p,J⟩
    have U:∀f∈fs.toList,sc P k f.type=true:=by
     grind [Array.all_eq_true_iff_forall_mem]
    simp only;rw[<-Array.forIn_toList,<-Array.forIn_toList];refine ai.bind (mz _ (λ_ (a b:Unit)=>True) _ _ ?_ trivial) λ_ _ _ _ _=>ai.pure trivial
    intro f τ a b hf I _;by_cases hn:f.name≠ "_"
    ·rw[aay hn,aay hn];refine(gK f.type (H.mono I) f.offset).bind λO x x' M hx=>?_
     exact(N k f.type (U f hf) hx).bind λ_ _ _ _ _=>ai.pure (.inr ⟨_,_,rfl,rfl,trivial⟩)
    simp_all [ai.pure]
   |_=>exact ai.aw (ah _)
  |array n e=>
   cases hx with
   |agg xs L p J=>
    have H:AR S σ xs L:=⟨p,J⟩
    simp only;rw[aeL,aeL];refine ai.bind (mz _ (λ_ (a b:Unit)=>True) _ _ ?_ trivial) λ_ _ _ _ _=>ai.pure trivial
    intro i τ a b hf I _;refine(bM e).bind λO z Y M hz=>?_
    obtain⟨hz,_⟩:=hz;subst hz;refine(gK e ((H.mono I).mono M) _).bind λW x x' _ hx=>?_
    exact(N k e hk hx).bind λ_ _ _ _ _=>ai.pure (.inr ⟨_,_,rfl,rfl,trivial⟩)
   |_=>exact ai.aw (ah _)
  |_=>first
   |(cases hk;done)
   |(cases hx <;>exact ai.pure trivial)
theorem DR(kind:TypeDesc){x x' y p:Value}(hx:aI S ρ x x')(hy:aI S ρ y p):Instr.sameNow kind x y=Instr.sameNow kind x' p:=by
 cases hx <;>cases hy <;>first|rfl|(cases kind <;>rfl)
def EL(S:FuncId->Prop)(ρ:Ren)(es es':List MapEntry):Prop:=ER S ρ es.toArray es'.toArray
theorem EL.nil{es':List MapEntry}(h:EL S ρ [] es'):es'= []:=by
 have:=h.1;grind
theorem EL.cons{e:MapEntry}{es es':List MapEntry}(h:EL S ρ (e::es) es'):∃e' us,es'=e'::us/\(aI S ρ e.key e'.key/\aI S ρ e.val e'.val/\e.born=e'.born)/\EL S ρ es us:=by
 cases es' with
 |nil=>have:=h.1;grind
 |cons e' us=>
  refine⟨e',us,rfl,h.2 0 e e' (by simp) (by simp),⟨by have:=h.1;grind,λi x y hx hy=>?_⟩⟩;exact h.2 (i+1) x y (by grind) (by grind)
theorem ER.toList{es es':Array MapEntry}(h:ER S ρ es es'):EL S ρ es.toList es'.toList:=by
 simp_all [EL]
theorem EL.mono{σ:Ren}(hle:ρ.le σ){es es':List MapEntry}(h:EL S ρ es es'):EL S σ es es':=ER.mono hle h
def FR(S:FuncId->Prop)(ρ:Ren)(p q:Option (Nat×Value)):Prop:=(p=none/\q=none)\/∃i v v',p=some (i,v)/\q=some (i,v')/\aI S ρ v v'
theorem Fq(kind:TypeDesc){k k':Value}(hk:aI S ρ k k'):∀(es es':List MapEntry) (_:EL S ρ es es') (i:Nat),
  (Instr.findNow kind k es i=none/\Instr.findNow kind k' es' i=none)\/∃p q,Instr.findNow kind k es i=some p/\Instr.findNow kind k' es' i=some q/\FR S ρ p q:=by
 intro es
 induction es with
 |nil=>intro es' h i;rw[h.nil];exact .inr ⟨none,none,rfl,rfl,.inl ⟨rfl,rfl⟩⟩
 |cons e es E=>
  intro es' h i;obtain⟨e',us,rfl,⟨h1,h2,_⟩,h'⟩:=h.cons;unfold Instr.findNow;rw[<-DR kind hk h1];cases Instr.sameNow kind k e.key with
  |none=>simp_all
  |some b=>
   cases b with
   |true=>exact .inr ⟨_,_,rfl,rfl,.inr ⟨i,_,_,rfl,rfl,h2⟩⟩
   |false=>simp_all
theorem uZ(t:TypeId)(n:Nat)(H:sc P n t=true):∀(es:List MapEntry) {ρ:Ren} {es':List MapEntry} (_:EL S ρ es es') {k k':Value} (_:aI S ρ k k') (i:Nat),
  ai P Q S CO Sh ρ (λσ p q=>FR S σ p q) (Instr.findAsking t k es i) (Instr.findAsking t k' es' i):=by
 intro es
 induction es with
 |nil=>intro ρ es' h k k' _ i;rw[h.nil];exact ai.pure (.inl ⟨rfl,rfl⟩)
 |cons e es E=>
  intro ρ es' h k k' hk i;obtain⟨e',us,rfl,⟨h1,h2,_⟩,h'⟩:=h.cons;unfold Instr.findAsking;refine(pW t n H hk h1).bind λσ b b' hle hb=>?_
  subst hb;cases b with
  |true=>exact ai.pure (.inr ⟨i,_,_,rfl,rfl,h2.mono hle⟩)
  |false=>exact E (h'.mono hle) (hk.mono hle) (i+1)
theorem rf(t:TypeId)(n:Nat)(E:sc P n t=true){es es':List MapEntry}(h:EL S ρ es es'){k k':Value}(hk:aI S ρ k k'):
  ai P Q S CO Sh ρ (λσ p q=>FR S σ p q) (Instr.findKey t k es) (Instr.findKey t k' es'):=by
 unfold Instr.findKey;refine(aA t).bind λσ u H hle hu=>?_
 obtain⟨hu,_⟩:=hu;subst hu;rcases Fq u (hk.mono hle) es es' (h.mono hle) 0 with ⟨h1,h2⟩|⟨p,q,h1,h2,I⟩
 ·rw[h1,h2];exact uZ t n E es (h.mono hle) (hk.mono hle) 0
 grind [ai.pure]
def z8(P:Program)(n:Nat)(t:TypeId):Bool:=match P.underlying t with|some (.map k _)=>sc P n k|_=>true
theorem DD (n : Nat) (t : TypeId) (hz : yl P t) (hm : z8 P n t = true) (ok : Bool) {x x' k k' : Value} (hx : aI S ρ x x') (hk : aI S ρ k k') :
    ai P Q S CO Sh ρ (VR S) (Instr.lookup t x k ok) (Instr.lookup t x' k' ok) := by
  unfold Instr.lookup
  refine (aA t).bind fun σ d d' hle hd => ?_
  obtain ⟨hd, ht⟩ := hd
  subst hd
  unfold z8 at hm
  rw [ht] at hm
  have hx := hx.mono hle
  have hk := hk.mono hle
  cases d with
  | map key elem =>
    simp only at hm ⊢
    have rest : ∀ {τ : Ren} {es es' : Array MapEntry}, ER S τ es es' -> aI S τ k k' -> ai P Q S CO Sh τ (VR S)
        (do Instr.checkKey es.isEmpty 10000 key k
            let (v, E) <- match <- Instr.findKey key k es.toList with
              | some (_, v) => Pure.pure (v, true)
              | none => Pure.pure (<- zeroValue elem, false)
            Pure.pure (if ok then .tuple #[v, .bool E] else v))
        (do Instr.checkKey es'.isEmpty 10000 key k'
            let (v, E) <- match <- Instr.findKey key k' es'.toList with
              | some (_, v) => Pure.pure (v, true)
              | none => Pure.pure (<- zeroValue elem, false)
            Pure.pure (if ok then .tuple #[v, .bool E] else v)) := by
      intro τ es es' J hk
      have he : es.isEmpty = es'.isEmpty := by simp only [Array.isEmpty, J.1]
      rw [<- he]
      refine (pB es.isEmpty 10000 n key hm hk).bind fun N _ _ I _ => ?_
      refine (rf key n hm (J.toList.mono I) (hk.mono I)).bind fun M p q W L => ?_
      have last : ∀ {H : Ren} {v v' : Value} (b : Bool), aI S H v v' -> aI S H (if ok then .tuple #[v, .bool b] else v) (if ok then .tuple #[v', .bool b] else v') := by
        intro H v v' b hv
        cases ok
        · exact hv
        · exact .tuple _ _ rfl ((AR.single hv).push (.bool b)).2
      rcases L with ⟨rfl, rfl⟩ | ⟨i, v, v', rfl, rfl, hv⟩
      · refine (dz (hz elem (.inr ⟨_, ht⟩))).bind fun H z O _ U => ?_
        grind [ai.pure]
      grind [ai.pure]
    cases hx with
    | ql => exact rest (es := #[]) (es' := #[]) ⟨rfl, fun i x y h _ => by simp at h⟩ hk
    | map b c hb =>
      simp only
      refine (dN hb).bind fun τ o o' I ho => ?_
      obtain ⟨ho, _, _⟩ := ho
      cases ho with
      | map es es' clock h => exact rest h (hk.mono I)
      | _ => exact ai.aw (bC.bind (ah _))
    | _ => exact ai.aw (bC.bind (ah _))
  | _ => exact ai.aw (ah _)
theorem uQ(f:Value×Value->Bool):∀(xs us ys vs:List Value),xs.length=us.length->ys.length=vs.length->
  (∀(i:Nat) (x y u v:Value),xs[i]?=some x->ys[i]?=some y->us[i]?=some u->vs[i]?=some v->f (x,y)=true->f (u,v)=true)->(xs.zip ys).all f=true->(us.zip vs).all f=true
 | [],us,_,_,h,_,_,_=>by rw[abA h.symm];rfl
 |_::_,[],_,_,h,_,_,_=>by simp at h
 |_::_,u::us,[],vs,_,k,_,_=>by rw[abA k.symm];rfl
 |_::_,_::_,_::_,[],_,k,_,_=>by simp at k
 |x::xs,u::us,y::ys,v::vs,h,k,hf,ha=>by
  simp only[List.zip_cons_cons,List.all_cons,aaZ] at ha ⊢;exact⟨hf 0 x y u v rfl rfl rfl rfl ha.1,uQ f xs us ys vs (by simpa using h) (by simpa using k) (λi a b c d ha hb hc hd=>hf (i+1) a b c d (by grind) (by grind) (by grind) (by grind)) ha.2⟩
theorem By:∀(n:Nat) {x x' y p:Value} (_:aI S ρ x x') (_:aI S ρ y p),Instr.sameBits n x y=true->Instr.sameBits n x' p=true:=by
 intro n
 induction n with
 |zero=>
  intro x x' y p hx hy;cases hx with
  |ptr b c d off spot h=>
   cases hy with
   |ptr b2 c2 d2 E H h2=>
    intro e
    simp_all [Instr.sameBits]
   |_=>simp[Instr.sameBits]
  |_=>cases hy <;>simp[Instr.sameBits]
 |succ n J=>
  intro x x' y p hx hy;cases hx with
  |ptr b c d off spot h=>
   cases hy with
   |ptr b2 c2 d2 E H h2=>
    intro e
    simp_all [Instr.sameBits]
   |_=>simp[Instr.sameBits]
  |iface t x x' h=>
   cases hy with
   |iface u y p k=>
    simp only[Instr.sameBits,aaZ]
    grind
   |_=>simp[Instr.sameBits]
  |agg xs us hs h=>
   cases hy with
   |agg ys vs I k=>
    simp only[Instr.sameBits,aaZ];rw[hs,I];refine λe=>⟨e.1,uQ _ _ _ _ _ (by omega) (by omega) (λi a b c d ha hb hc hd=>?_) e.2⟩
    grind
   |_=>simp[Instr.sameBits]
  |_=>cases hy <;>simp[Instr.sameBits]
theorem yi(f:Value×Value->Bool)(hf:∀x y,f (x,y)=true->x=y):∀(xs ys:List Value),xs.length=ys.length->(xs.zip ys).all f=true->xs=ys
 | [],[],_,_=>rfl
 | [],_::_,h,_=>by simp at h
 |_::_,[],h,_=>by simp at h
 |x::xs,y::ys,h,ha=>by
  simp only[List.zip_cons_cons,List.all_cons,aaZ] at ha;rw[hf x y ha.1,yi f hf xs ys (by simpa using h) ha.2]
theorem si(a b:ByteArray)(h:(a==b)=true):a=b:=by
 obtain⟨a⟩:=a;obtain⟨b⟩:=b;have h:(a==b)=true:=h
 grind
theorem DS:∀(n:Nat) (x y:Value),Instr.sameBits n x y=true->x=y:=by
 intro n
 induction n with
 |zero=>
  intro x y h;cases x <;>cases y <;>simp[Instr.sameBits] at h ⊢ <;>first|exact h|exact si _ _ h|simp_all
 |succ n p=>
  intro x y h;cases x with
  |iface t v=>
   cases y with
   |iface u w=>
    simp only[Instr.sameBits,aaZ,ac6] at h
    grind
   |_=>simp[Instr.sameBits] at h
  |agg a=>
   cases y with
   |agg b=>
    simp only[Instr.sameBits,aaZ,ac6] at h;have:=yi _ (λx y e=>p x y e) a.toList b.toList (by grind) h.2
    simp_all
   |_=>simp[Instr.sameBits] at h
  |_=>cases y <;>simp[Instr.sameBits] at h ⊢ <;>first|exact h|exact si _ _ h|simp_all
theorem rb{x x' y p:Value}(hx:aI S ρ x x')(hy:aI S ρ y p):lF P Q S CO Sh ρ (VR S) (Instr.keyThatStays x y) (Instr.keyThatStays x' p):=by
 have E:ai P Q S CO Sh ρ (VR S) (do let k<-choose (.extern "map.whichKeyStays" 2);Pure.pure (if k=0 then y else x)) (do let k<-choose (.extern "map.whichKeyStays" 2);Pure.pure (if k=0 then p else x')):=by
  refine(nL _).bind λσ k k' hle hk=>?_
  subst hk;refine ai.pure ?_;split
  ·exact hy.mono hle
  ·exact hx.mono hle
 unfold Instr.keyThatStays;cases h1:Instr.sameBits 10000 x y with
 |true=>
  rw[By 10000 hx hy h1];exact(ai.pure hy).P4
 |false=>
  cases h2:Instr.sameBits 10000 x' p with
  |false=>exact E.P4
  |true=>
   have e:=DS _ _ _ h2;subst e;intro v w hw;have h:=E v w hw;have hd:∀a v1,(do let k<-choose (.extern "map.whichKeyStays" 2);Pure.pure (if k=0 then y else x):Sem Value).run P v=.ok a v1->(a=y\/a=x)/\ { v1 with drawn:=v.drawn } =v:=by
    intro a v1 e;rw[aaw] at e;unfold choose at e;simp only[Sem.run] at e;split at e <;>(simp only[aas,aaS,Result.ok.injEq] at e;obtain⟨rfl,rfl⟩:=e;grind)
   simp only[abX,ab3,acC];cases hr:(do let k<-choose (.extern "map.whichKeyStays" 2);Pure.pure (if k=0 then y else x):Sem Value).run P v with
   |halt e u=>simp_all
   |ok a v1=>
    rw[hr] at h;obtain⟨ha,hv⟩:=hd a v1 hr;refine⟨h.1,h.2.1,h.2.2.1,λ_=>⟨v.drawn,ρ,_,w,aax _,h.1.le,rfl,?_,?_,λe he=>by simp at he⟩⟩
    ·grind [Ext.refl]
    grind
theorem ER.modify{es es':Array MapEntry}(h:ER S ρ es es')(i:Nat){k k' v v':Value}(hk:aI S ρ k k')(hv:aI S ρ v v'):
  ER S ρ (es.modify i λe=> { e with key:=k,val:=v }) (es'.modify i λe=> { e with key:=k',val:=v' }):=by
 refine⟨by simp[h.1],λj x y hx hy=>?_⟩;rw[acD] at hx hy;split at hx
 ·rename_i p;cases ha:es[j]? with
  |none=>simp_all
  |some a=>
   cases hb:es'[j]? with
   |none=>simp_all
   |some b=>
    rw[ha] at hx;rw[hb,aay p] at hy;cases hx;cases hy;exact⟨hk,hv,(h.2 j a b ha hb).2.2⟩
 ·rename_i p;rw[aat p] at hy;exact h.2 j x y hx hy
theorem ER.push{es es':Array MapEntry}(h:ER S ρ es es')(n:Nat){k k' v v':Value}(hk:aI S ρ k k')(hv:aI S ρ v v'):
  ER S ρ (es.push { key:=k,val:=v,born:=n }) (es'.push { key:=k',val:=v',born:=n }):=by
 refine⟨by simp[h.1],λj x y hx hy=>?_⟩;rw[abP] at hx hy;rw[<-h.1] at hy;split at hx
 ·grind
 ·rename_i p;rw[aat p] at hy;exact h.2 j x y hx hy
omit [Twin P Q] in
theorem Bw(b:Nat)(o:Obj)(v1:World)(c:Unit)(v2:World)(h:(setObj b o).run P v1=.ok c v2):v2.drawn=v1.drawn:=by
 grind [setObj,Sem.run]
theorem wy(n:Nat)(t:TypeId)(hm:z8 P n t=true){x x' k k' u M:Value}(hx:aI S ρ x x')(hk:aI S ρ k k')(hu:aI S ρ u M):
  lF P Q S CO Sh ρ (λ_ _ _=>True) (Instr.mapUpdate t x k u) (Instr.mapUpdate t x' k' M):=by
 unfold Instr.mapUpdate;refine(aA t).Jw λσ d d' hle hd=>?_
 obtain⟨hd,ht⟩:=hd;subst hd;unfold z8 at hm;rw[ht] at hm;have hx:=hx.mono hle;have hk:=hk.mono hle;have hu:=hu.mono hle;cases d with
 |map key elem=>
  simp only at hm ⊢;cases hx with
  |ql=>exact(ai.aw (aT _)).P4
  |map b c hb=>
   simp only;refine(dN hb).Jw λτ o o' J ho=>?_
   obtain⟨ho,hs,_⟩:=ho;cases ho with
   |map es es' clock h=>
    simp only;refine(pB false 10000 n key hm (hk.mono J)).Jw λυ _ _ I _=>?_
    have N:=h.mono I;have U:=(hk.mono J).mono I;have hu3:=(hu.mono J).mono I;have Y:=I _ _ (J _ _ hb);refine(rf key n hm N.toList U).Jw λW p q H Z=>?_
    have E:=N.mono H;have hk4:=U.mono H;have hu4:=hu3.mono H;have O:=H _ _ Y;rcases Z with ⟨rfl,rfl⟩|⟨i,v,v',rfl,rfl,hv⟩
    ·exact((eJ O hs (.map _ _ _ (E.push clock hk4 hu4)) rfl).mono λ_ _ _ _ _=>trivial).P4
    ·simp only;have hold:aI S W (((es[i]?).map (·.key)).getD k) (((es'[i]?).map (·.key)).getD k'):=by
      cases ha:es[i]? with
      |none=>
       have:es'[i]?=none:=by
        rw[af_] at ha ⊢;have:=E.1;omega
       simp_all
      |some a=>
       cases hb:es'[i]? with
       |none=>
        rw[af_] at hb;have:=(aah.1 ha).1;have:=E.1;omega
       |some b=>exact(E.2 i a b ha hb).1
     refine(rb hold hk4).UB (λχ z z' L hz=>?_) (λa v1 c v2=>?_)
     ·exact(eJ (L _ _ O) hs (.map _ _ _ ((E.mono L).modify i hz (hu4.mono L))) rfl).mono λ_ _ _ _ _=>trivial
     grind [Bw]
   |_=>exact(ai.aw (ah _)).P4
  |_=>exact(ai.aw (ah _)).P4
 |_=>exact(ai.aw (ah _)).P4
theorem Gz(ts:Array TypeId)(t:TypeId)(hz:∀p,ts[0]?=some p->yl P p){xs ys:Array Value}(h:AR S ρ xs ys):ai P Q S CO Sh ρ (VR S) (Builtin.clear_ ts t xs) (Builtin.clear_ ts t ys):=by
 unfold Builtin.clear_;rcases h.opt 0 with ⟨h0,I⟩|⟨x,x',h0,I,hx⟩
 ·grind [ai.aw,ah]
 rw[h0,I];cases ht:ts[0]? with
 |none=>exact ai.aw (ah _)
 |some p=>
  simp only;refine(aA p).bind λσ d d' hle hd=>?_
  obtain⟨hd,L⟩:=hd;subst hd;have hx:=hx.mono hle;have fin:∀ {τ:Ren},ai P Q S CO Sh τ (VR S) (Pure.pure (.tuple #[])) (Pure.pure (.tuple #[])):=ai.pure (.tuple _ _ rfl AR.empty.2);cases hx with
  |ql=>simp_all
  |cE n m=>simp_all
  |map b c hb=>
   have go:ai P Q S CO Sh σ (VR S) (do
     let .map _ clock<-getObj b|do stuck "clear: map expected";Pure.pure (.tuple #[])
     setObj b (.map #[] clock)
     Pure.pure (.tuple #[])) (do
     let .map _ clock<-getObj c|do stuck "clear: map expected";Pure.pure (.tuple #[])
     setObj c (.map #[] clock)
     Pure.pure (.tuple #[])):=by
    refine(dN hb).bind λτ o o' H ho=>?_
    obtain⟨ho,hs,_⟩:=ho;cases ho with
    |map es es' clock h=>exact(eJ (H _ _ hb) hs (.map #[] #[] clock ⟨rfl,λi x y h _=>by simp at h⟩) rfl).bind λ_ _ _ _ _=>fin
    |_=>exact ai.aw (bC.bind (ah _))
   omega
  |slice b c J off spot n m hb=>
   cases n with
   |zero=>simp_all
   |succ n=>
    cases d with
    |slice e=>
     refine(dz (hz _ ht e (.inl L))).bind λτ z M H E=>?_
     obtain⟨E,he⟩:=E;subst he;refine(gv (a:=⟨b,off,spot⟩) (a':=⟨c,off+J,spot⟩) _ ⟨J,H _ _ hb,rfl,rfl⟩ (pq E.cells _).toList 0).bind λ_ _ _ _ _=>fin
    |_=>exact ai.aw (bC.bind (ah _))
  |_=>cases d <;>exact ai.aw (bC.bind (ah _))
end
section
variable{P Q:Program}[Twin P Q]{S:FuncId->Prop}{CO:Code->Prop}{Sh:Nat->Prop}{ρ:Ren}
theorem wA:∀(n:Nat) {ρ:Ren} {a a':Addr} (_:bR ρ a a') (acc:ByteArray),ai P Q S CO Sh ρ (λ_ x y=>x=y) (Extern.Bytes.loadBytes a n acc) (Extern.Bytes.loadBytes a' n acc):=by
 intro n
 induction n with
 |zero=>intro ρ a a' _ acc;exact ai.pure rfl
 |succ n p=>
  intro ρ a a' ha acc;unfold Extern.Bytes.loadBytes;refine(oU ha).bind λσ x y hle E=>?_
  cases E with
  |int k b=>cases k <;>first|exact p ((ha.mono hle).add 1) _|exact ai.aw (ah _)
  |_=>exact ai.aw (ah _)
theorem jS{x x':Value}(hx:aI S ρ x x'):ai P Q S CO Sh ρ (λ_ x y=>x=y) (Extern.Bytes.bytesOf x) (Extern.Bytes.bytesOf x'):=by
 cases hx with
 |string s=>exact ai.pure rfl
 |cE n m=>exact ai.pure rfl
 |slice b c d off spot n m h=>exact wA (a:=⟨b,off,spot⟩) (a':=⟨c,off+d,spot⟩) _ ⟨d,h,rfl,rfl⟩ _
 |_=>exact ai.aw (ah _)
theorem uh{x x':Value}(hx:aI S ρ x x'):ai P Q S CO Sh ρ (λ_ x y=>x=y) (Extern.Bytes.asByte x) (Extern.Bytes.asByte x'):=by
 cases hx with
 |int k b=>cases k <;>first|exact ai.pure rfl|exact ai.aw (ah _)
 |_=>exact ai.aw (ah _)
theorem AR.two{xs ys:Array Value}(h:AR S ρ xs ys):(∃a b a' b',xs= #[a,b]/\ys= #[a',b']/\aI S ρ a a'/\aI S ρ b b')\/(xs.size≠2/\ys.size≠2):=by
 by_cases hs:xs.size=2
 ·have hs':=h.1▸hs;obtain⟨l⟩:=xs;obtain⟨l'⟩:=ys
  match l,l',hs,hs' with
  | [a,b],[a',b'],_,_=>exact .inl ⟨a,b,a',b',rfl,rfl,h.2 0 a a' rfl rfl,h.2 1 b b' rfl rfl⟩
 ·exact .inr ⟨hs,λh'=>hs (h.1.trans h')⟩
theorem Gy{xs ys:Array Value}(h:AR S ρ xs ys):ai P Q S CO Sh ρ (VR S) (Extern.BytealgCount.count xs) (Extern.BytealgCount.count ys):=by
 rcases h.two with ⟨a,b,a',b',rfl,rfl,ha,hb⟩|⟨h1,h2⟩
 ·unfold Extern.BytealgCount.count;refine(jS ha).bind λσ s s' hle hs=>?_
  subst hs;refine(uh (hb.mono hle)).bind λτ c c' _ hc=>?_
  subst hc;exact ai.pure (.int _ _)
 ·refine ai.aw ?_;unfold Extern.BytealgCount.count;obtain⟨l⟩:=xs
  match l,h1 with
  | [],_=>exact ah _
  | [a],_=>exact ah _
  | [a,b],h=>exact absurd rfl h
  |a::b::c::l,_=>exact ah _
theorem wC{xs ys:Array Value}(h:AR S ρ xs ys):ai P Q S CO Sh ρ (VR S) (Extern.BytealgIndexByte.indexByte xs) (Extern.BytealgIndexByte.indexByte ys):=by
 rcases h.two with ⟨a,b,a',b',rfl,rfl,ha,hb⟩|⟨h1,h2⟩
 ·unfold Extern.BytealgIndexByte.indexByte;refine(jS ha).bind λσ s s' hle hs=>?_
  subst hs;refine(uh (hb.mono hle)).bind λτ c c' _ hc=>?_
  subst hc;split <;>exact ai.pure (.int _ _)
 ·refine ai.aw ?_;unfold Extern.BytealgIndexByte.indexByte;obtain⟨l⟩:=xs
  match l,h1 with
  | [],_=>exact ah _
  | [a],_=>exact ah _
  | [a,b],h=>exact absurd rfl h
  |a::b::c::l,_=>exact ah _
theorem DI(G:Nat->Bool)(J:∀g,G g=true->ρ g=some (g,0))(hm:∀g,P.globals.findIdx? (·.name== "internal/bytealg.MaxLen")=some g->G g=true){xs ys:Array Value}(h:AR S ρ xs ys):
  ai P Q S CO Sh ρ (VR S) (Extern.BytealgIndex.index xs) (Extern.BytealgIndex.index ys):=by
 rcases h.two with ⟨a,b,a',b',rfl,rfl,ha,hb⟩|⟨h1,h2⟩
 ·unfold Extern.BytealgIndex.index;refine(jS ha).bind λσ s s' hle hs=>?_
  subst hs;refine(jS (hb.mono hle)).bind λτ c c' M hc=>?_
  subst hc;refine ai.bind (A:=λ_ x y=>x=y) ?_ λE m m' _ hm=>?_
  ·unfold Extern.BytealgIndex.maxLen;refine ai.bind (A:=λτ a a'=>bR τ a a') ?_ λE a a' _ H=>(oU H).bind λ_ x y _ N=>iO N
   unfold globalAddr;refine cQ.bind λE p q L I=>?_
   obtain⟨hp,hq⟩:=I;rw[hp,hq,Twin.globals P Q];split
   ·rename_i g hg;exact ai.pure ⟨0,L _ _ (M _ _ (hle _ _ (J g (hm g hg)))),rfl,rfl⟩
   ·exact ai.aw (ah _)
  ·subst hm;have fin:∀o:Option Nat,ai P Q S CO Sh E (VR S) (match o with|some i=>Pure.pure (goInt i)|none=>Pure.pure (goInt (-1))) (match o with|some i=>Pure.pure (goInt i)|none=>Pure.pure (goInt (-1))):=by
    intro o;cases o <;>exact ai.pure (.int _ _)
   by_cases h1:(decide (c.size<2)||decide ((c.size:Int)>m))=true
   ·simp only[aay h1];exact ai.aw (bC.bind (an (by simp)))
   ·simp only[aat h1];by_cases h2:s.size>=2^32-15
    ·simp only[aay h2];exact ai.aw (bC.bind (an (by simp)))
    ·simp only[aat h2];exact fin _
 ·refine ai.aw ?_;unfold Extern.BytealgIndex.index;obtain⟨l⟩:=xs
  match l,h1 with
  | [],_=>exact ah _
  | [a],_=>exact ah _
  | [a,b],h=>exact absurd rfl h
  |a::b::c::l,_=>exact ah _
inductive mj(P:Program)(S:FuncId->Prop)(CO:Code->Prop)(Bg:FuncId->Nat->Prop)(ρ:Ren):Next->Next->Prop
 |value (x y:Value) (h:aI S ρ x y):mj P S CO Bg ρ (.value x) (.value y)
 |skip:mj P S CO Bg ρ .skip .skip
 |enter (f:FuncId) (xs ys:Array Value) (hf:S f\/Bg f xs.size) (hb:∃fn c,P.funcs[f]?=some fn/\fn.body=some c) (h:AR S ρ xs ys):mj P S CO Bg ρ (.enter f xs) (.enter f ys)
 |round (l l':Nat) (hl:ρ l=some (l',0)) (f:FuncId) (hf:CO (.goto f)) (xs ys:Array Value) (h:AR S ρ xs ys) (a b:Code) (ha:CO a) (hb:CO b):mj P S CO Bg ρ (.round l f xs a b) (.round l' f ys a b)
structure Env(P Q:Program)[Twin P Q](S:FuncId->Prop)(CO:Code->Prop)(G:Nat->Bool)(H:FuncId->Prop):Prop where
 fn:∀f,S f->∃fn,P.funcs[f]?=some fn/\fn.name≠ "runtime.NumGoroutine" /\((∃c,fn.body=some c/\CO c)\/(fn.body=none/\Extern.findNext fn=none/\∃e,Extern.find fn=some e/\(e=Extern.BytealgCount.count\/e=Extern.BytealgIndexByte.indexByte\/e=Extern.BytealgIndex.index)))
 nb:∀f,S f->¬Twin.B P Q f
 half:∀f,H f->∃fn fh,P.funcs[f]?=some fn/\Q.funcs[f]?=some fh/\fh.results=fn.results
 maxLen:∀g,P.globals.findIdx? (·.name== "internal/bytealg.MaxLen")=some g->G g=true
def zo(G:Nat->Bool)(ρ:Ren):Prop:=∀g,G g=true->ρ g=some (g,0)
theorem zo.mono{G:Nat->Bool}{σ:Ren}(hle:ρ.le σ)(h:zo G ρ):zo G σ:=λg hg=>hle _ _ (h g hg)
variable{G:Nat->Bool}{Bg:FuncId->Nat->Prop}{H:FuncId->Prop}
theorem yD(J:Env P Q S CO G H)(I:zo G ρ){f:FuncId}(hf:S f){xs ys:Array Value}(h:AR S ρ xs ys):ai P Q S CO Sh ρ (mj P S CO Bg) (callFunc f xs) (callFunc f ys):=by
 obtain⟨fn,M,L,U⟩:=J.fn f hf;unfold callFunc;refine cQ.bind λσ p q hle O=>?_
 obtain⟨hp,hq⟩:=O;rw[hp,hq,Twin.fn f (J.nb f hf),M];have h:=h.mono hle;have I:=I.mono hle;simp only;rw[aat (c:=(fn.name== "runtime.NumGoroutine")=true) (by simpa using L),aat (c:=(fn.name== "runtime.NumGoroutine")=true) (by simpa using L)];rcases U with ⟨c,hc,_⟩|⟨hb,hn,e,he,hx⟩
 ·rw[aat (by simp[hc]),aat (by simp[hc])];exact ai.pure (.enter f xs ys (.inl hf) ⟨fn,c,M,hc⟩ h)
 ·have N:fn.body.isNone=true:=by grind
  rw[aay N,aay N,hn,he];simp only;refine(zC (m:=.extern f) trivial).bind λτ _ _ E _=>?_
  have fin:ai P Q S CO Sh τ (VR S) (e xs) (e ys):=by
   rcases hx with rfl|rfl|rfl
   ·exact Gy (h.mono E)
   ·exact wC (h.mono E)
   ·exact DI G (I.mono E) J.maxLen (h.mono E)
  exact fin.bind λY x y _ W=>ai.pure (.value _ _ W)
theorem Bo{f:FuncId}(J:Twin.B P Q f){xs ys:Array Value}(hg:Bg f xs.size)(h:AR S ρ xs ys):ai P Q S CO Sh ρ (mj P S CO Bg) (callFunc f xs) (callFunc f ys):=by
 obtain⟨⟨fn,c,H,E,M⟩,fh,c',O,N,L⟩:=Twin.j4 f J;unfold callFunc;refine cQ.bind λσ p q hle I=>?_
 obtain⟨hp,hq⟩:=I;rw[hp,hq,H,O];simp only;rw[aat (c:=(fn.name== "runtime.NumGoroutine")=true) (by simpa using M),aat (c:=(fh.name== "runtime.NumGoroutine")=true) (by grind)];rw[aat (by simp[E]),aat (by grind)];exact ai.pure (.enter f xs ys (.inr hg) ⟨fn,c,H,E⟩ (h.mono hle))
theorem hU{b c:Nat}(hb:ρ b=some (c,0)):ai P Q S CO Sh ρ (λσ l l'=>jI S CO σ (.loop l) (.loop l')/\¬Sh b) (Instr.getLoop b) (Instr.getLoop c):=by
 unfold Instr.getLoop;refine(dN hb).bind λσ o o' hle ho=>?_
 obtain⟨ho,hs,_⟩:=ho;cases ho with
 |loop l ts d' h hd hf ha p hp=>exact ai.pure ⟨.loop l ts d' h hd hf ha p hp,hs⟩
 |_=>exact ai.aw (ah _)
theorem Cv:∀(ps:List Tmp) (xs ys:List Value) (ts us:Array Value) (_:LR S ρ xs ys) (_:AR S ρ ts us),
  AR S ρ ((ps.zip xs).foldl (λtmps (t,a)=>tmps.setIfInBounds t a) ts) ((ps.zip ys).foldl (λtmps (t,a)=>tmps.setIfInBounds t a) us):=by
 intro ps
 induction ps with
 |nil=>simp_all
 |cons p ps E=>
  intro xs ys ts us h k;cases xs with
  |nil=>rw[h.nil];exact k
  |cons x xs=>
   obtain⟨y,ys',rfl,H,h'⟩:=h.cons;simp only[List.zip_cons_cons,List.foldl_cons];exact E xs ys' _ _ h' (k.set p H)
theorem Gq{l l':Nat}(hl:ρ l=some (l',0)){xs ys:Array Value}(h:AR S ρ xs ys):ai P Q S CO Sh ρ (mj P S CO Bg) (Instr.yield l xs) (Instr.yield l' ys):=by
 unfold Instr.yield;refine(hU hl).bind λσ r p hle hr=>?_
 obtain⟨hr,_⟩:=hr;cases hr with
 |loop _ ts d' k hd hf ha hb hp=>
  simp only;rw[<-h.1];by_cases hs:xs.size≠r.params.size
  ·rw[aay hs];exact ai.aw (bC.bind (ah _))
  ·rw[aat hs,aat hs];refine ai.pure (.round l l' (hle _ _ hl) r.fn hf _ _ ?_ _ _ ha hb);have:=Cv r.params.toList xs.toList ys.toList r.tmps ts (h.mono hle).toList k;simp only[<-Array.foldl_toList,Array.toList_zip];exact this
theorem jI.Nh{r:Loop}{E:Loop}(h:jI S CO ρ (.loop r) (.loop E))(st:LoopState)(p:Option Code)(hp:∀c,p=some c->CO c):
  jI S CO ρ (.loop { r with state:=st,pending:=p }) (.loop { E with state:=st,pending:=p }):=by
 cases h with
 |loop _ ts d' k hd hf ha hb _=>exact .loop { r with state:=st,pending:=p } ts d' k hd hf ha hb hp
theorem u7{l l':Nat}(hl:ρ l=some (l',0)):ai P Q S CO Sh ρ (λ_ _ _=>True) (Instr.beginRound l) (Instr.beginRound l'):=by
 unfold Instr.beginRound;refine(hU hl).bind λσ r p hle hr=>?_
 obtain⟨hr,hs⟩:=hr;have H:p.state=r.state/\p.pending=r.pending:=by cases hr;simp_all
 have E:∀c,r.pending=some c->CO c:=by cases hr;assumption
 have:=hr.Nh .busy r.pending E;rw[show({ p with state:=.busy,pending:=r.pending } :Loop)= { p with state:=.busy } by rw[<-H.2]] at this;refine(eJ (hle _ _ hl) hs this rfl).bind λτ _ _ _ _=>?_
 rw[H.1];cases r.state
 ·exact ai.pure trivial
 all_goals exact ai.aw (aT _)
theorem yC{l l':Nat}(hl:ρ l=some (l',0))(jump:Option Code)(p:∀c,jump=some c->CO c):ai P Q S CO Sh ρ (VR S) (Instr.endRound l jump) (Instr.endRound l' jump):=by
 unfold Instr.endRound;refine(hU hl).bind λσ r E hle hr=>?_
 obtain⟨hr,hs⟩:=hr;exact(eJ (hle _ _ hl) hs (hr.Nh _ jump p) rfl).bind λτ _ _ _ _=>ai.pure (.bool _)
theorem Bm{l l':Nat}(hl:ρ l=some (l',0)):ai P Q S CO Sh ρ (λ_ a b=>a=b/\∀c,a=some c->CO c) (Instr.endLoop l) (Instr.endLoop l'):=by
 unfold Instr.endLoop;refine(hU hl).bind λσ r E hle hr=>?_
 obtain⟨hr,hs⟩:=hr;have H:E.state=r.state/\E.pending=r.pending:=by cases hr;simp_all
 have p:∀c,r.pending=some c->CO c:=by cases hr;assumption
 rw[H.1];by_cases hb:(r.state==LoopState.busy)=true
 ·rw[aay hb];exact ai.aw (bC.bind (aT _))
 ·rw[aat hb,aat hb];have:=hr.Nh .exhausted r.pending p;rw[show({ E with state:=.exhausted,pending:=r.pending } :Loop)= { E with state:=.exhausted } by rw[<-H.2]] at this;exact(eJ (hle _ _ hl) hs this rfl).bind λτ _ _ _ _=>ai.pure ⟨H.2.symm,p⟩
theorem q7{b c:Nat}(hb:ρ b=some (c,0)):ai P Q S CO Sh ρ (λ_ x y=>x= []/\y= []) (Instr.takeDeferred b) (Instr.takeDeferred c):=by
 unfold Instr.takeDeferred;refine(dN hb).bind λσ o o' hle ho=>?_
 obtain⟨ho,hs,_⟩:=ho;cases ho with
 |deferred=>exact(eJ (hle _ _ hb) hs .mU rfl).bind λ_ _ _ _ _=>ai.pure ⟨rfl,rfl⟩
 |_=>exact ai.aw (ah _)
end
def aew:=@Array.mem_of_getElem?
def adt:=@List.map_toArray
def adr:=@Bool.or_eq_true
def xg:Value->Bool
 | .bool _| .int _ _| .string _| .pointer none| .slice none _ _| .map none| .chan none| .nilFunc| .nilIface=>true
 |_=>false
def I0:Value->Bool
 | .agg xs| .tuple xs=>xs.all xg
 |v=>xg v
theorem xf{v:Value}(h:xg v=true)(S:FuncId->Prop)(ρ:Ren):aI S ρ v v:=by
 unfold xg at h;split at h
 ·exact .bool _
 ·exact .int _ _
 ·exact .string _
 ·exact .jD
 ·exact .cE _ _
 ·exact .ql
 ·exact .CH
 ·exact .nilFunc
 ·exact .nilIface
 ·cases h
theorem Ad{xs:Array Value}(h:xs.all xg=true)(S:FuncId->Prop)(ρ:Ren):AR S ρ xs xs:=by
 refine⟨rfl,λi x y hx hy=>?_⟩;rw[hx] at hy;cases hy;simp only[ads] at h;exact xf (h x (aew hx)) S ρ
theorem Ac{v:Value}(h:I0 v=true):Closed v:=by
 intro S ρ;unfold I0 at h;split at h
 ·have:=Ad h S ρ;exact .agg _ _ this.1 this.2
 ·have:=Ad h S ρ;exact .tuple _ _ this.1 this.2
 ·exact xf h S ρ
structure fO where
 s:FuncId->Bool
 g:Nat->Bool
 j4:FuncId->Bool:=λ_=>false
 half:FuncId->Bool:=λ_=>false
 ar:FuncId->Nat:=λ_=>0
def UC(K:fO)(n:Nat):Operand->Bool
 | .func f=>K.j4 f&&n==K.ar f
 |_=>false
def bX(K:fO):Operand->Bool
 | .tmp _=>true
 | .const v=>I0 v
 | .global g=>K.g g
 | .func f=>K.s f
def tD:Nat:=8
def Cy(P:Program)(t:TypeId)(f:Nat):Bool:=match P.underlying t with
 |some (.struct fs)=>match fs[f]? with
  |some p=>match P.info? p.type with|some i=>i.size !=0|none=>true
  |none=>true
 |_=>true
def zq(P:Program)(t:TypeId):Bool:=match P.info? t with
 |some i=>match i.zero with|some z=>I0 z|none=>true
 |none=>true
def oP(P:Program)(t:TypeId):Bool:=match P.underlying t with
 |some (.slice e)=>zq P e
 |some (.map _ e)=>zq P e
 |_=>true
theorem mu{P:Program}{t:TypeId}(h:zq P t=true):ZAt P t:=by
 intro i z h1 h2;unfold zq at h;rw[h1] at h;simp only[h2] at h;exact Ac h
theorem jN{P:Program}{t:TypeId}(h:oP P t=true):yl P t:=by
 intro e he;unfold oP at h;rcases he with he|⟨k,he⟩
 ·rw[he] at h;exact mu h
 ·rw[he] at h;exact mu h
def qR(P:Program)(ts:Array TypeId):Bool:=match ts[0]? with|some t=>oP P t|none=>true
theorem pn{P:Program}{ts:Array TypeId}(h:qR P ts=true)(p:TypeId)(hx:ts[0]?=some p):yl P p:=by
 unfold qR at h;rw[hx] at h;exact jN h
def tJ(P:Program)(b:Builtin)(ts:Array TypeId):Bool:=match b with
 | .append=>yc P ts&&qR P ts
 | .clear=>qR P ts
 | .cap| .len=>Eo P ts
 | .copy| .max| .min=>true
 |_=>false
def kQ(P:Program)(K:fO):Op->Bool
 | .move x| .assign x=>bX K x
 | .pick c a b=>bX K c&&bX K a&&bX K b
 | .alloc t=>zq P t
 | .box _ x=>bX K x
 | .build t ps=>zq P t&&ps.all λp=>bX K p.2
 | .buildSlice t _ ps=>oP P t&&ps.all λp=>bX K p.2
 | .load _ a=>bX K a
 | .store _ a x=>bX K a&&bX K x
 | .nilCheck x=>bX K x
 | .binOp op t x y _=>bX K x&&bX K y&&(match op with| .eql| .neq=>sc P tD t|_=>true)&& !P.eqGuardType P.depth t
 | .unOp _ _ x=>bX K x
 | .convert src dst x=>H0 P src dst&&bX K x
 | .makeFunc (.func f) first captured=>K.s f&&first.all (bX K)&&captured.all (bX K)
 | .makeMap _ r=>r.all (bX K)
 | .makeSlice t l c=>oP P t&&bX K l&&bX K c
 | .slice _ x H hi E=>bX K x&&H.all (bX K)&&hi.all (bX K)&&E.all (bX K)
 | .fieldAddr t x f=>Cy P t f&&bX K x
 | .field _ x _=>bX K x
 | .indexAddr _ x ix| .index _ x ix=>bX K x&&bX K ix
 | .lookup t x ix _=>oP P t&&z8 P tD t&&bX K x&&bX K ix
 | .mapUpdate t m k x=>z8 P tD t&&bX K m&&bX K k&&bX K x
 | .range t x=>(match P.underlying t with|some (.map _ _)=>false|_=>true)&&bX K x
 | .next it isString=>isString&&bX K it
 | .extract t _=>bX K t
 | .call { callee:=.value f,args,.. } =>(bX K f||UC K args.size f)&&args.all (bX K)
 | .call { callee:=.builtin b,args,argTypes } =>tJ P b argTypes&&args.all (bX K)
 |_=>false
section
variable{P Q:Program}[Twin P Q]{CO:Code->Prop}{Sh:Nat->Prop}{ρ:Ren}{K:fO}
def fO.S(K:fO)(f:FuncId):Prop:=K.s f=true
def fO.H(K:fO)(f:FuncId):Prop:=K.half f=true
def fO.Bg(K:fO)(f:FuncId)(n:Nat):Prop:=K.j4 f=true/\n=K.ar f
theorem OX(E:zo K.g ρ){e e':Operand->Value}(he:∀t,aI K.S ρ (e (.tmp t)) (e' (.tmp t)))(h1:∀v,e (.const v)=v/\e' (.const v)=v)
  (h2:∀g,e (.global g)=.pointer (some ⟨g,0,none⟩)/\e' (.global g)=.pointer (some ⟨g,0,none⟩)) (p:∀f,e (.func f)=.func (.func f) #[] #[]/\e' (.func f)=.func (.func f) #[] #[])
  {x:Operand} (hx:bX K x=true):aI K.S ρ (e x) (e' x):=by
 cases x with
 |tmp t=>exact he t
 |const v=>rw[(h1 v).1,(h1 v).2];exact Ac hx _ _
 |global g=>
  rw[(h2 g).1,(h2 g).2];exact bR.ptr (a:=⟨g,0,none⟩) (a':=⟨g,0,none⟩) ⟨0,E g hx,rfl,rfl⟩
 |func f=>
  rw[(p f).1,(p f).2];exact .func f hx _ _ _ _ rfl AR.empty.2 rfl AR.empty.2
def IE(K:fO)(ρ:Ren)(e e':Operand->Value):Prop:=∀x,bX K x=true->aI K.S ρ (e x) (e' x)
theorem IE.mono{σ:Ren}(hle:ρ.le σ){e e':Operand->Value}(h:IE K ρ e e'):IE K σ e e':=λx hx=>(h x hx).mono hle
theorem IE.map{e e':Operand->Value}(h:IE K ρ e e'){xs:Array Operand}(hx:xs.all (bX K)=true):AR K.S ρ (xs.map e) (xs.map e'):=by
 refine⟨by simp,λi x y h1 h2=>?_⟩;rw[ad_] at h1 h2;cases ha:xs[i]? with
 |none=>simp_all
 |some a=>
  rw[ha] at h1 h2;cases h1;cases h2;simp only[ads] at hx;exact h a (hx a (aew ha))
theorem IE.opt{e e':Operand->Value}(h:IE K ρ e e'){x:Option Operand}(hx:x.all (bX K)=true):OV K.S ρ (x.map e) (x.map e'):=by
 cases x with
 |none=>exact .inl ⟨rfl,rfl⟩
 |some x=>exact .inr ⟨_,_,rfl,rfl,h x hx⟩
theorem IE.Kh{e e':Operand->Value}(h:IE K ρ e e'):∀(l:List (Nat×Operand)) (_:∀p∈l,bX K p.2=true),PR K.S ρ (l.map λ(i,x)=>(i,e x)) (l.map λ(i,x)=>(i,e' x)):=by
 intro l
 induction l with
 |nil=>intro _;trivial
 |cons p l E=>intro hx;exact⟨rfl,h _ (hx p (by simp)),E λq hq=>hx q (by simp[hq])⟩
theorem IE.parts{e e':Operand->Value}(h:IE K ρ e e'){ps:Array (Nat×Operand)}(hx:(ps.all λp=>bX K p.2)=true):
  PR K.S ρ (ps.map λ(i,x)=>(i,e x)).toList (ps.map λ(i,x)=>(i,e' x)).toList:=by
 obtain⟨l⟩:=ps;simp only[adt];have hx:∀p∈l,bX K p.2=true:=by
  grind
 exact IE.Kh h l hx
theorem jg{s s':Sem Value}(h:ai P Q K.S CO Sh ρ (VR K.S) s s'):ai P Q K.S CO Sh ρ (mj P K.S CO K.Bg) (do Pure.pure (.value (<-s))) (do Pure.pure (.value (<-s'))):=
 h.bind λ_ _ _ _ h=>ai.pure (.value _ _ h)
theorem TA{α:Type}{s s':Sem α}(h:ai P Q K.S CO Sh ρ (λ_ _ _=>True) s s'):ai P Q K.S CO Sh ρ (mj P K.S CO K.Bg) (do let _<-s;Pure.pure .skip) (do let _<-s';Pure.pure .skip):=
 h.bind λ_ _ _ _ _=>ai.pure .skip
theorem Bp(p:Env P Q K.S CO K.g K.H)(b:Builtin)(ts:Array TypeId)(t:TypeId)(cs:Array Bool)(hb:tJ P b ts=true){xs ys:Array Value}(h:AR K.S ρ xs ys):
  ai P Q K.S CO Sh ρ (mj P K.S CO K.Bg) (builtin b ts t cs xs) (builtin b ts t cs ys):=by
 cases b <;>first
  |(simp only[tJ,aaZ] at hb;exact jg (DK ts t (pn hb.2) hb.1 h))
  |exact jg (Mz ts t hb h)
  |exact jg (My ts t hb h)
  |exact jg (Gz ts t (pn hb) h)
  |exact jg (JY ts t h)
  |exact jg (Mx ts t h)
  |exact jg (Mw ts t h)
  |cases hb
theorem nM(E:Env P Q K.S CO K.g K.H)(p:zo K.g ρ){x x':Value}(hx:aI K.S ρ x x'){xs ys:Array Value}(h:AR K.S ρ xs ys):
  ai P Q K.S CO Sh ρ (mj P K.S CO K.Bg) (do let d<-Deferred.ofValue x xs;invoke d.target d.args) (do let d<-Deferred.ofValue x' ys;invoke d.target d.args):=by
 cases hx with
 |func f hf us vs as bs hs hu hs' ha=>
  have:=(AR.append ⟨hs,hu⟩ h).append (⟨hs',ha⟩:AR K.S ρ as bs);exact yD E p hf this
 |yield l m hl=>
  have:ai P Q K.S CO Sh ρ (mj P K.S CO K.Bg) (Instr.yield l (#[]++xs)) (Instr.yield m (#[]++ys)):=Gq hl (AR.empty.append h);exact this
 |nilFunc=>exact ai.aw (show bC P (runtimePanic .nilDeref:Sem Next) from aT _)
 |_=>exact ai.aw (bC.bind (ah _))
theorem Cx{t:TypeId}{f:Nat}(h:Cy P t f=true):JJ P t f:=by
 intro fs E i h1 h2 p;unfold Cy at h
 simp_all
theorem Bi(I:Env P Q K.S CO K.g K.H)(M:∀f,K.j4 f=true->Twin.B P Q f)(L:zo K.g ρ){e e':Operand->Value}(he:IE K ρ e e')(E:∀f,e (.func f)=.func (.func f) #[] #[]/\e' (.func f)=.func (.func f) #[] #[])(o:Oper)(ho:kQ P K o.op=true)(hm:∀t m k x,o.op≠.mapUpdate t m k x):
  ai P Q K.S CO Sh ρ (mj P K.S CO K.Bg) (execOp e o) (execOp e' o):=by
 obtain⟨dst,op,ty,pos,after,guard⟩:=o;simp only at ho;cases op with
 |move x=>exact ai.pure (.value _ _ (he x ho))
 |assign x=>exact ai.pure (.value _ _ (he x ho))
 |pick c a b=>
  simp only[kQ,aaZ] at ho;refine(nN (he c ho.1.1)).bind λσ p q hle J=>?_
  subst J;refine ai.pure (.value _ _ ?_);cases p
  ·exact(he b ho.2).mono hle
  ·exact(he a ho.1.2).mono hle
 |alloc t=>exact jg (GD t (mu ho))
 |box t x=>exact jg (MA t (he x ho))
 |build t ps=>
  simp only[kQ,aaZ] at ho;exact jg (GA t (mu ho.1) (he.parts ho.2))
 |buildSlice t n ps=>
  simp only[kQ,aaZ] at ho;exact jg (u0 t (jN ho.1) n (he.parts ho.2))
 |load t a=>exact jg (DF t (he a ho))
 |store t a x=>
  simp only[kQ,aaZ] at ho;exact TA (Bb t (he a ho.1) (he x ho.2))
 |nilCheck x=>
  have hx:=he x ho;unfold execOp;simp only
  revert hx
  generalize e x=u;generalize e' x=O;intro hx;have k:=hx;cases hx with
  |jD=>exact ai.aw (aT _)
  |nilIface=>exact ai.aw (aT _)
  |nilFunc=>exact ai.aw (aT _)
  |_=>exact ai.pure (.value _ _ k)
 |binOp op t x y yt=>
  simp only[kQ,aaZ] at ho;obtain⟨⟨⟨hx,hy⟩,ht⟩,hg⟩:=ho;refine jg ((Bl op t x y (by simpa using hg) (he x hx) (he y hy)).bind λσ _ _ hle _=>?_);refine GB op t tD (λh=>?_) ((he x hx).mono hle) ((he y hy).mono hle)
  grind
 |unOp op t x=>exact jg (Gr op (he x ho))
 |convert src dst x=>
  simp only[kQ,aaZ] at ho;exact jg (Bn src dst ho.1 (he x ho.2))
 |makeFunc fn first captured=>
  cases fn with
  |func f=>
   simp only[kQ,aaZ] at ho;have h1:=he.map ho.1.2;have h2:=he.map ho.2;exact ai.pure (.value _ _ (.func f ho.1.1 _ _ _ _ h1.1 h1.2 h2.1 h2.2))
  |_=>cases ho
 |makeMap t r=>exact jg (Bd t (he.opt ho))
 |makeSlice t l c=>
  simp only[kQ,aaZ] at ho;exact jg (wz t (jN ho.1.1) (he l ho.1.2) (he c ho.2))
 |slice t x W hi U=>
  simp only[kQ,aaZ] at ho;exact jg (Bc t (he x ho.1.1.1) (he.opt ho.1.1.2) (he.opt ho.1.2) (he.opt ho.2))
 |fieldAddr t x f=>
  simp only[kQ,aaZ] at ho;exact jg (Bf t f (Cx ho.1) (he x ho.2))
 |field t x f=>exact jg (Gx t f (he x ho))
 |indexAddr t x ix=>
  simp only[kQ,aaZ] at ho;exact jg (Be t (he x ho.1) (he ix ho.2))
 |index t x ix=>
  simp only[kQ,aaZ] at ho;exact jg (Gw t (he x ho.1) (he ix ho.2))
 |lookup t x ix ok=>
  simp only[kQ,aaZ] at ho;exact jg (DD tD t (jN ho.1.1.1) ho.1.1.2 ok (he x ho.1.2) (he ix ho.2))
 |mapUpdate t m k x=>grind
 |range t x=>
  simp only[kQ,aaZ] at ho;refine jg (Gv t (he x ho.2) λk e h=>?_)
  simp_all
 |next it isString=>
  simp only[kQ,aaZ] at ho;rw[ho.1];exact jg (JW ty (he it ho.2))
 |extract t i=>exact jg (Bh (he t ho) i)
 |call c=>
  obtain⟨callee,args,N⟩:=c;cases callee with
  |value f=>
   simp only[kQ,aaZ,adr] at ho;rcases ho.1 with hf|hf
   ·exact nM I L (he f hf) (he.map ho.2)
   ·cases f with
    |func k=>
     have hx:ai P Q K.S CO Sh ρ (mj P K.S CO K.Bg) (do let d<-Deferred.ofValue (e (.func k)) (args.map e);invoke d.target d.args) (do let d<-Deferred.ofValue (e' (.func k)) (args.map e');invoke d.target d.args):=by
      rw[(E k).1,(E k).2];have:=(AR.append AR.empty (he.map ho.2)).append (AR.empty (S:=K.S) (ρ:=ρ));have hf2:K.j4 k=true/\args.size=K.ar k:=by simpa[UC] using hf
      exact Bo (M k hf2.1) ⟨hf2.1,by grind⟩ this
     exact hx
    |_=>cases hf
  |builtin b=>
   simp only[kQ,aaZ] at ho;exact Bp I b N ty _ ho.1 (he.map ho.2)
  |invoke=>cases ho
 |_=>cases ho
theorem DJ(I:Env P Q K.S CO K.g K.H)(J:∀f,K.j4 f=true->Twin.B P Q f)(E:zo K.g ρ){e e':Operand->Value}(he:IE K ρ e e')(p:∀f,e (.func f)=.func (.func f) #[] #[]/\e' (.func f)=.func (.func f) #[] #[])(o:Oper)(ho:kQ P K o.op=true):
  lF P Q K.S CO Sh ρ (mj P K.S CO K.Bg) (execOp e o) (execOp e' o):=by
 by_cases hm:∀t m k x,o.op≠.mapUpdate t m k x
 ·exact(Bi I J E he p o ho hm).P4
 ·obtain⟨t,m,k,x,e⟩:∃t m k x,o.op=.mapUpdate t m k x:=by
   simp_all
  obtain⟨dst,op,ty,pos,after,guard⟩:=o;simp only at e ho;subst e;simp only[kQ,aaZ] at ho;exact(wy tD t ho.1.1.1 (he m ho.1.1.2) (he k ho.1.2) (he x ho.2)).UB (λ_ _ _ _ _=>ai.pure .skip) (λ_ v1 _ v2 h=>by cases h;rfl)
end
def abN:=@Option.bind_some
def IX(P:Program)(K:fO)(ops:Array Oper):Bool:=ops.all λo=>kQ P K o.op
def codeOk(P:Program)(K:fO):Code->Bool
 | .region _ ops _=>IX P K ops
 | .seq a b=>codeOk P K a&&codeOk P K b
 | .cond c a b=>bX K c&&codeOk P K a&&codeOk P K b
 | .block _ b=>codeOk P K b
 | .loop b=>codeOk P K b
 | .scope b=>codeOk P K b
 | .rangeFunc f _ a b=>bX K f&&codeOk P K a&&codeOk P K b
 | .exit _| .skip| .ret| .label _=>true
 | .goto f=>K.s f||K.half f
 | .refuse _=>false
def fO.CO(P:Program)(K:fO)(c:Code):Prop:=codeOk P K c=true
section
variable{P Q:Program}[Twin P Q]{K:fO}{Sh:Nat->Prop}{ρ σ:Ren}
inductive jx(P:Program)(K:fO)(ρ:Ren):Item->Item->Prop
 |code (c:Code) (h:K.CO P c):jx P K ρ (.code c) (.code c)
 |inBlock (id:Nat):jx P K ρ (.inBlock id) (.inBlock id)
 |inLoop (c:Code) (h:K.CO P c):jx P K ρ (.inLoop c) (.inLoop c)
 |inScope (c:Code) (h:K.CO P c):jx P K ρ (.inScope c) (.inScope c)
 |inRegion (ops:Array Oper) (l:List Nat) (h:IX P K ops=true):jx P K ρ (.inRegion ops l) (.inRegion ops l)
 |inRangeFunc (l l':Nat) (h:ρ l=some (l',0)):jx P K ρ (.inRangeFunc l) (.inRangeFunc l')
 |endRangeFunc (l l':Nat) (h:ρ l=some (l',0)):jx P K ρ (.endRangeFunc l) (.endRangeFunc l')
 |beginRound:jx P K ρ .beginRound .beginRound
inductive iE{α β:Type}(R:α->β->Prop):List α->List β->Prop
 |nil:iE R [] []
 |cons {a:α} {b:β} {l:List α} {m:List β} (h:R a b) (t:iE R l m):iE R (a::l) (b::m)
theorem iE.mono{α β:Type}{R p:α->β->Prop}(hr:∀a b,R a b->p a b){l:List α}{m:List β}(h:iE R l m):iE p l m:=by
 induction h with
 |nil=>exact .nil
 |cons h _ E=>exact .cons (hr _ _ h) E
theorem iE.append{α β:Type}{R:α->β->Prop}{l l2:List α}{m m2:List β}(h:iE R l m)(k:iE R l2 m2):iE R (l++l2) (m++m2):=by
 induction h with
 |nil=>exact k
 |cons h _ p=>exact .cons h p
theorem jx.mono(hle:ρ.le σ){a b:Item}(h:jx P K ρ a b):jx P K σ a b:=by
 cases h with
 |code c h=>exact .code c h
 |inBlock id=>exact .inBlock id
 |inLoop c h=>exact .inLoop c h
 |inScope c h=>exact .inScope c h
 |inRegion ops l h=>exact .inRegion ops l h
 |inRangeFunc l l' h=>exact .inRangeFunc l l' (hle _ _ h)
 |endRangeFunc l l' h=>exact .endRangeFunc l l' (hle _ _ h)
 |beginRound=>exact .beginRound
def pO(ρ:Ren)(d d':Deferred):Prop:=∃r p,d= { target:=.collected r,args:= #[] } /\d'= { target:=.collected p,args:= #[] } /\ρ r=some (p,0)
theorem pO.mono(hle:ρ.le σ){d d':Deferred}(h:pO ρ d d'):pO σ d d':=let ⟨r,p,a,b,c⟩:=h;⟨r,p,a,b,hle _ _ c⟩
def FY(ρ:Ren)(x y:Option Nat):Prop:=(x=none/\y=none)\/∃l l',x=some l/\y=some l'/\ρ l=some (l',0)
theorem FY.mono(hle:ρ.le σ){x y:Option Nat}(h:FY ρ x y):FY σ x y:=h.imp id λ⟨l,l',a,b,c⟩=>⟨l,l',a,b,hle _ _ c⟩
structure fL(P Q:Program)[Twin P Q](K:fO)(ρ:Ren)(fr fr':Frame):Prop where
 fn:fr'.fn=fr.fn
 ok:K.S fr.fn\/K.H fr.fn
 tmps:AR K.S ρ fr.tmps fr'.tmps
 todo:iE (jx P K ρ) fr.todo fr'.todo
 defers:iE (pO ρ) fr.defers fr'.defers
 mode:fr'.mode=fr.mode
 going:fr.mode=.run\/fr.mode=.returning
 kind:fr.kind=.normal/\fr'.kind=.normal
 round:FY ρ fr.roundOf fr'.roundOf
theorem fL.mono(hle:ρ.le σ){fr fr':Frame}(h:fL P Q K ρ fr fr'):fL P Q K σ fr fr':=
 ⟨h.fn,h.ok,h.tmps.mono hle,h.todo.mono λ_ _=>jx.mono hle,h.defers.mono λ_ _=>pO.mono hle,h.mode,h.going,h.kind,h.round.mono hle⟩
abbrev gQ(P Q:Program)[Twin P Q](K:fO)(ρ:Ren):List Frame->List Frame->Prop:=iE (fL P Q K ρ)
theorem gQ.mono(hle:ρ.le σ){l m:List Frame}(h:gQ P Q K ρ l m):gQ P Q K σ l m:=iE.mono (λ_ _=>fL.mono hle) h
theorem fL.ev(p:zo K.g ρ){fr fr':Frame}(h:fL P Q K ρ fr fr'):IE K ρ fr.eval fr'.eval:=λ_ hx=>
 OX p (λt=>h.tmps.getD t aI.undef) (λ_=>⟨rfl,rfl⟩) (λ_=>⟨rfl,rfl⟩) (λ_=>⟨rfl,rfl⟩) hx
theorem HN(id:Nat){k k':List Item}(h:iE (jx P K ρ) k k'):(exitTo id k=none/\exitTo id k'=none)\/∃t t',exitTo id k=some t/\exitTo id k'=some t'/\iE (jx P K ρ) t t':=by
 induction h with
 |nil=>exact .inl ⟨rfl,rfl⟩
 |cons h t p=>
  cases h with
  |inBlock E=>
   simp only[exitTo]
   grind
  |_=>simp only[exitTo];exact p
theorem Cw(l:Nat):∀(c r:Code),findLabel c l=some r->K.CO P c->K.CO P r:=by
 intro c
 induction c with
 |seq a b E p=>
  intro r h hc;unfold fO.CO codeOk at hc;simp only[aaZ] at hc;simp only[findLabel] at h;split at h
  ·rename_i rest hr;cases h;have:=E _ hr hc.1;unfold fO.CO at this ⊢;unfold codeOk
   simp_all
  ·exact p _ h hc.2
 |label l'=>
  intro r h _;simp only[findLabel] at h;split at h
  ·cases h;rfl
  ·cases h
 |_=>intro r h;simp[findLabel] at h
theorem HG(l:Nat){k k':List Item}(h:iE (jx P K ρ) k k'):(gotoIn l k=none/\gotoIn l k'=none)\/∃t t',gotoIn l k=some t/\gotoIn l k'=some t'/\iE (jx P K ρ) t t':=by
 induction h with
 |nil=>exact .inl ⟨rfl,rfl⟩
 |cons h t p=>
  cases h with
  |inScope c hc=>
   simp only[gotoIn];cases hf:findLabel c l with
   |none=>exact p
   |some r=>exact .inr ⟨_,_,rfl,rfl,.cons (.code r (Cw l c r hf hc)) (.cons (.inScope c hc) t)⟩
  |_=>simp only[gotoIn];exact p
theorem Da(ops:Array Oper){ts us:Array Value}(h:AR K.S ρ ts us)(j:Nat):yielded ops ts j=yielded ops us j:=by
 unfold yielded;cases(ops[j]?).bind (·.dst) with
 |none=>rfl
 |some d=>
  simp only[abN];rcases h.opt d with ⟨h1,h2⟩|⟨x,y,h1,h2,p⟩
  ·grind
  ·rw[h1,h2];cases p <;>rfl
theorem fL.finish{fr fr':Frame}(h:fL P Q K ρ fr fr'){x y:Value}(hx:aI K.S ρ x y):fL P Q K ρ (fr.finish x) (fr'.finish y):=by
 obtain⟨h1,h2,H,O,N,M,L,J,I⟩:=h;unfold Frame.finish;generalize ht:fr.todo=t at O;generalize E:fr'.todo=t' at O;cases O with
 |nil=>exact⟨h1,h2,H,by rw[ht,E];exact .nil,N,M,L,J,I⟩
 |cons hi p=>
  have self:∀ {a b:Item} {l m:List Item},fr.todo=a::l->fr'.todo=b::m->jx P K ρ a b->iE (jx P K ρ) l m->fL P Q K ρ fr fr':=λY W r s=>
   ⟨h1,h2,H,by rw[Y,W];exact .cons r s,N,M,L,J,I⟩
  cases hi with
  |inRegion ops l U=>
   cases l with
   |nil=>exact self ht E (.inRegion ops [] U) p
   |cons i l=>
    refine⟨h1,h2,?_,.cons (.inRegion ops l U) p,N,M,L,J,I⟩;simp only;cases(ops[i]?).bind (·.dst) with
    |none=>exact H
    |some d=>exact H.set d hx
  |inRangeFunc l l' hl=>exact⟨h1,h2,H,.cons (.endRangeFunc l l' hl) p,N,M,L,J,I⟩
  |beginRound=>exact⟨h1,h2,H,p,N,M,L,J,I⟩
  |code c hc=>exact self ht E (.code c hc) p
  |inBlock id=>exact self ht E (.inBlock id) p
  |inLoop c hc=>exact self ht E (.inLoop c hc) p
  |inScope c hc=>exact self ht E (.inScope c hc) p
  |endRangeFunc l l' hl=>exact self ht E (.endRangeFunc l l' hl) p
end
def aex:=@Go.GStep.go.injEq
def adV:=@Go.Goroutine.mk.injEq
def abQ:=@and_true
def aeY:=@List.append_cancel_right_eq
def aem:=@Option.getD_some
def aed:=@List.mem_cons_of_mem
def ada:=@Go.Sem.runT_eq
def LG(fr:Frame)(cs:List Frame):Goroutine:= { frame:=fr,callers:=cs,status:=.running,dying:=none }
def ym(P:Program)(fr:Frame):Prop:=(∀d∈fr.defers,∃r,d= { target:=.collected r,args:= #[] })/\∃fn,P.funcs[fr.fn]?=some fn
def jL:Frame->List Frame->Prop
 |fr,[]=>fr.roundOf=none
 |_,g::gs=>jL g gs
theorem jL.same{fr dL:Frame}{fs:List Frame}(h:jL fr fs)(e:dL.roundOf=fr.roundOf):jL dL fs:=by
 cases fs with
 |nil=>exact e.trans h
 |cons g gs=>exact h
theorem eQ(fr:Frame)(x:Value):(fr.finish x).roundOf=fr.roundOf:=by
 unfold Frame.finish
 grind
section
variable{P Q:Program}[Twin P Q]{K:fO}{Sh:Nat->Prop}{ρ σ:Ren}
theorem fL.Yp(p:Env P Q K.S (K.CO P) K.g K.H){fr fr':Frame}(h:fL P Q K ρ fr fr'):ym P fr:=by
 refine⟨λd hd=>?_,h.ok.elim (λhk=>let ⟨fn,e,_⟩:=p.fn _ hk;⟨fn,e⟩) (λhk=>let ⟨fn,_,e,_⟩:=p.half _ hk;⟨fn,e⟩)⟩;have h:=h.defers;generalize fr.defers=l at h hd;generalize fr'.defers=l' at h
 induction h with
 |nil=>cases hd
 |cons h t E=>
  cases hd with
  |head=>obtain⟨r,_,e,_⟩:=h;grind
  |tail _ hd=>exact E hd
theorem gQ.Yp(E:Env P Q K.S (K.CO P) K.g K.H){fs eP:List Frame}(h:gQ P Q K ρ fs eP):∀f∈fs,ym P f:=by
 induction h with
 |nil=>simp_all
 |cons h t p=>
  intro f hf;cases hf with
  |head=>exact h.Yp E
  |tail _ hf=>exact p f hf
def m_(P:Program)(base:List Frame)(X:GStep)(u:World):Prop:=
 (∃o u es,X=.ended o u es)\/∃dL dG ch es,X=.go (LG dL (dG++base)) u es/\dL.mode=.panicking ch/\∀f∈dL::dG,ym P f
def qK(P Q:Program)[Twin P Q](K:fO)(ρ:Ren)(fr fr':Frame)(fs:List Frame):Prop:=
 fL P Q K ρ fr fr'\/∃f xs ys,fs≠ []/\K.Bg f xs.size/\fr=Frame.enter P f xs .normal/\fr'=Frame.enter Q f ys .normal/\AR K.S ρ xs ys
theorem qK.mono(hle:ρ.le σ){fr fr':Frame}{fs:List Frame}(h:qK P Q K ρ fr fr' fs):qK P Q K σ fr fr' fs:=
 h.imp (·.mono hle) λ⟨f,xs,ys,n,a,b,c,d⟩=>⟨f,xs,ys,n,a,b,c,d.mono hle⟩
theorem qK.going{fr fr':Frame}{fs:List Frame}(h:qK P Q K ρ fr fr' fs):fr.mode=.run\/fr.mode=.returning:=by
 rcases h with h|⟨f,xs,ys,_,_,rfl,_,_⟩
 ·exact h.going
 ·exact .inl rfl
def cY(P Q:Program)[Twin P Q](K:fO)(Sh:Nat->Prop)(ρ:Ren)(base ai4:List Frame)(v:World)(X Y:World->GStep):Prop:=
 (∃u,m_ P base (X v) u/\(J v->J u))\/
 ∃dL dG v1 es,X v=.go (LG dL (dG++base)) v1 es/\(∀t:Nat->Question->Nat,(∀i,v.drawn<=i->i<v1.drawn->∀q,t i q=v.tape i q)->∃es,X { v with tape:=t } =.go (LG dL (dG++base)) { v1 with tape:=t } es)/\(dL.mode=.run\/dL.mode=.returning)/\jL dL dG/\gP v v1/\v1.tape=v.tape/\∀w,cp P K.S (K.CO P) Sh ρ v w->Al v w (v1.drawn-v.drawn)->
  ∃n ρ1 p E w1 es',v.drawn<=n/\n<=v1.drawn/\Y w=.go (LG p (E++ai4)) w1 es'/\Ext P K.S (K.CO P) Sh ρ v w ρ1 { v1 with drawn:=n } w1/\qK P Q K ρ1 dL p dG/\gQ P Q K ρ1 dG E/\∀e∈es',aqJ Sh ρ1 e
theorem PK(es:Array Event)(g:Goroutine)(w:World)(es':Array Event):GStep.after es (.go g w es')=.go g w (es++es'):=rfl
theorem cY.stay{base ai4:List Frame}{v:World}{fr fr':Frame}{fs eP:List Frame}(h:fL P Q K ρ fr fr')(hs:gQ P Q K ρ fs eP)(hb:jL fr fs):
  cY P Q K Sh ρ base ai4 v (λv=>.go (LG fr (fs++base)) v #[]) (λw=>.go (LG fr' (eP++ai4)) w #[]):=
 .inr ⟨fr,fs,v,#[],rfl,λt _=>⟨#[],rfl⟩,h.going,hb,gP.refl v,rfl,λw hw _=>⟨v.drawn,ρ,fr',eP,w,#[],aax _,aax _,rfl,Ext.refl hw,.inl h,hs,λe he=>by grind⟩⟩
theorem cY.Qz{base ai4:List Frame}{v:World}{fr fr':Frame}{fs eP:List Frame}(h:qK P Q K ρ fr fr' fs)(hs:gQ P Q K ρ fs eP)(hb:jL fr fs):
  cY P Q K Sh ρ base ai4 v (λv=>.go (LG fr (fs++base)) v #[]) (λw=>.go (LG fr' (eP++ai4)) w #[]):=
 .inr ⟨fr,fs,v,#[],rfl,λt _=>⟨#[],rfl⟩,h.going,hb,gP.refl v,rfl,λw hw _=>⟨v.drawn,ρ,fr',eP,w,#[],aax _,aax _,rfl,Ext.refl hw,h,hs,λe he=>by grind⟩⟩
theorem cY.ended{base ai4:List Frame}{v:World}{Y:World->GStep}(o:Outcome)(es:Array Event):cY P Q K Sh ρ base ai4 v (λv=>.ended o v es) Y:=
 .inl ⟨v,.inl ⟨o,v,es,rfl⟩,id⟩
theorem m_.after{base:List Frame}{X:GStep}{u:World}(es:Array Event)(h:m_ P base X u):m_ P base (GStep.after es X) u:=by
 rcases h with ⟨o,u,es',rfl⟩|⟨dL,dG,ch,es',rfl,h1,h2⟩
 ·exact .inl ⟨o,u,_,rfl⟩
 ·exact .inr ⟨dL,dG,ch,_,rfl,h1,h2⟩
theorem cY.behind{α β:Type}{A:Ren->α->β->Prop}{s:Sem α}{s':Sem β}{base ai4:List Frame}{v w0:World}(hs:ai P Q K.S (K.CO P) Sh ρ A s s')(p:cp P K.S (K.CO P) Sh ρ v w0){X Y:World->GStep}
  (iD:∀a v1,s.run P v=.ok a v1->(∃σ b,ρ.le σ/\A σ a b)->∃X1:World->GStep,(∀v v1,s.run P v=.ok a v1->∃es,X v=GStep.after es (X1 v1))/\∀σ b w1,ρ.le σ->A σ a b->cp P K.S (K.CO P) Sh σ v1 w1->∃M:World->GStep,cY P Q K Sh σ base ai4 v1 X1 M/\
   ∀w w1,s'.run Q w=.ok b w1->∃es',Y w=GStep.after es' (M w1)/\∀e∈es',e∈s'.events Q w #[])
  (N_:∀h u,s.run P v=.halt h u->iy h->m_ P base (X v) u):cY P Q K Sh ρ base ai4 v X Y:=by
 have I:=hs v w0 p;cases hr:s.run P v with
 |halt h u=>
  rw[hr] at I;exact .inl ⟨u,N_ h u hr I.1,I.2⟩
 |ok a v1=>
  rw[hr] at I;obtain⟨h1,h2,Ak,_⟩:=I;have cO:cp P K.S (K.CO P) Sh ρ v { w0 with tape:=λj q=>v.tape (v.drawn+(j-w0.drawn)) q } :=⟨p.inj,p.own,p.sh,p.Bv,p.mo,p.cz,p.C2,p.C1⟩
  have hs':=hs v _ cO;rw[hr] at hs';obtain⟨ρ1,b,w1,k1,k2,J,_⟩:=hs'.2.2.2 (λi _ q=>by simp);obtain⟨X1,H,hX⟩:=iD a v1 hr ⟨ρ1,b,k2.le,J⟩;obtain⟨es,E⟩:=H v v1 hr;obtain⟨M,O,_⟩:=hX ρ1 b w1 k2.le J k2.rel;rcases O with ⟨u,hu,hj⟩|⟨dL,dG,v2,Sv,F9,gt,g0,gb,g1,g2,_⟩
  ·exact .inl ⟨u,by rw[E];exact hu.after es,λj=>hj (h1.j j)⟩
  ·have l1:=h1.le;have l2:=g1.le;refine .inr ⟨dL,dG,v2,es++Sv,by rw[E,F9];rfl,λt ht=>?_,g0,gb,h1.trans g1,g2.trans h2,λw hw vm=>?_⟩
   case refine_1=>
    obtain⟨Z,W⟩:=H _ _ (Ak t λi hi yu q=>ht i hi (by omega) q);obtain⟨es4,U⟩:=gt t λi hi yu q=>by grind
    exact⟨Z++es4,by rw[W,U];rfl⟩
   have Rq:=hs v w hw;rw[hr] at Rq;have l1:=h1.le;have l2:=g1.le;obtain⟨ρ1,b,w1,k1,k2,J,k4⟩:=Rq.2.2.2 (λi hi q=>vm i (by omega) q);obtain⟨M,O,hY⟩:=hX ρ1 b w1 k2.le J k2.rel;obtain⟨es',N,ET⟩:=hY w w1 k1;have HE:Al v1 w1 (v2.drawn-v1.drawn):=by
    intro i hi q;rw[h2,k2.tT,k2.drawn];have:=vm ((v1.drawn-v.drawn)+i) (by omega) q
    grind
   rcases O with ⟨u,hu,_⟩|⟨Uu,Se,v3,Z,e,_,_,_,_,_,hgo⟩
   ·rcases hu with ⟨_,_,_,e⟩|⟨Uu,Se,ch,Z,e,hm,_⟩
    ·simp_all
    ·
     exfalso
     simp_all [LG]
   ·rw[F9] at e;simp only[aex,LG,adV,abQ,aeY] at e;obtain⟨⟨e1,e2⟩,W,U⟩:=e;subst e1 e2 W U;obtain⟨n,ρ2,mS,fH,w2,Xt,q1,q2,m1,m2,m3,m4,m5⟩:=hgo w1 k2.rel HE;refine⟨n,ρ2,mS,fH,w2,es'++Xt,aaY h1.le q1,q2,by rw[N,m1];rfl,k2.trans m2 h1.le q1,m3,m4,λev L=>?_⟩;rcases afh.1 L with L|L
    ·exact(k4 ev (ET ev L)).mono m2.le
    grind
theorem cY.SN{α β:Type}{A:Ren->α->β->Prop}{s:Sem α}{s':Sem β}{base ai4:List Frame}{v w0:World}(hs:lF P Q K.S (K.CO P) Sh ρ A s s')(p:cp P K.S (K.CO P) Sh ρ v w0){X Y:World->GStep}
  (iD:∀a v1,s.run P v=.ok a v1->(∃σ b,ρ.le σ/\A σ a b)->∃N:World->GStep,(∀v v1,s.run P v=.ok a v1->∃es,X v=GStep.after es (N v1))/\∀σ b w1,ρ.le σ->A σ a b->cp P K.S (K.CO P) Sh σ v1 w1->∃M:World->GStep,cY P Q K Sh σ base ai4 v1 N M/\(∀g v2 es,N v1=.go g v2 es->v2.drawn=v1.drawn)/\
   ∀w w1,s'.run Q w=.ok b w1->∃es',Y w=GStep.after es' (M w1)/\∀e∈es',e∈s'.events Q w #[])
  (N_:∀h u,s.run P v=.halt h u->iy h->m_ P base (X v) u):cY P Q K Sh ρ base ai4 v X Y:=by
 have I:=hs v w0 p;cases hr:s.run P v with
 |halt h u=>
  rw[hr] at I;exact .inl ⟨u,N_ h u hr I.1,I.2⟩
 |ok a v1=>
  rw[hr] at I;obtain⟨h1,h2,Ak,_⟩:=I;have cO:cp P K.S (K.CO P) Sh ρ v { w0 with tape:=λj q=>v.tape (v.drawn+(j-w0.drawn)) q } :=⟨p.inj,p.own,p.sh,p.Bv,p.mo,p.cz,p.C2,p.C1⟩
  have hs':=hs v _ cO;rw[hr] at hs';obtain⟨_,ρ1,b,w1,_,_,k1,k2,J,_⟩:=hs'.2.2.2 (λi _ q=>by simp);obtain⟨N,H,hX⟩:=iD a v1 hr ⟨ρ1,b,k2.le,J⟩;obtain⟨es,E⟩:=H v v1 hr;obtain⟨M,Z,hnd,_⟩:=hX ρ1 b w1 k2.le J k2.rel.lI;rcases Z with ⟨u,hu,hj⟩|⟨dL,dG,v2,Sv,O,gt,g0,gb,g1,g2,_⟩
  ·exact .inl ⟨u,by rw[E];exact hu.after es,λj=>hj (h1.j j)⟩
  ·have l1:=h1.le;have l2:=g1.le;refine .inr ⟨dL,dG,v2,es++Sv,by rw[E,O];rfl,λt ht=>?_,g0,gb,h1.trans g1,g2.trans h2,λw hw vm=>?_⟩
   case refine_1=>
    obtain⟨Xu,e3⟩:=H _ _ (Ak t λi hi yu q=>ht i hi (by omega) q);obtain⟨es4,e4⟩:=gt t λi hi yu q=>by grind
    exact⟨Xu++es4,by rw[e3,e4];rfl⟩
   have Rq:=hs v w hw;rw[hr] at Rq;have l1:=h1.le;have l2:=g1.le;obtain⟨n,ρ1,b,w1,q1,q2,k1,k2,J,k4⟩:=Rq.2.2.2 (λi hi q=>vm i (by omega) q);obtain⟨M,Z,_,hY⟩:=hX ρ1 b w1 k2.le J k2.rel.lI;obtain⟨es',W,ET⟩:=hY w w1 k1;have vl:v2.drawn=v1.drawn:=hnd _ _ _ O;have HE:Al v1 w1 (v2.drawn-v1.drawn):=λi hi=>by omega
   rcases Z with ⟨u,hu,_⟩|⟨Uu,Se,v3,Xu,e,_,_,_,_,_,hgo⟩
   ·rcases hu with ⟨_,_,_,e⟩|⟨Uu,Se,ch,Xu,e,hm,_⟩
    ·grind
    ·
     exfalso;rw[O] at e;simp only[aex,LG,adV,abQ] at e
     grind
   ·rw[O] at e;simp only[aex,LG,adV,abQ,aeY] at e;obtain⟨⟨e1,e2⟩,e3,e4⟩:=e;subst e1 e2 e3 e4;obtain⟨n2,ρ2,mS,fH,w2,Xt,r1,r2,m1,m2,m3,m4,m5⟩:=hgo w1 k2.rel.lI HE;have U:Ext P K.S (K.CO P) Sh ρ1 { v1 with drawn:=n } w1 ρ2 { v2 with drawn:=n } w2:=
     ⟨m2.le,m2.rel.lI.MN n,m2.new,m2.frame,m2.Dj,m2.qS,m2.Y4,m2.tT,m2.LZ,by have h:w2.drawn=w1.drawn+(n2-v1.drawn):=m2.drawn;grind⟩
    refine⟨n,ρ2,mS,fH,w2,es'++Xt,q1,by omega,by rw[W,m1];rfl,k2.trans U q1 (aax _),m3,m4,λev L=>?_⟩;rcases afh.1 L with L|L
    ·exact(k4 ev (ET ev L)).mono m2.le
    grind
theorem h_{p:Program}{fn:FuncId}{es:Array Event}{e:Event}(h:e∈seen p fn es):e∈es:=by
 unfold seen at h;simp only[<-Array.foldl_toList] at h;have key:∀(l:List Event) (st:Bool×Array Event),(∀e∈st.2,e∈es)->(∀e∈l,e∈es)->∀e∈(l.foldl (λ(x:Bool×Array Event) e=>match e.loc with
   | .mark (.extern f)=>((p.funcs[f]?).any (·.norace),x.2)
   |_=>(x.1,if x.1&& !e.sync then x.2 else x.2.push e)) st).2,e∈es:=by
  intro l
  induction l with
  |nil=>simp_all
  |cons a l E=>
   grind
 exact key es.toList ((p.funcs[fn]?).any (·.norace),#[]) (λe he=>by grind) (λe he=>by grind) e h
theorem anQ{p:Program}{m:Bool}{fr c:Frame}{cs:List Frame}{v:Value}{w:World}(h:fr.kind=.normal):
  doReturn p m fr (c::cs) none v w=.go (LG (c.finish v) cs) w #[]:=by
 unfold doReturn;rw[h];rfl
theorem fL.put{fr fr':Frame}(h:fL P Q K ρ fr fr'){t t':List Item}(ht:iE (jx P K ρ) t t'):fL P Q K ρ { fr with todo:=t } { fr' with todo:=t' } :=
 ⟨h.fn,h.ok,h.tmps,ht,h.defers,h.mode,h.going,h.kind,h.round⟩
theorem fL.returning{fr fr':Frame}(h:fL P Q K ρ fr fr'):fL P Q K ρ { fr with mode:=.returning } { fr' with mode:=.returning } :=
 ⟨h.fn,h.ok,h.tmps,h.todo,h.defers,rfl,.inr rfl,h.kind,h.round⟩
theorem fL.enter(I:Env P Q K.S (K.CO P) K.g K.H){f:FuncId}(hf:K.S f){xs ys:Array Value}(h:AR K.S ρ xs ys)(hb:∃fn c,P.funcs[f]?=some fn/\fn.body=some c):
  fL P Q K ρ (Frame.enter P f xs .normal) (Frame.enter Q f ys .normal):=by
 obtain⟨fn,p,_,N⟩:=I.fn f hf;obtain⟨fh,c',L,E⟩:=hb;rw[p] at L;cases L;rcases N with ⟨c,hc,M⟩|⟨hn,_⟩
 ·rw[E] at hc;cases hc;have J:Q.funcs[f]?=some fn:=(Twin.fn f (I.nb f hf)).trans p;refine⟨rfl,.inl hf,?_,?_,.nil,rfl,.inl rfl,⟨rfl,rfl⟩,.inl ⟨rfl,rfl⟩⟩
  ·simp only[Frame.enter,p,J,<-h.1];exact h.append (AR.replicate _ aI.undef)
  ·simp only[Frame.enter,p,J,E,abN,aem];exact .cons (.code _ M) .nil
 simp_all
theorem fL.Q2{l l':Nat}(hl:ρ l=some (l',0)){f:FuncId}(hf:K.CO P (.goto f)){xs ys:Array Value}(h:AR K.S ρ xs ys){a b:Code}(ha:K.CO P a)(hb:K.CO P b):
  fL P Q K ρ (Frame.round l f xs a b .normal) (Frame.round l' f ys a b .normal):=
 ⟨rfl,by unfold fO.CO codeOk at hf;rw[adr] at hf;exact hf,h,.cons (.code _ ha) (.cons .beginRound (.cons (.code _ hb) .nil)),.nil,rfl,.inl rfl,⟨rfl,rfl⟩,.inr ⟨l,l',rfl,rfl,hl⟩⟩
theorem rO{base:List Frame}{fr:Frame}{fs:List Frame}(hp:∀f∈fr::fs,ym P f)(ch:List PanicEntry)(u:World)(es:Array Event):
  m_ P base (.go (LG (fr.raise ch) (fs++base)) u es) u:=by
 have hm:∃c,(fr.raise ch).mode=.panicking c:=by unfold Frame.raise;split <;>exact⟨_,rfl⟩
 obtain⟨c,hm⟩:=hm;refine .inr ⟨fr.raise ch,fs,c,es,rfl,hm,?_⟩;intro f hf;cases hf with
 |head=>
  have:=hp fr (by simp);have e:(fr.raise ch).defers=fr.defers/\(fr.raise ch).fn=fr.fn:=by unfold Frame.raise;grind
  exact⟨by rw[e.1];exact this.1,by rw[e.2];exact this.2⟩
 |tail _ hf=>exact hp f (aed _ hf)
theorem Fw{fr:Frame}(h:fr.kind=.normal):(fr.kind==CallKind.early)=false:=by grind
def Xo(P:Program)(fr:Frame)(cs:List Frame)(n:Next)(w:World):GStep:=match n with
 | .value x=>.go (LG (fr.finish x) cs) w #[]
 | .skip=>.go (LG (fr.finish undef) cs) w #[]
 | .enter f args=>.go (LG (Frame.enter P f args .normal) (fr::cs)) w #[]
 | .round l f ts a b=>.go (LG (Frame.round l f ts a b .normal) (fr::cs)) w #[]
 |_=>.ended (.stuck "" "") w #[]
def NOk:Next->Prop
 | .value _| .skip| .enter _ _| .round _ _ _ _ _=>True
 |_=>False
def X3:List Item->Prop
 | .call .. ::_=>False
 |_=>True
theorem mj.left{S:FuncId->Prop}{CO:Code->Prop}{Bg:FuncId->Nat->Prop}{a b:Next}(h:mj P S CO Bg ρ a b):NOk a:=by cases h <;>trivial
theorem mj.right{S:FuncId->Prop}{CO:Code->Prop}{Bg:FuncId->Nat->Prop}{a b:Next}(h:mj P S CO Bg ρ a b):NOk b:=by cases h <;>trivial
theorem X3.left{t t':List Item}(h:iE (jx P K ρ) t t'):X3 t:=by
 cases h with
 |nil=>trivial
 |cons h _=>cases h <;>trivial
theorem X3.right{t t':List Item}(h:iE (jx P K ρ) t t'):X3 t':=by
 cases h with
 |nil=>trivial
 |cons h _=>cases h <;>trivial
theorem FM{fr:Frame}{cs:List Frame}{s:Sem Next}{v v1:World}{a:Next}(hk:fr.kind=.normal)(ht:X3 fr.todo)(hr:s.run P v=.ok a v1)(ha:NOk a):
  stepG.apply P true fr cs none s v=GStep.after (seen P fr.fn (s.events P v #[])) (Xo P fr cs a v1):=by
 simp only[stepG.apply,ada,acC,Fw hk,abX,ab3,hr];cases a with
 |enter f args=>
  obtain⟨fn,tmps,todo,defers,mode,kind,ro⟩:=fr;cases todo with
  |nil=>rfl
  |cons i t=>cases i <;>first|rfl|cases ht
 |value=>rfl
 |skip=>rfl
 |round=>rfl
 |_=>cases ha
theorem cY.apply(I:Env P Q K.S (K.CO P) K.g K.H){base ai4:List Frame}{v w0:World}(M:cp P K.S (K.CO P) Sh ρ v w0){fr fr':Frame}{fs eP:List Frame}(h:fL P Q K ρ fr fr')(hs:gQ P Q K ρ fs eP)(hb:jL fr fs)
  {s s':Sem Next} (E:lF P Q K.S (K.CO P) Sh ρ (mj P K.S (K.CO P) K.Bg) s s'):
  cY P Q K Sh ρ base ai4 v (λv=>stepG.apply P true fr (fs++base) none s v) (λw=>stepG.apply Q true fr' (eP++ai4) none s' w):=by
 refine cY.SN E M (λa v1 hr hex=>?_) (λx u hr hx=>?_)
 ·obtain⟨σ0,b0,an8,h0⟩:=hex;refine⟨λv1=>Xo P fr (fs++base) a v1,λv v1 hr=>⟨_,FM h.kind.1 (X3.left h.todo) hr h0.left⟩,λσ b _ hle J _=>?_⟩;refine⟨λw1=>Xo Q fr' (eP++ai4) b w1,?_,?_,λw w1 L=>⟨_,FM h.kind.2 (X3.right h.todo) L J.right,λe he=>h_ he⟩⟩
  case refine_2=>cases J <;>(intro g v2 es e;cases e;rfl)
  have h':=h.mono hle;have hs':=gQ.mono hle hs;cases J with
  |value x y p=>exact cY.stay (h'.finish p) hs' (hb.same (eQ _ _))
  |skip=>exact cY.stay (h'.finish aI.undef) hs' (hb.same (eQ _ _))
  |enter f xs ys hf W p=>
   obtain⟨fn,c,U,O⟩:=W;rcases hf with hf|N
   ·exact cY.stay (fL.enter I hf p ⟨fn,c,U,O⟩) (.cons h' hs') hb
   ·exact cY.Qz (.inr ⟨f,xs,ys,by simp,N,rfl,rfl,p⟩) (.cons h' hs') hb
  |round l l' hl f hf xs ys p a b ha Y=>exact cY.stay (fL.Q2 hl hf p ha Y) (.cons h' hs') hb
 ·have hp:∀f∈fr::fs,ym P f:=by
   intro f hf;cases hf with
   |head=>exact h.Yp I
   |tail _ hf=>exact gQ.Yp I hs f hf
  simp only[stepG.apply,ada,acC,Fw h.kind.1,abX,ab3,hr];cases x with
  |panic pv=>exact(rO hp _ u _).after _
  |stuck s=>exact .inl ⟨_,_,_,rfl⟩
  |unsupported un=>cases un <;>first|exact .inl ⟨_,_,_,rfl⟩|cases hx
  |_=>cases hx
end
def agp:=@dif_pos
def aaT:=@List.cons_append
def aeF:=@Bool.not_true
section
variable{P Q:Program}[Twin P Q]{K:fO}{Sh:Nat->Prop}{ρ σ:Ren}
theorem wD{f:FuncId}(hf:K.CO P (.goto f)){xs ys:Array Value}(h:AR K.S ρ xs ys)(params:Array Tmp){a b:Code}(ha:K.CO P a)(hb:K.CO P b){o o':Option Nat}(ho:FY ρ o o'):
  ai P Q K.S (K.CO P) Sh ρ (λσ p q=>σ p.1=some (q.1,0)/\iE (pO σ) p.2 q.2) (Instr.enterLoop f xs params a b o) (Instr.enterLoop f ys params a b o'):=by
 unfold Instr.enterLoop;have fin:∀ {τ:Ren} {r E:Nat} {m m':List Deferred},ρ.le τ->τ r=some (E,0)->iE (pO τ) m m'->
   ai P Q K.S (K.CO P) Sh τ (λσ p q=>σ p.1=some (q.1,0)/\iE (pO σ) p.2 q.2)
    (do Pure.pure (<-newObj (.loop { state:=.ready,pending:=none,fn:=f,tmps:=xs,params,assign:=a,body:=b,defers:=r }),m))
    (do Pure.pure (<-newObj (.loop { state:=.ready,pending:=none,fn:=f,tmps:=ys,params,assign:=a,body:=b,defers:=E }),m')):=by
  intro τ r E m m' hle hr hm;refine(gL (jI.loop { state:=.ready,pending:=none,fn:=f,tmps:=xs,params,assign:=a,body:=b,defers:=r } ys E (h.mono hle) hr hf ha hb (λc e=>by cases e))).bind λJ l l' I hl=>?_
  exact ai.pure ⟨hl.1,hm.mono λ_ _=>pO.mono I⟩
 rcases ho with ⟨rfl,rfl⟩|⟨l,l',rfl,rfl,hl⟩
 ·refine(gL jI.deferred).bind λτ r E hle hr=>?_
  exact fin hle hr.1 (.cons ⟨r,E,rfl,rfl,hr.1⟩ .nil)
 ·refine(hU hl).bind λτ x y hle H=>?_
  obtain⟨H,_⟩:=H;cases H with
  |loop _ ts d' k hd N M L hp=>exact fin hle hd .nil
theorem sX{xs ys:Array Value} :∀(l:List ResultVar) {ρ:Ren} (_:AR K.S ρ xs ys),ai P Q K.S (K.CO P) Sh ρ (λσ a b=>LR K.S σ a b)
  (l.mapM (m:=Sem) λx=>match x with| .tmp t=>Pure.pure (xs.getD t undef)| .cell a t=>do loadVar t (<-asAddr (xs.getD a undef)))
  (l.mapM (m:=Sem) λx=>match x with| .tmp t=>Pure.pure (ys.getD t undef)| .cell a t=>do loadVar t (<-asAddr (ys.getD a undef))):=by
 intro l
 induction l with
 |nil=>intro ρ h;exact ai.pure (AR.empty:AR K.S ρ #[] #[])
 |cons x l H=>
  intro ρ h;simp only[ag3];refine ai.bind (A:=VR K.S) ?_ λσ u J hle hu=>?_
  ·cases x with
   |tmp t=>exact ai.pure (h.getD t aI.undef)
   |cell a t=>exact(uj (h.getD a aI.undef)).bind λ_ _ _ _ ha=>q_ t ha
  ·refine(H (h.mono hle)).bind λτ us E I p=>ai.pure ?_
   have:=(AR.single (hu.mono I)).append p
   grind [LR]
theorem jR(fn:Func){xs ys:Array Value}(h:AR K.S ρ xs ys):ai P Q K.S (K.CO P) Sh ρ (VR K.S) (results fn xs) (results fn ys):=by
 unfold results;rw[abC,abC];refine ai.bind (A:=λσ a b=>AR K.S σ a b) ?_ λσ a b _ p=>?_
 ·exact(sX (P:=P) (Sh:=Sh) fn.results.toList h).bind λ_ _ _ _ h=>ai.pure h
 ·refine ai.pure ?_;have hs:=p.1;split
  ·rename_i h1;have h2:b.size=1:=hs▸h1;rw[agp h2];exact p.2 0 _ _ (by grind) (by grind)
  ·rename_i h1;rw[dif_neg (by omega)];exact .tuple _ _ p.1 p.2
structure CW(P Q:Program)[Twin P Q](K:fO)(ρ:Ren)(fr fr':Frame)(fs eP:List Frame):Prop where
 top:fL P Q K ρ fr fr'
 rest:gQ P Q K ρ fs eP
 bot:jL fr fs
theorem CW.put{fr fr':Frame}{fs eP:List Frame}(h:CW P Q K ρ fr fr' fs eP){t t':List Item}(ht:iE (jx P K ρ) t t'):CW P Q K ρ { fr with todo:=t } { fr' with todo:=t' } fs eP:=
 ⟨h.top.put ht,h.rest,h.bot.same rfl⟩
theorem CW.afm(p:Env P Q K.S (K.CO P) K.g K.H){fr fr':Frame}{fs eP:List Frame}(h:CW P Q K ρ fr fr' fs eP):∀f∈fr::fs,ym P f:=by
 intro f hf;cases hf with
 |head=>exact h.top.Yp p
 |tail _ hf=>exact gQ.Yp p h.rest f hf
def ja(P:Program)(m:Bool)(fr:Frame)(cs:List Frame)(jump:Option Code)(w:World):GStep:=
 match fr.roundOf with
 |none=>if jump matches none|some .ret then .go (LG { fr with mode:=.returning } cs) w #[] else .ended (.stuck "exit, goto: no such block or label" (fr.pos P)) w #[]
 |some l=>
  let (r,es):=(Instr.endRound l jump).runT P w #[]
  GStep.after (seen P fr.fn es)<|match r with
  | .ok x w=>doReturn P m fr cs none x w
  | .halt _ w=>.ended (.stuck "range over a function: no such loop" (fr.pos P)) w #[]
theorem rA{m:Bool}{fr:Frame}{cs:List Frame}{jump:Option Code}{w:World}(h:fr.roundOf=none):
  ja P m fr cs jump w=if jump matches none|some .ret then .go (LG { fr with mode:=.returning } cs) w #[] else .ended (.stuck "exit, goto: no such block or label" (fr.pos P)) w #[]:=by
 unfold ja
 simp_all
theorem rz{m:Bool}{fr:Frame}{cs:List Frame}{jump:Option Code}{w:World}{l:Nat}(h:fr.roundOf=some l):
  ja P m fr cs jump w=GStep.after (seen P fr.fn ((Instr.endRound l jump).events P w #[])) (match(Instr.endRound l jump).run P w with
  | .ok x w=>doReturn P m fr cs none x w
  | .halt _ w=>.ended (.stuck "range over a function: no such loop" (fr.pos P)) w #[]):=by
 unfold ja
 simp_all
theorem mw{c0:Frame}{cs bs':List Frame}{v w0:World}(I:cp P K.S (K.CO P) Sh ρ v w0){fr fr':Frame}{fs eP:List Frame}(h:CW P Q K ρ fr fr' fs eP)(m m':Bool)
  (jump:Option Code) (J:∀c,jump=some c->K.CO P c):
  cY P Q K Sh ρ (c0::cs) (bs') v (λv=>ja P m fr (fs++c0::cs) jump v) (λw=>ja Q m' fr' (eP++bs') jump w):=by
 rcases h.top.round with ⟨E,p⟩|⟨l,l',E,p,hl⟩
 ·simp only[rA E,rA p];have fin:∀b:Bool,cY P Q K Sh ρ (c0::cs) (bs') v (λv=>if b=true then .go (LG { fr with mode:=.returning } (fs++c0::cs)) v #[] else .ended (.stuck "exit, goto: no such block or label" (fr.pos P)) v #[])
    (λw=>if b=true then .go (LG { fr' with mode:=.returning } (eP++bs')) w #[] else .ended (.stuck "exit, goto: no such block or label" (fr'.pos Q)) w #[]):=by
   intro b;cases b
   ·exact cY.ended _ _
   ·exact cY.stay h.top.returning h.rest (h.bot.same rfl)
  exact fin _
 ·simp only[rz E,rz p];have hb:=h.bot;have ht:=h.rest;cases ht with
  |nil=>exact absurd (show fr.roundOf=none from hb) (by grind)
  |cons hg ht=>
   rename_i g g' gs gs';refine cY.behind (yC hl jump J) I (λa v1 hr _=>⟨λv1=>.go (LG (g.finish a) (gs++c0::cs)) v1 #[],λv v1 hr=>⟨_,by rw[hr];simp only[aaT];rw[anQ h.top.kind.1]⟩,λσ b _ hle L _=>?_⟩) (λx u hr _=>?_)
   ·refine⟨λw1=>.go (LG (g'.finish b) (gs'++bs')) w1 #[],cY.stay ((hg.mono hle).finish L) (gQ.mono hle ht) (jL.same (fr:=g) hb (eQ _ _)),λw w1 H=>⟨_,by rw[H];simp only[aaT];rw[anQ h.top.kind.2],λe he=>h_ he⟩⟩
   ·rw[hr];exact .inl ⟨_,_,_,rfl⟩
theorem Kj{ops:Array Oper}(h:IX P K ops=true){i:Nat}{o:Oper}(ho:ops[i]?=some o):kQ P K o.op=true:=by
 grind [IX]
theorem AH{fr:Frame}{cs:List Frame}{w:World}{o:Oper}(ho:fr.oper?=some o)(hd:∀c,o.op≠.defer c):
  stepG.oper P true fr cs none w=stepG.apply P true fr cs none (execOp fr.eval o) w:=by
 unfold stepG.oper
 simp_all
theorem uq(e:Operand->Value)(f:Operand)(y:Value):resolve e { callee:=.value f,args:= #[.const y],argTypes:= #[] } 0=Deferred.ofValue (e f) #[e (.const y)]:=by
 simp[resolve]
theorem JP(Y:Env P Q K.S (K.CO P) K.g K.H)(gp:∀f,K.j4 f=true->Twin.B P Q f)(hG:zo K.g ρ){c0:Frame}{cs bs':List Frame}{v w0:World}(U:cp P K.S (K.CO P) Sh ρ v w0){fr fr':Frame}{fs eP:List Frame}(h:CW P Q K ρ fr fr' fs eP)(m m':Bool):
  cY P Q K Sh ρ (c0::cs) (bs') v (λv=>stepG.exec P m true fr (fs++c0::cs) none v) (λw=>stepG.exec Q m' true fr' (eP++bs') none w):=by
 have ev:=h.top.ev hG;have ht:=h.top.todo;have vk:=h.top.fn;have iD:=h.top.ok;have tx:=h.top.round;have TK:=h.top.tmps;obtain⟨fn,tmps,todo,defers,mode,kind,ro⟩:=fr;obtain⟨fh,E,Mf,O,M,N,J⟩:=fr';simp only at ht vk iD tx TK;subst vk;have stay:∀ {t t':List Item},iE (jx P K ρ) t t'->cY P Q K Sh ρ (c0::cs) (bs') v
   (λv=>.go (LG ⟨fh,tmps,t,defers,mode,kind,ro⟩ (fs++c0::cs)) v #[]) (λw=>.go (LG ⟨fh,E,t',O,M,N,J⟩ (eP++bs')) w #[]):=by
  intro t t' htt;have k:=h.put htt;exact cY.stay k.top k.rest k.bot
 cases ht with
 |nil=>exact mw U h m m' none (λc e=>by cases e)
 | @cons _ _ k k' hi L=>
  cases hi with
  |inBlock id=>exact stay L
  |inScope c hc=>exact stay L
  |inLoop c hc=>exact stay (.cons (.code c hc) (.cons (.inLoop c hc) L))
  |endRangeFunc l l' hl=>
   refine cY.behind (Bm hl) U (λa v1 hr hex=>⟨λv1=>.go (LG ⟨fh,tmps,(a.map Item.code).toList++k,defers,mode,kind,ro⟩ (fs++c0::cs)) v1 #[],λv v1 hr=>⟨seen P fh ((Instr.endLoop l).events P v #[]),?_⟩,λσ b _ hle W _=>?_⟩) (λx u hr hx=>?_)
   ·simp only[stepG.exec,ada,hr];rfl
   ·obtain⟨W,mq⟩:=W;subst W;have kk:=h.put (t:=(a.map Item.code).toList++k) (t':=(a.map Item.code).toList++k') (iE.append (R:=jx P K ρ) (by
     cases a with
     |none=>exact .nil
     |some c=>exact .cons (.code c (mq c rfl)) .nil) L)
    refine⟨λw1=>.go (LG ⟨fh,E,(a.map Item.code).toList++k',O,M,N,J⟩ (eP++bs')) w1 #[],cY.stay (kk.top.mono hle) (gQ.mono hle kk.rest) kk.bot,λw w1 Z=>⟨seen Q fh ((Instr.endLoop l').events Q w #[]),?_,λe he=>h_ he⟩⟩;simp only[stepG.exec,ada,Z];rfl
   ·simp only[stepG.exec,ada,hr];cases x with
    |panic pv=>exact(rO (h.afm Y) _ u _).after _
    |_=>exact .inl ⟨_,_,_,rfl⟩
  |inRangeFunc l l' hl=>exact cY.ended _ _
  |beginRound=>
   refine cY.apply Y U h.top h.rest h.bot (s:=do ro.elim (stuck "beginRound: no round") Instr.beginRound;Pure.pure .skip) (s':=do J.elim (stuck "beginRound: no round") Instr.beginRound;Pure.pure .skip) (ai.P4 ?_);rcases tx with ⟨rfl,rfl⟩|⟨l,l',rfl,rfl,hl⟩
   ·exact ai.aw (bC.bind (ah _))
   ·exact TA (u7 hl)
  |inRegion ops l Rt=>
   cases l with
   |nil=>exact stay L
   |cons i l=>
    show cY P Q K Sh ρ (c0::cs) (bs') v
     (λv=>if((ops[i]?).map (Region.wanted · (yielded ops tmps))).getD false then stepG.oper P true ⟨fh,tmps,.inRegion ops (i::l)::k,defers,mode,kind,ro⟩ (fs++c0::cs) none v
      else .go (LG (Frame.finish ⟨fh,tmps,.inRegion ops (i::l)::k,defers,mode,kind,ro⟩ undef) (fs++c0::cs)) v #[])
     (λw=>if((ops[i]?).map (Region.wanted · (yielded ops E))).getD false then stepG.oper Q true ⟨fh,E,.inRegion ops (i::l)::k',O,M,N,J⟩ (eP++bs') none w
      else .go (LG (Frame.finish ⟨fh,E,.inRegion ops (i::l)::k',O,M,N,J⟩ undef) (eP++bs')) w #[])
    have hy:yielded ops tmps=yielded ops E:=funext (Da ops TK);rw[hy];generalize ((ops[i]?).map (Region.wanted · (yielded ops E))).getD false=bb;cases bb with
    |true=>
     simp only[acC];cases ho:ops[i]? with
     |none=>
      simp_all [cY.ended,stepG.oper,Frame.oper?]
     |some o=>
      have hop:=Kj Rt ho;have hnd:∀c,o.op≠.defer c:=λc e=>by rw[e] at hop;cases hop
      simp only[AH (P:=P) (fr:=⟨fh,tmps,.inRegion ops (i::l)::k,defers,mode,kind,ro⟩) (o:=o) ho hnd,AH (P:=Q) (fr:=⟨fh,E,.inRegion ops (i::l)::k',O,M,N,J⟩) (o:=o) ho hnd];exact cY.apply Y U h.top h.rest h.bot (DJ Y gp hG ev (λ_=>⟨rfl,rfl⟩) o hop)
    |false=>
     simp only[abX,ab3];exact cY.stay (h.top.finish aI.undef) h.rest (h.bot.same (eQ _ _))
  |code c hc=>
   have I:=hc;unfold fO.CO codeOk at I;cases c with
   |ret=>exact mw U h m m' (some .ret) (λc e=>by grind)
   |skip=>exact stay L
   |label l=>exact stay L
   |seq a b=>
    simp only[aaZ] at I;exact stay (.cons (.code a I.1) (.cons (.code b I.2) L))
   |block id b=>exact stay (.cons (.code b I) (.cons (.inBlock id) L))
   |loop b=>exact stay (.cons (.code b I) (.cons (.inLoop b I) L))
   |scope b=>exact stay (.cons (.code b I) (.cons (.inScope b I) L))
   |refuse s=>cases I
   |cond c a b=>
    simp only[aaZ] at I;have cu:=ev c I.1.1;show cY P Q K Sh ρ (c0::cs) (bs') v
     (λv=>match Frame.eval ⟨fh,tmps,.code (.cond c a b)::k,defers,mode,kind,ro⟩ c with
      | .bool x=>.go (LG ⟨fh,tmps,.code (if x then a else b)::k,defers,mode,kind,ro⟩ (fs++c0::cs)) v #[]
      |_=>.ended (.stuck "cond: bool expected" (Frame.pos P ⟨fh,tmps,.code (.cond c a b)::k,defers,mode,kind,ro⟩)) v #[])
     (λw=>match Frame.eval ⟨fh,E,.code (.cond c a b)::k',O,M,N,J⟩ c with
      | .bool x=>.go (LG ⟨fh,E,.code (if x then a else b)::k',O,M,N,J⟩ (eP++bs')) w #[]
      |_=>.ended (.stuck "cond: bool expected" (Frame.pos Q ⟨fh,E,.code (.cond c a b)::k',O,M,N,J⟩)) w #[])
    revert cu
    generalize Frame.eval ⟨fh,tmps,.code (.cond c a b)::k,defers,mode,kind,ro⟩ c=x;generalize Frame.eval ⟨fh,E,.code (.cond c a b)::k',O,M,N,J⟩ c=x';intro cu;cases cu with
    |bool x=>exact stay (.cons (.code _ (by cases x;exact I.2;exact I.1.2)) L)
    |_=>exact cY.ended _ _
   |exit id=>
    show cY P Q K Sh ρ (c0::cs) (bs') v
     (λv=>(exitTo id k).elim (ja P m ⟨fh,tmps,.code (.exit id)::k,defers,mode,kind,ro⟩ (fs++c0::cs) (some (.exit id)) v) (λt=>.go (LG ⟨fh,tmps,t,defers,mode,kind,ro⟩ (fs++c0::cs)) v #[]))
     (λw=>(exitTo id k').elim (ja Q m' ⟨fh,E,.code (.exit id)::k',O,M,N,J⟩ (eP++bs') (some (.exit id)) w) (λt=>.go (LG ⟨fh,E,t,O,M,N,J⟩ (eP++bs')) w #[]))
    rcases HN id L with ⟨h1,h2⟩|⟨t,t',h1,h2,h3⟩
    ·simp only[h1,h2,Option.elim]
     grind [mw]
    simp_all
   |goto l=>
    show cY P Q K Sh ρ (c0::cs) (bs') v
     (λv=>(gotoIn l k).elim (ja P m ⟨fh,tmps,.code (.goto l)::k,defers,mode,kind,ro⟩ (fs++c0::cs) (some (.goto l)) v) (λt=>.go (LG ⟨fh,tmps,t,defers,mode,kind,ro⟩ (fs++c0::cs)) v #[]))
     (λw=>(gotoIn l k').elim (ja Q m' ⟨fh,E,.code (.goto l)::k',O,M,N,J⟩ (eP++bs') (some (.goto l)) w) (λt=>.go (LG ⟨fh,E,t,O,M,N,J⟩ (eP++bs')) w #[]))
    rcases HG l L with ⟨h1,h2⟩|⟨t,t',h1,h2,h3⟩
    ·simp only[h1,h2,Option.elim]
     grind [mw]
    simp_all
   |rangeFunc f params a b=>
    simp only[aaZ] at I;refine cY.behind (wD (by unfold fO.CO codeOk;rw[adr];exact iD) TK params I.1.2 I.2 tx) U (λp v1 hr hex=>⟨λv1=>stepG.apply P true ⟨fh,tmps,.inRangeFunc p.1::k,p.2++defers,mode,kind,ro⟩ (fs++c0::cs) none (do let d<-Deferred.ofValue (Frame.eval ⟨fh,tmps,.inRangeFunc p.1::k,p.2++defers,mode,kind,ro⟩ f) #[.func (.yield p.1) #[] #[]];invoke d.target d.args) v1,
     λv v1 hr=>⟨seen P fh ((Instr.enterLoop fh tmps params a b ro).events P v #[]),?_⟩,λσ q w1 hle W Cb=>?_⟩) (λx u hr hx=>?_)
    ·simp only[stepG.exec,ada,hr,uq];rfl
    ·obtain⟨hl,hmk⟩:=W;have h':CW P Q K σ ⟨fh,tmps,.inRangeFunc p.1::k,p.2++defers,mode,kind,ro⟩ ⟨fh,E,.inRangeFunc q.1::k',q.2++O,M,N,J⟩ fs eP:=
      ⟨⟨rfl,iD,TK.mono hle,.cons (.inRangeFunc _ _ hl) (L.mono λ_ _=>jx.mono hle),hmk.append (h.top.defers.mono λ_ _=>pO.mono hle),h.top.mode,h.top.going,h.top.kind,tx.mono hle⟩,gQ.mono hle h.rest,h.bot.same rfl⟩
     refine⟨λw1=>stepG.apply Q true ⟨fh,E,.inRangeFunc q.1::k',q.2++O,M,N,J⟩ (eP++bs') none (do let d<-Deferred.ofValue (Frame.eval ⟨fh,E,.inRangeFunc q.1::k',q.2++O,M,N,J⟩ f) #[.func (.yield q.1) #[] #[]];invoke d.target d.args) w1,
      cY.apply Y Cb h'.top h'.rest h'.bot (ai.P4 ?_),λw w1 Z=>⟨seen Q fh ((Instr.enterLoop fh E params a b J).events Q w #[]),?_,λe he=>h_ he⟩⟩
     ·exact nM Y (hG.mono hle) (h'.top.ev (hG.mono hle) f I.1.1) (AR.single (.yield _ _ hl))
     ·simp only[stepG.exec,ada,Z,uq];rfl
    ·simp only[stepG.exec,ada,hr];exact .inl ⟨_,_,_,rfl⟩
   |region id ops draw=>
    cases draw with
    |false=>exact stay (.cons (.inRegion ops _ I) L)
    |true=>
     refine cY.behind (nL (.order fh id)) U (λa v1 hr _=>⟨λv1=>.go (LG ⟨fh,tmps,.inRegion ops (Region.schedule (P.follows .mixedOrders) ops a)::k,defers,mode,kind,ro⟩ (fs++c0::cs)) v1 #[],λv v1 hr=>⟨#[],?_⟩,λσ b _ hle W _=>?_⟩) (λx u hr _=>?_)
     ·simp only[stepG.exec,aeF,abX,ab3,hr];rfl
     ·subst W;have kk:=h.put (.cons (.inRegion ops (Region.schedule (P.follows .mixedOrders) ops a) I) L);refine⟨λw1=>.go (LG ⟨fh,E,.inRegion ops (Region.schedule (P.follows .mixedOrders) ops a)::k',O,M,N,J⟩ (eP++bs')) w1 #[],cY.stay (kk.top.mono hle) (gQ.mono hle kk.rest) kk.bot,λw w1 Z=>⟨#[],?_,λe he=>by grind⟩⟩;simp only[stepG.exec,aeF,abX,ab3,Z,Twin.follows P Q];rfl
     ·simp only[stepG.exec,aeF,abX,ab3,hr];exact .inl ⟨_,_,_,rfl⟩
end
def aeZ:=@Array.append_empty
section
variable{P Q:Program}[Twin P Q]{K:fO}{Sh:Nat->Prop}{ρ σ:Ren}
theorem Env.res(p:Env P Q K.S (K.CO P) K.g K.H){f:FuncId}(h:K.S f\/K.H f):∃fn fh,P.funcs[f]?=some fn/\Q.funcs[f]?=some fh/\fh.results=fn.results:=by
 rcases h with h|h
 ·obtain⟨fn,e,_⟩:=p.fn _ h;exact⟨fn,fn,e,(Twin.fn _ (p.nb _ h)).trans e,rfl⟩
 ·exact p.half _ h
theorem pD{fn fh:Func}(h:fh.results=fn.results)(tmps:Array Value):results fh tmps=results fn tmps:=by
 unfold results;rw[h]
theorem Dr(hE:Env P Q K.S (K.CO P) K.g K.H){c0:Frame}{cs bs':List Frame}{v w0:World}(W:cp P K.S (K.CO P) Sh ρ v w0){fr fr':Frame}{fs eP:List Frame}(h:CW P Q K ρ fr fr' fs eP)(m m':Bool)
  (hm:fr.mode=.returning):(fs= []/\fr.defers= [])\/
  cY P Q K Sh ρ (c0::cs) (bs') v (λv=>unwind P m fr (fs++c0::cs) none v) (λw=>unwind Q m' fr' (eP++bs') none w):=by
 have hd:=h.top.defers;have O:=h.top.fn;have I:=h.top.ok;have M:=h.top.tmps;have U:=h.top.mode;obtain⟨fn,tmps,todo,defers,mode,kind,ro⟩:=fr;obtain⟨fh,L,Mf,dE,iG,Y,N⟩:=fr';simp only at hd O I M hm U;subst O hm U;cases hd with
 | @cons _ _ Z p hi tl=>
  obtain⟨r,r',rfl,rfl,hr⟩:=hi;refine .inr (cY.behind (q7 hr) W (λa v1 hrun hex=>⟨λv1=>.go (LG ⟨fh,tmps,todo,a++Z,.returning,kind,ro⟩ (fs++c0::cs)) v1 #[],λv v1 hrun=>⟨seen P fh ((Instr.takeDeferred r).events P v #[]),?_⟩,λσ b _ hle J _=>?_⟩) (λx u hrun hx=>?_))
  ·simp only[unwind,ada,hrun];rfl
  ·obtain⟨rfl,rfl⟩:=J;have k:CW P Q K ρ ⟨fh,tmps,todo,Z,.returning,kind,ro⟩ ⟨fh,L,Mf,p,.returning,Y,N⟩ fs eP:=
    ⟨⟨rfl,I,M,h.top.todo,tl,rfl,.inr rfl,h.top.kind,h.top.round⟩,h.rest,h.bot.same rfl⟩
   refine⟨λw1=>.go (LG ⟨fh,L,Mf,p,.returning,Y,N⟩ (eP++bs')) w1 #[],cY.stay (k.top.mono hle) (gQ.mono hle k.rest) k.bot,λw w1 E=>⟨seen Q fh ((Instr.takeDeferred r').events Q w #[]),?_,λe he=>h_ he⟩⟩;simp only[unwind,ada,E];rfl
  ·simp only[unwind,ada,hrun];exact .inl ⟨_,_,_,rfl⟩
 |nil=>
  have kE:=h.rest;cases kE with
  |nil=>simp_all
  |cons hg ht=>
   rename_i g g' gs gs';have hb:=h.bot;obtain⟨f,f',hf,ES,jW⟩:=hE.res I;refine .inr (cY.behind (jR f M) W (λa v1 hrun hex=>⟨λv1=>.go (LG (g.finish a) (gs++c0::cs)) v1 #[],λv v1 hrun=>⟨seen P fh ((results f tmps).events P v #[]),?_⟩,λσ b _ hle J _=>?_⟩) (λx u hrun hx=>?_))
   ·simp only[unwind,hf,ada,hrun,aaT];rw[anQ h.top.kind.1]
   ·refine⟨λw1=>.go (LG (g'.finish b) (gs'++bs')) w1 #[],cY.stay ((hg.mono hle).finish J) (gQ.mono hle ht) (jL.same (fr:=g) hb (eQ _ _)),λw w1 E=>⟨seen Q fh ((results f L).events Q w #[]),?_,λe he=>h_ he⟩⟩;simp only[unwind,ES,pD jW,ada,E,aaT];rw[anQ h.top.kind.2]
   ·simp only[unwind,hf,ada,hrun];cases x <;>exact .inl ⟨_,_,_,rfl⟩
theorem sS(L:Env P Q K.S (K.CO P) K.g K.H)(N:∀f,K.j4 f=true->Twin.B P Q f)(M:zo K.g ρ){c0:Frame}{cs bs':List Frame}{v w0:World}(J:cp P K.S (K.CO P) Sh ρ v w0){fr fr':Frame}{fs eP:List Frame}(h:CW P Q K ρ fr fr' fs eP)(m m':Bool):
  (fs= []/\fr.mode=.returning/\fr.defers= [])\/
  cY P Q K Sh ρ (c0::cs) (bs') v (λv=>stepG P m (LG fr (fs++c0::cs)) v) (λw=>stepG Q m' (LG fr' (eP++bs')) w):=by
 have p:=h.top.mode;rcases h.top.going with hm|hm
 ·rw[hm] at p;have I:∀(u:World) (mm:Bool) (l:List Frame),stepG P mm (LG fr l) u=stepG.exec P mm true fr l none u:=by
   intro u mm l;obtain⟨fn,tmps,todo,defers,mode,kind,ro⟩:=fr;simp only at hm;subst hm;rfl
  have E:∀(u:World) (mm:Bool) (l:List Frame),stepG Q mm (LG fr' l) u=stepG.exec Q mm true fr' l none u:=by
   intro u mm l;obtain⟨fn,tmps,todo,defers,mode,kind,ro⟩:=fr';simp only at p;subst p;rfl
  simp only[I,E];exact .inr (JP L N M J h m m')
 ·rw[hm] at p;have I:∀(u:World) (mm:Bool) (l:List Frame),stepG P mm (LG fr l) u=unwind P mm fr l none u:=by
   intro u mm l;obtain⟨fn,tmps,todo,defers,mode,kind,ro⟩:=fr;simp only at hm;subst hm;rfl
  have E:∀(u:World) (mm:Bool) (l:List Frame),stepG Q mm (LG fr' l) u=unwind Q mm fr' l none u:=by
   intro u mm l;obtain⟨fn,tmps,todo,defers,mode,kind,ro⟩:=fr';simp only at p;subst p;rfl
  simp only[I,E];rcases Dr L J h m m' hm with ⟨a,b⟩|k
  ·simp_all
  ·exact .inr k
theorem my{m:Bool}{fr c0:Frame}{cs:List Frame}{v:World}{f:Func}(hm:fr.mode=.returning)(hd:fr.defers= [])(hk:fr.kind=.normal)(hf:P.funcs[fr.fn]?=some f){x:Value}{v1:World}
  (hr:(results f fr.tmps).run P v=.ok x v1):stepG P m (LG fr (c0::cs)) v=.go (LG (c0.finish x) cs) v1 (seen P fr.fn ((results f fr.tmps).events P v #[])):=by
 have p:stepG P m (LG fr (c0::cs)) v=unwind P m fr (c0::cs) none v:=by
  obtain⟨fn,tmps,todo,defers,mode,kind,ro⟩:=fr;simp only at hm;subst hm;rfl
 rw[p];simp only[unwind,hd,hm,hf,ada,hr];rw[anQ hk,PK,aeZ]
theorem step_done{fr:Frame}{v:World}{f:Func}(hm:fr.mode=.returning)(hd:fr.defers= [])(hk:fr.kind=.normal)(hf:P.funcs[fr.fn]?=some f)(hi:P.inits.idxOf? fr.fn=none){x:Value}{v1:World}
  (hr:(results f fr.tmps).run P v=.ok x v1):stepG P true (LG fr []) v=.ended (.done x) v1 (seen P fr.fn ((results f fr.tmps).events P v #[])):=by
 have p:stepG P true (LG fr []) v=unwind P true fr [] none v:=by
  obtain⟨fn,tmps,todo,defers,mode,kind,ro⟩:=fr;simp only at hm;subst hm;rfl
 rw[p];simp only[unwind,hd,hm,hf,ada,hr];simp only[doReturn,hk,hi,aeF,abX,ab3];rfl
end
end Go.Proofs.YtjagmhagphbfcaaGreatDoor
