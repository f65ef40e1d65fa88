/- Part 2 of a proof (made small by a program; blanks, names and remarks only). -/
import Derived.Test.YtjagmhagphbfcaaGreatDoorZ01
set_option maxRecDepth 100000
set_option linter.all false
namespace Go.Proofs.YtjagmhagphbfcaaGreatDoor
def aeZ:=@Array.append_empty
end Go.Proofs.YtjagmhagphbfcaaGreatDoor
namespace Go.Proofs.YtjagmhagphbfcaaGreatDoor.cA
open Go
section
variable{P Q:Program}[Twin P Q]{K:fO}{Sh:Nat->Prop}{ρ σ:Ren}
theorem Env.res(p:Env P Q K.S (K.CO P) K.g K.H){f:FuncId}(h:K.S f\/K.H f):∃fn fh,P.funcs[f]?=some fn/\Q.funcs[f]?=some fh/\fh.results=fn.results:=by
 rcases h with h|h
 ·obtain⟨fn,e,_⟩:=p.fn _ h;exact⟨fn,fn,e,(Twin.fn _ (p.nb _ h)).trans e,rfl⟩
 ·exact p.half _ h
theorem pD{fn fh:Func}(h:fh.results=fn.results)(tmps:Array Value):results fh tmps=results fn tmps:=by
 unfold results;rw[h]
theorem Dr(hE:Env P Q K.S (K.CO P) K.g K.H){c0:Frame}{cs bs':List Frame}{v w0:World}(V:cp P K.S (K.CO P) Sh ρ v w0){fr fr':Frame}{fs eP:List Frame}(h:CW P Q K ρ fr fr' fs eP)(m m':Bool)
  (hm:fr.mode=.returning):(fs= []/\fr.defers= [])\/
  cY P Q K Sh ρ (c0::cs) (bs') v (λv=>unwind P m fr (fs++c0::cs) none v) (λw=>unwind Q m' fr' (eP++bs') none w):=by
 have hd:=h.top.defers;have O:=h.top.fn;have I:=h.top.ok;have M:=h.top.tmps;have U:=h.top.mode;obtain⟨fn,tmps,todo,defers,mode,kind,ro⟩:=fr;obtain⟨fh,L,Z,dE,iG,W,N⟩:=fr';simp only at hd O I M hm U;subst O hm U;cases hd with
 | @cons _ _ Y p hi tl=>
  obtain⟨r,r',rfl,rfl,hr⟩:=hi;refine .inr (cY.behind (q7 hr) V (λa v1 hrun hex=>⟨λv1=>.go (LG ⟨fh,tmps,todo,a++Y,.returning,kind,ro⟩ (fs++c0::cs)) v1 #[],λv v1 hrun=>⟨seen P fh ((Instr.takeDeferred r).events P v #[]),?_⟩,λσ b _ hle J _=>?_⟩) (λx u hrun hx=>?_))
  ·simp only[unwind,ada,hrun];rfl
  ·obtain⟨rfl,rfl⟩:=J;have k:CW P Q K ρ ⟨fh,tmps,todo,Y,.returning,kind,ro⟩ ⟨fh,L,Z,p,.returning,W,N⟩ fs eP:=
    ⟨⟨rfl,I,M,h.top.todo,tl,rfl,.inr rfl,h.top.kind,h.top.round⟩,h.rest,h.bot.same rfl⟩
   refine⟨λw1=>.go (LG ⟨fh,L,Z,p,.returning,W,N⟩ (eP++bs')) w1 #[],cY.stay (k.top.mono hle) (gQ.mono hle k.rest) k.bot,λw w1 E=>⟨seen Q fh ((Instr.takeDeferred r').events Q w #[]),?_,λe he=>h_ he⟩⟩;simp only[unwind,ada,E];rfl
  ·simp only[unwind,ada,hrun];exact .inl ⟨_,_,_,rfl⟩
 |nil=>
  have kE:=h.rest;cases kE with
  |nil=>exact .inl ⟨rfl,rfl⟩
  |cons hg ht=>
   rename_i g g' gs gs';have hb:=h.bot;obtain⟨f,f',hf,ES,jW⟩:=hE.res I;refine .inr (cY.behind (jR f M) V (λa v1 hrun hex=>⟨λv1=>.go (LG (g.finish a) (gs++c0::cs)) v1 #[],λv v1 hrun=>⟨seen P fh ((results f tmps).events P v #[]),?_⟩,λσ b _ hle J _=>?_⟩) (λx u hrun hx=>?_))
   ·simp only[unwind,hf,ada,hrun,aaT];rw[fb h.top.kind.1]
   ·refine⟨λw1=>.go (LG (g'.finish b) (gs'++bs')) w1 #[],cY.stay ((hg.mono hle).finish J) (gQ.mono hle ht) (jL.same (fr:=g) hb (eQ _ _)),λw w1 E=>⟨seen Q fh ((results f L).events Q w #[]),?_,λe he=>h_ he⟩⟩;simp only[unwind,ES,pD jW,ada,E,aaT];rw[fb h.top.kind.2]
   ·simp only[unwind,hf,ada,hrun];cases x <;>exact .inl ⟨_,_,_,rfl⟩
theorem sS(L:Env P Q K.S (K.CO P) K.g K.H)(N:∀f,K.j4 f=true->Twin.B P Q f)(M:zo K.g ρ){c0:Frame}{cs bs':List Frame}{v w0:World}(J:cp P K.S (K.CO P) Sh ρ v w0){fr fr':Frame}{fs eP:List Frame}(h:CW P Q K ρ fr fr' fs eP)(m m':Bool):
  (fs= []/\fr.mode=.returning/\fr.defers= [])\/
  cY P Q K Sh ρ (c0::cs) (bs') v (λv=>stepG P m (LG fr (fs++c0::cs)) v) (λw=>stepG Q m' (LG fr' (eP++bs')) w):=by
 have p:=h.top.mode;rcases h.top.going with hm|hm
 ·rw[hm] at p;have I:∀(u:World) (mm:Bool) (l:List Frame),stepG P mm (LG fr l) u=stepG.exec P mm true fr l none u:=by
   intro u mm l;obtain⟨fn,tmps,todo,defers,mode,kind,ro⟩:=fr;simp only at hm;subst hm;rfl
  have E:∀(u:World) (mm:Bool) (l:List Frame),stepG Q mm (LG fr' l) u=stepG.exec Q mm true fr' l none u:=by
   intro u mm l;obtain⟨fn,tmps,todo,defers,mode,kind,ro⟩:=fr';simp only at p;subst p;rfl
  simp only[I,E];exact .inr (JP L N M J h m m')
 ·rw[hm] at p;have I:∀(u:World) (mm:Bool) (l:List Frame),stepG P mm (LG fr l) u=unwind P mm fr l none u:=by
   intro u mm l;obtain⟨fn,tmps,todo,defers,mode,kind,ro⟩:=fr;simp only at hm;subst hm;rfl
  have E:∀(u:World) (mm:Bool) (l:List Frame),stepG Q mm (LG fr' l) u=unwind Q mm fr' l none u:=by
   intro u mm l;obtain⟨fn,tmps,todo,defers,mode,kind,ro⟩:=fr';simp only at p;subst p;rfl
  simp only[I,E];rcases Dr L J h m m' hm with ⟨a,b⟩|k
  ·exact .inl ⟨a,hm,b⟩
  ·exact .inr k
theorem my{m:Bool}{fr c0:Frame}{cs:List Frame}{v:World}{f:Func}(hm:fr.mode=.returning)(hd:fr.defers= [])(hk:fr.kind=.normal)(hf:P.funcs[fr.fn]?=some f){x:Value}{v1:World}
  (hr:(results f fr.tmps).run P v=.ok x v1):stepG P m (LG fr (c0::cs)) v=.go (LG (c0.finish x) cs) v1 (seen P fr.fn ((results f fr.tmps).events P v #[])):=by
 have h:stepG P m (LG fr (c0::cs)) v=unwind P m fr (c0::cs) none v:=by
  obtain⟨fn,tmps,todo,defers,mode,kind,ro⟩:=fr;simp only at hm;subst hm;rfl
 rw[h];simp only[unwind,hd,hm,hf,ada,hr];rw[fb hk,PK,aeZ]
theorem step_done{fr:Frame}{v:World}{f:Func}(hm:fr.mode=.returning)(hd:fr.defers= [])(hk:fr.kind=.normal)(hf:P.funcs[fr.fn]?=some f)(hi:P.inits.idxOf? fr.fn=none){x:Value}{v1:World}
  (hr:(results f fr.tmps).run P v=.ok x v1):stepG P true (LG fr []) v=.ended (.done x) v1 (seen P fr.fn ((results f fr.tmps).events P v #[])):=by
 have h:stepG P true (LG fr []) v=unwind P true fr [] none v:=by
  obtain⟨fn,tmps,todo,defers,mode,kind,ro⟩:=fr;simp only at hm;subst hm;rfl
 rw[h];simp only[unwind,hd,hm,hf,ada,hr];simp only[doReturn,hk,hi,aeF,abX,ab3];rw[FQ,aeZ]
end
end Go.Proofs.YtjagmhagphbfcaaGreatDoor.cA
