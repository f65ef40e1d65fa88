/- Lemmas, part 32. -/
import Derived.Test.YtjagmhagphbfcaaGreatDoorP31
set_option maxRecDepth 100000
set_option linter.all false
namespace Go.Proofs.YtjagmhagphbfcaaGreatDoor
open Go Go.Proofs Go.Conc Go.ChangeShapes Go.WideShapes Go.ChangeAt Go.RowKit
theorem atg(os:Os)(started:os.Started)(H:Type)(enc:TypeId×Value->H):
  ReturnsInLeavingWide {} Tryz.checked os 11 .any (λw args=>(Rows.tagRealSpec.pre enc Tryz.prog Tryz.f11 [] false w args/\laidMetH Tryz.prog xi w)/\sizedMet enc Tryz.prog Tryz.f11 (OpenSpec.ofChange Rows.tagRealSpec) false w args)
   (Rows.tagRealSpec.post enc Tryz.prog Tryz.f11 false true false false):=by
 refine Rl started Tryz.func11 rfl (by decide) (by decide) (by decide) rfl ?_ rfl (λJ hd=>?_) (ChangeSpec.witness_shaped (enc:=enc) (C:=Tryz.checked) (os:=os) (X:=λw _=>laidMetH Tryz.prog xi w) false (World.doorLaid Tryz.prog 40 os) #[Xv,.slice none 0 0,.slice none 0 0,.int .u8 0,.int .u8 0] 11 rfl (World.shaped_of_RefB (by kernel_rfl) (by kernel_rfl)) (by kernel_rfl) (by kernel_rfl) (by kernel_rfl) (O8 os _)) ?_
 ·rw[Tryz.params11];intro t ht;have O:([25,43,43,5,5].all λt=>Tryz.prog.readableRec t&&decide (t<Tryz.prog.types.size))=true:=by kernel_rfl
  have:=acp.1 O t ht;simpa using this
 ·rw[Tryz.params11] at hd
  match J,hd with
  | [d0,d1,d2,d3,d4],_=>rfl
 ·intro W base args J ps I E p;rw[Tryz.params11] at p E;obtain⟨v0,_,_,_,_,_,e0,_,_,h0,p⟩:=trodAll_cons p;obtain⟨v1,_,_,_,_,_,e1,_,_,h1,p⟩:=trodAll_cons p;obtain⟨v2,_,_,_,_,_,Z,_,_,h2,p⟩:=trodAll_cons p;obtain⟨v3,_,_,_,_,_,Y,_,_,N,p⟩:=trodAll_cons p;obtain⟨v4,_,_,_,_,_,V,_,_,M,p⟩:=trodAll_cons p;obtain⟨U,_,_⟩:=trodAll_nil p;obtain rfl:args= #[v0,v1,v2,v3,v4]:=by rw[<-Array.toList_inj,e0,e1,Z,Y,V,U]
  obtain⟨a0,L⟩:=G5 (λ_=>rfl) I (E 0 25 v0 rfl rfl) h0;obtain⟨a1,o1,b1⟩:=aka Tryz.underlying43 Tryz.underlying44 akm akn (λ_=>rfl) I (E 1 43 v1 rfl rfl) h1;obtain⟨a2,o2,b2⟩:=aka Tryz.underlying43 Tryz.underlying44 akm akn (λ_=>rfl) I (E 2 43 v2 rfl rfl) h2;obtain⟨a3,rfl,_,_,b3⟩:=open_int Tryz.underlying5 (E 3 5 v3 rfl rfl) N;obtain⟨a4,rfl,_,_,b4⟩:=open_int Tryz.underlying5 (E 4 5 v4 rfl rfl) M;refine⟨_,.cons L (.cons o1 (.cons o2 (.cons (.int .u8 a3) (.cons (.int .u8 a4) .nil)))),ath Ds Qv a0 a1 a2 (λx hx=>?_) (λx hx=>?_) a3 a4 ?_ ?_ ?_ ?_⟩
  ·have hx:=b1 x hx;simp[Lit.wf,IntKind.min,IntKind.max,IntKind.signed,IntKind.bits] at hx;omega
  ·have hx:=b2 x hx;simp[Lit.wf,IntKind.min,IntKind.max,IntKind.signed,IntKind.bits] at hx;omega
  all_goals (simp[Lit.wf,IntKind.min,IntKind.max,IntKind.signed,IntKind.bits] at b3 b4;omega)
end Go.Proofs.YtjagmhagphbfcaaGreatDoor
