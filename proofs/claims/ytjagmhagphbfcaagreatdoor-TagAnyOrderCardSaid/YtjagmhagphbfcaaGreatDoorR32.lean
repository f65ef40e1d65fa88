/- Lemmas, part 32. -/
import Derived.Test.YtjagmhagphbfcaaGreatDoorR31
set_option maxRecDepth 100000
set_option linter.all false
namespace Go.Proofs.YtjagmhagphbfcaaGreatDoor
open Go Go.Proofs Go.Conc Go.ChangeShapes Go.WideShapes Go.ChangeAt Go.RowKit
theorem arE(os:Os)(started:os.Started)(H:Type)(enc:TypeId×Value->H):
  ReturnsInLeavingWide {} Tryz.checked os 9 .any (λw args=>(Rows.tagAnyOrderSpec.pre enc Tryz.prog Tryz.f9 [] false w args/\laidMetH Tryz.prog xi w)/\sizedMet enc Tryz.prog Tryz.f9 (OpenSpec.ofChange Rows.tagAnyOrderSpec) false w args)
   (Rows.tagAnyOrderSpec.post enc Tryz.prog Tryz.f9 false true false false):=by
 refine Rl started Tryz.func9 rfl (by decide) (by decide) (by decide) rfl ?_ rfl (λI hd=>?_) (ChangeSpec.witness_shaped (enc:=enc) (C:=Tryz.checked) (os:=os) (X:=λw _=>laidMetH Tryz.prog xi w) false (World.doorLaid Tryz.prog 40 os) #[Xv,.int .u8 0,.int .u8 0] 9 rfl (World.shaped_of_RefB (by kernel_rfl) (by kernel_rfl)) (by kernel_rfl) (by kernel_rfl) (by kernel_rfl) (O8 os _)) ?_
 ·rw[Tryz.params9];intro t ht;have M:([25,5,5].all λt=>Tryz.prog.readableRec t&&decide (t<Tryz.prog.types.size))=true:=by kernel_rfl
  have:=acp.1 M t ht;simpa using this
 ·rw[Tryz.params9] at hd
  match I,hd with
  | [d0,d1,d2],_=>rfl
 ·intro W base args I ps L E p;rw[Tryz.params9] at p E;obtain⟨v0,_,_,_,_,_,V,_,_,h0,p⟩:=trodAll_cons p;obtain⟨v1,_,_,_,_,_,U,_,_,h1,p⟩:=trodAll_cons p;obtain⟨v2,_,_,_,_,_,O,_,_,h2,p⟩:=trodAll_cons p;obtain⟨N,_,_⟩:=trodAll_nil p;obtain rfl:args= #[v0,v1,v2]:=by rw[<-Array.toList_inj,V,U,O,N]
  obtain⟨a0,J⟩:=G5 (λ_=>rfl) L (E 0 25 v0 rfl rfl) h0;obtain⟨a1,rfl,_,_,b1⟩:=open_int Tryz.underlying5 (E 1 5 v1 rfl rfl) h1;obtain⟨a2,rfl,_,_,b2⟩:=open_int Tryz.underlying5 (E 2 5 v2 rfl rfl) h2;refine⟨_,.cons J (.cons (.int .u8 a1) (.cons (.int .u8 a2) .nil)),arF Ds Qv a0 a1 a2 ?_ ?_ ?_ ?_⟩
  all_goals (simp[Lit.wf,IntKind.min,IntKind.max,IntKind.signed,IntKind.bits] at b1 b2;omega)
end Go.Proofs.YtjagmhagphbfcaaGreatDoor
