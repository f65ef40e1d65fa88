/- Lemmas, part 32. -/
import Derived.Test.YtjagmhagphbfcaaGreatDoorO31
set_option maxRecDepth 100000
set_option linter.all false
namespace Go.Proofs.YtjagmhagphbfcaaGreatDoor
open Go Go.Proofs Go.Conc Go.ChangeShapes Go.WideShapes Go.ChangeAt Go.RowKit
theorem arY(os:Os)(started:os.Started)(H:Type)(enc:TypeId×Value->H):
  ReturnsInLeavingWide {} Tryz.checked os 7 .any (λw args=>(Rows.tagAskedSpec.pre enc Tryz.prog Tryz.f7 [] false w args/\laidMetH Tryz.prog xi w)/\sizedMet enc Tryz.prog Tryz.f7 (OpenSpec.ofChange Rows.tagAskedSpec) false w args)
   (Rows.tagAskedSpec.post enc Tryz.prog Tryz.f7 false true false false):=by
 refine ar5 started Tryz.func7 rfl ?_ rfl (λL hd=>?_) (ChangeSpec.witness_shaped (enc:=enc) (C:=Tryz.checked) (os:=os) (X:=λw _=>laidMetH Tryz.prog xi w) false (World.doorLaid Tryz.prog 40 os) #[Xv,.int .u8 0] 7 rfl (World.shaped_of_RefB (by kernel_rfl) (by kernel_rfl)) (by kernel_rfl) (by kernel_rfl) (by kernel_rfl) (O8 os _)) ?_
 ·rw[Tryz.params7];intro t ht;have Z:([25,5].all λt=>Tryz.prog.readableRec t&&decide (t<Tryz.prog.types.size))=true:=by kernel_rfl
  have:=acp.1 Z t ht;simpa using this
 ·rw[Tryz.params7] at hd
  match L,hd with
  | [d0,d1],_=>rfl
 ·intro W base args L ps O Y U E p;rw[Tryz.params7] at p E;obtain⟨v0,_,_,_,_,_,e0,_,_,h0,p⟩:=trodAll_cons p;obtain⟨v1,_,_,_,_,_,e1,_,_,h1,p⟩:=trodAll_cons p;obtain⟨e2,_,_⟩:=trodAll_nil p;obtain rfl:args= #[v0,v1]:=by rw[<-Array.toList_inj,e0,e1,e2]
  obtain⟨a0,M⟩:=G5 (λ_=>rfl) U (E 0 25 v0 rfl rfl) h0;obtain⟨a1,rfl,_,_,b1⟩:=open_int Tryz.underlying5 (E 1 5 v1 rfl rfl) h1;obtain⟨ws,ys,k1,_,N⟩:=(show qL W #[v0,.int .u8 a1].toList [eG a0,.i .u8 a1] from .cons M (.cons (.int .u8 a1) .nil)) []
  obtain⟨J,I⟩:=N [];simp only[aaV,acO] at J I;refine arv O Y k1 (by simpa using J) (k:=a1) ?_ ?_ I
  all_goals (simp[Lit.wf,IntKind.min,IntKind.max,IntKind.signed,IntKind.bits] at b1;omega)
end Go.Proofs.YtjagmhagphbfcaaGreatDoor
