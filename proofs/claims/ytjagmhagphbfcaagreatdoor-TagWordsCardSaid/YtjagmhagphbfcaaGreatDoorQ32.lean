/- Lemmas, part 32. -/
import Derived.ChangeMaps5
import Derived.Test.YtjagmhagphbfcaaGreatDoorQ31
set_option maxRecDepth 100000
set_option linter.all false
namespace Go.Proofs.YtjagmhagphbfcaaGreatDoor
def aeO:=@Go.Proofs.Tryz.underlying3
open Go Go.Proofs Go.Conc Go.ChangeShapes Go.WideShapes Go.ChangeAt Go.RowKit
theorem asv(os:Os)(started:os.Started)(H:Type)(enc:TypeId×Value->H):
  ReturnsInLeavingWide {} Tryz.checked os 10 .any (λw args=>(Rows.tagWordsSpec.pre enc Tryz.prog Tryz.f10 [] false w args/\laidMetH Tryz.prog xi w)/\sizedMet enc Tryz.prog Tryz.f10 (OpenSpec.ofChange Rows.tagWordsSpec) false w args)
   (Rows.tagWordsSpec.post enc Tryz.prog Tryz.f10 false true false false):=by
 refine Rl started Tryz.func10 rfl (by decide) (by decide) (by decide) rfl ?_ rfl (λI hd=>?_) (ChangeSpec.witness_shaped (enc:=enc) (C:=Tryz.checked) (os:=os) (X:=λw _=>laidMetH Tryz.prog xi w) false (World.doorLaid Tryz.prog 40 os) #[Xv,.int .i64 0,.string ⟨#[]⟩] 10 rfl (World.shaped_of_RefB (by kernel_rfl) (by kernel_rfl)) (by kernel_rfl) (by kernel_rfl) (by kernel_rfl) (O8 os _)) ?_
 ·rw[Tryz.params10];intro t ht;have M:([25,3,9].all λt=>Tryz.prog.readableRec t&&decide (t<Tryz.prog.types.size))=true:=by kernel_rfl
  have:=acp.1 M t ht;simpa using this
 ·rw[Tryz.params10] at hd
  match I,hd with
  | [d0,d1,d2],_=>rfl
 ·intro W base args I ps L E p;rw[Tryz.params10] at p E;obtain⟨v0,_,_,_,_,_,V,_,_,h0,p⟩:=trodAll_cons p;obtain⟨v1,_,_,_,_,_,U,_,_,h1,p⟩:=trodAll_cons p;obtain⟨v2,_,_,_,_,_,O,_,_,h2,p⟩:=trodAll_cons p;obtain⟨N,_,_⟩:=trodAll_nil p;obtain rfl:args= #[v0,v1,v2]:=by rw[<-Array.toList_inj,V,U,O,N]
  obtain⟨a0,J⟩:=G5 (λ_=>rfl) L (E 0 25 v0 rfl rfl) h0;obtain⟨a1,rfl,_,_,_⟩:=open_int aeO (E 1 3 v1 rfl rfl) h1;obtain⟨a2,rfl,_,_,_⟩:=Go.ChangeMaps.open_string aen (E 2 9 v2 rfl rfl) h2;refine⟨_,.cons J (.cons (.int .i64 a1) (.cons (.str a2) .nil)),asf Ds Qv a0 a1 a2.data.toList⟩
end Go.Proofs.YtjagmhagphbfcaaGreatDoor
