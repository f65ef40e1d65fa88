/- Part 32 of a proof (made small by a program; blanks, names and remarks only). -/
import Derived.Test.YtjagmhagphbfcaaGreatDoorZ31
set_option maxRecDepth 100000
set_option linter.all false
namespace Go.Proofs.YtjagmhagphbfcaaGreatDoor.cA
open Go Go.Proofs Go.Conc Lo Dn Lw Go.ChangeShapes Go.WideShapes Go.ChangeAt Go.RowKit
theorem am3(os:Os)(started:os.Started)(H:Type)(enc:TypeId×Value->H):
  ReturnsInLeavingWide {} Tryz.checked os 12 .any (λw args=>(Rows.tagReachedSpec.pre enc Tryz.prog Tryz.f12 [] false w args/\laidMetH Tryz.prog xi w)/\sizedMet enc Tryz.prog Tryz.f12 (OpenSpec.ofChange Rows.tagReachedSpec) false w args)
   (Rows.tagReachedSpec.post enc Tryz.prog Tryz.f12 false true false false):=by
 refine Rl started Tryz.func12 rfl (by decide) (by decide) (by decide) rfl ?_ rfl (λE hd=>?_) (ChangeSpec.witness_shaped (enc:=enc) (C:=Tryz.checked) (os:=os) (X:=λw _=>laidMetH Tryz.prog xi w) false (World.doorLaid Tryz.prog 40 os) #[Xv,.int .u8 0,.int .u16 0] 12 rfl (World.shaped_of_RefB (by kernel_rfl) (by kernel_rfl)) (by kernel_rfl) (by kernel_rfl) (by kernel_rfl) (O8 os _)) ?_
 ·rw[Tryz.params12];intro t ht;have L:([25,5,44].all λt=>Tryz.prog.readableRec t&&decide (t<Tryz.prog.types.size))=true:=by kernel_rfl
  have:=acp.1 L t ht;simpa using this
 ·rw[Tryz.params12] at hd
  match E,hd with
  | [d0,d1,d2],_=>rfl
 ·intro W base args E ps J p h;rw[Tryz.params12] at h p;obtain⟨v0,_,_,_,_,_,U,_,_,h0,h⟩:=trodAll_cons h;obtain⟨v1,_,_,_,_,_,O,_,_,h1,h⟩:=trodAll_cons h;obtain⟨v2,_,_,_,_,_,N,_,_,h2,h⟩:=trodAll_cons h;obtain⟨M,_,_⟩:=trodAll_nil h;obtain rfl:args= #[v0,v1,v2]:=by rw[<-Array.toList_inj,U,O,N,M]
  obtain⟨a0,I⟩:=G5 (λ_=>rfl) J (p 0 25 v0 rfl rfl) h0;obtain⟨a1,rfl,_,_,b1⟩:=open_int Tryz.underlying5 (p 1 5 v1 rfl rfl) h1;obtain⟨a2,rfl,_,_,b2⟩:=open_int Tryz.underlying44 (p 2 44 v2 rfl rfl) h2;refine⟨_,.cons I (.cons (.int .u8 a1) (.cons (.int .u16 a2) .nil)),am4 Ds Qv a0 a1 a2 ?_ ?_ ?_ ?_⟩
  all_goals (simp[Lit.wf,IntKind.min,IntKind.max,IntKind.signed,IntKind.bits] at b1 b2;omega)
end Go.Proofs.YtjagmhagphbfcaaGreatDoor.cA
