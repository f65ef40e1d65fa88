/- Lemmas, part 32. -/
import Derived.Test.YtjagmhagphbfcaaGreatDoorT31
set_option maxRecDepth 100000
set_option linter.all false
namespace Go.Proofs.YtjagmhagphbfcaaGreatDoor
open Go Go.Proofs Go.Conc Go.ChangeShapes Go.WideShapes Go.ChangeAt Go.RowKit
def ar2(os:Os)(started:os.Started)(H:Type)(enc:TypeId×Value->H):
  ReturnsInLeavingWide {} Tryz.checked os 13 .any (λw args=>(Rows.tagLearntSpec.pre enc Tryz.prog Tryz.f13 [] false w args/\laidMetH Tryz.prog xi w)/\sizedMet enc Tryz.prog Tryz.f13 (OpenSpec.ofChange Rows.tagLearntSpec) false w args)
   (Rows.tagLearntSpec.post enc Tryz.prog Tryz.f13 false true false false):=by
 refine Rl started Tryz.func13 rfl (by decide) (by decide) (by decide) rfl ?_ rfl (λE hd=>?_) (ChangeSpec.witness_shaped (enc:=enc) (C:=Tryz.checked) (os:=os) (X:=λw _=>laidMetH Tryz.prog xi w) false (World.doorLaid Tryz.prog 40 os) #[Xv,.int .u8 0,.int .u8 0,.agg #[.int .i64 0,.int .i64 0],.int .u8 0,.int .u16 0,.int .u8 0] 13 rfl (World.shaped_of_RefB (by kernel_rfl) (by kernel_rfl)) (by kernel_rfl) (by kernel_rfl) (by kernel_rfl) (O8 os _)) ?_
 ·rw[Tryz.params13];intro t ht;have Y:([25,5,5,49,5,44,5].all λt=>Tryz.prog.readableRec t&&decide (t<Tryz.prog.types.size))=true:=by kernel_rfl
  have:=acp.1 Y t ht;simpa using this
 ·rw[Tryz.params13] at hd
  match E,hd with
  | [d0,d1,d2,d3,d4,d5,d6],_=>rfl
 ·intro W base args E ps M p h;rw[Tryz.params13] at h p;obtain⟨v0,_,_,_,_,_,e0,_,_,h0,h⟩:=trodAll_cons h;obtain⟨v1,_,_,_,_,_,e1,_,_,h1,h⟩:=trodAll_cons h;obtain⟨v2,_,_,_,_,_,e2,_,_,h2,h⟩:=trodAll_cons h;obtain⟨v3,_,_,_,_,_,e3,_,_,V,h⟩:=trodAll_cons h;obtain⟨v4,_,_,_,_,_,e4,_,_,U,h⟩:=trodAll_cons h;obtain⟨v5,_,_,_,_,_,e5,_,_,O,h⟩:=trodAll_cons h;obtain⟨v6,_,_,_,_,_,e6,_,_,N,h⟩:=trodAll_cons h;obtain⟨Z,_,_⟩:=trodAll_nil h;obtain rfl:args= #[v0,v1,v2,v3,v4,v5,v6]:=by rw[<-Array.toList_inj,e0,e1,e2,e3,e4,e5,e6,Z]
  obtain⟨a0,L⟩:=G5 (λ_=>rfl) M (p 0 25 v0 rfl rfl) h0;obtain⟨a1,rfl,_,_,b1⟩:=open_int Tryz.underlying5 (p 1 5 v1 rfl rfl) h1;obtain⟨a2,rfl,_,_,b2⟩:=open_int Tryz.underlying5 (p 2 5 v2 rfl rfl) h2;obtain⟨a3,c3,J⟩:=asm (p 3 49 v3 rfl rfl) V;obtain⟨a4,rfl,_,_,b4⟩:=open_int Tryz.underlying5 (p 4 5 v4 rfl rfl) U;obtain⟨a5,rfl,_,_,b5⟩:=open_int Tryz.underlying44 (p 5 44 v5 rfl rfl) O;obtain⟨I,rfl,_,_,b6⟩:=open_int Tryz.underlying5 (p 6 5 v6 rfl rfl) N;refine⟨_,.cons L (.cons (.int .u8 a1) (.cons (.int .u8 a2) (.cons J (.cons (.int .u8 a4) (.cons (.int .u16 a5) (.cons (.int .u8 I) .nil)))))),ar3 Ds Qv a0 a1 a2 a3 c3 a4 a5 I ?_ ?_ ?_ ?_ ?_ ?_ ?_ ?_ ?_ ?_⟩
  all_goals (simp[Lit.wf,IntKind.min,IntKind.max,IntKind.signed,IntKind.bits] at b1 b2 b4 b5 b6;omega)
end Go.Proofs.YtjagmhagphbfcaaGreatDoor
