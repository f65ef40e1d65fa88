/- Part 33 of a proof (made small by a program; blanks, names and remarks only). -/
import Derived.Test.YtjagmhagphbfcaaGreatDoorV32
set_option maxRecDepth 100000
set_option linter.all false
namespace Go.Proofs.YtjagmhagphbfcaaGreatDoor.cA
open Go Go.Proofs Go.Conc Lo Dn Lw Go.ChangeShapes Go.WideShapes Go.ChangeAt Go.RowKit
theorem D3(os:Os)(started:os.Started)(H:Type)(enc:TypeId×Value->H):
  ReturnsInLeavingWide {} Tryz.checked os 8 .any (λw args=>(Rows.tagPlainlySpec.pre enc Tryz.prog Tryz.f8 [] false w args/\laidMetH Tryz.prog xi w)/\sizedMet enc Tryz.prog Tryz.f8 (OpenSpec.ofChange Rows.tagPlainlySpec) false w args)
   (Rows.tagPlainlySpec.post enc Tryz.prog Tryz.f8 false true false false):=by
 refine Rl started Tryz.func8 rfl (by decide) (by decide) (by decide) rfl ?_ rfl (λL hd=>?_) (ChangeSpec.witness_shaped (enc:=enc) (C:=Tryz.checked) (os:=os) (X:=λw _=>laidMetH Tryz.prog xi w) false (World.doorLaid Tryz.prog 40 os) #[Xv,.int .u16 0,.int .u8 0] 8 rfl (World.shaped_of_RefB (by kernel_rfl) (by kernel_rfl)) (by kernel_rfl) (by kernel_rfl) (by kernel_rfl) (O8 os _)) ?_
 ·rw[Tryz.params8];intro t ht;have J:([25,44,5].all λt=>Tryz.prog.readableRec t&&decide (t<Tryz.prog.types.size))=true:=by kernel_rfl
  have:=acp.1 J t ht;simpa using this
 ·rw[Tryz.params8] at hd;obtain⟨a,b,c,rfl⟩:=Ri hd;rfl
 ·intro W base args L ps I p E;rw[Tryz.params8] at E p;obtain⟨v0,v1,v2,d0,d1,d2,N,M,p2,rfl,rfl,rfl,h0,h1,h2⟩:=trodAll_three E;obtain⟨h,ho⟩:=G5 (λ_=>rfl) I (p 0 25 v0 rfl rfl) h0;obtain⟨n,rfl,_,_,hn⟩:=open_int Tryz.underlying44 (p 1 44 v1 rfl rfl) h1;obtain⟨k,rfl,_,_,hk⟩:=open_int Tryz.underlying5 (p 2 5 v2 rfl rfl) h2;refine⟨_,.cons ho (.cons (.int .u16 n) (.cons (.int .u8 k) .nil)),D4 Ds Qv h n k ?_ ?_ ?_ ?_⟩
  all_goals (simp[Lit.wf,IntKind.min,IntKind.max,IntKind.signed,IntKind.bits] at hn hk;omega)
end Go.Proofs.YtjagmhagphbfcaaGreatDoor.cA
