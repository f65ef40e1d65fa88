/- Part 31 of a proof (made small by a program; blanks, names and remarks only). -/
import Derived.ChangeMaps5
import Derived.Test.YtjagmhagphbfcaaGreatDoorU30
set_option maxRecDepth 100000
set_option linter.all false
namespace Go.Proofs.YtjagmhagphbfcaaGreatDoor
open Go Go.Proofs Go.Conc Go.ChangeShapes Go.WideShapes Go.ChangeAt Go.RowKit
theorem apB(os:Os)(started:os.Started)(H:Type)(enc:TypeId×Value->H):
  ReturnsInLeavingWide {} Tryz.checked os 3 .any (λw args=>(Rows.tagPricesSpec.pre enc Tryz.prog Tryz.f3 [] false w args/\laidMetH Tryz.prog xi w)/\sizedMet enc Tryz.prog Tryz.f3 (OpenSpec.ofChange Rows.tagPricesSpec) false w args)
   (Rows.tagPricesSpec.post enc Tryz.prog Tryz.f3 false true false false):=by
 refine Rl started Tryz.func3 rfl (by decide) (by decide) (by decide) rfl ?_ rfl (λI hd=>?_) (ChangeSpec.witness_shaped (enc:=enc) (C:=Tryz.checked) (os:=os) (X:=λw _=>laidMetH Tryz.prog xi w) false (World.doorLaid Tryz.prog 40 os) #[Xv,.int .i64 0,.string ⟨#[]⟩,.int .i64 0,.int .i64 0] 3 rfl (World.shaped_of_RefB (by kernel_rfl) (by kernel_rfl)) (by kernel_rfl) (by kernel_rfl) (by kernel_rfl) (O8 os _)) ?_
 ·rw[Tryz.params3];intro t ht;have O:([25,3,9,3,3].all λt=>Tryz.prog.readableRec t&&decide (t<Tryz.prog.types.size))=true:=by kernel_rfl
  have:=acp.1 O t ht;simpa using this
 ·rw[Tryz.params3] at hd
  match I,hd with
  | [d0,d1,d2,d3,d4],_=>rfl
 ·intro W base args I ps L E p;rw[Tryz.params3] at p E;obtain⟨v0,_,_,_,_,_,e0,_,_,h0,p⟩:=trodAll_cons p;obtain⟨v1,_,_,_,_,_,e1,_,_,h1,p⟩:=trodAll_cons p;obtain⟨v2,_,_,_,_,_,Z,_,_,h2,p⟩:=trodAll_cons p;obtain⟨v3,_,_,_,_,_,Y,_,_,N,p⟩:=trodAll_cons p;obtain⟨v4,_,_,_,_,_,V,_,_,M,p⟩:=trodAll_cons p;obtain⟨U,_,_⟩:=trodAll_nil p;obtain rfl:args= #[v0,v1,v2,v3,v4]:=by rw[<-Array.toList_inj,e0,e1,Z,Y,V,U]
  obtain⟨a0,J⟩:=G5 (λ_=>rfl) L (E 0 25 v0 rfl rfl) h0;obtain⟨a1,rfl,_,_,_⟩:=open_int aeO (E 1 3 v1 rfl rfl) h1;obtain⟨a2,rfl,_,_,_⟩:=Go.ChangeMaps.open_string aen (E 2 9 v2 rfl rfl) h2;obtain⟨a3,rfl,_,_,_⟩:=open_int aeO (E 3 3 v3 rfl rfl) N;obtain⟨a4,rfl,_,_,_⟩:=open_int aeO (E 4 3 v4 rfl rfl) M;refine⟨_,.cons J (.cons (.int .i64 a1) (.cons (.str a2) (.cons (.int .i64 a3) (.cons (.int .i64 a4) .nil)))),apg Ds Qv a0 a1 a2.data.toList a3 a4⟩
end Go.Proofs.YtjagmhagphbfcaaGreatDoor
