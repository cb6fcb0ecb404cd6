/- A part of the proof: contracts of functions, by a verified generator of conditions; no condition of its own. -/
import Derived.Test.YthhomimmnogngaaGreatDoorL17a
namespace Go.Proofs.YthhomimmnogngaaGreatDoor
open Go Go.Dm Go.Ex Go.Proofs.Tryz
open Go.ChangeShapes Go.WideShapes Go.ChangeAt Go.RowKit
set_option maxRecDepth 100000
theorem cd1:RW.wfByText (Rows.OpenSpec.upto Rows.exprMovedSpec)=true:=by kernel_rfl
theorem cd2:PP.mainIs=some (true,"91b8f28c3124f02a591d75ee275c7147cca0ee1b97c62b879b373df58a1ae9c5".toList):=by kernel_rfl
theorem cd3:Tryz.prog.funcNamed "colonnade/colonnadelaw14.ExprMoved" = some 3:=by kernel_rfl
theorem cd4:true=PP.looks []:=by kernel_rfl
theorem cd5:PP.wantsStandIn 28=false:=by kernel_rfl
theorem cd6:PP.wantsStandIn 29=false:=by kernel_rfl
theorem cd9:PP.wantsStandIn 5=false:=by kernel_rfl
theorem cd7:false=RW.goesBy PP:=by kernel_rfl
theorem cd8:∀f fn,PP.funcNamed RW.func=some f→PP.funcs[f]? = some fn→true=PP.looks []∧∀(j:Nat) t,fn.params[j]? = some t→PP.wantsStandIn t=false:=fun f fn hf hfn=>by
 obtain rfl:f=3:=Option.some.inj (cd3.symm.trans hf) |>.symm
 obtain rfl:fn=Tryz.f3:=(Option.some.inj (Tryz.func3.symm.trans hfn)).symm
 refine⟨cd4,fun j t ht=>?_⟩
 rw[Tryz.params3]at ht
 have h3:t=28∨t=29∨t=5:=by
  rcases j with _|_|_|_|j
  ·exact .inl (by simpa using ht.symm)
  ·exact .inr (.inl (by simpa using ht.symm))
  ·exact .inr (.inr (by simpa using ht.symm))
  ·exact .inr (.inl (by simpa using ht.symm))
  ·simp at ht
 rcases h3 with rfl|rfl|rfl
 ·exact cd5
 ·exact cd6
 ·exact cd9
theorem expr_moved:Rows.ExprMovedUptoCardSaid:=
 Claim7.holds_tied_plain_at .later [] [.data,.data,.data,.data,.sentinel,.sentinel,.pinned] true (true,"91b8f28c3124f02a591d75ee275c7147cca0ee1b97c62b879b373df58a1ae9c5") true
  moved_said (fun _ h=>by cases h) cd1 (fun _ h=>by cases h) exprMovedUpto_row_tie rfl ⟨rfl,rfl⟩ cd2 rfl cd8 cd7
#print axioms expr_moved
end Go.Proofs.YthhomimmnogngaaGreatDoor
