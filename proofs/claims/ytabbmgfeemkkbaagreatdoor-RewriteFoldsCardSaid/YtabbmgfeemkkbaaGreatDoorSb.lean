/- Part of the proof: contracts of functions; no condition. -/
import Derived.Test.YtabbmgfeemkkbaaGreatDoorSl
import Derived.Below
import Derived.Sort.Grow
import Derived.Deep.Draws
namespace Go.Dm
variable {P:Program}
theorem gM{f:Nat}{fn:Func}(h:P.funcs[f]? = some fn)(h1:(fn.name == "runtime.NumGoroutine")=false)(h2:fn.body.isNone=false):qc P f:=⟨fn,h,h1,h2⟩
theorem Qk{gl:Nat→Option Obj}{f:Nat}(hf:qc P f){xs:List Value}{y:Value}(hy:plain y=true)
  (h:∀w:World,(∀b o,gl b=some o→w.heap[b]? = some o)→Calls P f xs.toArray w fun e w'=>e = .returned y∧mB [] w.heap.size w w'):
  Ct P gl f (xs.map fun x=>R.d (.v x)) (gives [.d (.v y)]):=by
 refine⟨hf,⟨_,_,rfl,rfl⟩,fun w ok vs bs h0 h1 h2 h3 h4=>?_⟩
 have inv:∀(xs:List Value) (bs:List Nat) (vs:List Value),cC ok w bs (xs.map fun x=>R.d (.v x)) vs→vs=xs∧bs=[]:=by
  intro xs
  induction xs with
  |nil=>intro bs vs h;cases h;exact⟨rfl,rfl⟩
  |cons x r ih=>
   intro bs vs h
   cases h with
   |d hd hr=>
    obtain⟨e1,e2⟩:=ih _ _ hr
    cases hd with
    |v _=>exact⟨by rw[e1],e2⟩
 obtain⟨rfl,rfl⟩:=inv xs bs vs h4
 refine(h w fun b o hb=>(h0 b o hb).2).mono fun e w' ⟨he,hu⟩=>?_
 exact⟨[.d (.v y)],[],[y],ok,[],he,⟨rfl,rfl⟩,fun _ h=>h,fun _ h=>.inl h,fun b hb=>Nat.lt_of_lt_of_le (h1 b hb) hu.size,hu,.d (.v hy) .nil,List.nodup_nil,(by intro b hb;cases hb),rfl,(by intro i n cs h;simp at h)⟩
theorem Below.l8{w w':World}(h:Go.RowKit.Below w.heap.size w w'):mB [] w.heap.size w w':=⟨h.os,h.tape,h.output,h.size,fun k hk _=>h.block k hk⟩
end Go.Dm
