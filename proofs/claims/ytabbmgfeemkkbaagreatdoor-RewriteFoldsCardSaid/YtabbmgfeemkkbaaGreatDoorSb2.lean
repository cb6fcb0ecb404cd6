/- Part of the proof: contracts of functions; no condition. -/
import Derived.Test.YtabbmgfeemkkbaaGreatDoorSb
import Derived.Lib.Walk
namespace Go.Dm
variable {P:Program}
def Er(v:Value)(d:D):Prop:=∀(ok:Nat→Prop) (w:World),Rd ok w v d
theorem jh{v:Value}(h:plain v=true):Er v (.v v):=fun _ _=>.v h
theorem Dd{t:TypeId}{z:Value}:Er (.iface t z) .wm:=fun _ _=>.wm
inductive y5:List R→List Value→Prop
 |nil:y5 [] []
 |v {x:Value} {rs:List R} {vs:List Value} (r:y5 rs vs):y5 (.d (.v x)::rs) (x::vs)
 |f {g:Nat} {rs:List R} {vs:List Value} (r:y5 rs vs):y5 (.fn g []::rs) (.func (.func g) #[] #[]::vs)
theorem y5.inv{rs:List R}{xs:List Value}(h:y5 rs xs):∀{ok:Nat→Prop} {w:World} {bs:List Nat} {vs:List Value},cC ok w bs rs vs→vs=xs∧bs=[]:=by
 induction h with
 |nil=>intro ok w bs vs h;cases h;exact⟨rfl,rfl⟩
 |v r ih=>
  intro ok w bs vs h
  cases h with
  |d hd hr=>
   obtain⟨e1,e2⟩:=ih hr
   cases hd with
   |v _=>exact⟨by rw[e1],e2⟩
 |f r ih=>
  intro ok w bs vs h
  cases h with
  |fn hf hr=>
   obtain⟨e1,e2⟩:=ih hr
   cases hf with
   | @fn f cs xs hs h=>
     have:xs = #[]:=by
      apply Array.eq_empty_of_size_eq_zero
      simpa[kV]using hs
     subst this
     exact⟨by rw[e1],e2⟩
theorem aei:∀{ds:List D} {vs:List Value} (hl:vs.length=ds.length) (h:∀(i:Nat) v d,vs[i]? = some v→ds[i]? = some d→Er v d) (ok:Nat→Prop) (w:World),gr ok w [] (ds.map R.d) vs
 |[],[],_,_,_,_=>.nil
 |[],_::_,hl,_,_,_=>by simp at hl
 |_::_,[],hl,_,_,_=>by simp at hl
 |d::ds,v::vs,hl,h,ok,w=>.d (h 0 v d rfl rfl ok w) (aei (by simpa using hl) (fun i v d h1 h2=>h (i+1) v d (by simpa using h1) (by simpa using h2)) ok w)
theorem ji{gl:Nat→Option Obj}{f:Nat}(hf:qc P f){args:List R}{xs:List Value}(ha:y5 args xs){ds:List D}
  (h:∀w:World,(∀b o,gl b=some o→w.heap[b]? = some o)→Calls P f xs.toArray w fun e w'=>∃vs,e = .returned (ko vs)∧vs.length=ds.length∧(∀(i:Nat) v d,vs[i]? = some v→ds[i]? = some d→Er v d)∧mB [] w.heap.size w w'):
  Ct P gl f args (gives (ds.map R.d)):=by
 refine⟨hf,⟨_,_,rfl,rfl⟩,fun w ok vs bs h0 h1 h2 h3 h4=>?_⟩
 obtain⟨rfl,rfl⟩:=ha.inv h4
 refine(h w fun b o hb=>(h0 b o hb).2).mono fun e w' ⟨ys,he,hl,hr,hu⟩=>?_
 exact⟨ds.map R.d,[],ys,ok,[],he,⟨rfl,rfl⟩,fun _ h=>h,fun _ h=>.inl h,fun b hb=>Nat.lt_of_lt_of_le (h1 b hb) hu.size,hu,aei hl hr ok w',List.nodup_nil,(by intro b hb;cases hb),rfl,(by intro i n cs h;simp at h)⟩
theorem two{v1 v2:Value}{d1 d2:D}(h1:Er v1 d1)(h2:Er v2 d2):∀(i:Nat) v d,[v1,v2][i]? = some v→[d1,d2][i]? = some d→Er v d
 |0,v,d,a,b=>by simp at a b;subst a;subst b;exact h1
 |1,v,d,a,b=>by simp at a b;subst a;subst b;exact h2
 |i+2,v,d,a,b=>by simp at a
theorem three{v1 v2 v3:Value}{d1 d2 d3:D}(h1:Er v1 d1)(h2:Er v2 d2)(h3:Er v3 d3):∀(i:Nat) v d,[v1,v2,v3][i]? = some v→[d1,d2,d3][i]? = some d→Er v d
 |0,v,d,a,b=>by simp at a b;subst a;subst b;exact h1
 |1,v,d,a,b=>by simp at a b;subst a;subst b;exact h2
 |2,v,d,a,b=>by simp at a b;subst a;subst b;exact h3
 |i+3,v,d,a,b=>by simp at a
theorem one{v1:Value}{d1:D}(h1:Er v1 d1):∀(i:Nat) v d,[v1][i]? = some v→[d1][i]? = some d→Er v d
 |0,v,d,a,b=>by simp at a b;subst a;subst b;exact h1
 |i+1,v,d,a,b=>by simp at a
end Go.Dm
