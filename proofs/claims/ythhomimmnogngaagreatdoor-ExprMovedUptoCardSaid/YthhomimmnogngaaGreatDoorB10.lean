/- A part of the proof: contracts of functions, by a verified generator of conditions; no condition of its own. -/
import Derived.Test.YthhomimmnogngaaGreatDoorB8
namespace Go.Proofs.Tryz
open Go Go.Dm Go.Ex
set_option maxRecDepth 100000
variable {gl:Nat→Option Obj}
def divP(a b:Int):Int×Int:=bif b==0 then(0,11)else bif b == -1 then(s207_0 a,s207_1 a)else(IntKind.i64.wrap (a.tdiv b),0)
theorem vc205(a b:Int)(Q:KT):vc E_0 C_g5 noI fi78 (f78.body.getD .skip) f78.results.toList [.d (.v (.int .i64 a)),.d (.v (.int .i64 b))] Q=(((b==0)=true→Zci Q (0:Int) (11:Int))∧((b==0)=false→((b==(-1:Int))=true→Q [.d (.i (s207_0 a)),.d (.i (s207_1 a))] [])∧((b==(-1:Int))=false→b≠(0:Int)∧Q [.d (.i (IntKind.i64.wrap (a.tdiv b))),.d (.i 0)] []))):=by kernel_rfl
theorem ct205(a b:Int):Ct prog gl 78 [.d (.v (.int .i64 a)),.d (.v (.int .i64 b))] (gives [.d (.v (.int .i64 (divP a b).1)),.d (.v (.int .i64 (divP a b).2))]):=
 ctv C_g5_ok f78 fi78 ⟨_,_,rfl,rfl⟩ (by
  rw[vc205];dsimp -eta -iota -proj only[Zci]
  refine⟨fun h=>?_,fun h=>⟨fun h2=>?_,fun h2=>⟨by simpa using h,?_⟩⟩⟩<;>(simp only[divP, *,cond_true,cond_false];exact⟨rfl,rfl⟩))
def c_205(a:List R)(K:KT):Prop:=match a with
 |[.d (.v (.int .i64 a)),.d (.v (.int .i64 b))]=>K [.d (.v (.int .i64 (divP a b).1)),.d (.v (.int .i64 (divP a b).2))] []
 |_=>False
theorem c_205_ok(a:List R)(K:KT)(h:c_205 a K):Ct prog gl 78 a K:=by
 unfold c_205 at h
 split at h
 ·exact(ct205 _ _).gives h
 ·exact h.elim
def C_g6:CallT:=addC C_g5 78 c_205
theorem C_g6_ok:CallsOk prog gl C_g6:=addC_ok C_g5_ok c_205_ok
def ofI(n:Int):Go.Ex.AV:=⟨⟨2,0⟩,false,n,{data:={toList:=[]:Array UInt8}:ByteArray}⟩
def zeroV:Go.Ex.AV:=⟨⟨0,0⟩,false,0,{data:={toList:=[]:Array UInt8}:ByteArray}⟩
def E_9:Env:={E_0 with bw:=[18,38,39,42]}
structure VX where
 i:Nat
 l:List Go.Ex.AV
def st_57(op sub:Int)(t:Ty)(v:Go.Ex.AV)(args:List EX)(row:List Go.Ex.AV)(cols:List Ty)(x:VX):St:={tm:=[(0,.dptr [.sl (row.map Go.Ex.AV.cs),.sl (cols.map Ty.cs)]),(3,.ref 3 0),(4,.ref 4 0),(5,.d (.v (.bool false))),(6,.ref 6 0),(17,.own 163),(18,.d (.v (.bool (x.l.any (fun v=>v.nul))))),(165,.d (.sl (cellsL args))),(166,.d (.v (.int .i64 ((cellsL args).length:Int)))),(167,.d (.v (.int .i64 (x.i:Int))))],hp:=[(3,.box [.d (.v (.int .i64 op)),.d (.v (.int .i64 sub)),.d (.v (.int .i64 t.k)),.d (.v (.int .i64 t.sc)),.d (.v (.int .i64 v.t.k)),.d (.v (.int .i64 v.t.sc)),.d (.v (.bool v.nul)),.d (.v (.int .i64 v.n)),.d (.v (.string v.s)),.d (.sl (cellsL args))]),(4,.box [.d (.v (.int .i64 0)),.d (.v (.int .i64 0)),.d (.v (.bool false)),.d (.v (.int .i64 0)),.d (.v (.string {data:={toList:=[]:Array UInt8}:ByteArray}))]),(6,.box [.d (.v (.int .i64 (typedE cols (.mk op sub t v args)).1.k)),.d (.v (.int .i64 (typedE cols (.mk op sub t v args)).1.sc))]),(163,.lst 25 5 (x.l.map Go.Ex.AV.cs++List.replicate (args.length-x.i) zeroV.cs))],kn:=[],gd:=[]}
theorem set_next{l:List Go.Ex.AV}{n:Nat}{z:List D}{w:Go.Ex.AV}(h:l.length<n):(l.map Go.Ex.AV.cs++List.replicate (n-l.length) z).set l.length w.cs=(l++[w]).map Go.Ex.AV.cs++List.replicate (n-(l.length+1)) z:=by
 rw[List.set_append_right _ _ (by simp),List.length_map,Nat.sub_self,show n-l.length=(n-(l.length+1))+1 by omega,List.replicate_succ,List.set_cons_zero,List.map_append,List.append_assoc]
 rfl
end Go.Proofs.Tryz
namespace Go.Proofs.Tryz
open Go Go.Dm Go.Ex
set_option maxRecDepth 100000
variable {gl:Nat→Option Obj}
theorem check_may{cols:List Ty}{e:EX}(h:(checkE cols e).2=0):mayE cols.length e=true∧(typedE cols e).2=true:=by
 unfold checkE at h
 revert h
 cases mayE (cols.length:Int) e<;>cases cols.any badT<;>cases decide (nodes e>256)<;>cases decide (deep e>24)<;>cases(typedE cols e).2<;>simp
end Go.Proofs.Tryz
