/- A part of the proof: contracts of functions, by a verified generator of conditions; no condition of its own. -/
import Derived.Test.YthhomimmnogngaaGreatDoorE4
namespace Go.Proofs.Tryz
open Go Go.Dm Go.Ex
set_option maxRecDepth 100000
variable {gl:Nat→Option Obj}
def TyOk(t:Ty):Prop:=1≤t.k∧t.k≤5∧0≤t.sc∧t.sc≤18∧(t.k≠3→t.sc=0)
theorem beqd(a b:Int):(a==b)=decide (a=b):=by by_cases h:a=b<;>simp[h]
theorem s60_iff{k sc:Int}:s60_0 k sc=0↔TyOk ⟨k,sc⟩:=by
 unfold s60_0 s124_0 TyOk
 simp only[beqd,bne]
 by_cases h1:k<1<;>by_cases h2:k>5<;>by_cases h3:sc≥0<;>by_cases h4:sc≤18<;>by_cases h5:sc=0<;>by_cases h6:k=3<;>simp[h1,h2,h3,h4,h5,h6]<;>omega
def ValP(v:Go.Ex.AV):Prop:=TyOk v.t∧(v.nul=true→v.n=0∧v.s=eB)∧
 (v.nul=false→(v.t.k=4∧v.n=0∧v.s.size≤256)∨(v.t.k≠4∧v.s=eB∧(v.t.k=1→v.n=0∨v.n=1)∧(v.t.k=3→-999999999999999999≤v.n∧v.n≤999999999999999999)∧(v.t.k=5→-719162≤v.n∧v.n≤2932896)))
theorem s56_iff{v:Go.Ex.AV}:s56_0 v.t.k v.t.sc v.nul v.n v.s=0↔ValP v:=by
 obtain⟨⟨k,sc⟩,nul,n,s⟩:=v
 unfold ValP s56_0
 dsimp only
 by_cases ht:s60_0 k sc=0
 ·rw[ht]
  have ht':=s60_iff.1 ht
  have hs:∀{P Q:Prop},((s==eB)=true→(P↔Q))→((s==eB)=false→(P↔Q))→(P↔Q):=fun h1 h2=>by
   cases hb:s==eB
   ·exact h2 hb
   ·exact h1 hb
  refine hs (fun hb=>?_) (fun hb=>?_)
  ·have he:=ba_beq.1 hb
   have h0:eB.size=0:=rfl
   have hse:s.size=0:=by rw[he];rfl
   show(bif (0:Int) != 0 then 0 else _)=0↔_
   rw[show(s=={data:={toList:=[]:Array UInt8}:ByteArray})=true from hb]
   unfold s114_0
   simp only[beqd,bne]
   cases nul
   ·by_cases k1:k=1
    ·subst k1;by_cases a:n=0<;>by_cases b:n=1<;>simp[a,b,ht',he]
    ·by_cases k3:k=3
     ·subst k3;by_cases a:(-999999999999999999:Int)≤n<;>by_cases b:n≤(999999999999999999:Int)<;>simp[a,b,ht',he]
     ·by_cases k5:k=5
      ·subst k5;by_cases a:n≥(-719162:Int)<;>by_cases b:n≤(2932896:Int)<;>simp[a,b,ht',he]
      ·by_cases k4:k=4
       ·subst k4;by_cases a:n=0<;>simp[a,ht',he,h0]
       ·simp[k1,k3,k4,k5,ht',he]
   ·by_cases a:n=0<;>simp[a,ht',he]
  ·have he:=ba_ne.1 hb
   show(bif (0:Int) != 0 then 0 else _)=0↔_
   rw[show(s=={data:={toList:=[]:Array UInt8}:ByteArray})=false from hb]
   unfold s114_0
   simp only[beqd,bne]
   cases nul
   ·by_cases k1:k=1
    ·subst k1;simp[ht',he]
    ·by_cases k3:k=3
     ·subst k3;simp[ht',he]
     ·by_cases k5:k=5
      ·subst k5;simp[ht',he]
      ·by_cases k4:k=4
       ·subst k4;by_cases a:n=0<;>by_cases b:(s.size:Int)≤256<;>simp[a,b,ht',he]<;>omega
       ·simp[k1,k3,k4,k5,ht',he]
   ·simp[ht',he]
 ·have:(s60_0 k sc != 0)=true:=by simpa using ht
  rw[this,cond_true]
  have hn:¬TyOk ⟨k,sc⟩:=fun h=>ht (s60_iff.2 h)
  constructor
  ·intro h;exact(ht h).elim
  ·intro h;exact(hn h.1).elim
theorem showOk_of{v:Go.Ex.AV}(h:ValP v)(hn:in64 v.n):ShowOk v:=by
 obtain⟨⟨h1,h2,h3,h4,h5⟩,h6,h7⟩:=h
 refine⟨hn,h1,h2,h3,h4,fun hk hz=>?_,?_⟩
 ·rcases h7 hz with⟨e,_⟩|⟨_,_,_,_,h⟩
  ·omega
  ·exact h hk
 ·cases hz:v.nul
  ·rcases h7 hz with⟨_,_,h⟩|⟨_,h,_⟩
   ·exact h
   ·rw[h];decide
  ·rw[(h6 hz).2];decide
theorem valP_size{v:Go.Ex.AV}(h:ValP v):v.s.size≤256:=by
 obtain⟨_,h6,h7⟩:=h
 cases hz:v.nul
 ·rcases h7 hz with⟨_,_,h⟩|⟨_,h,_⟩
  ·exact h
  ·rw[h];decide
 ·rw[(h6 hz).2];decide
noncomputable def castV(v:Go.Ex.AV)(t:Ty):Go.Ex.AV×Int:=
 bif s60_0 t.k t.sc != 0 then(zeroV,s60_0 t.k t.sc)
 else bif (bif bif decide (v.t.k<1)then true else decide (v.t.k>5)then true else bif bif bif v.t.k != t.k then v.t.k != 4 else false then t.k != 4 else false then s209_0 v.t.k != s209_0 t.k else false)then(zeroV,21)
 else bif v.nul then(noneV t,0)
 else bif t.k==4 then textedV v
 else bif v.t.k==4 then readV v.s.data.toList t
 else bif (bif v.t.k != 3 then t.k != 3 else false)then(⟨t,false,v.n,eB⟩,0)
 else bif (bif v.t.k==3 then !s124_0 v.t.sc else false)then(zeroV,10)
 else bif (scaleP v.n (plV v) t.sc).2 != 0 then(zeroV,(scaleP v.n (plV v) t.sc).2)else(⟨t,false,(scaleP v.n (plV v) t.sc).1,eB⟩,0)
def Zev(a0:Ty):List D:=[.i a0.1,.i a0.2,.v (.bool true),.i 0,.v (.string ⟨⟨[]⟩⟩)]
theorem vc197(v:Go.Ex.AV)(t:Ty)(Q:KT):vc E_0 C_t268 noI fi70 (f70.body.getD .skip) f70.results.toList [.agg v.cs,.agg t.cs] Q=(((s60_0 t.1 t.2 != (0:Int))=true→Q [.agg (Z3 (0:Int) (0:Int)),.d (.i (s60_0 t.1 t.2))] [])∧((s60_0 t.1 t.2 != (0:Int))=false→((bif bif decide (v.1.1<1)then true else decide (v.1.1>5)then true else bif bif bif v.1.1 != t.1 then v.1.1 != (4:Int)else false then t.1 != (4:Int)else false then s209_0 v.1.1 != s209_0 t.1 else false)=true→Zbm Q (21:Int))∧((bif bif decide (v.1.1<1)then true else decide (v.1.1>5)then true else bif bif bif v.1.1 != t.1 then v.1.1 != (4:Int)else false then t.1 != (4:Int)else false then s209_0 v.1.1 != s209_0 t.1 else false)=false→(v.2=true→Q [.agg (Zev t),.d (.i 0)] [])∧(v.2=false→((t.1==4)=true→ShowOk {t:={k:=v.1.1,sc:=v.1.2:Ty},nul:=v.2,n:=v.3,s:=v.4:AV}∧Q [.agg [.v (.int .i64 (textedV {t:={k:=v.1.1,sc:=v.1.2:Ty},nul:=v.2,n:=v.3,s:=v.4:AV}).1.1.1),.v (.int .i64 (textedV {t:={k:=v.1.1,sc:=v.1.2:Ty},nul:=v.2,n:=v.3,s:=v.4:AV}).1.1.2),.v (.bool (textedV {t:={k:=v.1.1,sc:=v.1.2:Ty},nul:=v.2,n:=v.3,s:=v.4:AV}).1.2),.v (.int .i64 (textedV {t:={k:=v.1.1,sc:=v.1.2:Ty},nul:=v.2,n:=v.3,s:=v.4:AV}).1.3),.v (.string (textedV {t:={k:=v.1.1,sc:=v.1.2:Ty},nul:=v.2,n:=v.3,s:=v.4:AV}).1.4)],.d (.v (.int .i64 (textedV {t:={k:=v.1.1,sc:=v.1.2:Ty},nul:=v.2,n:=v.3,s:=v.4:AV}).2))] [])∧((t.1==4)=false→((v.1.1==4)=true→v.4.size≤(1000:Nat)∧Q [.agg [.v (.int .i64 (readV v.4.data.1 {k:=t.1,sc:=t.2:Ty}).1.1.1),.v (.int .i64 (readV v.4.data.1 {k:=t.1,sc:=t.2:Ty}).1.1.2),.v (.bool (readV v.4.data.1 {k:=t.1,sc:=t.2:Ty}).1.2),.v (.int .i64 (readV v.4.data.1 {k:=t.1,sc:=t.2:Ty}).1.3),.v (.string (readV v.4.data.1 {k:=t.1,sc:=t.2:Ty}).1.4)],.d (.v (.int .i64 (readV v.4.data.1 {k:=t.1,sc:=t.2:Ty}).2))] [])∧((v.1.1==4)=false→((bif v.1.1 != (3:Int)then t.1 != (3:Int)else false)=true→Q [.agg [.i t.1,.i t.2,.v (.bool false),.i v.3,.v (.string ⟨⟨[]⟩⟩)],.d (.i 0)] [])∧((bif v.1.1 != (3:Int)then t.1 != (3:Int)else false)=false→((bif v.1.1==3 then !s124_0 v.1.2 else false)=true→Zbm Q (10:Int))∧((bif v.1.1==3 then !s124_0 v.1.2 else false)=false→(((scaleP v.3 (s270_0 v.1.1 v.1.2 v.2 v.3 v.4) t.2).2 != (0:Int))=true→Q [.agg (Z3 (0:Int) (0:Int)),.d (.v (.int .i64 (scaleP v.3 (s270_0 v.1.1 v.1.2 v.2 v.3 v.4) t.2).2))] [])∧(((scaleP v.3 (s270_0 v.1.1 v.1.2 v.2 v.3 v.4) t.2).2 != (0:Int))=false→Q [.agg [.i t.1,.i t.2,.v (.bool false),.v (.int .i64 (scaleP v.3 (s270_0 v.1.1 v.1.2 v.2 v.3 v.4) t.2).1),.v (.string ⟨⟨[]⟩⟩)],.d (.i 0)] []))))))))):=by kernel_rfl
theorem ct197(G:GlOk gl)(v:Go.Ex.AV)(t:Ty)(h1:ValP v)(h2:in64 v.n):Ct prog gl 70 [.agg v.cs,.agg t.cs] (gives [.agg (castV v t).1.cs,.d (.v (.int .i64 (castV v t).2))]):=by
 refine ct_of_vc E_ok (C_t268_ok G) ioK_no it_ok mixed (fn:=f70) (body:=f70.body.getD .skip) (by kernel_rfl) (by kernel_rfl) (by kernel_rfl) (fi:=fi70) (by kernel_rfl) (by kernel_rfl) ⟨_,_,rfl,rfl⟩ ?_
 rw[vc197];dsimp -eta -iota -proj only[Z3,Zbm,Zbl,Zev]
 have hp:s270_0 v.t.k v.t.sc v.nul v.n v.s=plV v:=rfl
 rw[hp]
 generalize hQ:gives [.agg (castV v t).1.cs,.d (.v (.int .i64 (castV v t).2))]=Q'
 (repeat' (first|(with_reducible refine And.intro ?_ ?_)|(intro hh;first|(exact absurd hh (by decide))|skip)))
 all_goals first
  |(exact showOk_of h1 h2)
  |(have:=(showOk_of h1 h2).2.2.2.2.2.2;omega)
  |(rw[←hQ];refine⟨?_,rfl⟩;simp only[castV, *,cond_true,cond_false];first|done|rfl)
def c_197(a:List R)(K:KT):Prop:=match a with
 |[.agg [.v (.int .i64 v_k),.v (.int .i64 v_sc),.v (.bool v_b),.v (.int .i64 v_n),.v (.string v_s)],.agg [.v (.int .i64 t_k),.v (.int .i64 t_sc)]]=>ValP (⟨⟨v_k,v_sc⟩,v_b,v_n,v_s⟩:Go.Ex.AV)∧in64 (⟨⟨v_k,v_sc⟩,v_b,v_n,v_s⟩:Go.Ex.AV).n∧K [.agg (castV (⟨⟨v_k,v_sc⟩,v_b,v_n,v_s⟩:Go.Ex.AV) (⟨t_k,t_sc⟩:Ty)).1.cs,.d (.v (.int .i64 (castV (⟨⟨v_k,v_sc⟩,v_b,v_n,v_s⟩:Go.Ex.AV) (⟨t_k,t_sc⟩:Ty)).2))] []
 |_=>False
theorem c_197_ok(G:GlOk gl)(a:List R)(K:KT)(h:c_197 a K):Ct prog gl 70 a K:=by
 unfold c_197 at h
 split at h
 ·obtain⟨h0,h1,hk⟩:=h
  exact(ct197 G (⟨⟨_,_⟩,_,_,_⟩:Go.Ex.AV) (⟨_,_⟩:Ty) h0 h1).gives hk
 ·exact h.elim
def C_t197:CallT:=addC C_t268 70 c_197
theorem C_t197_ok(G:GlOk gl):CallsOk prog gl C_t197:=addC_ok (C_t268_ok G) (c_197_ok G)
def numR(op x y:Int):Int×Int:=
 bif op==3 then(s202_0 x y,s202_1 x y)else bif op==4 then(s203_0 x y,s203_1 x y)else bif op==5 then mulP x y else bif op==6 then divP x y else bif op==7 then remP x y else bif op==8 then(s207_0 x,s207_1 x)else(0,0)
def numV(op:Int)(t:Ty)(x y:Int):Go.Ex.AV×Bool:=(⟨t,false,(numR op x y).1,eB⟩,bif (numR op x y).2==0 then s56_0 t.k t.sc false (numR op x y).1 eB==0 else false)
noncomputable def reckonV(op sub:Int)(t:Ty)(a b:Go.Ex.AV):Go.Ex.AV×Bool:=
 bif op==9 then(liftV (testV sub a b).1,true)
 else bif op==17 then(textV (a.s++b.s),s56_0 4 0 false 0 (a.s++b.s)==0)
 else bif op==18 then(ofI a.s.size,true)
 else bif (bif t.k==3 then op != 5 else false)then(bif (bif (castV a t).2 != 0 then true else(castV b t).2 != 0)then(zeroV,false)else numV op t (castV a t).1.n (castV b t).1.n)
 else numV op t a.n b.n
def Zcx(a0:List (List D))(k:Int→Int→Bool→Int→ByteArray→Prop):Prop:=Zcd (0:Int) a0 fun cells=>Zbg cells fun n n_1 b n_2 b_1=>k n n_1 b n_2 b_1
def Zdf:List R:=[.agg (Z3 (0:Int) (0:Int)),.d (.v (.bool false))]
def Zdi(a0:KT):Prop:=a0 Zdf []
def Zdl(a0:Ty):List R:=[.agg (Zew a0 (0:Int)),.d (.v (.bool (bif (0:Int)==0 then s56_0 a0.1 a0.2 false (0:Int) {data:={toList:=[]:Array UInt8}:ByteArray}==(0:Int)else false)))]
def Zdv(a0:Int)(a1:KT)(a2:Ty):Prop:=((a0==8)=false→a1 (Zdl a2) [])
def Zn(a0:Int)(a1:KT)(a2 a3 a4:Int)(a5:Bool)(a6:Int)(a7:ByteArray)(a8 a9:Int)(a10:Bool)(a11:Int)(a12:ByteArray)(a13:Ty):Prop:=((a0==9)=true→a1 [.agg [.v (.int .i64 (liftV (testV a2 {t:={k:=a3,sc:=a4:Ty},nul:=a5,n:=a6,s:=a7:AV} {t:={k:=a8,sc:=a9:Ty},nul:=a10,n:=a11,s:=a12:AV}).1).1.1),.v (.int .i64 (liftV (testV a2 {t:={k:=a3,sc:=a4:Ty},nul:=a5,n:=a6,s:=a7:AV} {t:={k:=a8,sc:=a9:Ty},nul:=a10,n:=a11,s:=a12:AV}).1).1.2),.v (.bool (liftV (testV a2 {t:={k:=a3,sc:=a4:Ty},nul:=a5,n:=a6,s:=a7:AV} {t:={k:=a8,sc:=a9:Ty},nul:=a10,n:=a11,s:=a12:AV}).1).2),.v (.int .i64 (liftV (testV a2 {t:={k:=a3,sc:=a4:Ty},nul:=a5,n:=a6,s:=a7:AV} {t:={k:=a8,sc:=a9:Ty},nul:=a10,n:=a11,s:=a12:AV}).1).3),.v (.string (liftV (testV a2 {t:={k:=a3,sc:=a4:Ty},nul:=a5,n:=a6,s:=a7:AV} {t:={k:=a8,sc:=a9:Ty},nul:=a10,n:=a11,s:=a12:AV}).1).4)],.d (.v (.bool true))] [])∧((a0==9)=false→((a0==17)=true→a7.size.add a12.size≤(9223372036854775807:Nat)∧a1 [.agg [.i 4,.i 0,.v (.bool false),.i 0,.v (.string (a7++a12))],.d (.v (.bool (s56_0 (4:Int) (0:Int) false (0:Int) (a7++a12)==(0:Int))))] [])∧((a0==17)=false→((a0==18)=true→a1 [.agg [.i 2,.i 0,.v (.bool false),.i (↑a7.size:Int),.v (.string ⟨⟨[]⟩⟩)],.d (.v (.bool true))] [])∧((a0==18)=false→((bif a13.1==3 then a0 != (5:Int)else false)=true→ValP {t:={k:=a3,sc:=a4:Ty},nul:=a5,n:=a6,s:=a7:AV}∧in64 a6∧ValP {t:={k:=a8,sc:=a9:Ty},nul:=a10,n:=a11,s:=a12:AV}∧in64 a11∧((bif (castV {t:={k:=a3,sc:=a4:Ty},nul:=a5,n:=a6,s:=a7:AV} {k:=a13.1,sc:=a13.2:Ty}).2 != (0:Int)then true else(castV {t:={k:=a8,sc:=a9:Ty},nul:=a10,n:=a11,s:=a12:AV} {k:=a13.1,sc:=a13.2:Ty}).2 != (0:Int))=true→Zdi a1)∧((bif (castV {t:={k:=a3,sc:=a4:Ty},nul:=a5,n:=a6,s:=a7:AV} {k:=a13.1,sc:=a13.2:Ty}).2 != (0:Int)then true else(castV {t:={k:=a8,sc:=a9:Ty},nul:=a10,n:=a11,s:=a12:AV} {k:=a13.1,sc:=a13.2:Ty}).2 != (0:Int))=false→((a0==3)=true→a1 [.agg [.i a13.1,.i a13.2,.v (.bool false),.i (s202_0 (castV {t:={k:=a3,sc:=a4:Ty},nul:=a5,n:=a6,s:=a7:AV} {k:=a13.1,sc:=a13.2:Ty}).1.3 (castV {t:={k:=a8,sc:=a9:Ty},nul:=a10,n:=a11,s:=a12:AV} {k:=a13.1,sc:=a13.2:Ty}).1.3),.v (.string ⟨⟨[]⟩⟩)],.d (.v (.bool (bif s202_1 (castV {t:={k:=a3,sc:=a4:Ty},nul:=a5,n:=a6,s:=a7:AV} {k:=a13.1,sc:=a13.2:Ty}).1.3 (castV {t:={k:=a8,sc:=a9:Ty},nul:=a10,n:=a11,s:=a12:AV} {k:=a13.1,sc:=a13.2:Ty}).1.3==(0:Int)then s56_0 a13.1 a13.2 false (s202_0 (castV {t:={k:=a3,sc:=a4:Ty},nul:=a5,n:=a6,s:=a7:AV} {k:=a13.1,sc:=a13.2:Ty}).1.3 (castV {t:={k:=a8,sc:=a9:Ty},nul:=a10,n:=a11,s:=a12:AV} {k:=a13.1,sc:=a13.2:Ty}).1.3) {data:={toList:=[]:Array UInt8}:ByteArray}==(0:Int)else false)))] [])∧((a0==3)=false→((a0==4)=true→a1 [.agg [.i a13.1,.i a13.2,.v (.bool false),.i (s203_0 (castV {t:={k:=a3,sc:=a4:Ty},nul:=a5,n:=a6,s:=a7:AV} {k:=a13.1,sc:=a13.2:Ty}).1.3 (castV {t:={k:=a8,sc:=a9:Ty},nul:=a10,n:=a11,s:=a12:AV} {k:=a13.1,sc:=a13.2:Ty}).1.3),.v (.string ⟨⟨[]⟩⟩)],.d (.v (.bool (bif s203_1 (castV {t:={k:=a3,sc:=a4:Ty},nul:=a5,n:=a6,s:=a7:AV} {k:=a13.1,sc:=a13.2:Ty}).1.3 (castV {t:={k:=a8,sc:=a9:Ty},nul:=a10,n:=a11,s:=a12:AV} {k:=a13.1,sc:=a13.2:Ty}).1.3==(0:Int)then s56_0 a13.1 a13.2 false (s203_0 (castV {t:={k:=a3,sc:=a4:Ty},nul:=a5,n:=a6,s:=a7:AV} {k:=a13.1,sc:=a13.2:Ty}).1.3 (castV {t:={k:=a8,sc:=a9:Ty},nul:=a10,n:=a11,s:=a12:AV} {k:=a13.1,sc:=a13.2:Ty}).1.3) {data:={toList:=[]:Array UInt8}:ByteArray}==(0:Int)else false)))] [])∧((a0==4)=false→((a0==5)=true→a1 [.agg [.i a13.1,.i a13.2,.v (.bool false),.v (.int .i64 (mulP (castV {t:={k:=a3,sc:=a4:Ty},nul:=a5,n:=a6,s:=a7:AV} {k:=a13.1,sc:=a13.2:Ty}).1.3 (castV {t:={k:=a8,sc:=a9:Ty},nul:=a10,n:=a11,s:=a12:AV} {k:=a13.1,sc:=a13.2:Ty}).1.3).1),.v (.string ⟨⟨[]⟩⟩)],.d (.v (.bool (bif (mulP (castV {t:={k:=a3,sc:=a4:Ty},nul:=a5,n:=a6,s:=a7:AV} {k:=a13.1,sc:=a13.2:Ty}).1.3 (castV {t:={k:=a8,sc:=a9:Ty},nul:=a10,n:=a11,s:=a12:AV} {k:=a13.1,sc:=a13.2:Ty}).1.3).2==(0:Int)then s56_0 a13.1 a13.2 false (mulP (castV {t:={k:=a3,sc:=a4:Ty},nul:=a5,n:=a6,s:=a7:AV} {k:=a13.1,sc:=a13.2:Ty}).1.3 (castV {t:={k:=a8,sc:=a9:Ty},nul:=a10,n:=a11,s:=a12:AV} {k:=a13.1,sc:=a13.2:Ty}).1.3).1 {data:={toList:=[]:Array UInt8}:ByteArray}==(0:Int)else false)))] [])∧((a0==5)=false→((a0==6)=true→a1 [.agg [.i a13.1,.i a13.2,.v (.bool false),.v (.int .i64 (divP (castV {t:={k:=a3,sc:=a4:Ty},nul:=a5,n:=a6,s:=a7:AV} {k:=a13.1,sc:=a13.2:Ty}).1.3 (castV {t:={k:=a8,sc:=a9:Ty},nul:=a10,n:=a11,s:=a12:AV} {k:=a13.1,sc:=a13.2:Ty}).1.3).1),.v (.string ⟨⟨[]⟩⟩)],.d (.v (.bool (bif (divP (castV {t:={k:=a3,sc:=a4:Ty},nul:=a5,n:=a6,s:=a7:AV} {k:=a13.1,sc:=a13.2:Ty}).1.3 (castV {t:={k:=a8,sc:=a9:Ty},nul:=a10,n:=a11,s:=a12:AV} {k:=a13.1,sc:=a13.2:Ty}).1.3).2==(0:Int)then s56_0 a13.1 a13.2 false (divP (castV {t:={k:=a3,sc:=a4:Ty},nul:=a5,n:=a6,s:=a7:AV} {k:=a13.1,sc:=a13.2:Ty}).1.3 (castV {t:={k:=a8,sc:=a9:Ty},nul:=a10,n:=a11,s:=a12:AV} {k:=a13.1,sc:=a13.2:Ty}).1.3).1 {data:={toList:=[]:Array UInt8}:ByteArray}==(0:Int)else false)))] [])∧((a0==6)=false→((a0==7)=true→a1 [.agg [.i a13.1,.i a13.2,.v (.bool false),.v (.int .i64 (remP (castV {t:={k:=a3,sc:=a4:Ty},nul:=a5,n:=a6,s:=a7:AV} {k:=a13.1,sc:=a13.2:Ty}).1.3 (castV {t:={k:=a8,sc:=a9:Ty},nul:=a10,n:=a11,s:=a12:AV} {k:=a13.1,sc:=a13.2:Ty}).1.3).1),.v (.string ⟨⟨[]⟩⟩)],.d (.v (.bool (bif (remP (castV {t:={k:=a3,sc:=a4:Ty},nul:=a5,n:=a6,s:=a7:AV} {k:=a13.1,sc:=a13.2:Ty}).1.3 (castV {t:={k:=a8,sc:=a9:Ty},nul:=a10,n:=a11,s:=a12:AV} {k:=a13.1,sc:=a13.2:Ty}).1.3).2==(0:Int)then s56_0 a13.1 a13.2 false (remP (castV {t:={k:=a3,sc:=a4:Ty},nul:=a5,n:=a6,s:=a7:AV} {k:=a13.1,sc:=a13.2:Ty}).1.3 (castV {t:={k:=a8,sc:=a9:Ty},nul:=a10,n:=a11,s:=a12:AV} {k:=a13.1,sc:=a13.2:Ty}).1.3).1 {data:={toList:=[]:Array UInt8}:ByteArray}==(0:Int)else false)))] [])∧((a0==7)=false→((a0==8)=true→a1 [.agg [.i a13.1,.i a13.2,.v (.bool false),.i (s207_0 (castV {t:={k:=a3,sc:=a4:Ty},nul:=a5,n:=a6,s:=a7:AV} {k:=a13.1,sc:=a13.2:Ty}).1.3),.v (.string ⟨⟨[]⟩⟩)],.d (.v (.bool (bif s207_1 (castV {t:={k:=a3,sc:=a4:Ty},nul:=a5,n:=a6,s:=a7:AV} {k:=a13.1,sc:=a13.2:Ty}).1.3==(0:Int)then s56_0 a13.1 a13.2 false (s207_0 (castV {t:={k:=a3,sc:=a4:Ty},nul:=a5,n:=a6,s:=a7:AV} {k:=a13.1,sc:=a13.2:Ty}).1.3) {data:={toList:=[]:Array UInt8}:ByteArray}==(0:Int)else false)))] [])∧Zdv a0 a1 a13)))))))∧((bif a13.1==3 then a0 != (5:Int)else false)=false→((a0==3)=true→a1 [.agg [.i a13.1,.i a13.2,.v (.bool false),.i (s202_0 a6 a11),.v (.string ⟨⟨[]⟩⟩)],.d (.v (.bool (bif s202_1 a6 a11==0 then s56_0 a13.1 a13.2 false (s202_0 a6 a11) {data:={toList:=[]:Array UInt8}:ByteArray}==(0:Int)else false)))] [])∧((a0==3)=false→((a0==4)=true→a1 [.agg [.i a13.1,.i a13.2,.v (.bool false),.i (s203_0 a6 a11),.v (.string ⟨⟨[]⟩⟩)],.d (.v (.bool (bif s203_1 a6 a11==0 then s56_0 a13.1 a13.2 false (s203_0 a6 a11) {data:={toList:=[]:Array UInt8}:ByteArray}==(0:Int)else false)))] [])∧((a0==4)=false→((a0==5)=true→a1 [.agg [.i a13.1,.i a13.2,.v (.bool false),.v (.int .i64 (mulP a6 a11).1),.v (.string ⟨⟨[]⟩⟩)],.d (.v (.bool (bif (mulP a6 a11).2==(0:Int)then s56_0 a13.1 a13.2 false (mulP a6 a11).1 {data:={toList:=[]:Array UInt8}:ByteArray}==(0:Int)else false)))] [])∧((a0==5)=false→((a0==6)=true→a1 [.agg [.i a13.1,.i a13.2,.v (.bool false),.v (.int .i64 (divP a6 a11).1),.v (.string ⟨⟨[]⟩⟩)],.d (.v (.bool (bif (divP a6 a11).2==(0:Int)then s56_0 a13.1 a13.2 false (divP a6 a11).1 {data:={toList:=[]:Array UInt8}:ByteArray}==(0:Int)else false)))] [])∧((a0==6)=false→((a0==7)=true→a1 [.agg [.i a13.1,.i a13.2,.v (.bool false),.v (.int .i64 (remP a6 a11).1),.v (.string ⟨⟨[]⟩⟩)],.d (.v (.bool (bif (remP a6 a11).2==(0:Int)then s56_0 a13.1 a13.2 false (remP a6 a11).1 {data:={toList:=[]:Array UInt8}:ByteArray}==(0:Int)else false)))] [])∧((a0==7)=false→((a0==8)=true→a1 [.agg [.i a13.1,.i a13.2,.v (.bool false),.i (s207_0 a6),.v (.string ⟨⟨[]⟩⟩)],.d (.v (.bool (bif s207_1 a6==0 then s56_0 a13.1 a13.2 false (s207_0 a6) {data:={toList:=[]:Array UInt8}:ByteArray}==(0:Int)else false)))] [])∧Zdv a0 a1 a13)))))))))
theorem vc122r(op sub:Int)(y:Ty)(w:Go.Ex.AV)(args:List EX)(t:Ty)(x:List (List D))(a b:Go.Ex.AV)(Q:KT):vc E_0 C_t197 noI fi45 (f45.body.getD .skip) f45.results.toList [.agg (encX op sub y w (cellsL args)),.agg t.cs,.d (.sl x)] Q=(Zej fun es=>D.sl x=D.sl es∧Zcx es fun n n_1 b n_2 b_1=>Zej fun es=>D.sl x=D.sl es∧Zej fun es_1=>D.sl x=D.sl es_1∧Zcp es es_1 fun cells=>Zbg cells fun n_3 n_4 b_2 n_5 b_3=>(Zn op Q sub n n_1 b n_2 b_1 n_3 n_4 b_2 n_5 b_3 t)∧Zn op Q sub n n_1 b n_2 b_1 n_3 n_4 b_2 n_5 b_3 t):=by kernel_rfl
theorem ct122r(G:GlOk gl)(op sub:Int)(y:Ty)(w:Go.Ex.AV)(args:List EX)(t:Ty)(x:List (List D))(a b:Go.Ex.AV)(h1:ValP a)(h2:ValP b)(h3:in64 a.n)(h4:in64 b.n)(h5:x[0]? = some a.cs)(h6:x[x.length-1]? = some b.cs)(h7:x.length≤1000):Ct prog gl 45 [.agg (encX op sub y w (cellsL args)),.agg t.cs,.d (.sl x)] (gives [.agg (reckonV op sub t a b).1.cs,.d (.v (.bool (reckonV op sub t a b).2))]):=by
 refine ct_of_vc E_ok (C_t197_ok G) ioK_no it_ok mixed (fn:=f45) (body:=f45.body.getD .skip) (by kernel_rfl) (by kernel_rfl) (by kernel_rfl) (fi:=fi45) (by kernel_rfl) (by kernel_rfl) ⟨_,_,rfl,rfl⟩ ?_
 rw[vc122r];dsimp -eta -iota -proj only[Zej,Zcx,Zcd,Zbg,Zdq,Zcp,Zn,Zdi,Zdf,Z3,Zdv,Zdl,Zew]
 have hpos:0<x.length:=(List.getElem?_eq_some_iff.1 h5).1
 have e1:IntKind.i64.wrap ((x.length:Int)-1)=((x.length-1:Nat):Int):=by rw[wrap_in (by omega)];omega
 generalize hQ:gives [.agg (reckonV op sub t a b).1.cs,.d (.v (.bool (reckonV op sub t a b).2))]=Q'
 refine⟨x,rfl,⟨by decide,by omega⟩,a.cs,h5,rfl,a.t.k,a.t.sc,a.nul,a.n,a.s,rfl,x,rfl,x,rfl,?_⟩
 rw[e1]
 refine⟨⟨by omega,by omega⟩,b.cs,by rw[Int.toNat_natCast];exact h6,rfl,b.t.k,b.t.sc,b.nul,b.n,b.s,rfl,?_⟩
 (repeat' (first|(with_reducible refine And.intro ?_ ?_)|(intro hh;first|(exact absurd hh (by decide))|skip)))
 all_goals first
  |assumption
  |(rw[←hQ];refine⟨?_,rfl⟩;simp only[reckonV,numV,numR, *,cond_true,cond_false];first|done|rfl)
  |(have:=valP_size h1;have:=valP_size h2;show a.s.size+b.s.size≤_;omega)
def c_122r(a:List R)(K:KT):Prop:=match a with
 |[.agg x0,.agg [.v (.int .i64 t_k),.v (.int .i64 t_sc)],.d (.sl x)]=>∃(op:Int) (sub:Int) (y:Ty) (w:Go.Ex.AV) (args:List EX) (a:Go.Ex.AV) (b:Go.Ex.AV),x0=(encX op sub y w (cellsL args))∧ValP a∧ValP b∧in64 a.n∧in64 b.n∧x[0]? = some a.cs∧x[x.length-1]? = some b.cs∧x.length≤1000∧K [.agg (reckonV op sub (⟨t_k,t_sc⟩:Ty) a b).1.cs,.d (.v (.bool (reckonV op sub (⟨t_k,t_sc⟩:Ty) a b).2))] []
 |_=>False
theorem c_122r_ok(G:GlOk gl)(a:List R)(K:KT)(h:c_122r a K):Ct prog gl 45 a K:=by
 unfold c_122r at h
 split at h
 ·obtain⟨op,sub,y,w,args,a,b,rfl,h0,h1,h2,h3,h4,h5,h6,hk⟩:=h
  exact(ct122r G op sub y w args (⟨_,_⟩:Ty) _ a b h0 h1 h2 h3 h4 h5 h6).gives hk
 ·exact h.elim
def C_t122r:CallT:=addC C_t197 45 c_122r
theorem C_t122r_ok(G:GlOk gl):CallsOk prog gl C_t122r:=addC_ok (C_t197_ok G) (c_122r_ok G)
end Go.Proofs.Tryz
namespace Go.Proofs.Tryz
open Go Go.Dm Go.Ex
set_option maxRecDepth 100000
theorem wrap_in64(n:Int):in64 (IntKind.i64.wrap n):=by
 unfold in64
 simp only[IntKind.wrap,IntKind.signed,IntKind.bits]
 simp
 split<;>omega
theorem bt{b c:Bool}(h:(bif b then c else false)=true):b=true∧c=true:=by cases b<;>cases c<;>simp_all
def GoodV(t:Ty)(v:Go.Ex.AV):Prop:=v.t=t∧ValP v∧in64 v.n
theorem in64_0:in64 0:=⟨by decide,by decide⟩
theorem ty1:TyOk ⟨1,0⟩:=by unfold TyOk;decide
theorem ty2:TyOk ⟨2,0⟩:=by unfold TyOk;decide
theorem ty4:TyOk ⟨4,0⟩:=by unfold TyOk;decide
theorem ty5:TyOk ⟨5,0⟩:=by unfold TyOk;decide
theorem none_ok{t:Ty}(h:TyOk t):GoodV t (noneV t):=⟨rfl,⟨h,fun _=>⟨rfl,rfl⟩,(fun h=>by cases h)⟩,in64_0⟩
theorem bool_ok:∀b:Bool,GoodV ⟨1,0⟩ (boolV b)
 |false=>⟨rfl,⟨ty1,(fun h=>by cases h),fun _=>.inr ⟨by decide,rfl,fun _=>.inl rfl,(fun h=>by cases h),(fun h=>by cases h)⟩⟩,in64_0⟩
 |true=>⟨rfl,⟨ty1,(fun h=>by cases h),fun _=>.inr ⟨by decide,rfl,fun _=>.inr rfl,(fun h=>by cases h),(fun h=>by cases h)⟩⟩,(show in64 1 from⟨by decide,by decide⟩)⟩
theorem lift_ok(n:Int):GoodV ⟨1,0⟩ (liftV n):=by
 unfold liftV
 cases n==2
 ·exact bool_ok _
 ·exact none_ok ty1
theorem text_ok{s:ByteArray}(h:s.size≤256):GoodV ⟨4,0⟩ (textV s):=
 ⟨rfl,⟨ty4,(fun h=>by cases h),fun _=>.inl ⟨rfl,rfl,h⟩⟩,in64_0⟩
theorem add_in(a b:Int):in64 (s202_0 a b):=by
 unfold s202_0
 cases(decide (IntKind.i64.wrap (a+b)>a)==decide (b>0))
 ·exact in64_0
 ·exact wrap_in64 _
theorem sub_in(a b:Int):in64 (s203_0 a b):=by
 unfold s203_0
 cases(decide (IntKind.i64.wrap (a-b)<a)==decide (b>0))
 ·exact in64_0
 ·exact wrap_in64 _
theorem mul_in(a b:Int):in64 (mulP a b).1:=by
 unfold mulP narrowP
 cases(wideHi a b != aInt.shr .i64 (IntKind.i64.wrap (wideLo a b)) 63)
 ·exact wrap_in64 _
 ·exact in64_0
theorem num_in{op x y:Int}(hx:in64 x)(hy:in64 y):in64 (numR op x y).1:=by
 unfold numR
 cases op==3
 ·cases op==4
  ·cases op==5
   ·cases op==6
    ·cases op==7
     ·cases op==8
      ·exact in64_0
      ·exact sub_in 0 x
     ·simp only[cond_true,cond_false]
      unfold remP
      cases y==0
      ·cases y == -1
       ·simp only[cond_false]
        have h1:=Int.natAbs_tmod x y
        have h2:x.natAbs % y.natAbs≤x.natAbs:=Nat.mod_le _ _
        unfold in64 at hx ⊢
        rcases Int.le_total 0 x with h0|h0
        ·have:=Int.tmod_nonneg y h0
         omega
        ·have:=Int.tmod_nonneg y (show 0≤-x by omega)
         rw[Int.neg_tmod]at this
         omega
       ·exact in64_0
      ·exact in64_0
    ·simp only[cond_true,cond_false]
     unfold divP
     cases y==0
     ·cases y == -1
      ·exact wrap_in64 _
      ·exact sub_in 0 x
     ·exact in64_0
   ·exact mul_in x y
  ·exact sub_in x y
 ·exact add_in x y
theorem scale_in(v f t:Int):in64 (scaleP v f t).1:=by
 unfold scaleP
 cases(bif !s276_0 f then true else !s276_0 t)
 ·cases(!s114_0 v)
  ·simp only[cond_false]
   cases decide (t≥f)
   ·simp only[cond_false]
    cases decide (v.tmod (powP (IntKind.i64.wrap (f-t))).1≥IntKind.i64.wrap ((powP (IntKind.i64.wrap (f-t))).1-v.tmod (powP (IntKind.i64.wrap (f-t))).1))
    ·simp only[cond_false]
     cases decide (IntKind.i64.wrap (0-v.tmod (powP (IntKind.i64.wrap (f-t))).1)≥IntKind.i64.wrap ((powP (IntKind.i64.wrap (f-t))).1+v.tmod (powP (IntKind.i64.wrap (f-t))).1))
     ·exact wrap_in64 _
     ·exact wrap_in64 _
    ·exact wrap_in64 _
   ·simp only[cond_true]
    cases(bif (mulP v (powP (IntKind.i64.wrap (t-f))).1).2 != 0 then true else !s114_0 (mulP v (powP (IntKind.i64.wrap (t-f))).1).1)
    ·exact mul_in _ _
    ·exact in64_0
  ·exact in64_0
 ·exact in64_0
theorem fits_114{n:Int}:s114_0 n=true↔-999999999999999999≤n∧n≤999999999999999999:=fitsD_iff
theorem scale_fits{v f t:Int}(h:(scaleP v f t).2=0):-999999999999999999≤(scaleP v f t).1∧(scaleP v f t).1≤999999999999999999:=by
 revert h
 unfold scaleP
 cases h1:(bif !s276_0 f then true else !s276_0 t)
 ·cases h2:(!s114_0 v)
  ·have h2:s114_0 v=true:=by simpa using h2
   have hv:=fits_114.1 h2
   simp only[cond_false]
   cases h3:decide (t≥f)
   ·have h3:=of_decide_eq_false h3
    have hf:(0≤f∧f≤18)∧(0≤t∧t≤18):=by
        rw[←s276_iff,←s276_iff]
        revert h1
        cases s276_0 f<;>cases s276_0 t<;>simp
    have hp:(powP (IntKind.i64.wrap (f-t))).1=((10^(f-t).toNat:Nat):Int):=by rw[wrap_i64_of (by omega) (by omega),powP_ne (by omega)]
    have h10:(10:Int)≤(powP (IntKind.i64.wrap (f-t))).1:=by
        rw[hp]
        have:10^1≤10^(f-t).toNat:=Nat.pow_le_pow_right (by decide) (by omega)
        omega
    have hq:-99999999999999999≤v.tdiv (powP (IntKind.i64.wrap (f-t))).1∧v.tdiv (powP (IntKind.i64.wrap (f-t))).1≤99999999999999999:=by
        generalize (powP (IntKind.i64.wrap (f-t))).1=p at *
        have e:=Int.natAbs_tdiv v p
        have hle:v.natAbs/p.natAbs≤v.natAbs/10:=Nat.div_le_div_left (by omega) (by decide)
        have:v.natAbs/10≤99999999999999999:=by omega
        have e2:(v.tdiv p).natAbs=v.natAbs/p.natAbs:=e
        omega
    have w0:IntKind.i64.wrap (v.tdiv (powP (IntKind.i64.wrap (f-t))).1)=v.tdiv (powP (IntKind.i64.wrap (f-t))).1:=wrap_i64_of (by omega) (by omega)
    simp only[cond_false]
    intro _
    rw[w0]
    have w1:IntKind.i64.wrap (v.tdiv (powP (IntKind.i64.wrap (f-t))).1+1)=v.tdiv (powP (IntKind.i64.wrap (f-t))).1+1:=wrap_i64_of (by omega) (by omega)
    have w2:IntKind.i64.wrap (v.tdiv (powP (IntKind.i64.wrap (f-t))).1-1)=v.tdiv (powP (IntKind.i64.wrap (f-t))).1-1:=wrap_i64_of (by omega) (by omega)
    rw[w1,w2]
    cases decide (v.tmod (powP (IntKind.i64.wrap (f-t))).1≥IntKind.i64.wrap ((powP (IntKind.i64.wrap (f-t))).1-v.tmod (powP (IntKind.i64.wrap (f-t))).1))
    ·cases decide (IntKind.i64.wrap (0-v.tmod (powP (IntKind.i64.wrap (f-t))).1)≥IntKind.i64.wrap ((powP (IntKind.i64.wrap (f-t))).1+v.tmod (powP (IntKind.i64.wrap (f-t))).1))
     ·simp only[cond_false];omega
     ·simp only[cond_false,cond_true];omega
    ·simp only[cond_true];omega
   ·simp only[cond_true]
    cases h4:(bif (mulP v (powP (IntKind.i64.wrap (t-f))).1).2 != 0 then true else !s114_0 (mulP v (powP (IntKind.i64.wrap (t-f))).1).1)
    ·intro _
     simp only[cond_false]
     apply fits_114.1
     revert h4
     cases(mulP v (powP (IntKind.i64.wrap (t-f))).1).2 != 0<;>simp
    ·intro h;cases h
  ·intro h;cases h
 ·intro h;cases h
theorem bool_of_rng{l:List UInt8}:((boolOf l).1=0∨(boolOf l).1=1):=by
 unfold boolOf
 cases(tx (capL l)==({data:={toList:=[84,82,85,69]:Array UInt8}:ByteArray}))
 ·cases(tx (capL l)==({data:={toList:=[70,65,76,83,69]:Array UInt8}:ByteArray}))<;>exact .inl rfl
 ·exact .inr rfl
theorem dec_in(l:List UInt8):in64 (decOf l).1:=by
 by_cases h:(decOf l).2.2=0
 ·have:=fitsD_iff.1 (decOf_ok h).1
  exact⟨by omega,by omega⟩
 ·unfold decOf at h ⊢
  dsimp only at h ⊢
  split
  ·exact in64_0
  ·split
   ·exact in64_0
   ·split
    ·exact in64_0
    ·rename_i h1 h2 h3
     rw[if_neg h1,if_neg h2,if_neg h3]at h
     exact(h rfl).elim
theorem day_in(l:List UInt8)(h:(dayL l).2=0):in64 (dayL l).1:=by
 have:=dayL_range h
 exact⟨by omega,by omega⟩
theorem read_ok{l:List UInt8}{t:Ty}(ht:TyOk t)(h4:t.k≠4)(h:(readV l t).2=0):GoodV t (readV l t).1:=by
 unfold readV at h ⊢
 cases he:(readN l t).2 != 0
 ·simp only[cond_false]
  have he:(readN l t).2=0:=by simpa using he
  refine⟨rfl,⟨ht,(fun h=>by cases h),fun _=>.inr ⟨h4,rfl,fun k=>?_,fun k=>?_,fun k=>?_⟩⟩,?_⟩
  ·show(readN l t).1=0∨(readN l t).1=1
   unfold readN
   rw[show t.k=1 from k]
   exact bool_of_rng
  ·show -999999999999999999≤(readN l t).1∧(readN l t).1≤999999999999999999
   unfold readN at he ⊢
   rw[show t.k=3 from k]at he ⊢
   have e:∀x:Int×Int,(bif (3:Int)==1 then boolOf l else bif (3:Int)==2 then Go.Ex.intOf l else bif (3:Int)==3 then x else bif (3:Int)==5 then dayL l else(0,0))=x:=fun _=>rfl
   rw[e]at he ⊢
   cases hd:(decOf l).2.2==0
   ·rw[hd]at he
    have:(decOf l).2.2=0:=he
    rw[this]at hd;cases hd
   ·rw[hd]at he
    exact scale_fits he
  ·show -719162≤(readN l t).1∧(readN l t).1≤2932896
   unfold readN at he ⊢
   rw[show t.k=5 from k]at he ⊢
   exact dayL_range he
  ·show in64 (readN l t).1
   unfold readN at he ⊢
   cases k1:t.k==1
   ·cases k2:t.k==2
    ·cases k3:t.k==3
     ·cases k5:t.k==5
      ·exact in64_0
      ·rw[k1,k2,k3,k5]at he
       exact day_in _ he
     ·simp only[cond_false,cond_true]
      cases(decOf l).2.2==0
      ·exact dec_in l
      ·exact scale_in _ _ _
    ·exact intOf_in64 l
   ·rcases bool_of_rng (l:=l)with h|h
    ·show in64 (boolOf l).1;rw[h];exact in64_0
    ·show in64 (boolOf l).1;rw[h];exact⟨by decide,by decide⟩
 ·rw[he,cond_true]at h;cases h
theorem cast_ok{v:Go.Ex.AV}{t:Ty}(hv:ValP v)(hn:in64 v.n)(h:(castV v t).2=0):GoodV t (castV v t).1:=by
 unfold castV at h ⊢
 cases h1:(s60_0 t.k t.sc != 0)
 ·have ht:TyOk t:=s60_iff.1 (by simpa using h1)
  rw[h1]at h
  simp only[cond_false]at h ⊢
  cases h2:(bif bif decide (v.t.k<1)then true else decide (v.t.k>5)then true else bif bif bif v.t.k != t.k then v.t.k != 4 else false then t.k != 4 else false then s209_0 v.t.k != s209_0 t.k else false)
  ·rw[h2]at h
   simp only[cond_false]at h ⊢
   cases h3:v.nul
   ·rw[h3]at h
    simp only[cond_false]at h ⊢
    cases h4:t.k==4
    ·have k4:t.k≠4:=by simpa using h4
     rw[h4]at h
     simp only[cond_false]at h ⊢
     cases h5:v.t.k==4
     ·have j4:v.t.k≠4:=by simpa using h5
      rw[h5]at h
      simp only[cond_false]at h ⊢
      have hfam:s209_0 v.t.k=s209_0 t.k:=by
         by_cases e:v.t.k=t.k
         ·rw[e]
         ·rw[show(v.t.k != t.k)=true by simpa using e,show(v.t.k != 4)=true by simpa using j4,show(t.k != 4)=true by simpa using k4]at h2
          simp only[cond_true]at h2
          have:(s209_0 v.t.k != s209_0 t.k)=false:=by
            revert h2
            cases(bif decide (v.t.k<1)then true else decide (v.t.k>5))<;>simp
          simpa using this
      have fam:∀k:Int,s209_0 k=if k=3 then 2 else k:=fun k=>by
         unfold s209_0
         by_cases e:k=3<;>simp[e,beqd]
      rw[fam,fam]at hfam
      cases h6:(bif v.t.k != 3 then t.k != 3 else false)
      ·rw[h6]at h
       simp only[cond_false]at h ⊢
       have h6':v.t.k=3∨t.k=3:=by
          rcases Classical.em (v.t.k=3)with e|e
          ·exact .inl e
          ·rw[show(v.t.k != 3)=true by simpa using e]at h6
           exact .inr (by simpa using h6)
       cases h7:(bif v.t.k==3 then !s124_0 v.t.sc else false)
       ·rw[h7]at h
        simp only[cond_false]at h ⊢
        cases h8:((scaleP v.n (plV v) t.sc).2 != 0)
        ·rw[h8]at h
         have h8:(scaleP v.n (plV v) t.sc).2=0:=by simpa using h8
         have kk:t.k=2∨t.k=3:=by
           rcases h6' with e|e
           ·rw[if_pos e]at hfam
            split at hfam<;>omega
           ·exact .inr e
         refine⟨rfl,⟨ht,(fun h=>by cases h),fun _=>.inr ⟨k4,rfl,fun k=>?_,fun k=>scale_fits h8,fun k=>?_⟩⟩,scale_in _ _ _⟩
         ·have k:t.k=1:=k
          omega
         ·have k:t.k=5:=k
          omega
        ·rw[h8]at h
         have h8:(scaleP v.n (plV v) t.sc).2≠0:=by simpa using h8
         exact(h8 h).elim
       ·rw[h7]at h;cases h
      ·have h6:=bt h6
       have a3:v.t.k≠3:=by simpa using h6.1
       have b3:t.k≠3:=by simpa using h6.2
       rw[if_neg a3,if_neg b3]at hfam
       rcases hv.2.2 h3 with⟨e,_⟩|⟨_,_,g1,g2,g3⟩
       ·exact(j4 e).elim
       ·exact⟨rfl,⟨ht,(fun h=>by cases h),fun _=>.inr ⟨k4,rfl,fun k=>g1 (hfam.trans k),fun k=>(b3 k).elim,fun k=>g3 (hfam.trans k)⟩⟩,hn⟩
     ·rw[h5]at h
      exact read_ok ht k4 h
    ·have k4:t.k=4:=by simpa using h4
     rw[h4]at h
     simp only[cond_true]at h ⊢
     have et:t=⟨4,0⟩:=by
       rcases t with⟨k,sc⟩
       have e1:k=4:=k4
       have e2:sc=0:=ht.2.2.2.2 (by show k≠3;omega)
       rw[e1,e2]
     rw[et]
     unfold textedV at h ⊢
     cases h5:v.t.k != 4
     ·rw[h5]at h
      simp only[cond_false]at h ⊢
      cases h6:decide ((v.s.size:Int)>256)
      ·have:=of_decide_eq_false h6
       exact text_ok (by omega)
      ·rw[h6]at h;cases h
     ·rw[h5]at h
      simp only[cond_true]at h ⊢
      cases h6:decide (((tx (showL v)).size:Int)>256)
      ·have:=of_decide_eq_false h6
       exact text_ok (by omega)
      ·rw[h6]at h;cases h
   ·exact none_ok ht
  ·rw[h2]at h;cases h
 ·rw[h1]at h
  have h1:s60_0 t.k t.sc≠0:=by simpa using h1
  exact(h1 h).elim
theorem reckon_ok{op sub:Int}{t:Ty}{a b:Go.Ex.AV}(ha:ValP a)(hb:ValP b)(ia:in64 a.n)(ib:in64 b.n)(h9:op=9→t=⟨1,0⟩)(h17:op=17→t=⟨4,0⟩)(h18:op=18→t=⟨2,0⟩)(h:(reckonV op sub t a b).2=true):GoodV t (reckonV op sub t a b).1:=by
 have nv:∀x y:Int,in64 x→in64 y→(numV op t x y).2=true→GoodV t (numV op t x y).1:=by
  intro x y hx hy h
  unfold numV at h ⊢
  have h:=(bt h).2
  have h56:s56_0 t.k t.sc false (numR op x y).1 eB=0:=eq_of_beq h
  have hv:ValP ⟨t,false,(numR op x y).1,eB⟩:=s56_iff.1 h56
  exact⟨rfl,hv,num_in hx hy⟩
 unfold reckonV at h ⊢
 cases k9:op==9
 ·rw[k9]at h
  simp only[cond_false]at h ⊢
  cases k17:op==17
  ·rw[k17]at h
   simp only[cond_false]at h ⊢
   cases k18:op==18
   ·rw[k18]at h
    simp only[cond_false]at h ⊢
    cases k3:(bif t.k==3 then op != 5 else false)
    ·rw[k3]at h
     exact nv _ _ ia ib h
    ·rw[k3]at h
     simp only[cond_true]at h ⊢
     cases kc:(bif (castV a t).2 != 0 then true else(castV b t).2 != 0)
     ·rw[kc]at h
      have e:(castV a t).2=0∧(castV b t).2=0:=by
        cases k1:(castV a t).2 != 0
        ·rw[k1]at kc
         exact⟨by simpa using k1,by simpa using kc⟩
        ·rw[k1]at kc;cases kc
      exact nv _ _ (cast_ok ha ia e.1).2.2 (cast_ok hb ib e.2).2.2 h
     ·rw[kc]at h;cases h
   ·rw[h18 (by simpa using k18)]
    have:=valP_size ha
    show GoodV ⟨2,0⟩ (ofI a.s.size)
    exact⟨rfl,⟨ty2,(fun h=>by cases h),fun _=>.inr ⟨(show(2:Int)≠4 by decide),rfl,(fun h=>by cases h),(fun h=>by cases h),(fun h=>by cases h)⟩⟩,(show in64 (a.s.size:Int)from⟨by omega,by omega⟩)⟩
  ·rw[k17]at h
   rw[h17 (by simpa using k17)]
   have h56:s56_0 4 0 false 0 (a.s++b.s)=0:=eq_of_beq h
   have hv:ValP ⟨⟨4,0⟩,false,0,a.s++b.s⟩:=s56_iff.1 h56
   exact⟨rfl,hv,in64_0⟩
 ·rw[h9 (by simpa using k9)]
  exact lift_ok _
theorem ty_max{a b:Ty}(ha:TyOk a)(hb:TyOk b):TyOk ⟨3,if b.sc>a.sc then b.sc else a.sc⟩:=by
 obtain⟨_,_,a3,a4,_⟩:=ha
 obtain⟨_,_,b3,b4,_⟩:=hb
 refine⟨(show(1:Int)≤3 by decide),(show(3:Int)≤5 by decide),?_,?_,(fun h=>(h rfl).elim)⟩
 ·show 0≤(if b.sc>a.sc then b.sc else a.sc);split<;>omega
 ·show(if b.sc>a.sc then b.sc else a.sc)≤18;split<;>omega
theorem cfold_tyOk{a:Ty}{r:List Ty}(ha:TyOk a)(hr:∀u∈r,TyOk u):TyOk (cfold a r).1:=by
 have key:∀(r:List Ty) (x:Ty×Bool),TyOk x.1→(∀u∈r,TyOk u)→TyOk (r.foldl cstep x).1:=by
  intro r
  induction r with
  |nil=>intro x h _;exact h
  |cons u r ih=>
   intro x h hr
   refine ih _ ?_ (fun v hv=>hr v (List.mem_cons_of_mem _ hv))
   unfold cstep
   cases(u.k==x.1.k&&(u.sc==x.1.sc&&true))
   ·cases(bif s130_0 u.k u.sc then s130_0 x.1.k x.1.sc else false)
    ·exact h
    ·exact ty_max h (hr u (by simp))
   ·exact h
 exact key r (a,true) ha hr
theorem results_mem{op:Int}{l:List Ty}{P:Ty→Prop}(hl:∀t∈l,P t)(hn:l≠[]):∀t∈resultsE op l,P t:=by
 intro t ht
 unfold resultsE at ht
 split at ht
 ·exact hl t ht
 ·have hpos:0<l.length:=List.length_pos_iff.2 hn
  rcases List.mem_append.1 ht with h|h
  ·unfold oddsT at h
   obtain⟨k,hk,rfl⟩:=List.mem_map.1 h
   have hk:=List.mem_range.1 hk
   rw[List.getD_eq_getElem?_getD,List.getElem?_eq_getElem (by omega)]
   exact hl _ (List.getElem_mem _)
  ·simp only[List.mem_singleton]at h
   subst h
   rw[List.getD_eq_getElem?_getD,List.getElem?_eq_getElem (by omega)]
   exact hl _ (List.getElem_mem _)
theorem arith_tyOk{op:Int}{a b:Ty}{i:Bool}(ha:TyOk a)(hb:TyOk b)(h:(arithE op a b i).2=true):TyOk (arithE op a b i).1:=by
 unfold arithE at h ⊢
 cases i
 ·simp only[cond_false]at h ⊢
  cases k1:(bif op==6 then true else op==7)
  ·rw[k1]at h
   simp only[cond_false]at h ⊢
   cases k2:op==8
   ·rw[k2]at h
    simp only[cond_false]at h ⊢
    cases k3:(bif (bif s130_0 a.k a.sc then s130_0 b.k b.sc else false)then op==5 else false)
    ·rw[k3]at h
     simp only[cond_false]at h ⊢
     cases k4:(bif s130_0 a.k a.sc then s130_0 b.k b.sc else false)
     ·rw[k4]at h
      simp only[cond_false]at h ⊢
      cases k5:op==5
      ·rw[k5]at h
       simp only[cond_false]at h ⊢
       cases k6:(bif (bif op==4 then a.k==5&&(a.sc==0&&true)else false)then b.k==5&&(b.sc==0&&true)else false)
       ·exact ty5
       ·exact ty2
      ·rw[k5]at h;cases h
     ·exact ty_max ha hb
    ·rw[k3]at h
     simp only[cond_true]at h ⊢
     have h:=of_decide_eq_true h
     obtain⟨_,_,a3,a4,_⟩:=ha
     obtain⟨_,_,b3,b4,_⟩:=hb
     rw[wrap_in (n:=a.sc+b.sc) (by omega)]at h ⊢
     exact⟨(show(1:Int)≤3 by decide),(show(3:Int)≤5 by decide),(show 0≤a.sc+b.sc by omega),h,(fun h=>(h rfl).elim)⟩
   ·exact ha
  ·rw[k1]at h;cases h
 ·exact ty2
theorem may_const{sub:Int}{t:Ty}{v:Go.Ex.AV}{m c:Int}(h:mayHd 2 sub t v m c=true):s56_0 v.t.k v.t.sc v.nul v.n v.s=0:=by
 unfold mayHd at h
 exact eq_of_beq (bt h).2
theorem may_cast{sub:Int}{t:Ty}{v:Go.Ex.AV}{m c:Int}(h:mayHd 16 sub t v m c=true):TyOk t∧m=1:=by
 unfold mayHd at h
 have h1:=bt (bt h).1
 exact⟨s60_iff.1 (eq_of_beq h1.2),eq_of_beq (bt h1.1).1⟩
theorem typedN_tyOk{cols:List Ty}{op sub:Int}{t:Ty}{v:Go.Ex.AV}{l:List Ty}{m:Int}(hc:∀u∈cols,TyOk u)(hl:∀u∈l,TyOk u)(hlen:m=l.length)(hm:mayHd op sub t v m cols.length=true)(h:(typedN cols op sub t v l).2=true):TyOk (typedN cols op sub t v l).1:=by
 unfold typedN at h ⊢
 split at h
 ·rename_i e
  rw[if_pos e]
  subst e
  have hs:=may_col hm
  have hlt:sub.toNat<cols.length:=by omega
  show TyOk (cols.getD sub.toNat ⟨0,0⟩)
  rw[List.getD_eq_getElem?_getD,List.getElem?_eq_getElem hlt]
  exact hc _ (List.getElem_mem _)
 rename_i n1
 rw[if_neg n1]
 split at h
 ·rename_i e
  rw[if_pos e]
  subst e
  exact(s56_iff.1 (may_const hm)).1
 rename_i n2
 rw[if_neg n2]
 have hpos:=may_pos hm n1 n2
 have hne:l≠[]:=by intro e;subst e;simp at hlen;omega
 split at h
 ·rename_i e;rw[if_pos e];exact ty1
 rename_i n9
 rw[if_neg n9]
 split at h
 ·rename_i e;rw[if_pos e];exact ty1
 rename_i n10
 rw[if_neg n10]
 split at h
 ·rename_i e;rw[if_pos e];exact ty1
 rename_i n13
 rw[if_neg n13]
 split at h
 ·rename_i e;rw[if_pos e];exact ty4
 rename_i n17
 rw[if_neg n17]
 split at h
 ·rename_i e;rw[if_pos e];exact ty2
 rename_i n18
 rw[if_neg n18]
 split at h
 ·rename_i e
  rw[if_pos e]
  subst e
  exact(may_cast hm).1
 rename_i n16
 rw[if_neg n16]
 split at h
 ·rename_i e
  rw[if_pos e]
  have hr:=results_mem (op:=op) (P:=TyOk) hl hne
  split at h
  ·cases h
  ·rename_i a r hres
   rw[hres]at hr
   exact cfold_tyOk (hr a (by simp)) (fun u hu=>hr u (List.mem_cons_of_mem _ hu))
 ·rename_i n14
  rw[if_neg n14]
  have hpos:0<l.length:=List.length_pos_iff.2 hne
  refine arith_tyOk ?_ ?_ h
  ·rw[List.getD_eq_getElem?_getD,List.getElem?_eq_getElem hpos];exact hl _ (List.getElem_mem _)
  ·rw[List.getD_eq_getElem?_getD,List.getElem?_eq_getElem (by omega)];exact hl _ (List.getElem_mem _)
theorem may_mk{c:Int}{op sub:Int}{t:Ty}{v:Go.Ex.AV}{args:List EX}(h:mayE c (.mk op sub t v args)=true):mayHd op sub t v (args.length:Int) c=true∧mayL c args=true:=by
 have:(mayHd op sub t v ((cellsL args).length:Int) c&&mayL c args)=true:=by simpa only[mayE]using h
 rw[cellsL_len]at this
 simpa using this
theorem typedL_len{cols:List Ty}:∀{l:List EX} {tl:List Ty},typedL cols l=some tl→tl.length=l.length
 |[],tl,h=>by simp only[typedL,Option.some.injEq]at h;subst h;rfl
 |e::r,tl,h=>by
  simp only[typedL]at h
  rcases he:typedE cols e with⟨t,_|_⟩
  ·rw[he]at h;cases h
  ·rw[he]at h
   rcases hr:typedL cols r with _|q
   ·rw[hr]at h;cases h
   ·rw[hr]at h
    simp only[Option.some.injEq]at h
    subst h
    simp[typedL_len hr]
theorem typedE_args{cols:List Ty}{op sub:Int}{t:Ty}{v:Go.Ex.AV}{args:List EX}(h:(typedE cols (.mk op sub t v args)).2=true):∃tl,typedL cols args=some tl:=by
 rcases hl:typedL cols args with _|tl
 ·rw[typedE_none hl]at h;cases h
 ·exact⟨tl,rfl⟩
mutual
theorem typedE_tyOk{cols:List Ty}(hc:∀u∈cols,TyOk u):∀{e:EX},mayE cols.length e=true→(typedE cols e).2=true→TyOk (typedE cols e).1
 | .mk op sub t v args,hm,h=>by
   obtain⟨tl,hl⟩:=typedE_args h
   obtain⟨h1,h2⟩:=may_mk hm
   rw[typedE_some hl]at h ⊢
   exact typedN_tyOk hc (typedL_tyOk hc h2 hl) (by rw[typedL_len hl]) h1 h
theorem typedL_tyOk{cols:List Ty}(hc:∀u∈cols,TyOk u):∀{l:List EX} {tl:List Ty},mayL cols.length l=true→typedL cols l=some tl→∀u∈tl,TyOk u
 |[],tl,_,h,u,hu=>by simp only[typedL,Option.some.injEq]at h;subst h;cases hu
 |e::r,tl,hm,h,u,hu=>by
  simp only[mayL,Bool.and_eq_true]at hm
  simp only[typedL]at h
  rcases he:typedE cols e with⟨t,_|_⟩
  ·rw[he]at h;cases h
  ·rw[he]at h
   rcases hr:typedL cols r with _|q
   ·rw[hr]at h;cases h
   ·rw[hr]at h
    simp only[Option.some.injEq]at h
    subst h
    have:=typedE_tyOk hc hm.1 (by rw[he])
    rw[he]at this
    rcases List.mem_cons.1 hu with rfl|hu
    ·exact this
    ·exact typedL_tyOk hc hm.2 hr u hu
end
end Go.Proofs.Tryz
namespace Go.Proofs.Tryz
open Go Go.Dm Go.Ex
set_option maxRecDepth 100000
def truthP(a:Go.Ex.AV):Int:=s196_0 a.t.k a.t.sc a.nul a.n a.s
noncomputable def asV(t:Ty)(a:Go.Ex.AV):Option Go.Ex.AV:=bif (castV a t).2==0 then some (castV a t).1 else none
noncomputable def logicV(op:Int)(l:List (Option Go.Ex.AV)):Option Go.Ex.AV:=
 match l.getD 0 none with
 |none=>none
 |some a=>bif truthP a==(if op=11 then 1 else 0)then some (liftV (truthP a))else
  match l.getD 1 none with
  |none=>none
  |some b=>some (liftV (if op=11 then s195_0 (truthP a) (truthP b)else s194_0 (truthP a) (truthP b)))
noncomputable def caseV(ty:Ty):List (Option Go.Ex.AV)→Option Go.Ex.AV
 |[]=>none
 |[x]=>x.bind (asV ty)
 |c::x::r=>match c with
  |none=>none
  |some c=>bif truthP c==1 then x.bind (asV ty)else caseV ty r
noncomputable def coalV(ty:Ty):List (Option Go.Ex.AV)→Option Go.Ex.AV
 |[]=>some (noneV ty)
 |x::r=>match x.bind (asV ty)with
  |none=>none
  |some v=>bif v.nul then coalV ty r else some v
def allV:List (Option Go.Ex.AV)→Option (List Go.Ex.AV)
 |[]=>some []
 |none::_=>none
 |some v::r=>match allV r with|none=>none|some l=>some (v::l)
noncomputable def recV(op sub:Int)(ty:Ty)(l:List Go.Ex.AV):Option Go.Ex.AV:=
 bif (reckonV op sub ty (l.getD 0 zeroV) (l.getD (l.length-1) zeroV)).2 then some (reckonV op sub ty (l.getD 0 zeroV) (l.getD (l.length-1) zeroV)).1 else none
noncomputable def evN(row:List Go.Ex.AV)(op sub:Int)(t:Ty)(v:Go.Ex.AV)(ty:Ty)(l:List (Option Go.Ex.AV)):Option Go.Ex.AV:=
 if op=1 then row[sub.toNat]?
 else if op=2 then some v
 else if op=10∨op=11 then logicV op l
 else if op=12 then(l.getD 0 none).map fun a=>liftV (s118_0 (truthP a))
 else if op=16 then(l.getD 0 none).bind (asV t)
 else if op=14 then caseV ty l
 else if op=15 then coalV ty l
 else match allV l with
  |none=>none
  |some vs=>if op=13 then some (boolV (vs.any fun v=>v.nul))else bif vs.any (fun v=>v.nul)then some (noneV ty)else recV op sub ty vs
mutual
noncomputable def evE(row:List Go.Ex.AV):EX→Option Go.Ex.AV
 | .mk op sub t v args=>evN row op sub t v (typedE (typesV row) (.mk op sub t v args)).1 (evL row args)
noncomputable def evL(row:List Go.Ex.AV):List EX→List (Option Go.Ex.AV)
 |[]=>[]
 |e::r=>evE row e::evL row r
end
theorem evL_map(row:List Go.Ex.AV):∀l:List EX,evL row l=l.map (evE row)
 |[]=>by simp only[evL,List.map_nil]
 |e::r=>by simp only[evL,evL_map row r,List.map_cons]
def RowOk(row:List Go.Ex.AV):Prop:=∀v∈row,ValP v∧in64 v.n
theorem typesV_len(row:List Go.Ex.AV):(typesV row).length=row.length:=by simp[typesV]
theorem row_ty{row:List Go.Ex.AV}(h:RowOk row):∀u∈typesV row,TyOk u:=by
 intro u hu
 obtain⟨v,hv,rfl⟩:=List.mem_map.1 hu
 exact(h v hv).1.1
theorem as_ok{t:Ty}{a v:Go.Ex.AV}(ha:ValP a)(hn:in64 a.n)(h:asV t a=some v):GoodV t v:=by
 unfold asV at h
 cases hc:(castV a t).2==0
 ·rw[hc]at h;cases h
 ·rw[hc]at h
  simp only[cond_true,Option.some.injEq]at h
  subst h
  exact cast_ok ha hn (eq_of_beq hc)
theorem case_some{ty:Ty}:∀{l:List (Option Go.Ex.AV)} {v:Go.Ex.AV},caseV ty l=some v→∃a,some a∈l∧asV ty a=some v
 |[],v,h=>by cases h
 |[x],v,h=>by
  simp only[caseV]at h
  cases x with
  |none=>cases h
  |some a=>exact⟨a,by simp,h⟩
 |c::x::r,v,h=>by
  simp only[caseV]at h
  cases c with
  |none=>cases h
  |some c=>
   dsimp only at h
   cases hc:truthP c==1
   ·rw[hc]at h
    obtain⟨a,h1,h2⟩:=case_some (l:=r) h
    exact⟨a,by simp[h1],h2⟩
   ·rw[hc]at h
    cases x with
    |none=>cases h
    |some a=>exact⟨a,by simp,h⟩
theorem coal_some{ty:Ty}:∀{l:List (Option Go.Ex.AV)} {v:Go.Ex.AV},coalV ty l=some v→v=noneV ty∨∃a,some a∈l∧asV ty a=some v
 |[],v,h=>by simp only[coalV,Option.some.injEq]at h;exact .inl h.symm
 |x::r,v,h=>by
  simp only[coalV]at h
  cases x with
  |none=>cases h
  |some a=>
   simp only[Option.bind_some]at h
   cases ha:asV ty a with
   |none=>rw[ha]at h;cases h
   |some w=>
    rw[ha]at h
    dsimp only at h
    cases hw:w.nul
    ·rw[hw]at h
     simp only[cond_false,Option.some.injEq]at h
     subst h
     exact .inr ⟨a,by simp,ha⟩
    ·rw[hw]at h
     rcases coal_some (l:=r) h with h|⟨b,h1,h2⟩
     ·exact .inl h
     ·exact .inr ⟨b,by simp[h1],h2⟩
theorem all_some:∀{l:List (Option Go.Ex.AV)} {vs:List Go.Ex.AV},allV l=some vs→l=vs.map some
 |[],vs,h=>by simp only[allV,Option.some.injEq]at h;subst h;rfl
 |none::r,vs,h=>by simp only[allV]at h;cases h
 |some v::r,vs,h=>by
  simp only[allV]at h
  cases hr:allV r with
  |none=>rw[hr]at h;cases h
  |some q=>
   rw[hr]at h
   simp only[Option.some.injEq]at h
   subst h
   rw[all_some hr];rfl
theorem typedN_9{cols:List Ty}{op sub:Int}{t:Ty}{v:Go.Ex.AV}{l:List Ty}(h:op=9∨op=10∨op=11∨op=12∨op=13):(typedN cols op sub t v l).1=⟨1,0⟩:=by
 rcases h with rfl|rfl|rfl|rfl|rfl<;>rfl
theorem evN_ok{row:List Go.Ex.AV}{op sub:Int}{t:Ty}{v:Go.Ex.AV}{tl:List Ty}{l:List (Option Go.Ex.AV)}{m:Int}(hr:RowOk row)(hn:in64 v.n)(hlen:m=l.length)(hl:∀a,some a∈l→ValP a∧in64 a.n)
  (hm:mayHd op sub t v m row.length=true) (hty:TyOk (typedN (typesV row) op sub t v tl).1) {w:Go.Ex.AV}
  (h:evN row op sub t v (typedN (typesV row) op sub t v tl).1 l=some w):GoodV (typedN (typesV row) op sub t v tl).1 w:=by
 unfold evN at h
 split at h
 ·rename_i e
  subst e
  have hs:=may_col hm
  have hlt:sub.toNat<row.length:=by omega
  rw[List.getElem?_eq_getElem hlt]at h
  simp only[Option.some.injEq]at h
  subst h
  have:=hr _ (List.getElem_mem hlt)
  refine⟨?_,this.1,this.2⟩
  show _=(typesV row).getD sub.toNat ⟨0,0⟩
  rw[List.getD_eq_getElem?_getD,List.getElem?_eq_getElem (by rw[typesV_len];exact hlt)]
  simp[typesV]
 split at h
 ·rename_i e
  subst e
  simp only[Option.some.injEq]at h
  subst h
  exact⟨rfl,s56_iff.1 (may_const hm),hn⟩
 split at h
 ·rename_i e
  rw[typedN_9 (by omega)]
  unfold logicV at h
  split at h
  ·cases h
  ·rename_i a _
   cases hc:truthP a==(if op=11 then 1 else 0)
   ·rw[hc]at h
    simp only[cond_false]at h
    split at h
    ·cases h
    ·simp only[Option.some.injEq]at h;subst h;exact lift_ok _
   ·rw[hc]at h
    simp only[cond_true,Option.some.injEq]at h;subst h;exact lift_ok _
 split at h
 ·rename_i e
  rw[typedN_9 (by omega)]
  cases hx:l.getD 0 none with
  |none=>rw[hx]at h;cases h
  |some a=>rw[hx]at h;simp only[Option.map_some,Option.some.injEq]at h;subst h;exact lift_ok _
 split at h
 ·rename_i e
  subst e
  cases hx:l.getD 0 none with
  |none=>rw[hx]at h;cases h
  |some a=>
   rw[hx]at h
   have ha:some a∈l:=by
    rw[List.getD_eq_getElem?_getD]at hx
    cases hg:l[0]? with
    |none=>rw[hg]at hx;cases hx
    |some b=>rw[hg]at hx;simp only[Option.getD_some]at hx;subst hx;exact List.mem_of_getElem? hg
   have:=hl a ha
   exact as_ok this.1 this.2 h
 split at h
 ·obtain⟨a,h1,h2⟩:=case_some h
  have:=hl a h1
  exact as_ok this.1 this.2 h2
 split at h
 ·rcases coal_some h with h|⟨a,h1,h2⟩
  ·rw[h];exact none_ok hty
  ·have:=hl a h1
   exact as_ok this.1 this.2 h2
 rename_i n1 n2 n10 n12 n16 n14 n15
 split at h
 ·cases h
 rename_i vs hvs
 have hvs:=all_some hvs
 have hg:∀a∈vs,ValP a∧in64 a.n:=fun a ha=>hl a (by rw[hvs];exact List.mem_map.2 ⟨a,ha,rfl⟩)
 split at h
 ·rename_i e
  rw[typedN_9 (by omega)]
  simp only[Option.some.injEq]at h;subst h;exact bool_ok _
 rename_i n13
 cases hz:vs.any (fun v=>v.nul)
 ·rw[hz]at h
  simp only[cond_false]at h
  have hpos:=may_pos hm n1 n2
  have hlv:vs.length=l.length:=by rw[hvs];simp
  have hp0:0<vs.length:=by omega
  unfold recV at h
  rw[List.getD_eq_getElem?_getD,List.getD_eq_getElem?_getD,List.getElem?_eq_getElem hp0,List.getElem?_eq_getElem (show vs.length-1<vs.length by omega)]at h
  simp only[Option.getD_some]at h
  have ga:=hg _ (List.getElem_mem hp0)
  have gb:=hg _ (List.getElem_mem (show vs.length-1<vs.length by omega))
  cases hq:(reckonV op sub (typedN (typesV row) op sub t v tl).1 vs[0] vs[vs.length-1]).2
  ·rw[hq]at h;cases h
  ·rw[hq]at h
   simp only[cond_true,Option.some.injEq]at h
   subst h
   refine reckon_ok ga.1 gb.1 ga.2 gb.2 (fun e=>typedN_9 (.inl e)) (fun e=>?_) (fun e=>?_) hq
   ·subst e;rfl
   ·subst e;rfl
 ·rw[hz]at h
  simp only[cond_true,Option.some.injEq]at h
  subst h
  exact none_ok hty
mutual
theorem evE_ok{row:List Go.Ex.AV}(hr:RowOk row):∀{e:EX} {w:Go.Ex.AV},fits e→mayE row.length e=true→(typedE (typesV row) e).2=true→evE row e=some w→GoodV (typedE (typesV row) e).1 w
 | .mk op sub t v args,w,hf,hm,ht,h=>by
   obtain⟨tl,hl⟩:=typedE_args ht
   obtain⟨h1,h2⟩:=may_mk hm
   obtain⟨⟨_,_,_,_,_,_,hn⟩,_,hfl⟩:=fits_mk hf
   have hty:=typedE_tyOk (row_ty hr) (e:=.mk op sub t v args) (by rw[typesV_len];exact hm) ht
   simp only[evE]at h
   rw[typedE_some hl]at h hty ⊢
   exact evN_ok (m:=(args.length:Int)) hr hn (by rw[evL_map,List.length_map]) (evL_ok hr hfl h2 hl) h1 hty h
theorem evL_ok{row:List Go.Ex.AV}(hr:RowOk row):∀{l:List EX} {tl:List Ty},fitsL l→mayL row.length l=true→typedL (typesV row) l=some tl→∀a,some a∈evL row l→ValP a∧in64 a.n
 |[],tl,_,_,_,a,ha=>by simp only[evL]at ha;cases ha
 |e::r,tl,hf,hm,hl,a,ha=>by
  simp only[mayL,Bool.and_eq_true]at hm
  simp only[fitsL]at hf
  simp only[typedL]at hl
  rcases he:typedE (typesV row) e with⟨t,_|_⟩
  ·rw[he]at hl;cases hl
  ·rw[he]at hl
   rcases hq:typedL (typesV row) r with _|q
   ·rw[hq]at hl;cases hl
   ·simp only[evL]at ha
    rcases List.mem_cons.1 ha with h|h
    ·exact(evE_ok hr hf.1 hm.1 (by rw[he]) h.symm).2
    ·exact evL_ok hr hf.2 hm.2 hq a h
end
end Go.Proofs.Tryz
