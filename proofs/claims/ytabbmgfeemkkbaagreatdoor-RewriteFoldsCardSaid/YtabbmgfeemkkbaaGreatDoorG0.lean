/- Part of the proof: contracts of functions; no condition. -/
import Derived.Test.YtabbmgfeemkkbaaGreatDoorR10
namespace Go.Proofs.Tryz
open Go Go.Dm Go.Ex
set_option maxRecDepth 100000
variable {gl:Nat→Option Obj}
def To(op:Int)(t:Ty)(vs:List Go.Ex.AV):Prop:=vs≠[]∧(∀v∈vs,db v∧ar v.n)∧vs.length≤1000∧(op=9∨op=17∨op=18∨((3≤op∧op≤8)∧da t∧(t.k=2∨t.k=3∨t.k=5)))
def MK(a:List R)(K:KT):Prop:=match a with
 |[.agg x,.agg z,.d (.sl y)]=>∃(op sub:Int) (q:Ty) (w:Go.Ex.AV) (args:List EX) (t:Ty) (vs:List Go.Ex.AV),x=aT op sub q w (aa args)∧z=t.cs∧y=vs.map Go.Ex.AV.cs∧To op t vs∧
  ∀(v:Go.Ex.AV) (ok:Bool),Is (BL op sub t vs) v ok→K [.agg v.cs,.d (.v (.bool ok))] []
 |_=>False
theorem ML:CK gl MK 61:=fun a K h=>by
 unfold MK at h
 split at h
 ·obtain⟨op,sub,q,w,args,t,vs,rfl,rfl,rfl,⟨h1,h2,h3,h4⟩,h5⟩:=h
  have ct:0<vs.length:=List.length_pos_iff.2 h1
  have g0:vs.getD 0 zeroV=vs[0]:=by rw[List.getD_eq_getElem?_getD,List.getElem?_eq_getElem ct];rfl
  have g1:vs.getD (vs.length-1) zeroV=vs[vs.length-1]:=by rw[List.getD_eq_getElem?_getD,List.getElem?_eq_getElem (by omega)];rfl
  have m0:=h2 _ (List.getElem_mem ct)
  have m1:=h2 _ (List.getElem_mem (show vs.length-1<vs.length by omega))
  refine(afA op sub q w args t (vs.map Go.Ex.AV.cs) vs[0] vs[vs.length-1] m0.1 m1.1 m0.2 m1.2 ?_ ?_ ?_ h4).mono fun res fin ⟨e1,v,ok,hi,e2⟩=>?_
  ·rw[List.getElem?_map,List.getElem?_eq_getElem ct];rfl
  ·rw[List.length_map,List.getElem?_map,List.getElem?_eq_getElem (by omega)];rfl
  ·rw[List.length_map];exact h3
  ·subst e1;subst e2
   refine h5 v ok ?_
   unfold BL
   rw[g0,g1]
   exact hi
 ·exact h.elim
def MM:aj:=au BY 61 MK
theorem EW:ah prog gl MM:=af vZ ML
def Tp:aj:=au MM 22 Dv
theorem MN:ah prog gl Tp:=af EW zp
def VL(n:Nat)(a:List R)(K:KT):Prop:=match a with
 |[.agg x,.d (.sl r),.d (.sl y)]=>∃(e:EX) (row:List Go.Ex.AV),r=row.map Go.Ex.AV.cs∧y=(ak row).map Ty.cs∧x=cells e∧dD row n e∧dV row∧row.length≤4398046511104∧∀(w:Go.Ex.AV) (ok:Bool),Is (jk row e) w ok→K [.agg w.cs,.d (.v (.bool ok))] []
 |_=>False
def MO(n:Nat)(a:List R)(K:KT):Prop:=match a with
 |[.agg x,.d (.sl r),.d (.sl y)]=>∃(op sub:Int) (t:Ty) (v:Go.Ex.AV) (args:List EX) (row:List Go.Ex.AV),r=row.map Go.Ex.AV.cs∧y=(ak row).map Ty.cs∧x=aT op sub t v (aa args)∧(op=10∨op=11)∧args.length=2∧(∀e∈args,dD row n e)∧dV row∧row.length≤4398046511104∧∀(w:Go.Ex.AV) (ok:Bool),Is (gf op (fE row args)) w ok→K [.agg w.cs,.d (.v (.bool ok))] []
 |_=>False
def MP(n:Nat)(a:List R)(K:KT):Prop:=match a with
 |[.agg x,.agg z,.d (.sl r),.d (.sl y)]=>∃(op sub:Int) (t:Ty) (v:Go.Ex.AV) (args:List EX) (u:Ty) (row:List Go.Ex.AV),r=row.map Go.Ex.AV.cs∧y=(ak row).map Ty.cs∧x=aT op sub t v (aa args)∧z=u.cs∧args.length % 2=1∧args.length≤1353245080300∧(∀e∈args,dD row n e)∧dV row∧row.length≤4398046511104∧∀(w:Go.Ex.AV) (ok:Bool),Is (fD u (fE row args)) w ok→K [.agg w.cs,.d (.v (.bool ok))] []
 |_=>False
def v_(n:Nat):aj:=au Tp 24 (VL n)
def W8(a0:List D)(a1 a2:List (List D))(a3:Nat)(k:AV→Bool→Prop):Prop:=Z5 a0 a1 a2 a3 fun e row=>∀(w:AV) (ok:Bool),Is (jk row e) w ok→k w ok
def W9(a0:List D)(a1 a2:List (List D))(a3:Nat)(a4:KT)(k:AV→Bool→Prop):Prop:=W8 a0 a1 a2 a3 fun w ok=>Qv ok a4 (k w ok)
def Zc9(a0:List EX)(a1:Int)(a2 a3:List (List D))(a4:Nat)(a5:KT)(k:AV→Bool→Prop):Prop:=Qt a0 a1 fun cells=>W9 cells a2 a3 a4 a5 fun w ok=>k w ok
theorem af0(n:Nat)(op sub:Int)(t:Ty)(v:Go.Ex.AV)(args:List EX)(r y:List (List D))(Q:KT):vc zH (v_ n) bf YJ (f54.body.getD .skip) f54.results.toList [.agg (aT op sub t v (aa args)),.d (.sl r),.d (.sl y)] Q=(Zc9 args (0:Int) r y n Q fun w ok=>((!ok)=false→((bif bif op==10 then dd w.1.1 w.1.2 w.2 w.3 w.4==0 else false then true else bif op==11 then dd w.1.1 w.1.2 w.2 w.3 w.4==1 else false)=true→Q [.agg [.i 1,.i 0,.v (.bool (jF (dd w.1.1 w.1.2 w.2 w.3 w.4))),.i (jG (dd w.1.1 w.1.2 w.2 w.3 w.4)),.v (.string ⟨⟨[]⟩⟩)],.d (.v (.bool true))] [])∧((bif bif op==10 then dd w.1.1 w.1.2 w.2 w.3 w.4==0 else false then true else bif op==11 then dd w.1.1 w.1.2 w.2 w.3 w.4==1 else false)=false→Zc9 args (1:Int) r y n Q fun tC ok=>((!ok)=false→((op==10)=true→Q [.agg [.i 1,.i 0,.v (.bool (jF (nN (dd w.1.1 w.1.2 w.2 w.3 w.4) (dd tC.1.1 tC.1.2 tC.2 tC.3 tC.4)))),.i (jG (nN (dd w.1.1 w.1.2 w.2 w.3 w.4) (dd tC.1.1 tC.1.2 tC.2 tC.3 tC.4))),.v (.string ⟨⟨[]⟩⟩)],.d (.v (.bool true))] [])∧((op==10)=false→Q [.agg [.i 1,.i 0,.v (.bool (jF (mV (dd w.1.1 w.1.2 w.2 w.3 w.4) (dd tC.1.1 tC.1.2 tC.2 tC.3 tC.4)))),.i (jG (mV (dd w.1.1 w.1.2 w.2 w.3 w.4) (dd tC.1.1 tC.1.2 tC.2 tC.3 tC.4))),.v (.string ⟨⟨[]⟩⟩)],.d (.v (.bool true))] []))))):=by kernel_rfl
theorem QL(x y:Int)(hx:x=0∨x=1∨x=2)(hy:y=0∨y=1∨y=2):mV x y=fT x y:=by
 rcases hx with rfl|rfl|rfl<;>rcases hy with rfl|rfl|rfl<;>rfl
theorem wc(a:Go.Ex.AV):br a=0∨br a=1∨br a=2:=by
 unfold br o4
 cases a.t.k != 1<;>cases a.aA<;>cases a.n==0<;>simp
theorem af1(n:Nat)(hC:ah prog gl (v_ n))(op sub:Int)(t:Ty)(v:Go.Ex.AV)(args:List EX)(row:List Go.Ex.AV)(ho:op=10∨op=11)(ha:args.length=2)(hs:∀e∈args,dD row n e)(hr:dV row)(jl:row.length≤4398046511104):
  Ct prog gl 54 [.agg (aT op sub t v (aa args)),.d (.sl (row.map Go.Ex.AV.cs)),.d (.sl ((ak row).map Ty.cs))] (fun res fin=>fin=[]∧∃(w:Go.Ex.AV) (ok:Bool),Is (gf op (fE row args)) w ok∧res=[.agg w.cs,.d (.v (.bool ok))]):=by
 refine aw (E:=zH) ⟨bN.te⟩ hC aF (fun _ _ _ h=>h.elim) mixed (fn:=f54) (body:=f54.body.getD .skip) (by kernel_rfl) (by kernel_rfl) (by kernel_rfl) (fi:=YJ) (by kernel_rfl) (by kernel_rfl) (let ⟨tr,ok,h⟩:=pZ (gf op (fE row args)) zeroV;⟨_,_,rfl,tr,ok,h,rfl⟩) ?_
 rw[af0];dsimp -eta -iota -proj only[Zc9,Qt,gS,fy,uD,W9,W8,Z5,S5,Zy,Zs,Zr,Z2,lU,Qv,WX,Ll,S2,Z8]
 obtain⟨o0,s0,t0,v0,a0,e0,g0⟩:=aX (l:=args) (i:=0) (by omega)
 obtain⟨o1,s1,t1,v1,a1,e1,g1⟩:=aX (l:=args) (i:=1) (by omega)
 have EK:fE row args=[jk row args[0],jk row args[1]]:=by
  match args,ha with
  |[x,y],_=>simp only[fE];rfl
 rw[EK]
 have tr:∀w:Go.Ex.AV,dd w.t.k w.t.sc w.aA w.n w.s=br w:=fun w=>rfl
 have hg:∀w:Go.Ex.AV,(bif bif op==10 then br w==0 else false then true else bif op==11 then br w==1 else false)=(br w==(if op=11 then 1 else 0)):=by
  intro w
  rcases ho with rfl|rfl
  ·simp
  ·simp
 refine⟨aa args,rfl,⟨by decide,by rw[ag];omega⟩,_,g0,rfl,o0,s0,t0.k,t0.sc,v0.t.k,v0.t.sc,v0.aA,v0.n,v0.s,aa a0,rfl,args[0],row,rfl,rfl,by rw[e0,ab];rfl,hs _ (List.getElem_mem _),hr,jl,fun w ok hi=>⟨fun h=>?_,fun h=>?_⟩⟩
 ·have:ok=false:=by simpa using h
  subst this
  rw[fc hi,LQ]
  exact⟨rfl,zeroV,false,j6 _,rfl⟩
 ·have:ok=true:=by simpa using h
  subst this
  rw[dc hi,tr,hg]
  refine⟨fun h=>⟨rfl,bS (br w),true,by rw[Dp h];exact ec _,by rw[ot]⟩,fun h=>?_⟩
  refine⟨aa args,rfl,⟨by decide,by rw[ag];omega⟩,_,g1,rfl,o1,s1,t1.k,t1.sc,v1.t.k,v1.t.sc,v1.aA,v1.n,v1.s,aa a1,rfl,args[1],row,rfl,rfl,by rw[e1,ab];rfl,hs _ (List.getElem_mem _),hr,jl,fun w1 jK Qu=>⟨fun h1=>?_,fun h1=>?_⟩⟩
  ·have:jK=false:=by simpa using h1
   subst this
   rw[xw h,fc Qu]
   exact⟨rfl,zeroV,false,j6 _,rfl⟩
  ·have:jK=true:=by simpa using h1
   subst this
   rw[xw h,dc Qu]
   refine⟨fun Fu=>?_,fun Fu=>?_⟩
   ·have Fu:op=10:=by simpa using Fu
    refine⟨rfl,bS (nN (br w) (br w1)),true,?_,by rw[ot];rfl⟩
    have:(if op=11 then fT (br w) (br w1)else gw (br w) (br w1))=nN (br w) (br w1):=by rw[if_neg (by omega)];rfl
    simp only[Option.map_some]
    rw[this];exact ec _
   ·have h11:op=11:=by rcases ho with h|h;(rw[h]at Fu;cases Fu);exact h
    refine⟨rfl,bS (mV (br w) (br w1)),true,?_,by rw[ot];rfl⟩
    simp only[Option.map_some]
    rw[if_pos h11,QL _ _ (wc w) (wc w1)];exact ec _
def VM(op sub:Int)(t:Ty)(v:Go.Ex.AV)(args:List EX)(u:Ty)(r y:List (List D))(j:Nat):St:={tm:=[(2,.d (.sl r)),(3,.d (.sl y)),(4,.ref 4 0),(5,.ref 5 0),(8,.ref 8 0),(9,.d (.v (.bool false))),(10,.d (.v (.int .i64 (args.length:Int)))),(11,.d (.v (.int .i64 ((args.length:Int)-1)))),(12,.d (.v (.int .i64 (2*(j:Int)))))],hp:=[(4,.box [.d (.v (.int .i64 op)),.d (.v (.int .i64 sub)),.d (.v (.int .i64 t.k)),.d (.v (.int .i64 t.sc)),.d (.v (.int .i64 v.t.k)),.d (.v (.int .i64 v.t.sc)),.d (.v (.bool v.aA)),.d (.v (.int .i64 v.n)),.d (.v (.string v.s)),.d (.sl (aa args))]),(5,.box [.d (.v (.int .i64 u.k)),.d (.v (.int .i64 u.sc))]),(8,.box [.d (.v (.int .i64 0)),.d (.v (.int .i64 0)),.d (.v (.bool false)),.d (.v (.int .i64 0)),.d (.v (.string {data:={toList:=[]:Array UInt8}:ByteArray}))])],kn:=[],gd:=[]}
def ra(row:List Go.Ex.AV)(args:List EX)(u:Ty)(m:Nat)(j:Nat):Prop:=2*j<args.length∧m=args.length-j∧fD u (fE row args)=fD u (fE row (args.drop (2*j)))
def MQ(op sub:Int)(t:Ty)(v:Go.Ex.AV)(args:List EX)(u:Ty)(row:List Go.Ex.AV)(r y:List (List D)):Fi:={akb with lx:=[(4,{X:=Nat,sh:=VM op sub t v args u r y,P:=fun _=>ra row args u})]}
def Zes(a0 a1:List (List D))(a2:List EX)(a3:Nat)(a4 a5:Int)(a6:Ty)(a7:Go.Ex.AV)(a8:Ty):St:={tm:=[(2,.d (.sl a0)),(3,.d (.sl a1)),(4,.ref 4 0),(5,.ref 5 0),(8,.ref 8 0),(9,.d (.v (.bool false))),(10,.i (↑a2.length:Int)),(11,.i ((↑a2.length:Int)-1)),(12,.i ((2:Int)*(↑a3:Int)))],hp:=[(4,.box [.i a4,.i a5,.i a6.1,.i a6.2,.i a7.1.1,.i a7.1.2,.d (.v (.bool a7.2)),.i a7.3,.d (.v (.string a7.4)),.d (.sl (aa a2))]),(5,.box [.i a8.1,.i a8.2]),(8,.box [.i 0,.i 0,.d (.v (.bool false)),.i 0,.d (.v (.string ⟨⟨[]⟩⟩))])],kn:=[],gd:=[]:St}
def Zbv(a0:Bool)(a1:AV)(a2:KT)(a3:Ty):Prop:=(a0=true→db {t:={k:=a1.1.1,sc:=a1.1.2:Ty},aA:=a1.2,n:=a1.3,s:=a1.4:AV})∧(a0=true→ar a1.3)∧a2 [.agg [.v (.int .i64 (bif a0 then(ax {t:={k:=a1.1.1,sc:=a1.1.2:Ty},aA:=a1.2,n:=a1.3,s:=a1.4:AV} {k:=a3.1,sc:=a3.2:Ty}).1 else zeroV).1.1),.v (.int .i64 (bif a0 then(ax {t:={k:=a1.1.1,sc:=a1.1.2:Ty},aA:=a1.2,n:=a1.3,s:=a1.4:AV} {k:=a3.1,sc:=a3.2:Ty}).1 else zeroV).1.2),.v (.bool (bif a0 then(ax {t:={k:=a1.1.1,sc:=a1.1.2:Ty},aA:=a1.2,n:=a1.3,s:=a1.4:AV} {k:=a3.1,sc:=a3.2:Ty}).1 else zeroV).2),.v (.int .i64 (bif a0 then(ax {t:={k:=a1.1.1,sc:=a1.1.2:Ty},aA:=a1.2,n:=a1.3,s:=a1.4:AV} {k:=a3.1,sc:=a3.2:Ty}).1 else zeroV).3),.v (.string (bif a0 then(ax {t:={k:=a1.1.1,sc:=a1.1.2:Ty},aA:=a1.2,n:=a1.3,s:=a1.4:AV} {k:=a3.1,sc:=a3.2:Ty}).1 else zeroV).4)],.d (.v (.bool (bif a0 then(ax {t:={k:=a1.1.1,sc:=a1.1.2:Ty},aA:=a1.2,n:=a1.3,s:=a1.4:AV} {k:=a3.1,sc:=a3.2:Ty}).2==(0:Int)else false)))] []
def Zb6(a0:List D)(a1 a2:List (List D))(a3:Nat)(a4:KT)(a5:Ty):Prop:=W8 a0 a1 a2 a3 fun w ok=>Zbv ok w a4 a5
theorem af2(n:Nat)(op sub:Int)(t:Ty)(v:Go.Ex.AV)(args:List EX)(u:Ty)(row:List Go.Ex.AV)(r y:List (List D))(Q:KT):vc zH (v_ n) bf (MQ op sub t v args u row r y) (f55.body.getD .skip) f55.results.toList [.agg (aT op sub t v (aa args)),.agg u.cs,.d (.sl r),.d (.sl y)] Q=(zz args fun es x0=>({tm:=[(2,.d (.sl r)),(3,.d (.sl y)),(4,.ref 4 0),(5,.ref 5 0),(8,.ref 8 0),(9,.d (.v (.bool false))),(10,.i (↑es.length:Int)),(11,.i (IntKind.i64.wrap ((↑es.length:Int)-1))),(12,.i 0)],hp:=[(4,.box [.i op,.i sub,.i t.1,.i t.2,.i v.1.1,.i v.1.2,.d (.v (.bool v.2)),.i v.3,.d (.v (.string v.4)),.d (.sl (aa args))]),(5,.box [.i u.1,.i u.2]),(8,.box [.i 0,.i 0,.d (.v (.bool false)),.i 0,.d (.v (.string ⟨⟨[]⟩⟩))])],kn:=[],gd:=[]:St}=(Zes r y args x0 op sub t v u)∧∃(n:Nat),ra row args u n x0)∧∀(aN:Nat) (x:Nat),ra row args u aN x→(decide ((2:Int)*(↑x:Int)<IntKind.i64.wrap ((↑args.length:Int)-1))=true→Zj5 args x fun cells=>W9 cells r y n Q fun w ok=>((!ok)=false→((dd w.1.1 w.1.2 w.2 w.3 w.4==1)=true→Zie args x fun cells=>Zb6 cells r y n Q u)∧((dd w.1.1 w.1.2 w.2 w.3 w.4==1)=false→fG aN fun m x'=>{tm:=[(2,.d (.sl r)),(3,.d (.sl y)),(4,.ref 4 0),(5,.ref 5 0),(8,.ref 8 0),(9,.d (.v (.bool false))),(10,.i (↑args.length:Int)),(11,.i ((↑args.length:Int)-1)),(12,.i (IntKind.i64.wrap ((2:Int)*(↑x:Int)+2)))],hp:=[(4,.box [.i op,.i sub,.i t.1,.i t.2,.i v.1.1,.i v.1.2,.d (.v (.bool v.2)),.i v.3,.d (.v (.string v.4)),.d (.sl (aa args))]),(5,.box [.i u.1,.i u.2]),(8,.box [.i 0,.i 0,.d (.v (.bool false)),.i 0,.d (.v (.string ⟨⟨[]⟩⟩))])],kn:=[],gd:=[]:St}=(Zes r y args x' op sub t v u)∧ra row args u m x')))∧(decide ((2:Int)*(↑x:Int)<IntKind.i64.wrap ((↑args.length:Int)-1))=false→gS args fun es=>(0≤(↑args.length:Int)-1∧(↑args.length:Int)-1<(↑es.length:Int))∧∃(cells:List D),es[((↑args.length:Int)-1).toNat]? = some cells∧Zb6 cells r y n Q u)):=by kernel_rfl
theorem xB{o:Option Go.Ex.AV}{w:Go.Ex.AV}{ok:Bool}(u:Ty)(h:Is o w ok):Is (o.bind (xT u)) (bif ok then(ax w u).1 else zeroV) (bif ok then(ax w u).2==0 else false):=by
 cases ok with
 |false=>rw[fc h];exact j6 _
 |true=>rw[dc h];exact LP u w
theorem l7{row:List Go.Ex.AV}{n:Nat}{e:EX}(hr:dV row)(hs:dD row n e){w:Go.Ex.AV}{ok:Bool}(h:Is (jk row e) w ok)(hk:ok=true):db w∧ar w.n:=by
 subst hk
 exact(pf hr hs.2.1 hs.2.2.1 hs.2.2.2 (dc h)).2
theorem af3(n:Nat)(hC:ah prog gl (v_ n))(op sub:Int)(t:Ty)(v:Go.Ex.AV)(args:List EX)(u:Ty)(row:List Go.Ex.AV)(ha:args.length % 2=1)(jJ:args.length≤1353245080300)(hs:∀e∈args,dD row n e)(hr:dV row)(jl:row.length≤4398046511104):
  Ct prog gl 55 [.agg (aT op sub t v (aa args)),.agg u.cs,.d (.sl (row.map Go.Ex.AV.cs)),.d (.sl ((ak row).map Ty.cs))] (fun res fin=>fin=[]∧∃(w:Go.Ex.AV) (ok:Bool),Is (fD u (fE row args)) w ok∧res=[.agg w.cs,.d (.v (.bool ok))]):=by
 refine aw (E:=zH) ⟨bN.te⟩ hC aF (fun _ _ _ h=>h.elim) mixed (fn:=f55) (body:=f55.body.getD .skip) (by kernel_rfl) (by kernel_rfl) (by kernel_rfl) (fi:=MQ op sub t v args u row (row.map Go.Ex.AV.cs) ((ak row).map Ty.cs)) (by kernel_rfl) (by kernel_rfl) (let ⟨tr,ok,h⟩:=pZ (fD u (fE row args)) zeroV;⟨_,_,rfl,tr,ok,h,rfl⟩) ?_
 rw[af2];dsimp -eta -iota -proj only[zz,gS,fy,Zes,Zj5,W9,W8,Z5,S5,Zy,Zs,Zr,Z2,lU,Qv,WX,Ll,S2,Z8,Zie,Zb6,Zbv,fG,fb]
 have wl:IntKind.i64.wrap ((args.length:Int)-1)=(args.length:Int)-1:=ai (by omega) (by omega)
 refine⟨aa args,rfl,(0:Nat),⟨by rw[ag,wl];rfl,args.length,by omega,rfl,by rw[Nat.mul_zero,List.drop_zero]⟩,fun m (j:Nat) hj=>?_⟩
 obtain⟨j1,j2,j3⟩:=hj
 rw[wl]
 have q0:(2*(j:Int)).toNat=2*j:=by omega
 have q1:(2*(j:Int)+1).toNat=2*j+1:=by omega
 have w1:IntKind.i64.wrap (2*(j:Int)+1)=2*(j:Int)+1:=ai (by omega) (by omega)
 have w2:IntKind.i64.wrap (2*(j:Int)+2)=2*((j+1:Nat):Int):=by rw[ai (by omega) (by omega)];omega
 obtain⟨o0,s0,t0,v0,a0,e0,g0⟩:=cq j1
 rw[l5 j1]at j3
 refine⟨fun hi=>?_,fun hi=>?_⟩
 ·have hi:=of_decide_eq_true hi
  have hi:2*j+1<args.length:=by omega
  obtain⟨o1,s1,t1,v1,a1,e1,g1⟩:=cq hi
  rw[l5 hi]at j3
  refine⟨aa args,rfl,⟨by omega,by rw[ag];omega⟩,_,by rw[q0];exact g0,rfl,o0,s0,t0.k,t0.sc,v0.t.k,v0.t.sc,v0.aA,v0.n,v0.s,aa a0,rfl,args[2*j],row,rfl,rfl,by rw[e0,ab];rfl,hs _ (List.getElem_mem _),hr,jl,fun w ok hq=>⟨fun h=>?_,fun h=>⟨fun hk=>?_,fun hk=>?_⟩⟩⟩
  ·have:ok=false:=by simpa using h
   subst this
   refine⟨rfl,zeroV,false,?_,rfl⟩
   rw[j3,fc hq]
   exact j6 _
  ·have:ok=true:=by simpa using h
   subst this
   have hk:(br w==1)=true:=hk
   rw[w1,q1]
   refine⟨aa args,rfl,⟨by omega,by rw[ag];omega⟩,_,g1,rfl,o1,s1,t1.k,t1.sc,v1.t.k,v1.t.sc,v1.aA,v1.n,v1.s,aa a1,rfl,args[2*j+1],row,rfl,rfl,by rw[e1,ab];rfl,hs _ (List.getElem_mem _),hr,jl,fun x pF hw=>⟨fun hk=>(l7 hr (hs _ (List.getElem_mem _)) hw hk).1,fun hk=>(l7 hr (hs _ (List.getElem_mem _)) hw hk).2,rfl,_,_,?_,rfl⟩⟩
   rw[j3,dc hq]
   simp only[fD]
   rw[hk]
   exact xB u hw
  ·have:ok=true:=by simpa using h
   subst this
   have hk:(br w==1)=false:=hk
   refine⟨args.length-(j+1),j+1,by omega,by rw[w2],by omega,rfl,?_⟩
   rw[j3,dc hq]
   simp only[fD]
   rw[hk]
   rfl
 ·have hi:=of_decide_eq_false hi
  have hl:args.length=2*j+1:=by omega
  have q2:((args.length:Int)-1).toNat=2*j:=by omega
  rw[q2]
  refine⟨aa args,rfl,⟨by omega,by rw[ag];omega⟩,_,g0,rfl,o0,s0,t0.k,t0.sc,v0.t.k,v0.t.sc,v0.aA,v0.n,v0.s,aa a0,rfl,args[2*j],row,rfl,rfl,by rw[e0,ab];rfl,hs _ (List.getElem_mem _),hr,jl,fun x pF hw=>⟨fun hk=>(l7 hr (hs _ (List.getElem_mem _)) hw hk).1,fun hk=>(l7 hr (hs _ (List.getElem_mem _)) hw hk).2,rfl,_,_,?_,rfl⟩⟩
  rw[j3,List.drop_eq_nil_of_le (by omega)]
  simp only[fE,fD]
  exact xB u hw
end Go.Proofs.Tryz
namespace Go.Proofs.Tryz
open Go Go.Dm Go.Ex
set_option maxRecDepth 100000
def vL(k:Int):Int:=bG k
theorem xC{k sc:Int}:aH k sc=true↔k=2∨k=3:=by
 unfold aH
 by_cases h2:k=2
 ·simp[h2]
 ·by_cases h3:k=3
  ·simp[h3]
  ·simp[h2,h3]
theorem Dx{k:Int}(h:k=2∨k=3):vL k=2:=by rcases h with rfl|rfl<;>rfl
theorem EY{a:Ty×Bool}{u:Ty}(h:(fz a u).2=true):a.2=true∧vL (fz a u).1.k=vL a.1.k∧vL u.k=vL a.1.k:=by
 unfold fz at h ⊢
 cases h1:(u.k==a.1.k&&(u.sc==a.1.sc&&true))
 ·rw[h1]at h
  simp only[cond_false]at h ⊢
  cases h2:(bif aH u.k u.sc then aH a.1.k a.1.sc else false)
  ·rw[h2]at h;cases h
  ·rw[h2]at h
   simp only[cond_true]at h ⊢
   have hu:aH u.k u.sc=true:=by
     cases hx:aH u.k u.sc
     ·rw[hx]at h2;cases h2
     ·rfl
   have ha:aH a.1.k a.1.sc=true:=by rw[hu]at h2;exact h2
   rw[Dx (xC.1 hu),Dx (xC.1 ha)]
   exact⟨h,by first|rfl|trivial,by first|rfl|trivial⟩
 ·rw[h1]at h
  simp only[cond_true]at h ⊢
  have hk:u.k=a.1.k:=by
   simp only[Bool.and_eq_true,beq_iff_eq]at h1
   exact h1.1
  exact⟨h,trivial,by rw[hk]⟩
theorem we:∀(r:List Ty) (a:Ty×Bool),(r.foldl fz a).2=true→a.2=true∧vL (r.foldl fz a).1.k=vL a.1.k∧∀b∈r,vL b.k=vL a.1.k
 |[],a,h=>⟨h,rfl,fun b hb=>by cases hb⟩
 |u::r,a,h=>by
  obtain⟨h1,h2,h3⟩:=we r (fz a u) h
  obtain⟨g1,g2,g3⟩:=EY h1
  refine⟨g1,h2.trans g2,fun b hb=>?_⟩
  rcases List.mem_cons.1 hb with rfl|hb
  ·exact g3
  ·exact(h3 b hb).trans g2
theorem QM{a:Ty}{r:List Ty}(h:(aG a r).2=true):∀b∈a::r,vL b.k=vL (aG a r).1.k:=by
 obtain⟨_,h2,h3⟩:=we r (a,true) h
 intro b hb
 rcases List.mem_cons.1 hb with rfl|hb
 ·exact h2.symm
 ·exact(h3 b hb).trans h2.symm
theorem EZ{a:Go.Ex.AV}{ty:Ty}(ha:db a)(ht:da ty)(hf:vL a.t.k=vL ty.k)(hn:a.aA=true):xT ty a=some (jW ty):=by
 have e:ax a ty=(jW ty,0):=by
  have h0:cf ty.k ty.sc=0:=lZ.2 ht
  have hk:=ha.1
  have hw:(bif bif decide (a.t.k<1)then true else decide (a.t.k>5)then true else bif bif bif a.t.k != ty.k then a.t.k != 4 else false then ty.k != 4 else false then bG a.t.k != bG ty.k else false)=false:=by
   have hf:bG a.t.k=bG ty.k:=hf
   rw[decide_eq_false (by have:=hk.1;omega:¬a.t.k<1),decide_eq_false (by have:=hk.2.1;omega:¬a.t.k>5),hf]
   simp
  unfold ax
  rw[h0,hw,hn]
  rfl
 unfold xT
 rw[e]
 rfl
theorem B6{a w:Go.Ex.AV}{ty:Ty}(hn:a.aA=false)(h:xT ty a=some w):w.aA=false:=by
 unfold xT at h
 cases hc:(ax a ty).2==0
 ·rw[hc]at h;cases h
 ·rw[hc]at h
  simp only[cond_true,Option.some.injEq]at h
  subst h
  unfold ax cY dC
  rw[hn]
  simp only[cond_false]
  cases cf ty.k ty.sc != 0
  ·simp only[cond_false]
   cases(bif bif decide (a.t.k<1)then true else decide (a.t.k>5)then true else bif bif bif a.t.k != ty.k then a.t.k != 4 else false then ty.k != 4 else false then bG a.t.k != bG ty.k else false)
   ·simp only[cond_false]
    cases ty.k==4
    ·simp only[cond_false]
     cases a.t.k==4
     ·simp only[cond_false]
      cases(bif a.t.k != 3 then ty.k != 3 else false)
      ·simp only[cond_false]
       cases(bif a.t.k==3 then !dZ a.t.sc else false)
       ·simp only[cond_false]
        cases(bo a.n (cn a) ty.sc).2 != 0<;>rfl
       ·rfl
      ·rfl
     ·simp only[cond_true]
      cases(fC a.s.data.toList ty).2 != 0<;>rfl
    ·simp only[cond_true]
     cases a.t.k != 4
     ·simp only[cond_false]
      cases decide ((a.s.size:Int)>256)<;>rfl
     ·simp only[cond_true]
      cases decide (((tx (ez a)).size:Int)>256)<;>rfl
   ·rfl
  ·rfl
theorem B7{op:Int}{a b:Ty}{i:Bool}(h:(cH op a b i).2=true):(cH op a b i).1.k=2∨(cH op a b i).1.k=3∨(cH op a b i).1.k=5:=by
 unfold cH at h ⊢
 cases i
 ·simp only[cond_false]at h ⊢
  cases h1:(bif op==6 then true else op==7)
  ·rw[h1]at h
   simp only[cond_false]at h ⊢
   cases h2:op==8
   ·rw[h2]at h
    simp only[cond_false]at h ⊢
    cases h3:(bif (bif aH a.k a.sc then aH b.k b.sc else false)then op==5 else false)
    ·rw[h3]at h
     simp only[cond_false]at h ⊢
     cases h4:(bif aH a.k a.sc then aH b.k b.sc else false)
     ·rw[h4]at h
      simp only[cond_false]at h ⊢
      cases h5:op==5
      ·rw[h5]at h
       simp only[cond_false]at h ⊢
       cases h6:(bif (bif op==4 then a.k==5&&(a.sc==0&&true)else false)then b.k==5&&(b.sc==0&&true)else false)
       ·exact .inr (.inr rfl)
       ·exact .inl rfl
      ·rw[h5]at h;cases h
     ·exact .inr (.inl rfl)
    ·exact .inr (.inl rfl)
   ·rw[h2]at h
    simp only[cond_true]at h ⊢
    rcases xC.1 h with h|h
    ·exact .inl h
    ·exact .inr (.inl h)
  ·rw[h1]at h;cases h
 ·exact .inl rfl
theorem xD{ae:List Ty}{op sub:Int}{t:Ty}{v:Go.Ex.AV}{l:List Ty}(h:3≤op∧op≤8):bA ae op sub t v l=cH op (l.getD 0 ⟨0,0⟩) (l.getD (l.length-1) ⟨0,0⟩) (!l.any (gT 2)):=by
 unfold bA
 rw[if_neg (by omega),if_neg (by omega),if_neg (by omega),if_neg (by omega),if_neg (by omega),if_neg (by omega),if_neg (by omega),if_neg (by omega),if_neg (by omega)]
theorem MR{op sub:Int}{t:Ty}{v:Go.Ex.AV}{m c:Int}(h:bE op sub t v m c=true)(n1:op≠1)(n2:op≠2)(n10:op≠10)(n11:op≠11)(n12:op≠12)(n13:op≠13)(n14:op≠14)(n15:op≠15)(n16:op≠16):op=9∨op=17∨op=18∨(3≤op∧op≤8):=by
 by_cases h9:op=9
 ·exact .inl h9
 by_cases h17:op=17
 ·exact .inr (.inl h17)
 by_cases Ju:op=18
 ·exact .inr (.inr (.inl Ju))
 refine .inr (.inr (.inr ?_))
 by_cases hr:3≤op∧op≤8
 ·exact hr
 exfalso
 unfold bE at h
 rw[show(op==1)=false by simpa using n1,show(op==2)=false by simpa using n2,show(op==9)=false by simpa using h9,show(op==16)=false by simpa using n16,show(op==8)=false by (simp;omega),show(op==12)=false by simpa using n12,show(op==13)=false by simpa using n13,show(op==18)=false by simpa using Ju,show(op==14)=false by simpa using n14,show(op==15)=false by simpa using n15,
  show(op==3)=false by (simp;omega),show(op==4)=false by (simp;omega),show(op==5)=false by (simp;omega),show(op==6)=false by (simp;omega),show(op==7)=false by (simp;omega),show(op==10)=false by simpa using n10,show(op==11)=false by simpa using n11,show(op==17)=false by simpa using h17]at h
 cases h
theorem wg{ae:List Ty}:∀{l:List EX} {tl:List Ty},bm ae l=some tl→∀(i:Nat) (hi:i<l.length),tl[i]? = some (ay ae l[i]).1
 |[],_,_,i,hi=>by simp at hi
 |a::l,tl,h,i,hi=>by
  simp only[bm]at h
  rcases hh:ay ae a with⟨u,_|_⟩
  ·rw[hh]at h;cases h
  ·rcases hl:bm ae l with _|l2
   ·rw[hh,hl]at h;cases h
   ·rw[hh,hl]at h
    simp only[Option.some.injEq]at h
    subst h
    cases i with
    |zero=>simp[hh]
    |succ i=>simpa using wg hl i (by simpa using hi)
theorem zq{ae:List Ty}{sub:Int}{t:Ty}{v:Go.Ex.AV}{a:Ty}{r:List Ty}:bA ae 15 sub t v (a::r)=((aG a r).1,(aG a r).2&&(decide ((15:Int)=15)||mZ (a::r) ((a::r).length/2))):=rfl
theorem MS{ae:List Ty}{sub:Int}{t:Ty}{v:Go.Ex.AV}{args:List EX}{tl:List Ty}(h:(ay ae (.mk 15 sub t v args)).2=true)(hl:bm ae args=some tl)(i:Nat)(hi:i<args.length):vL (ay ae args[i]).1.k=vL (ay ae (.mk 15 sub t v args)).1.k:=by
 rw[fA hl]at h ⊢
 have hg:=wg hl i hi
 cases tl with
 |nil=>cases h
 |cons a r=>
  rw[zq]at h ⊢
  dsimp only at h ⊢
  have hc:(aG a r).2=true:=by
   cases hx:(aG a r).2
   ·rw[hx]at h;cases h
   ·rfl
  exact QM hc _ (List.mem_of_getElem? hg)
end Go.Proofs.Tryz
namespace Go.Proofs.Tryz
open Go Go.Dm Go.Ex
set_option maxRecDepth 100000
variable {gl:Nat→Option Obj}
def Tq(n:Nat):aj:=au (au (v_ n) 54 (MO n)) 55 (MP n)
def VN(op sub:Int)(t:Ty)(v:Go.Ex.AV)(args:List EX)(u:Ty)(r y:List (List D))(j:Nat):St:={tm:=[(1,.d (.sl r)),(2,.d (.sl y)),(3,.ref 3 0),(6,.ref 6 0),(7,.d (.v (.bool false))),(8,.ref 8 0),(10,.d (.v (.int .i64 (j:Int))))],hp:=[(3,.box [.d (.v (.int .i64 op)),.d (.v (.int .i64 sub)),.d (.v (.int .i64 t.k)),.d (.v (.int .i64 t.sc)),.d (.v (.int .i64 v.t.k)),.d (.v (.int .i64 v.t.sc)),.d (.v (.bool v.aA)),.d (.v (.int .i64 v.n)),.d (.v (.string v.s)),.d (.sl (aa args))]),(6,.box [.d (.v (.int .i64 0)),.d (.v (.int .i64 0)),.d (.v (.bool false)),.d (.v (.int .i64 0)),.d (.v (.string {data:={toList:=[]:Array UInt8}:ByteArray}))]),(8,.box [.d (.v (.int .i64 u.k)),.d (.v (.int .i64 u.sc))])],kn:=[],gd:=[]}
def re(row:List Go.Ex.AV)(args:List EX)(u:Ty)(m:Nat)(j:Nat):Prop:=j≤args.length∧m=args.length-j∧gW u (fE row args)=gW u (fE row (args.drop j))
def VO(op sub:Int)(t:Ty)(v:Go.Ex.AV)(args:List EX)(u:Ty)(r y:List (List D))(x:VX):St:={tm:=[(1,.d (.sl r)),(2,.d (.sl y)),(3,.ref 3 0),(6,.ref 6 0),(7,.d (.v (.bool false))),(8,.ref 8 0),(13,.own 50013),(14,.d (.v (.bool (x.l.any (fun v=>v.aA))))),(15,.d (.v (.int .i64 (x.i:Int))))],hp:=[(3,.box [.d (.v (.int .i64 op)),.d (.v (.int .i64 sub)),.d (.v (.int .i64 t.k)),.d (.v (.int .i64 t.sc)),.d (.v (.int .i64 v.t.k)),.d (.v (.int .i64 v.t.sc)),.d (.v (.bool v.aA)),.d (.v (.int .i64 v.n)),.d (.v (.string v.s)),.d (.sl (aa args))]),(6,.box [.d (.v (.int .i64 0)),.d (.v (.int .i64 0)),.d (.v (.bool false)),.d (.v (.int .i64 0)),.d (.v (.string {data:={toList:=[]:Array UInt8}:ByteArray}))]),(8,.box [.d (.v (.int .i64 u.k)),.d (.v (.int .i64 u.sc))]),(50013,.bu 25 5 (x.l.map Go.Ex.AV.cs))],kn:=[],gd:=[]}
def rh(row:List Go.Ex.AV)(args:List EX)(m:Nat)(x:VX):Prop:=x.i≤args.length∧m=args.length-x.i∧x.l.length=x.i∧fE row (args.take x.i)=x.l.map some
def Tr(op sub:Int)(t:Ty)(v:Go.Ex.AV)(args:List EX)(u:Ty)(row:List Go.Ex.AV)(r y:List (List D)):Fi:={aj3 with cv:=[(23,[⟨none,13,50013,25,5⟩])],lx:=[(14,{X:=Nat,sh:=VN op sub t v args u r y,P:=fun _=>re row args u}),(23,{X:=VX,sh:=VO op sub t v args u r y,P:=fun _=>rh row args})]}
def Zd9(a0 a1:List (List D))(a2 a3:Int)(a4:Ty)(a5:Go.Ex.AV)(a6:List EX)(a7:Nat)(a8:KT):Prop:=zE fun eh cr oH mv dN=>∃(row:List AV),a0=List.map AV.cs row∧a1=List.map Ty.cs (ak row)∧Zb9 a2 a3 a4 a5 a6 eh cr oH mv dN row a7 a8
def Zea(a0 a1:Int)(a2 a3:List (List D))(a4:Int)(a5:Ty)(a6:Go.Ex.AV)(a7:List EX)(a8:Nat)(a9:KT):Prop:=(a0==a1)=true→Zd9 a2 a3 a0 a4 a5 a6 a7 a8 a9
def Zeg(a0 a1 a2:Int)(a3 a4:List (List D))(a5:Int)(a6:Ty)(a7:Go.Ex.AV)(a8:List EX)(a9:Nat)(eV:KT)(k:Prop):Prop:=(a0==a1)=false→(Zea a0 a2 a3 a4 a5 a6 a7 a8 a9 eV)∧k
def Zjl(a0 a1:Int)(a2:Ty)(a3:Go.Ex.AV)(a4:List EX)(a5 a6:Int)(a7:Ty)(a8:AV)(a9:List EX)(eV fI:Ty)(k:Prop):Prop:=SS a0 a1 a2 a3 a4 a5 a6 a7 a8 a9 ((AA eV)=fI.cs∧k)
def Ze9(a0 a1:List (List D))(a2:Nat)(a3 a4:Int)(a5:Ty)(a6:Go.Ex.AV)(a7:List EX)(a8:Ty):St:={tm:=[(1,.d (.sl a0)),(2,.d (.sl a1)),(3,.ref 3 0),(6,.ref 6 0),(7,.d (.v (.bool false))),(8,.ref 8 0),(10,.i (↑a2:Int))],hp:=[(3,.box [.i a3,.i a4,.i a5.1,.i a5.2,.i a6.1.1,.i a6.1.2,.d (.v (.bool a6.2)),.i a6.3,.d (.v (.string a6.4)),.d (.sl (aa a7))]),(6,.box [.i 0,.i 0,.d (.v (.bool false)),.i 0,.d (.v (.string ⟨⟨[]⟩⟩))]),(8,.box [.i a8.1,.i a8.2])],kn:=[],gd:=[]:St}
def Zhv(a0:VX)(k:Int→Int→Bool→Int→ByteArray→Prop):Prop:=((0:Int)≤0∧0<(↑(List.map AV.cs a0.2).length:Int))∧(5:Nat)=(5:Nat)∧∃(cells:List D),(List.map AV.cs a0.2)[Int.toNat (0:Int)]? = some cells∧WU cells fun n aW b bO cD=>k n aW b bO cD
def Zh6(a0 a1:Int)(a2:VX)(k:Int→Int→Bool→Int→ByteArray→Prop):Prop:=(a0==a1)=true→Zhv a2 fun n aW b bO cD=>k n aW b bO cD
theorem amM(n:Nat)(op sub:Int)(t:Ty)(v:Go.Ex.AV)(args:List EX)(u:Ty)(row:List Go.Ex.AV)(r y:List (List D))(Q:KT):vc zH (Tq n) bf (Tr op sub t v args u row r y) (f24.body.getD .skip) f24.results.toList [.agg (aT op sub t v (aa args)),.d (.sl r),.d (.sl y)] Q=(VV op sub t v args y fun e ae=>W7 ae e fun dn ok=>((op==1)=true→Zf1 r sub Q)∧((op==1)=false→((op==2)=true→Q (Zj9 v) [])∧(Zeg op (2:Int) (10:Int) r y sub t v args n Q ((Zeg op (10:Int) (11:Int) r y sub t v args n Q (((op==11)=false→((op==14)=true→zE fun eh cr oH mv dN=>∃(u:Ty),∃(row:List AV),r=List.map AV.cs row∧y=List.map Ty.cs (ak row)∧Zjl op sub t v args eh cr oH mv dN dn u (dN.length % (2:Nat)=(1:Nat)∧dN.length≤1353245080300∧(∀(e:EX),e∈dN→dD row n e)∧LM row fun w ok=>Is (fD u (fE row dN)) w ok→Vx Q w ok))∧((op==14)=false→((op==15)=true→∃(x0:Nat),({tm:=[(1,.d (.sl r)),(2,.d (.sl y)),(3,.ref 3 0),(6,.ref 6 0),(7,.d (.v (.bool false))),(8,.ref 8 0),(10,.i 0)],hp:=[(3,.box [.i op,.i sub,.i t.1,.i t.2,.i v.1.1,.i v.1.2,.d (.v (.bool v.2)),.i v.3,.d (.v (.string v.4)),.d (.sl (aa args))]),(6,.box [.i 0,.i 0,.d (.v (.bool false)),.i 0,.d (.v (.string ⟨⟨[]⟩⟩))]),(8,.box [.i dn.1,.i dn.2])],kn:=[],gd:=[]:St}=(Ze9 r y x0 op sub t v args u)∧∃(n:Nat),re row args u n x0)∧∀(aN:Nat) (x:Nat),re row args u aN x→gS args fun es=>(sy x es (yM args x fun cells=>W8 cells r y n fun w ok=>((bif !ok then true else !w.2)=true→Zbv ok w Q u)∧((bif !ok then true else !w.2)=false→fG aN fun m x'=>{tm:=[(1,.d (.sl r)),(2,.d (.sl y)),(3,.ref 3 0),(6,.ref 6 0),(7,.d (.v (.bool false))),(8,.ref 8 0),(10,.i (IntKind.i64.wrap ((↑x:Int)+1)))],hp:=[(3,.box [.i op,.i sub,.i t.1,.i t.2,.i v.1.1,.i v.1.2,.d (.v (.bool v.2)),.i v.3,.d (.v (.string v.4)),.d (.sl (aa args))]),(6,.box [.i 0,.i 0,.d (.v (.bool false)),.i 0,.d (.v (.string ⟨⟨[]⟩⟩))]),(8,.box [.i u.1,.i u.2])],kn:=[],gd:=[]:St}=(Ze9 r y x' op sub t v args u)∧re row args u m x')))∧(qE x es (Zgy Q u)))∧((op==15)=false→∃(x0:VX),({tm:=[(1,.d (.sl r)),(2,.d (.sl y)),(3,.ref 3 0),(6,.ref 6 0),(7,.d (.v (.bool false))),(8,.ref 8 0),(13,.own 50013),(14,.d (.v (.bool false))),(15,.i 0)],hp:=[(3,.box [.i op,.i sub,.i t.1,.i t.2,.i v.1.1,.i v.1.2,.d (.v (.bool v.2)),.i v.3,.d (.v (.string v.4)),.d (.sl (aa args))]),(6,.box [.i 0,.i 0,.d (.v (.bool false)),.i 0,.d (.v (.string ⟨⟨[]⟩⟩))]),(8,.box [.i dn.1,.i dn.2]),(50013,.bu 25 5 [])],kn:=[],gd:=[]:St}={tm:=[(1,.d (.sl r)),(2,.d (.sl y)),(3,.ref 3 0),(6,.ref 6 0),(7,.d (.v (.bool false))),(8,.ref 8 0),(13,.own 50013),(14,.d (.v (.bool (x0.2.any fun(v:AV)=>v.aA)))),(15,.i (↑x0.1:Int))],hp:=[(3,.box [.i op,.i sub,.i t.1,.i t.2,.i v.1.1,.i v.1.2,.d (.v (.bool v.2)),.i v.3,.d (.v (.string v.4)),.d (.sl (aa args))]),(6,.box [.i 0,.i 0,.d (.v (.bool false)),.i 0,.d (.v (.string ⟨⟨[]⟩⟩))]),(8,.box [.i u.1,.i u.2]),(50013,.bu 25 5 (List.map AV.cs x0.2))],kn:=[],gd:=[]:St}∧∃(n:Nat),rh row args n x0)∧∀(aN:Nat) (x:VX),rh row args aN x→gS args fun es=>(decide ((↑x.1:Int)<(↑es.length:Int))=true→Zkc args x fun cells=>W9 cells r y n Q fun w ok=>((!ok)=false→(∀(c:List D),c∈[(LN w)]→c.length=5)∧(25:Nat)=(25:Nat)∧(5:Nat)=(5:Nat)∧(↑(List.map AV.cs x.2).length.succ:Int)*(↑(48:Nat):Int)≤140737488355328∧∃(m:Nat),∃(x':VX),m<aN∧{tm:=[(1,.d (.sl r)),(2,.d (.sl y)),(3,.ref 3 0),(6,.ref 6 0),(7,.d (.v (.bool false))),(8,.ref 8 0),(13,.own 50013),(14,.d (.v (.bool (bif x.2.any fun(v:AV)=>v.aA then true else w.2)))),(15,.i (IntKind.i64.wrap ((↑x.1:Int)+1)))],hp:=[(3,.box [.i op,.i sub,.i t.1,.i t.2,.i v.1.1,.i v.1.2,.d (.v (.bool v.2)),.i v.3,.d (.v (.string v.4)),.d (.sl (aa args))]),(6,.box [.i 0,.i 0,.d (.v (.bool false)),.i 0,.d (.v (.string ⟨⟨[]⟩⟩))]),(8,.box [.i u.1,.i u.2]),(50013,.bu 25 5 (List.map AV.cs x.2++[(LN w)]))],kn:=[],gd:=[]:St}={tm:=[(1,.d (.sl r)),(2,.d (.sl y)),(3,.ref 3 0),(6,.ref 6 0),(7,.d (.v (.bool false))),(8,.ref 8 0),(13,.own 50013),(14,.d (.v (.bool (x'.2.any fun(v:AV)=>v.aA)))),(15,.i (↑x'.1:Int))],hp:=[(3,.box [.i op,.i sub,.i t.1,.i t.2,.i v.1.1,.i v.1.2,.d (.v (.bool v.2)),.i v.3,.d (.v (.string v.4)),.d (.sl (aa args))]),(6,.box [.i 0,.i 0,.d (.v (.bool false)),.i 0,.d (.v (.string ⟨⟨[]⟩⟩))]),(8,.box [.i u.1,.i u.2]),(50013,.bu 25 5 (List.map AV.cs x'.2))],kn:=[],gd:=[]:St}∧rh row args m x'))∧(decide ((↑x.1:Int)<(↑es.length:Int))=false→(Zh6 op (12:Int) x fun n aW b bO cD=>Q [.agg [.i 1,.i 0,.v (.bool (jF (jc (dd n aW b bO cD)))),.i (jG (jc (dd n aW b bO cD))),.v (.string ⟨⟨[]⟩⟩)],.d (.v (.bool true))] [])∧((op==12)=false→((op==13)=true→Q [.agg [.i 1,.i 0,.v (.bool false),.i (nO (x.2.any fun(v:AV)=>v.aA)),.v (.string ⟨⟨[]⟩⟩)],.d (.v (.bool true))] [])∧((op==13)=false→(Zh6 op (16:Int) x fun n aW b bO cD=>(true=true→db {t:={k:=n,sc:=aW:Ty},aA:=b,n:=bO,s:=cD:AV})∧(true=true→ar bO)∧Q [.agg [.v (.int .i64 (bif true then(ax {t:={k:=n,sc:=aW:Ty},aA:=b,n:=bO,s:=cD:AV} {k:=t.1,sc:=t.2:Ty}).1 else zeroV).1.1),.v (.int .i64 (bif true then(ax {t:={k:=n,sc:=aW:Ty},aA:=b,n:=bO,s:=cD:AV} {k:=t.1,sc:=t.2:Ty}).1 else zeroV).1.2),.v (.bool (bif true then(ax {t:={k:=n,sc:=aW:Ty},aA:=b,n:=bO,s:=cD:AV} {k:=t.1,sc:=t.2:Ty}).1 else zeroV).2),.v (.int .i64 (bif true then(ax {t:={k:=n,sc:=aW:Ty},aA:=b,n:=bO,s:=cD:AV} {k:=t.1,sc:=t.2:Ty}).1 else zeroV).3),.v (.string (bif true then(ax {t:={k:=n,sc:=aW:Ty},aA:=b,n:=bO,s:=cD:AV} {k:=t.1,sc:=t.2:Ty}).1 else zeroV).4)],.d (.v (.bool (bif true then(ax {t:={k:=n,sc:=aW:Ty},aA:=b,n:=bO,s:=cD:AV} {k:=t.1,sc:=t.2:Ty}).2==(0:Int)else false)))] [])∧((op==16)=false→((x.2.any fun(v:AV)=>v.aA)=true→Zgy Q u)∧((x.2.any fun(v:AV)=>v.aA)=false→zE fun eh cr q w dN=>∃(oH:Ty),∃(vs:List AV),Zjl op sub t v args eh cr q w dN u oH (List.map AV.cs x.2=List.map AV.cs vs∧To eh oH vs∧∀(v:AV) (ok:Bool),Is (BL eh cr oH vs) v ok→Vx Q v ok))))))))))))))):=by kernel_rfl
theorem QN{op sub:Int}{t:Ty}{v:Go.Ex.AV}{m c:Int}(h:bE op sub t v m c=true)(ho:op=12∨op=16):m=1:=by
 unfold bE at h
 rcases ho with rfl|rfl
 ·exact eq_of_beq (bt (bt (bt h).1).1).1
 ·exact eq_of_beq (bt (bt (bt h).1).1).1
theorem af4:∀(n:Nat) (e:EX) (row:List Go.Ex.AV),dD row n e→dV row→row.length≤4398046511104→
  Ct prog gl 24 [.agg (cells e),.d (.sl (row.map Go.Ex.AV.cs)),.d (.sl ((ak row).map Ty.cs))] (fun res fin=>fin=[]∧∃(w:Go.Ex.AV) (ok:Bool),Is (jk row e) w ok∧res=[.agg w.cs,.d (.v (.bool ok))])
 |0,e,row,h,_,_=>absurd h.1 (Nat.not_lt_zero _)
 |n+1,.mk op sub t v args,row,hs,hr,jl=>by
  have amN:∀a K,VL n a K→Ct prog gl 24 a K:=fun a K hk=>by
   unfold VL at hk
   split at hk
   ·obtain⟨e,row,rfl,rfl,rfl,h1,h2,h3,h4⟩:=hk
    exact(af4 n e row h1 h2 h3).mono fun res fin ⟨e1,w,ok,hi,e2⟩=>by subst e1;subst e2;exact h4 w ok hi
   ·exact hk.elim
  have WY:ah prog gl (v_ n):=af MN amN
  have af5:∀a K,MO n a K→Ct prog gl 54 a K:=fun a K hk=>by
   unfold MO at hk
   split at hk
   ·obtain⟨op,sub,t,v,args,row,rfl,rfl,rfl,h0,h1,h2,h3,h4,h5⟩:=hk
    exact(af1 n WY op sub t v args row h0 h1 h2 h3 h4).mono fun res fin ⟨e1,w,ok,hi,e2⟩=>by subst e1;subst e2;exact h5 w ok hi
   ·exact hk.elim
  have af6:∀a K,MP n a K→Ct prog gl 55 a K:=fun a K hk=>by
   unfold MP at hk
   split at hk
   ·obtain⟨op,sub,t,v,args,u,row,rfl,rfl,rfl,rfl,h0,h1,h2,h3,h4,h5⟩:=hk
    exact(af3 n WY op sub t v args u row h0 h1 h2 h3 h4).mono fun res fin ⟨e1,w,ok,hi,e2⟩=>by subst e1;subst e2;exact h5 w ok hi
   ·exact hk.elim
  have hC:ah prog gl (Tq n):=af (af WY af5) af6
  obtain⟨h1,h2,h3,h4⟩:=hs
  have hc:aT op sub t v (aa args)=cells (.mk op sub t v args):=(ab _ _ _ _ _).symm
  rw[ab]
  obtain⟨tl,AB⟩:=jz h4
  obtain⟨hm,nC⟩:=sU h3
  obtain⟨_,hal,ss⟩:=ee h2
  simp only[size]at h1
  have Ts:∀u∈ak row,da u:=LJ hr
  have af7:=lG Ts (e:=.mk op sub t v args) (by rw[fo];exact h3) h4
  have iI:∀e∈args,dD row n e:=fun e he=>⟨by have:=ph he;omega,cZ ss he,sY nC e he,nk AB e he⟩
  have Dq:∀(i:Nat) (hi:i<args.length) (a:Go.Ex.AV),jk row args[i]=some a→j5 (ay (ak row) args[i]).1 a:=fun i hi a ha=>by
   have:=iI _ (List.getElem_mem hi)
   exact pf hr this.2.1 this.2.2.1 this.2.2.2 ha
  have EK:jk row (.mk op sub t v args)=nj row op sub t v (ay (ak row) (.mk op sub t v args)).1 (fE row args):=by simp only[jk]
  have hco:op=15→∀(i:Nat) (hi:i<args.length),vL (ay (ak row) args[i]).1.k=vL (ay (ak row) (.mk op sub t v args)).1.k:=fun h i hi=>by
   subst h;exact MS h4 AB i hi
  have har:(3≤op∧op≤8)→((ay (ak row) (.mk op sub t v args)).1.k=2∨(ay (ak row) (.mk op sub t v args)).1.k=3∨(ay (ak row) (.mk op sub t v args)).1.k=5):=fun h=>by
   rw[fA AB]at h4 ⊢
   rw[xD h]at h4 ⊢
   exact B7 h4
  refine aw (E:=zH) ⟨bN.te⟩ hC aF (fun _ _ _ h=>h.elim) mixed (fn:=f24) (body:=f24.body.getD .skip) (by kernel_rfl) (by kernel_rfl) (by kernel_rfl) (fi:=Tr op sub t v args (ay (ak row) (.mk op sub t v args)).1 row (row.map Go.Ex.AV.cs) ((ak row).map Ty.cs)) (by kernel_rfl) (by kernel_rfl) (let ⟨w,ok,h⟩:=pZ (jk row (.mk op sub t v args)) zeroV;⟨_,_,rfl,w,ok,h,rfl⟩) ?_
  rw[amM];dsimp -eta -iota -proj only[VV,SW,SV,Fl,zC,Z1,W7,Zf1,zF,fy,Vg,WU,PU,Zj9,Zeg,Zea,Zd9,zE,Zb9,SS,xQ,LM,Vx,Zfu,LN,Zjl,AA,Ze9,gS,sy,yM,Zbx,W8,Z5,S5,Zy,Zs,Zr,Z2,lU,Zbv,fG,fb,qE,Zgy,Zgp,WT,Zkc,W9,Qv,WX,Ll,S2,Z8,Zh6,Zhv]
  rw[EK]
  refine⟨.mk op sub t v args,ak row,hc,rfl,h2,by rw[fo];exact h3,fun u hu=>lZ.2 (Ts u hu),by rw[fo];omega,fun ty ok ha=>?_⟩
  obtain rfl:ty=(ay (ak row) (.mk op sub t v args)).1:=ha.2 h4
  clear ha
  have htq:∀i:Nat,(i:Int).toNat=i:=fun i=>Int.toNat_natCast i
  refine⟨fun o=>?_,fun n1=>⟨fun o=>?_,fun n2=>⟨fun o=>?_,fun n10=>⟨fun o=>?_,fun n11=>⟨fun o=>?_,fun n14=>⟨fun o=>?_,fun n15=>?_⟩⟩⟩⟩⟩⟩
  ·have o:op=1:=eq_of_beq o
   have hs:=kr (by rw[o]at hm;exact hm)
   have hlt:sub.toNat<row.length:=by omega
   refine⟨_,rfl,⟨hs.1,by rw[List.length_map];exact hs.2⟩,(row[sub.toNat]).cs,by rw[List.getElem?_map,List.getElem?_eq_getElem hlt];rfl,rfl,_,_,_,_,_,rfl,rfl,row[sub.toNat],true,?_,rfl⟩
   unfold nj
   rw[if_pos o,List.getElem?_eq_getElem hlt]
   exact ec _
  ·have o:op=2:=eq_of_beq o
   refine⟨rfl,v,true,?_,rfl⟩
   unfold nj
   rw[if_neg (by omega),if_pos o]
   exact ec _
  ·have o:op=10:=eq_of_beq o
   refine⟨op,sub,t,v,args,row,rfl,rfl,rfl,.inl o,by have:=dQ hm (.inl o);omega,iI,hr,jl,fun w ok hi=>⟨rfl,w,ok,?_,rfl⟩⟩
   unfold nj
   rw[if_neg (by omega),if_neg (by omega),if_pos (.inl o)]
   exact hi
  ·have o:op=11:=eq_of_beq o
   refine⟨op,sub,t,v,args,row,rfl,rfl,rfl,.inr o,by have:=dQ hm (.inr o);omega,iI,hr,jl,fun w ok hi=>⟨rfl,w,ok,?_,rfl⟩⟩
   unfold nj
   rw[if_neg (by omega),if_neg (by omega),if_pos (.inr o)]
   exact hi
  ·have o:op=14:=eq_of_beq o
   have hO:=lH (by rw[o]at hm;exact hm)
   rw[Int.tmod_eq_emod_of_nonneg (by omega)]at hO
   refine⟨op,sub,t,v,args,(ay (ak row) (.mk op sub t v args)).1,row,rfl,rfl,rfl,rfl,by omega,hal,iI,hr,jl,fun w ok hi=>⟨rfl,w,ok,?_,rfl⟩⟩
   unfold nj
   rw[if_neg (by omega),if_neg (by omega),if_neg (by omega),if_neg (by omega),if_neg (by omega),if_pos o]
   exact hi
  ·have o:op=15:=eq_of_beq o
   have hE:nj row op sub t v (ay (ak row) (.mk op sub t v args)).1 (fE row args)=gW (ay (ak row) (.mk op sub t v args)).1 (fE row args):=by
    unfold nj
    rw[if_neg (by omega),if_neg (by omega),if_neg (by omega),if_neg (by omega),if_neg (by omega),if_neg (by omega),if_pos o]
   rw[hE]
   have hco:=hco o
   generalize (ay (ak row) (.mk op sub t v args)).1=ty at *
   refine⟨(0:Nat),⟨rfl,args.length,Nat.zero_le _,rfl,by rw[List.drop_zero]⟩,fun m (j:Nat) hj=>?_⟩
   obtain⟨j1,j2,j3⟩:=hj
   refine⟨aa args,rfl,fun hi=>?_,fun hi=>?_⟩
   ·have hi:=of_decide_eq_true hi
    rw[ag]at hi
    have hi:j<args.length:=by omega
    obtain⟨o0,s0,t0,v0,a0,e0,g0⟩:=cq hi
    rw[l5 hi]at j3
    refine⟨aa args,rfl,⟨by omega,by rw[ag];omega⟩,_,by rw[htq];exact g0,rfl,o0,s0,t0.k,t0.sc,v0.t.k,v0.t.sc,v0.aA,v0.n,v0.s,aa a0,rfl,args[j],row,rfl,rfl,by rw[e0,ab];rfl,iI _ (List.getElem_mem _),hr,jl,fun w ok hw=>⟨fun h=>⟨fun hk=>(l7 hr (iI _ (List.getElem_mem _)) hw hk).1,fun hk=>(l7 hr (iI _ (List.getElem_mem _)) hw hk).2,rfl,_,_,?_,rfl⟩,fun h=>?_⟩⟩
    ·rw[j3]
     simp only[gW]
     have hb:=xB ty hw
     cases ok with
     |false=>rw[fc hw];exact j6 _
     |true=>
      have hn:w.aA=false:=by simpa using h
      rw[dc hw]at hb ⊢
      simp only[Option.bind_some]at hb ⊢
      cases ha:xT ty w with
      |none=>rw[ha]at hb;exact hb
      |some x=>
       rw[ha]at hb
       dsimp only
       rw[B6 hn ha]
       exact hb
    ·have fQ:ok=true∧w.aA=true:=by
      revert h
      cases ok<;>cases w.aA<;>simp
     obtain⟨rfl,hz⟩:=fQ
     have hg:=Dq j hi w (dc hw)
     refine⟨args.length-(j+1),j+1,by omega,?_,by omega,rfl,?_⟩
     ·rw[aL (by omega)]
     ·rw[j3,dc hw]
      simp only[gW,Option.bind_some]
      rw[EZ hg.2.1 af7 (by rw[hg.1];exact hco j hi) hz]
      rfl
   ·have hi:=of_decide_eq_false hi
    rw[ag]at hi
    have hl:j=args.length:=by omega
    refine⟨rfl,jW ty,true,?_,rfl⟩
    rw[j3,List.drop_eq_nil_of_le (by omega)]
    simp only[fE,gW]
    exact ec _
  ·have n1:op≠1:=by simpa using n1
   have n2:op≠2:=by simpa using n2
   have n10:op≠10:=by simpa using n10
   have n11:op≠11:=by simpa using n11
   have n14:op≠14:=by simpa using n14
   have n15:op≠15:=by simpa using n15
   have hms:=vT hm n14 n15
   have hp:=b8 hm n1 n2
   refine⟨⟨0,[]⟩,⟨rfl,args.length,Nat.zero_le _,rfl,rfl,by simp[fE]⟩,fun m x hx=>?_⟩
   obtain⟨x1,x2,x3,x4⟩:=hx
   refine⟨aa args,rfl,fun hi=>?_,fun hi=>?_⟩
   ·have hi:=of_decide_eq_true hi
    rw[ag]at hi
    have hi:x.i<args.length:=by omega
    obtain⟨o0,s0,t0,v0,a0,e0,g0⟩:=cq hi
    have Ga:jk row args[x.i]=none→nj row op sub t v (ay (ak row) (.mk op sub t v args)).1 (fE row args)=none:=fun h=>by
     have hal:=all_none hi h
     have h0:op=12∨op=16→(fE row args).getD 0 none=none:=fun h12=>by
      have z6:(args.length:Int)=1:=QN hm h12
      have:x.i=0:=by omega
      have hz:args[x.i]=args[0]:=by congr 1
      rw[BO (by omega),←hz]
      exact h
     unfold nj
     rw[if_neg n1,if_neg n2,if_neg (by omega)]
     by_cases AD:op=12
     ·rw[if_pos AD,h0 (.inl AD)];rfl
     rw[if_neg AD]
     by_cases uE:op=16
     ·rw[if_pos uE,h0 (.inr uE)];rfl
     rw[if_neg uE,if_neg n14,if_neg n15,hal]
    refine⟨aa args,rfl,⟨by omega,by rw[ag];omega⟩,_,by rw[htq];exact g0,rfl,o0,s0,t0.k,t0.sc,v0.t.k,v0.t.sc,v0.aA,v0.n,v0.s,aa a0,rfl,args[x.i],row,rfl,rfl,by rw[e0,ab];rfl,iI _ (List.getElem_mem _),hr,jl,fun w ok hw=>⟨fun h=>?_,fun h=>?_⟩⟩
    ·have:ok=false:=by simpa using h
     subst this
     rw[Ga (fc hw)]
     exact⟨rfl,zeroV,false,j6 _,rfl⟩
    ·have:ok=true:=by simpa using h
     subst this
     refine⟨by intro c hc;simp at hc;subst hc;rfl,rfl,rfl,by rw[List.length_map];omega,args.length-(x.i+1),⟨x.i+1,x.l++[w]⟩,by omega,?_,by show x.i+1≤_;omega,rfl,by simp[x3],?_⟩
     ·rw[aL (by omega)]
      have g1:((x.l++[w]).any fun v=>v.aA)=(bif (x.l.any fun v=>v.aA)then true else w.aA):=by
          rw[List.any_append]
          cases(x.l.any fun v=>v.aA)<;>simp
      have g2:(x.l++[w]).map Go.Ex.AV.cs=x.l.map Go.Ex.AV.cs++[w.cs]:=by rw[List.map_append];rfl
      dsimp only
      rw[g1,g2]
     ·show fE row (args.take (x.i+1))=(x.l++[w]).map some
      rw[List.take_add_one,List.getElem?_eq_getElem hi,Option.toList_some,iK,List.map_append,←iK,x4,List.map_append]
      simp[dc hw]
   ·have hi:=of_decide_eq_false hi
    rw[ag]at hi
    have hxi:x.i=args.length:=by omega
    have bC:fE row args=x.l.map some:=by rw[←x4,List.take_of_length_le (by omega)]
    have bT:x.l≠[]:=by intro e;rw[e]at x3;simp at x3;omega
    have ct:0<x.l.length:=by omega
    have oY:∀a∈x.l,db a∧ar a.n:=fun a ha=>by
     obtain⟨i,hil,rfl⟩:=List.getElem_of_mem ha
     have:(fE row args)[i]? = some (some x.l[i]):=by rw[bC];simp[hil]
     have hia:i<args.length:=by omega
     rw[iK,List.getElem?_map,List.getElem?_eq_getElem hia]at this
     simp only[Option.map_some,Option.some.injEq]at this
     exact(Dq i hia _ this).2
    have hg0:(x.l.map Go.Ex.AV.cs)[Int.toNat 0]? = some x.l[0].cs:=by
     show(x.l.map Go.Ex.AV.cs)[0]? = _
     rw[List.getElem?_map,List.getElem?_eq_getElem ct];rfl
    have qC:(fE row args).getD 0 none=some x.l[0]:=by
     rw[bC,List.getD_eq_getElem?_getD,List.getElem?_map,List.getElem?_eq_getElem ct];rfl
    refine⟨fun o=>?_,fun n12=>⟨fun o=>?_,fun n13=>⟨fun o=>?_,fun n16=>⟨fun hz=>?_,fun hz=>?_⟩⟩⟩⟩
    ·have o:op=12:=eq_of_beq o
     refine⟨⟨by decide,by rw[List.length_map];omega⟩,rfl,x.l[0].cs,hg0,_,_,_,_,_,rfl,rfl,bS (hZ (br x.l[0])),true,?_,by rw[ot];rfl⟩
     unfold nj
     rw[if_neg n1,if_neg n2,if_neg (by omega),if_pos o,qC]
     exact ec _
    ·have o:op=13:=eq_of_beq o
     refine⟨rfl,pT (x.l.any fun v=>v.aA),true,?_,rfl⟩
     unfold nj
     rw[if_neg n1,if_neg n2,if_neg (by omega),if_neg (by omega),if_neg (by omega),if_neg n14,if_neg n15,bC,all_map]
     dsimp only
     rw[if_pos o]
     exact ec _
    ·have o:op=16:=eq_of_beq o
     have hv:=oY _ (List.getElem_mem ct)
     refine⟨⟨by decide,by rw[List.length_map];omega⟩,rfl,x.l[0].cs,hg0,_,_,_,_,_,rfl,fun _=>hv.1,fun _=>hv.2,rfl,(ax x.l[0] t).1,(ax x.l[0] t).2==0,?_,rfl⟩
     unfold nj
     rw[if_neg n1,if_neg n2,if_neg (by omega),if_neg (by omega),if_pos o,qC]
     exact LP t _
    ·have n12:op≠12:=by simpa using n12
     have n13:op≠13:=by simpa using n13
     have n16:op≠16:=by simpa using n16
     refine⟨rfl,jW (ay (ak row) (.mk op sub t v args)).1,true,?_,rfl⟩
     unfold nj
     rw[if_neg n1,if_neg n2,if_neg (by omega),if_neg n12,if_neg n16,if_neg n14,if_neg n15,bC,all_map]
     dsimp only
     rw[if_neg n13,hz]
     exact ec _
    ·have n12:op≠12:=by simpa using n12
     have n13:op≠13:=by simpa using n13
     have n16:op≠16:=by simpa using n16
     refine⟨op,sub,t,v,args,(ay (ak row) (.mk op sub t v args)).1,x.l,rfl,rfl,rfl,⟨bT,oY,by omega,?_⟩,fun w ok hw=>⟨rfl,w,ok,?_,rfl⟩⟩
     ·rcases MR hm n1 n2 n10 n11 n12 n13 n14 n15 n16 with h|h|h|h
      ·exact .inl h
      ·exact .inr (.inl h)
      ·exact .inr (.inr (.inl h))
      ·exact .inr (.inr (.inr ⟨h,af7,har h⟩))
     ·unfold nj
      rw[if_neg n1,if_neg n2,if_neg (by omega),if_neg n12,if_neg n16,if_neg n14,if_neg n15,bC,all_map]
      dsimp only
      rw[if_neg n13,hz]
      exact hw
def MT(a:List R)(K:KT):Prop:=match a with
 |[.agg x,.d (.sl r),.d (.sl y)]=>∃(e:EX) (row:List Go.Ex.AV),r=row.map Go.Ex.AV.cs∧y=(ak row).map Ty.cs∧x=cells e∧dD row (size e+1) e∧dV row∧row.length≤4398046511104∧∀(w:Go.Ex.AV) (ok:Bool),Is (jk row e) w ok→K [.agg w.cs,.d (.v (.bool ok))] []
 |_=>False
theorem MU:CK gl MT 24:=fun a K h=>by
 unfold MT at h
 split at h
 ·obtain⟨e,row,rfl,rfl,rfl,h1,h2,h3,h4⟩:=h
  exact(af4 _ e row h1 h2 h3).mono fun res fin ⟨e1,w,ok,hi,e2⟩=>by subst e1;subst e2;exact h4 w ok hi
 ·exact h.elim
def af8(op sub:Int)(t:Ty)(v:Go.Ex.AV)(args:List EX)(row:List Go.Ex.AV)(u:Ty)(x:Nat):St:={tm:=[(1,.d (.sl (row.map Go.Ex.AV.cs))),(2,.ref 2 0),(4,.ref 4 0),(5,.d (.v (.int .i64 0))),(6,.d (.sl ((ak row).map Ty.cs))),(9,.d (.v (.int .i64 (x:Int))))],hp:=[(2,.box [.d (.v (.int .i64 op)),.d (.v (.int .i64 sub)),.d (.v (.int .i64 t.k)),.d (.v (.int .i64 t.sc)),.d (.v (.int .i64 v.t.k)),.d (.v (.int .i64 v.t.sc)),.d (.v (.bool v.aA)),.d (.v (.int .i64 v.n)),.d (.v (.string v.s)),.d (.sl (aa args))]),(4,.box [.d (.v (.int .i64 0)),.d (.v (.int .i64 0)),.d (.v (.bool false)),.d (.v (.int .i64 0)),.d (.v (.string {data:={toList:=[]:Array UInt8}:ByteArray}))]),(7,.box [.d (.v (.int .i64 u.k)),.d (.v (.int .i64 u.sc))])],kn:=[],gd:=[]}
def xE(row:List Go.Ex.AV)(m x:Nat):Prop:=x≤row.length∧m=row.length-x∧(row.take x).any mi=false
def Tt(op sub:Int)(t:Ty)(v:Go.Ex.AV)(args:List EX)(row:List Go.Ex.AV)(u:Ty):Fi:={ajX with lx:=[(6,{X:=Nat,sh:=af8 op sub t v args row u,P:=fun _=>xE row})]}
def Tu:aj:=au (au (au (au d_ 9 VB) 23 Vy) 10 QK) 24 MT
theorem MV:ah prog gl Tu:=af (af (af (af bh Qy) Qx) Dw) MU
def Ze0(a0:List Go.Ex.AV)(a1:Nat)(a2 a3:Int)(a4:Ty)(a5:Go.Ex.AV)(a6:List EX)(a7:Ty):St:={tm:=[(1,.d (.sl (List.map AV.cs a0))),(2,.ref 2 0),(4,.ref 4 0),(5,.i 0),(6,.d (.sl (List.map Ty.cs (ak a0)))),(9,.i (↑a1:Int))],hp:=[(2,.box [.i a2,.i a3,.i a4.1,.i a4.2,.i a5.1.1,.i a5.1.2,.d (.v (.bool a5.2)),.i a5.3,.d (.v (.string a5.4)),.d (.sl (aa a6))]),(4,.box [.i 0,.i 0,.d (.v (.bool false)),.i 0,.d (.v (.string ⟨⟨[]⟩⟩))]),(7,.box [.i a7.1,.i a7.2])],kn:=[],gd:=[]:St}
theorem amQ(op sub:Int)(t:Ty)(v:Go.Ex.AV)(args:List EX)(row:List Go.Ex.AV)(u:Ty)(Q:KT):vc bl Tu bf (Tt op sub t v args row u) (f11.body.getD .skip) f11.results.toList [.agg (aT op sub t v (aa args)),.d (.sl (row.map Go.Ex.AV.cs))] Q=(VA row fun cT=>Zgk op sub t v args cT Q fun dn f=>((f != (0:Int))=false→∃(x0:Nat),({tm:=[(1,.d (.sl (List.map AV.cs row))),(2,.ref 2 0),(4,.ref 4 0),(5,.i 0),(6,.d (.sl (List.map Ty.cs (ak cT)))),(9,.i 0)],hp:=[(2,.box [.i op,.i sub,.i t.1,.i t.2,.i v.1.1,.i v.1.2,.d (.v (.bool v.2)),.i v.3,.d (.v (.string v.4)),.d (.sl (aa args))]),(4,.box [.i 0,.i 0,.d (.v (.bool false)),.i 0,.d (.v (.string ⟨⟨[]⟩⟩))]),(7,.box [.i dn.1,.i dn.2])],kn:=[],gd:=[]:St}=(Ze0 row x0 op sub t v args u)∧∃(n:Nat),xE row n x0)∧∀(n:Nat) (x:Nat),xE row n x→NP row fun es=>(sy x es (cB row x fun aN aW b bO cD=>((bL aN aW b bO cD != (0:Int))=true→tA Q (140:Int))∧((bL aN aW b bO cD != (0:Int))=false→fG n fun m x'=>{tm:=[(1,.d (.sl (List.map AV.cs row))),(2,.ref 2 0),(4,.ref 4 0),(5,.i 0),(6,.d (.sl (List.map Ty.cs (ak row)))),(9,.i (IntKind.i64.wrap ((↑x:Int)+1)))],hp:=[(2,.box [.i op,.i sub,.i t.1,.i t.2,.i v.1.1,.i v.1.2,.d (.v (.bool v.2)),.i v.3,.d (.v (.string v.4)),.d (.sl (aa args))]),(4,.box [.i 0,.i 0,.d (.v (.bool false)),.i 0,.d (.v (.string ⟨⟨[]⟩⟩))]),(7,.box [.i u.1,.i u.2])],kn:=[],gd:=[]:St}=(Ze0 row x' op sub t v args u)∧xE row m x')))∧(qE x es (∃(e:EX),S9 row fun p0=>List.map Ty.cs (ak row)=List.map Ty.cs (ak p0)∧qj op sub t v args e p0 Q)))):=by kernel_rfl
theorem amR:∀(e:EX) (row:List Go.Ex.AV) (hf:fits e) (hi:vU row) (jl:row.length≤4398046511104),
  Ct prog gl 11 [.agg (cells e),.d (.sl (row.map Go.Ex.AV.cs))] (gives [.agg (dq row e).1.cs,.d (.v (.int .i64 (dq row e).2))])
 | .mk op sub t v args,row,hf,hi,jl=>by
   have hc:aT op sub t v (aa args)=cells (.mk op sub t v args):=(ab _ _ _ _ _).symm
   rw[ab]
   refine aw bN MV aF bD mixed (fn:=f11) (body:=f11.body.getD .skip) (by kernel_rfl) (by kernel_rfl) (by kernel_rfl) (fi:=Tt op sub t v args row (aV (ak row) (.mk op sub t v args)).1) (by kernel_rfl) (by kernel_rfl) ⟨_,_,rfl,rfl⟩ ?_
   rw[amQ];dsimp -eta -iota -proj only[VA,S9,Zgk,Fl,zC,Z1,Z8,Ze0,NP,fy,sy,cB,Ay,Zbx,PU,tA,fG,fb,qE,qj,LM,LN]
   have AB:(ak row).length=row.length:=by simp[ak]
   refine⟨row,rfl,by omega,.mk op sub t v args,ak row,hc,rfl,hf,by omega,fun t1 ff hk=>⟨fun h=>?_,fun h=>?_⟩⟩
   ·have EK:dq row (.mk op sub t v args)=(zeroV,ff):=by
       unfold dq
       rw[hk]
       dsimp only
       rw[h,cond_true]
    rw[EK]
    exact⟨rfl,rfl⟩
   ·have hff:ff=0:=by simpa using h
    subst hff
    rw[hk]
    refine⟨(0:Nat),⟨rfl,row.length,Nat.zero_le _,rfl,rfl⟩,fun m (x:Nat) hx=>?_⟩
    obtain⟨x1,x2,x3⟩:=hx
    refine⟨row.map Go.Ex.AV.cs,rfl,fun qa=>?_,fun qa=>?_⟩
    ·have qa:=of_decide_eq_true qa
     rw[List.length_map]at qa
     have hlt:x<row.length:=by omega
     refine⟨row.map Go.Ex.AV.cs,rfl,⟨by omega,by rw[List.length_map];omega⟩,(row[x]).cs,by rw[Int.toNat_natCast,List.getElem?_map,List.getElem?_eq_getElem hlt];rfl,rfl,_,_,_,_,_,rfl,fun hb=>?_,fun hb=>?_⟩
     ·have B5:row.any mi=true:=List.any_eq_true.2 ⟨row[x],List.getElem_mem hlt,by
       rw[←Bool.not_eq_false,sZ,←gN]
       simpa using hb⟩
      have EK:dq row (.mk op sub t v args)=(zeroV,140):=by
       unfold dq
       rw[hk]
       dsimp only
       rw[B5]
       rfl
      rw[EK]
      exact⟨rfl,rfl⟩
     ·have hv:mi row[x]=false:=by
       rw[sZ,←gN]
       simpa using hb
      refine⟨row.length-(x+1),x+1,by omega,by rw[aL (by omega)],hlt,rfl,?_⟩
      rw[List.take_add_one,List.getElem?_eq_getElem hlt,Option.toList_some,List.any_append,x3]
      simp[hv]
    ·have qa:=of_decide_eq_false qa
     rw[List.length_map]at qa
     rw[List.take_of_length_le (by omega)]at x3
     have hm:=iN (ae:=ak row) (e:=.mk op sub t v args) (by rw[hk])
     rw[AB]at hm
     have XZ:=zi x3 hi
     refine⟨.mk op sub t v args,row,rfl,rfl,hc,⟨Nat.lt_succ_self _,hf,hm.1,hm.2⟩,XZ,jl,fun w ok hw=>?_⟩
     have EK:dq row (.mk op sub t v args)=bif !ok then(zeroV,141)else(w,0):=by
      unfold dq
      rw[hk]
      dsimp only
      rw[x3]
      cases ok with
      |false=>rw[fc hw];rfl
      |true=>rw[dc hw];rfl
     rw[EK]
     refine⟨fun h=>?_,fun h=>?_⟩
     ·rw[h];exact⟨rfl,rfl⟩
     ·rw[h];exact⟨rfl,rfl⟩
def VP(a:List R)(K:KT):Prop:=match a with
 |[.agg x,.d (.sl y)]=>∃(e:EX) (row:List Go.Ex.AV),x=cells e∧y=row.map Go.Ex.AV.cs∧fits e∧vU row∧row.length≤4398046511104∧∀(w:Go.Ex.AV) (f:Int),dq row e=(w,f)→K [.agg w.cs,.d (.v (.int .i64 f))] []
 |_=>False
theorem QO:CK gl VP 11:=fun a K h=>by
 unfold VP at h
 split at h
 ·obtain⟨e,row,rfl,rfl,h1,h2,h3,h4⟩:=h
  exact(amR e row h1 h2 h3).gives (h4 _ _ rfl)
 ·exact h.elim
end Go.Proofs.Tryz
namespace Go.Proofs.Tryz
open Go Go.Dm Go.Ex
def aY(v:Go.Ex.AV):EX:=.mk 2 0 ⟨0,0⟩ v []
def pj:EX→Bool→Bool
 | .mk op _ _ v _,b=>bif op==2 then v.t.k==1&&(v.t.sc==0&&(v.aA==false&&(v.n==nO b&&(v.s==eB&&true))))else false
def fq(op:Int)(a b x:EX):EX:=bif pj a (op==10)then b else bif pj a (!(op==10))then a else bif pj b (op==10)then a else x
def pk(a x:EX):EX:=
 match a with
 | .mk op sub t v l=>if op=12 then l.headD x else if op=9 then .mk op (jd sub) t v l else x
def cm:List EX→List EX×EX
 |[]=>([],aY zeroV)
 |[x]=>([],x)
 |c::x::r=>bif pj c true then([],x)else bif EX.op c==2 then cm r else(c::x::(cm r).1,(cm r).2)
def dF(sub:Int)(t:Ty)(v:Go.Ex.AV)(l:List EX):EX:=if(cm l).1=[]then(cm l).2 else .mk 14 sub t v ((cm l).1++[(cm l).2])
def iw(a b:Ty):Bool:=a.k==b.k&&(a.sc==b.sc&&true)
def kF(ae:List Ty)(x y:EX):EX:=bif (aV ae y).2==0 then(bif iw (aV ae y).1 (aV ae x).1 then y else x)else x
def qu(l:List EX):Bool:=!l.isEmpty&&l.all fun a=>EX.op a==2
noncomputable def VQ(ae:List Ty)(op sub:Int)(t:Ty)(v:Go.Ex.AV)(l:List EX):EX:=
 bif (bif qu l then(dq [] (.mk op sub t v l)).2==0 else false)then aY (dq [] (.mk op sub t v l)).1
 else if op=10∨op=11 then fq op (l.getD 0 (aY zeroV)) (l.getD 1 (aY zeroV)) (.mk op sub t v l)
 else if op=12 then pk (l.getD 0 (aY zeroV)) (.mk op sub t v l)
 else if op=14 then kF ae (.mk op sub t v l) (dF sub t v l)
 else if op=16 then(bif iw (aV ae (l.getD 0 (aY zeroV))).1 t then l.getD 0 (aY zeroV)else .mk op sub t v l)
 else .mk op sub t v l
mutual
noncomputable def tR(ae:List Ty):EX→EX
 | .mk op sub t v args=>VQ ae op sub t v (pn ae args)
noncomputable def pn(ae:List Ty):List EX→List EX
 |[]=>[]
 |e::r=>tR ae e::pn ae r
end
theorem ri(ae:List Ty):∀l:List EX,pn ae l=l.map (tR ae)
 |[]=>by simp only[pn,List.map_nil]
 |e::r=>by simp only[pn,ri ae r,List.map_cons]
theorem rj(ae:List Ty)(l:List EX):(pn ae l).length=l.length:=by rw[ri,List.length_map]
def Pe(c:Int)(e:EX):Prop:=fits e∧cu c e=true
theorem MW{l:List EX}(h:∀a∈l,fits a):eY l:=by
 induction l with
 |nil=>simp[eY]
 |cons a r ih=>simp only[eY];exact⟨h a (by simp),ih fun b hb=>h b (by simp[hb])⟩
theorem ef{c:Int}{op sub:Int}{t:Ty}{v:Go.Ex.AV}{l:List EX}:Pe c (.mk op sub t v l)↔((ar op∧ar sub∧ar t.k∧ar t.sc∧ar v.t.k∧ar v.t.sc∧ar v.n)∧l.length≤1353245080300)∧bE op sub t v (l.length:Int) c=true∧∀a∈l,Pe c a:=by
 constructor
 ·rintro⟨h1,h2⟩
  obtain⟨g1,g2,g3⟩:=ee h1
  obtain⟨m1,m2⟩:=sU h2
  exact⟨⟨g1,g2⟩,m1,fun a ha=>⟨cZ g3 ha,sY m2 a ha⟩⟩
 ·rintro⟨⟨h1,h2⟩,h3,h4⟩
  refine⟨?_,?_⟩
  ·simp only[fits]
   exact⟨h1,h2,MW fun a ha=>(h4 a ha).1⟩
  ·simp only[cu,Bool.and_eq_true]
   rw[ag]
   refine⟨h3,?_⟩
   rw[fV,List.all_eq_true]
   exact fun a ha=>(h4 a ha).2
theorem B8{e:EX}(hf:fits e)(h:(dq [] e).2=0):∃w,jk [] e=some w∧dq [] e=(w,0)∧db w∧ar w.n∧(aV [] e).2=0:=by
 unfold dq at h ⊢
 have ht:ak []=[]:=rfl
 rw[ht]at h ⊢
 cases hc:(aV [] e).2 != 0
 ·rw[hc]at h
  simp only[cond_false,List.any_nil]at h ⊢
  have hc0:(aV [] e).2=0:=by simpa using hc
  have hm:=iN (ae:=[]) (e:=e) hc0
  cases hv:jk [] e with
  |none=>rw[hv]at h;cases h
  |some w=>
   have hg:=pf (row:=[]) (fun v hv=>by cases hv) hf hm.1 hm.2 hv
   exact⟨w,rfl,rfl,hg.2.1,hg.2.2,hc0⟩
 ·rw[hc]at h
  simp only[cond_true]at h
  rw[h]at hc
  cases hc
theorem MX{c:Int}{w:Go.Ex.AV}(h:db w)(hn:ar w.n):Pe c (aY w):=by
 unfold aY
 have z:ar 0:=⟨by decide,by decide⟩
 have hk:=h.1
 refine ef.2 ⟨⟨⟨⟨by decide,by decide⟩,z,z,z,⟨by have:=hk.1;omega,by have:=hk.2.1;omega⟩,⟨by have:=hk.2.2.1;omega,by have:=hk.2.2.2.1;omega⟩,hn⟩,by decide⟩,?_,fun a ha=>by cases ha⟩
 have:bL w.t.k w.t.sc w.aA w.n w.s=0:=gN.2 h
 unfold bE
 rw[this]
 rfl
theorem ox{l:List EX}{i:Nat}{d:EX}(h:i<l.length):l.getD i d∈l:=by
 rw[List.getD_eq_getElem?_getD,List.getElem?_eq_getElem h]
 exact List.getElem_mem h
theorem B9(op:Int)(a b x:EX):fq op a b x=a∨fq op a b x=b∨fq op a b x=x:=by
 unfold fq
 cases pj a (op==10)<;>cases pj a (!(op==10))<;>cases pj b (op==10)<;>simp
theorem s9{s:Int}(h:1≤s∧s≤6):1≤jd s∧jd s≤6:=by
 have:s=1∨s=2∨s=3∨s=4∨s=5∨s=6:=by omega
 rcases this with rfl|rfl|rfl|rfl|rfl|rfl<;>decide
theorem oy{sub:Int}{t:Ty}{v:Go.Ex.AV}{m c:Int}(h:bE 9 sub t v m c=true):m=2∧1≤sub∧sub≤6:=by
 unfold bE at h
 have h1:=bt (bt (bt h).1).1
 have h2:=bt h1.2
 exact⟨eq_of_beq h1.1,of_decide_eq_true h2.1,of_decide_eq_true h2.2⟩
theorem xF{sub:Int}{t:Ty}{v:Go.Ex.AV}{m c:Int}(h:bE 9 sub t v m c=true):bE 9 (jd sub) t v m c=true:=by
 have hs:=oy h
 have ht:=s9 hs.2
 unfold bE at h ⊢
 have e:(bif decide (jd sub≥1)then decide (jd sub≤6)else false)=(bif decide (sub≥1)then decide (sub≤6)else false):=by
  rw[decide_eq_true ht.1,decide_eq_true ht.2,decide_eq_true hs.2.1,decide_eq_true hs.2.2]
 rw[e]
 exact h
theorem VS{c:Int}{a x:EX}(ha:Pe c a)(hx:Pe c x):Pe c (pk a x):=by
 obtain⟨op,sub,t,v,l⟩:=a
 unfold pk
 dsimp only
 obtain⟨h1,h2,h3⟩:=ef.1 ha
 split
 ·rename_i o
  subst o
  cases l with
  |nil=>exact hx
  |cons b r=>exact h3 b (by simp)
 ·split
  ·rename_i o
   subst o
   have hs:=oy h2
   have ht:=s9 hs.2
   exact ef.2 ⟨⟨⟨h1.1.1,⟨by omega,by omega⟩,h1.1.2.2⟩,h1.2⟩,xF h2,h3⟩
  ·exact hx
theorem wh:∀(l:List EX),l.length % 2=1→(cm l).1.length % 2=0∧(cm l).1.length+1≤l.length
 |[],h=>by cases h
 |[x],h=>by simp[cm]
 |c::x::r,h=>by
  have hr:r.length % 2=1:=by simp only[List.length_cons]at h;omega
  have ih:=wh r hr
  unfold cm
  obtain⟨i1,i2⟩:=ih
  cases pj c true
  ·cases c.op==2
   ·simp only[cond_false]
    refine⟨?_,?_⟩<;>simp only[List.length_cons]<;>omega
   ·simp only[cond_false,cond_true]
    refine⟨?_,?_⟩<;>(try simp only[List.length_cons])<;>omega
  ·simp only[cond_true]
   refine⟨?_,?_⟩<;>simp only[List.length_cons,List.length_nil]<;>omega
theorem wi:∀(l:List EX),l.length % 2=1→(∀a∈(cm l).1,a∈l)∧(cm l).2∈l
 |[],h=>by cases h
 |[x],h=>⟨fun a ha=>(by simp[cm]at ha),by simp[cm]⟩
 |c::x::r,h=>by
  have hr:r.length % 2=1:=by simp only[List.length_cons]at h;omega
  have ih:=wi r hr
  unfold cm
  cases pj c true
  ·cases c.op==2
   ·simp only[cond_false]
    refine⟨fun a ha=>?_,by simp[ih.2]⟩
    rcases List.mem_cons.1 ha with rfl|ha
    ·simp
    ·rcases List.mem_cons.1 ha with rfl|ha
     ·simp
     ·simp[ih.1 a ha]
   ·simp only[cond_false,cond_true]
    exact⟨fun a ha=>by simp[ih.1 a ha],by simp[ih.2]⟩
  ·simp only[cond_true]
   exact⟨fun a ha=>(by cases ha),by simp⟩
theorem jA{c:Int}{sub:Int}{t:Ty}{v:Go.Ex.AV}{l:List EX}(h:Pe c (.mk 14 sub t v l)):Pe c (dF sub t v l):=by
 obtain⟨h1,h2,h3⟩:=ef.1 h
 have hm:=lH h2
 rw[Int.tmod_eq_emod_of_nonneg (by omega)]at hm
 have ho:l.length % 2=1:=by omega
 have hl:=wh l ho
 have Ef:=wi l ho
 unfold dF
 split
 ·exact h3 _ Ef.2
 ·rename_i bT
  have ct:0<(cm l).1.length:=List.length_pos_iff.2 bT
  refine ef.2 ⟨⟨h1.1,by simp;omega⟩,?_,fun a ha=>?_⟩
  ·have e:((((cm l).1++[(cm l).2]).length:Nat):Int)=((cm l).1.length:Int)+1:=by simp
   unfold bE at h2 ⊢
   have q:(bif decide ((((cm l).1++[(cm l).2]).length:Int)≥3)then((((cm l).1++[(cm l).2]).length:Int)).tmod 2 != 0 else false)=(bif decide ((l.length:Int)≥3)then(l.length:Int).tmod 2 != 0 else false):=by
    rw[e,decide_eq_true (by omega),decide_eq_true (by omega),cond_true,cond_true,Int.tmod_eq_emod_of_nonneg (by omega),Int.tmod_eq_emod_of_nonneg (by omega)]
    rw[Bool.eq_iff_iff]
    simp only[bne_iff_ne]
    omega
   rw[q]
   exact h2
  ·rcases List.mem_append.1 ha with ha|ha
   ·exact h3 _ (Ef.1 a ha)
   ·rw[List.mem_singleton.1 ha];exact h3 _ Ef.2
theorem VT{c:Int}{ae:List Ty}{op sub:Int}{t:Ty}{v:Go.Ex.AV}{l:List EX}(h:Pe c (.mk op sub t v l)):Pe c (VQ ae op sub t v l):=by
 obtain⟨h1,h2,h3⟩:=ef.1 h
 unfold VQ
 cases hA:(bif qu l then(dq [] (.mk op sub t v l)).2==0 else false)
 ·simp only[cond_false]
  split
  ·rename_i ho
   have hm:=dQ h2 ho
   have m0:=h3 _ (ox (d:=aY zeroV) (show 0<l.length by omega))
   have m1:=h3 _ (ox (d:=aY zeroV) (show 1<l.length by omega))
   rcases B9 op (l.getD 0 (aY zeroV)) (l.getD 1 (aY zeroV)) (.mk op sub t v l)with e|e|e<;>rw[e]
   ·exact m0
   ·exact m1
   ·exact h
  split
  ·rename_i ho
   have hp:=b8 h2 (by omega) (by omega)
   exact VS (h3 _ (ox (show 0<l.length by omega))) h
  split
  ·rename_i ho
   subst ho
   unfold kF
   cases(aV ae (dF sub t v l)).2==0
   ·exact h
   ·simp only[cond_true]
    cases iw (aV ae (dF sub t v l)).1 (aV ae (.mk 14 sub t v l)).1
    ·exact h
    ·exact jA h
  split
  ·rename_i ho
   have hp:=b8 h2 (by omega) (by omega)
   cases iw (aV ae (l.getD 0 (aY zeroV))).1 t
   ·exact h
   ·exact h3 _ (ox (show 0<l.length by omega))
  ·exact h
 ·simp only[cond_true]
  have he:(dq [] (.mk op sub t v l)).2=0:=by
   cases hx:qu l
   ·rw[hx]at hA;cases hA
   ·rw[hx]at hA;exact eq_of_beq hA
  obtain⟨w,_,e2,g1,g2,_⟩:=B8 h.1 he
  rw[e2]
  exact MX g1 g2
mutual
theorem MY{c:Int}{ae:List Ty}:∀{e:EX},Pe c e→Pe c (tR ae e)
 | .mk op sub t v args,h=>by
   simp only[tR]
   obtain⟨h1,h2,h3⟩:=ef.1 h
   have hl:=rj ae args
   exact VT (ef.2 ⟨⟨h1.1,by rw[hl];exact h1.2⟩,by rw[hl];exact h2,xG h3⟩)
theorem xG{c:Int}{ae:List Ty}:∀{l:List EX},(∀a∈l,Pe c a)→∀a∈pn ae l,Pe c a
 |[],_,a,ha=>by simp only[pn]at ha;cases ha
 |e::r,h,a,ha=>by
  simp only[pn]at ha
  rcases List.mem_cons.1 ha with rfl|ha
  ·exact MY (h e (by simp))
  ·exact xG (fun b hb=>h b (by simp[hb])) a ha
end
end Go.Proofs.Tryz
