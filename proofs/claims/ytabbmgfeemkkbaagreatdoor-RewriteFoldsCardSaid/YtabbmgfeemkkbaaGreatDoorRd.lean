/- Part of the proof: contracts of functions; no condition. -/
import Derived.Test.YtabbmgfeemkkbaaGreatDoorE7
namespace Go.Proofs.Tryz
open Go Go.Dm Go.Ex
set_option maxRecDepth 100000
variable {gl:Nat→Option Obj}
def dD(row:List Go.Ex.AV)(n:Nat)(e:EX):Prop:=size e<n∧fits e∧cu row.length e=true∧(ay (ak row) e).2=true
def Is{α:Type}(o:Option α)(w:α)(ok:Bool):Prop:=ok=o.isSome∧∀a,o=some a→w=a
noncomputable def Fw(row:List Go.Ex.AV)(e:EX):Option Int:=(jk row e).map br
noncomputable def Vo(row:List Go.Ex.AV)(t:Ty)(e:EX):Option Go.Ex.AV:=(jk row e).bind (xT t)
def Dn(n:Nat)(a:List R)(K:KT):Prop:=match a with
 |[.ptr [.sl r,.sl y],.agg x]=>∃(e:EX) (row:List Go.Ex.AV),r=row.map Go.Ex.AV.cs∧y=(ak row).map Ty.cs∧x=cells e∧dD row n e∧dV row∧row.length≤4398046511104∧∀(w:Go.Ex.AV) (ok:Bool),Is (jk row e) w ok→K [.agg w.cs,.d (.v (.bool ok))] []
 |_=>False
def sW(n:Nat)(a:List R)(K:KT):Prop:=match a with
 |[.ptr [.sl r,.sl y],.agg x]=>∃(e:EX) (row:List Go.Ex.AV),r=row.map Go.Ex.AV.cs∧y=(ak row).map Ty.cs∧x=cells e∧dD row n e∧dV row∧row.length≤4398046511104∧∀(tr:Int) (ok:Bool),Is (Fw row e) tr ok→K [.d (.v (.int .i64 tr)),.d (.v (.bool ok))] []
 |_=>False
def BM(n:Nat)(a:List R)(K:KT):Prop:=match a with
 |[.ptr [.sl r,.sl y],.agg x,.agg z]=>∃(e:EX) (row:List Go.Ex.AV) (t:Ty),r=row.map Go.Ex.AV.cs∧y=(ak row).map Ty.cs∧x=cells e∧z=t.cs∧dD row n e∧dV row∧row.length≤4398046511104∧∀(w:Go.Ex.AV) (ok:Bool),Is (Vo row t e) w ok→K [.agg w.cs,.d (.v (.bool ok))] []
 |_=>False
def BN(n:Nat)(a:List R)(K:KT):Prop:=match a with
 |[.ptr [.sl r,.sl y],.agg x]=>∃(op sub:Int) (t:Ty) (v:Go.Ex.AV) (args:List EX) (row:List Go.Ex.AV),r=row.map Go.Ex.AV.cs∧y=(ak row).map Ty.cs∧x=aT op sub t v (aa args)∧(op=10∨op=11)∧args.length=2∧(∀e∈args,dD row n e)∧dV row∧row.length≤4398046511104∧∀(w:Go.Ex.AV) (ok:Bool),Is (gf op (fE row args)) w ok→K [.agg w.cs,.d (.v (.bool ok))] []
 |_=>False
def sX(n:Nat):aj:=au oe 77 (Dn n)
def LM(a0:List AV)(k:AV→Bool→Prop):Prop:=dV a0∧a0.length≤4398046511104∧∀(w:AV) (ok:Bool),k w ok
def Zis(a0 a1:List (List D))(a2 a3:Int)(a4:Ty)(a5:Go.Ex.AV)(a6:List EX)(a7:Nat)(k:AV→Bool→Prop):Prop:=∃(e:EX),∃(row:List AV),a0=List.map AV.cs row∧a1=List.map Ty.cs (ak row)∧zC a2 a3 a4 a5 a6 e (dD row a7 e∧LM row fun w ok=>Is (jk row e) w ok→k w ok)
theorem Vp(n:Nat)(op sub:Int)(t:Ty)(v:Go.Ex.AV)(args:List EX)(r y:List (List D))(Q:KT):vc zH (sX n) bf Rm (f101.body.getD .skip) f101.results.toList [.ptr [.sl r,.sl y],.agg (aT op sub t v (aa args))] Q=(Zis r y op sub t v args n fun w ok=>Q [.d (.i (o4 w.1.1 w.1.2 w.2 w.3 w.4)),.d (.v (.bool ok))] []):=by kernel_rfl
def LN(a0:AV):List D:=[.i a0.1.1,.i a0.1.2,.v (.bool a0.2),.i a0.3,.v (.string a0.4)]
theorem Vq(n:Nat)(op sub:Int)(t:Ty)(v:Go.Ex.AV)(args:List EX)(r y:List (List D))(u:Ty)(Q:KT):vc zH (sX n) bf Rp (f104.body.getD .skip) f104.results.toList [.ptr [.sl r,.sl y],.agg (aT op sub t v (aa args)),.agg u.cs] Q=(Zis r y op sub t v args n fun w ok=>((!ok)=true→Q [.agg (LN w),.d (.v (.bool false))] [])∧((!ok)=false→db {t:={k:=w.1.1,sc:=w.1.2:Ty},aA:=w.2,n:=w.3,s:=w.4:AV}∧ar w.3∧Q [.agg [.v (.int .i64 (ax {t:={k:=w.1.1,sc:=w.1.2:Ty},aA:=w.2,n:=w.3,s:=w.4:AV} {k:=u.1,sc:=u.2:Ty}).1.1.1),.v (.int .i64 (ax {t:={k:=w.1.1,sc:=w.1.2:Ty},aA:=w.2,n:=w.3,s:=w.4:AV} {k:=u.1,sc:=u.2:Ty}).1.1.2),.v (.bool (ax {t:={k:=w.1.1,sc:=w.1.2:Ty},aA:=w.2,n:=w.3,s:=w.4:AV} {k:=u.1,sc:=u.2:Ty}).1.2),.v (.int .i64 (ax {t:={k:=w.1.1,sc:=w.1.2:Ty},aA:=w.2,n:=w.3,s:=w.4:AV} {k:=u.1,sc:=u.2:Ty}).1.3),.v (.string (ax {t:={k:=w.1.1,sc:=w.1.2:Ty},aA:=w.2,n:=w.3,s:=w.4:AV} {k:=u.1,sc:=u.2:Ty}).1.4)],.d (.v (.bool ((ax {t:={k:=w.1.1,sc:=w.1.2:Ty},aA:=w.2,n:=w.3,s:=w.4:AV} {k:=u.1,sc:=u.2:Ty}).2==(0:Int))))] [])):=by kernel_rfl
def xu(n:Nat):aj:=au oe 101 (sW n)
def Qt(a0:List EX)(a1:Int)(k:(List D)→Prop):Prop:=gS a0 fun es=>uD a1 es fun cells=>k cells
def S5(a0:List D)(k:Int→Int→Int→Int→Int→Int→Bool→Int→ByteArray→(List (List D))→EX→(List AV)→Prop):Prop:=Zy a0 fun aN aW bO dv c_ fS b gI cD es e=>∃(row:List AV),k aN aW bO dv c_ fS b gI cD es e row
def Z5(a0:List D)(a1 a2:List (List D))(a3:Nat)(k:EX→(List AV)→Prop):Prop:=S5 a0 fun aN aW bO dv c_ fS b gI cD es e row=>a1=List.map AV.cs row∧a2=List.map Ty.cs (ak row)∧lU aN aW bO dv c_ fS b gI cD es e (dD row a3 e∧dV row∧row.length≤4398046511104∧k e row)
def Zbr(a0:List EX)(a1:Int)(a2 a3:List (List D))(a4:Nat)(k:Int→Bool→Prop):Prop:=Qt a0 a1 fun cells=>Z5 cells a2 a3 a4 fun e row=>∀(tr:Int) (ok:Bool),Is (Fw row e) tr ok→k tr ok
def Zc7(a0:List EX)(a1 a2:List (List D))(a3:Nat)(a4:Int)(a5:KT)(k:Int→Bool→Prop):Prop:=Zbr a0 (0:Int) a1 a2 a3 fun tr ok=>((bif !ok then true else tr==a4)=true→a5 [.agg [.v (.int .i64 (bS tr).1.1),.v (.int .i64 (bS tr).1.2),.v (.bool (bS tr).2),.v (.int .i64 (bS tr).3),.v (.string (bS tr).4)],.d (.v (.bool ok))] [])∧k tr ok
def Zdp(a0:Bool)(a1 a2:Int)(a3:List EX)(a4 a5:List (List D))(a6:Nat)(k:Int→Bool→Prop):Prop:=(bif !a0 then true else a1==a2)=false→Zbr a3 (1:Int) a4 a5 a6 fun pg ok=>k pg ok
theorem Vr(n:Nat)(op sub:Int)(t:Ty)(v:Go.Ex.AV)(args:List EX)(r y:List (List D))(Q:KT):vc zH (xu n) bf Rl (f100.body.getD .skip) f100.results.toList [.ptr [.sl r,.sl y],.agg (aT op sub t v (aa args))] Q=(((op==11)=true→Zc7 args r y n (1:Int) Q fun tr ok=>(Zdp ok tr (1:Int) args r y n fun pg ok=>Q [.agg [.v (.int .i64 (bS (fT tr pg)).1.1),.v (.int .i64 (bS (fT tr pg)).1.2),.v (.bool (bS (fT tr pg)).2),.v (.int .i64 (bS (fT tr pg)).3),.v (.string (bS (fT tr pg)).4)],.d (.v (.bool ok))] []))∧((op==11)=false→Zc7 args r y n (0:Int) Q fun tr ok=>(Zdp ok tr (0:Int) args r y n fun pg ok=>Q [.agg [.v (.int .i64 (bS (gw tr pg)).1.1),.v (.int .i64 (bS (gw tr pg)).1.2),.v (.bool (bS (gw tr pg)).2),.v (.int .i64 (bS (gw tr pg)).3),.v (.string (bS (gw tr pg)).4)],.d (.v (.bool ok))] []))):=by kernel_rfl
theorem pZ{α:Type}(o:Option α)(d:α):∃w ok,Is o w ok:=by
 cases o with
 |none=>exact⟨d,false,rfl,fun a h=>by cases h⟩
 |some a=>exact⟨a,true,rfl,fun b h=>by cases h;rfl⟩
theorem LO{α β:Type}{f:α→β}{o:Option α}{w:α}{ok:Bool}(h:Is o w ok):Is (o.map f) (f w) ok:=by
 obtain⟨h1,h2⟩:=h
 cases o with
 |none=>exact⟨h1,fun a h=>by cases h⟩
 |some a=>exact⟨h1,fun b hb=>by simp only[Option.map_some,Option.some.injEq]at hb;rw[h2 a rfl,hb]⟩
theorem fc{α:Type}{o:Option α}{w:α}(h:Is o w false):o=none:=by
 cases o with
 |none=>rfl
 |some a=>cases h.1
theorem dc{α:Type}{o:Option α}{w:α}(h:Is o w true):o=some w:=by
 cases o with
 |none=>cases h.1
 |some a=>rw[h.2 a rfl]
theorem LP(t:Ty)(w:Go.Ex.AV):Is (xT t w) (ax w t).1 ((ax w t).2==0):=by
 unfold xT
 cases(ax w t).2==0
 ·exact⟨rfl,fun a h=>by cases h⟩
 ·exact⟨rfl,fun a h=>by simp only[cond_true,Option.some.injEq]at h;exact h⟩
theorem j6{α:Type}(w:α):Is (none:Option α) w false:=⟨rfl,fun a h=>by cases h⟩
theorem ec{α:Type}(w:α):Is (some w) w true:=⟨rfl,fun a h=>by cases h;rfl⟩
theorem Vs(G:aZ gl)(n:Nat)(hC:ah prog gl (sX n))(e:EX)(row:List Go.Ex.AV)(hs:dD row n e)(hr:dV row)(jl:row.length≤4398046511104):
  Ct prog gl 101 [.ptr [.sl (row.map Go.Ex.AV.cs),.sl ((ak row).map Ty.cs)],.agg (cells e)] (fun res fin=>fin=[]∧∃(tr:Int) (ok:Bool),Is (Fw row e) tr ok∧res=[.d (.v (.int .i64 tr)),.d (.v (.bool ok))]):=by
 obtain⟨op,sub,t,v,args⟩:=e
 rw[ab]
 refine aw (E:=zH) ⟨bN.te⟩ hC aF (fun _ _ _ h=>h.elim) mixed (fn:=f101) (body:=f101.body.getD .skip) (by kernel_rfl) (by kernel_rfl) (by kernel_rfl) (fi:=Rm) (by kernel_rfl) (by kernel_rfl) (let ⟨tr,ok,h⟩:=pZ (Fw row (.mk op sub t v args)) 0;⟨_,_,rfl,tr,ok,h,rfl⟩) ?_
 rw[Vp];dsimp -eta -iota -proj only[Zis,zC,Z1,LM]
 exact⟨.mk op sub t v args,row,rfl,rfl,(ab _ _ _ _ _).symm,hs,hr,jl,fun w ok hi=>⟨rfl,_,_,LO hi,rfl⟩⟩
theorem Vt(G:aZ gl)(n:Nat)(hC:ah prog gl (sX n))(e:EX)(row:List Go.Ex.AV)(u:Ty)(hs:dD row n e)(hr:dV row)(jl:row.length≤4398046511104):
  Ct prog gl 104 [.ptr [.sl (row.map Go.Ex.AV.cs),.sl ((ak row).map Ty.cs)],.agg (cells e),.agg u.cs] (fun res fin=>fin=[]∧∃(w:Go.Ex.AV) (ok:Bool),Is (Vo row u e) w ok∧res=[.agg w.cs,.d (.v (.bool ok))]):=by
 obtain⟨op,sub,t,v,args⟩:=e
 rw[ab]
 refine aw (E:=zH) ⟨bN.te⟩ hC aF (fun _ _ _ h=>h.elim) mixed (fn:=f104) (body:=f104.body.getD .skip) (by kernel_rfl) (by kernel_rfl) (by kernel_rfl) (fi:=Rp) (by kernel_rfl) (by kernel_rfl) (let ⟨tr,ok,h⟩:=pZ (Vo row u (.mk op sub t v args)) zeroV;⟨_,_,rfl,tr,ok,h,rfl⟩) ?_
 rw[Vq];dsimp -eta -iota -proj only[Zis,zC,Z1,LM,LN]
 refine⟨.mk op sub t v args,row,rfl,rfl,(ab _ _ _ _ _).symm,hs,hr,jl,fun w ok hi=>⟨fun h=>?_,fun h=>?_⟩⟩<;>unfold Vo
 ·have:ok=false:=by simpa using h
  subst this
  rw[fc hi]
  exact⟨rfl,w,false,j6 w,rfl⟩
 ·have:ok=true:=by simpa using h
  subst this
  have he:=dc hi
  have hg:=pf hr hs.2.1 hs.2.2.1 hs.2.2.2 he
  rw[he]
  exact⟨hg.2.1,hg.2.2,rfl,(ax w u).1,_,LP u w,rfl⟩
theorem EI(G:aZ gl)(n:Nat)(hC:ah prog gl (sX n))(a:List R)(K:KT)(h:sW n a K):Ct prog gl 101 a K:=by
 unfold sW at h
 split at h
 ·obtain⟨e,row,rfl,rfl,rfl,h1,h2,h3,h4⟩:=h
  exact(Vs G n hC e row h1 h2 h3).mono fun res fin ⟨e1,tr,ok,hi,e2⟩=>by subst e1;subst e2;exact h4 tr ok hi
 ·exact h.elim
theorem EJ(G:aZ gl)(n:Nat)(hC:ah prog gl (sX n))(a:List R)(K:KT)(h:BM n a K):Ct prog gl 104 a K:=by
 unfold BM at h
 split at h
 ·obtain⟨e,row,t,rfl,rfl,rfl,rfl,h1,h2,h3,h4⟩:=h
  exact(Vt G n hC e row t h1 h2 h3).mono fun res fin ⟨e1,tr,ok,hi,e2⟩=>by subst e1;subst e2;exact h4 tr ok hi
 ·exact h.elim
theorem LQ{op:Int}{r:List (Option Go.Ex.AV)}:gf op (none::r)=none:=rfl
theorem Dp{op:Int}{a:Go.Ex.AV}{r:List (Option Go.Ex.AV)}(h:(br a==(if op=11 then 1 else 0))=true):gf op (some a::r)=some (bS (br a)):=by
 show(bif br a==(if op=11 then 1 else 0)then _ else _)=_
 rw[h];rfl
theorem xw{op:Int}{a:Go.Ex.AV}{b:Option Go.Ex.AV}{r:List (Option Go.Ex.AV)}(h:(br a==(if op=11 then 1 else 0))=false):gf op (some a::b::r)=b.map fun b=>bS (if op=11 then fT (br a) (br b)else gw (br a) (br b)):=by
 show(bif br a==(if op=11 then 1 else 0)then _ else _)=_
 rw[h]
 cases b<;>rfl
theorem Vu(G:aZ gl)(n:Nat)(hC:ah prog gl (xu n))(op sub:Int)(t:Ty)(v:Go.Ex.AV)(args:List EX)(row:List Go.Ex.AV)(ho:op=10∨op=11)(ha:args.length=2)(hs:∀e∈args,dD row n e)(hr:dV row)(jl:row.length≤4398046511104):
  Ct prog gl 100 [.ptr [.sl (row.map Go.Ex.AV.cs),.sl ((ak row).map Ty.cs)],.agg (aT op sub t v (aa args))] (fun res fin=>fin=[]∧∃(w:Go.Ex.AV) (ok:Bool),Is (gf op (fE row args)) w ok∧res=[.agg w.cs,.d (.v (.bool ok))]):=by
 refine aw (E:=zH) ⟨bN.te⟩ hC aF (fun _ _ _ h=>h.elim) mixed (fn:=f100) (body:=f100.body.getD .skip) (by kernel_rfl) (by kernel_rfl) (by kernel_rfl) (fi:=Rl) (by kernel_rfl) (by kernel_rfl) (let ⟨tr,ok,h⟩:=pZ (gf op (fE row args)) zeroV;⟨_,_,rfl,tr,ok,h,rfl⟩) ?_
 rw[Vr];dsimp -eta -iota -proj only[Zc7,Zbr,Qt,gS,fy,uD,Z5,S5,Zy,Zs,Zr,Z2,lU,Zdp]
 obtain⟨o0,s0,t0,v0,a0,e0,g0⟩:=aX (l:=args) (i:=0) (by omega)
 obtain⟨o1,s1,t1,v1,a1,e1,g1⟩:=aX (l:=args) (i:=1) (by omega)
 have EK:fE row args=[jk row args[0],jk row args[1]]:=by
  match args,ha with
  |[x,y],_=>simp only[fE];rfl
 rw[EK]
 have step:∀(k:Int) (f:Int→Int→Int),(if op=11 then(1:Int)else 0)=k→(∀x y,(if op=11 then fT x y else gw x y)=f x y)→∀(tr:Int) (ok:Bool),Is (Fw row args[0]) tr ok→
   ((bif !ok then true else tr==k)=true→Is (gf op [jk row args[0],jk row args[1]]) (bS tr) ok)∧
   ((bif !ok then true else tr==k)=false→∀(S6:Int) (jK:Bool),Is (Fw row args[1]) S6 jK→Is (gf op [jk row args[0],jk row args[1]]) (bS (f tr S6)) jK):=by
  intro k f hk hf tr ok hi
  unfold Fw at hi ⊢
  cases hx:jk row args[0]with
  |none=>
   rw[hx]at hi
   cases ok with
   |true=>cases hi.1
   |false=>exact⟨fun _=>j6 _,fun h=>by cases h⟩
  |some a=>
   rw[hx]at hi
   cases ok with
   |false=>cases hi.1
   |true=>
    have htr:tr=br a:=hi.2 _ rfl
    subst htr
    refine⟨fun h=>?_,fun h S6 jK h1=>?_⟩
    ·rw[Dp (by rw[hk];exact h)];exact ec _
    ·rw[xw (by rw[hk];exact h)]
     cases hy:jk row args[1]with
     |none=>rw[hy]at h1;cases jK with
      |true=>cases h1.1
      |false=>exact j6 _
     |some b=>rw[hy]at h1;cases jK with
      |false=>cases h1.1
      |true=>
       have:S6=br b:=h1.2 _ rfl
       subst this
       rw[←hf];exact ec _
 refine⟨fun h=>?_,fun h=>?_⟩
 ·have h:op=11:=by simpa using h
  refine⟨aa args,rfl,⟨by decide,by rw[ag];omega⟩,_,g0,rfl,o0,s0,t0.k,t0.sc,v0.t.k,v0.t.sc,v0.aA,v0.n,v0.s,aa a0,rfl,args[0],row,rfl,rfl,by rw[e0,ab];rfl,hs _ (List.getElem_mem _),hr,jl,fun tr ok hi=>?_⟩
  obtain⟨p1,p2⟩:=step 1 fT (if_pos h) (fun x y=>if_pos h) tr ok hi
  refine⟨fun hc=>⟨rfl,_,_,p1 hc,rfl⟩,fun hc=>?_⟩
  exact⟨aa args,rfl,⟨by decide,by rw[ag];omega⟩,_,g1,rfl,o1,s1,t1.k,t1.sc,v1.t.k,v1.t.sc,v1.aA,v1.n,v1.s,aa a1,rfl,args[1],row,rfl,rfl,by rw[e1,ab];rfl,hs _ (List.getElem_mem _),hr,jl,fun S6 jK Qu=>⟨rfl,_,_,p2 hc S6 jK Qu,rfl⟩⟩
 ·have h:¬op=11:=by simpa using h
  refine⟨aa args,rfl,⟨by decide,by rw[ag];omega⟩,_,g0,rfl,o0,s0,t0.k,t0.sc,v0.t.k,v0.t.sc,v0.aA,v0.n,v0.s,aa a0,rfl,args[0],row,rfl,rfl,by rw[e0,ab];rfl,hs _ (List.getElem_mem _),hr,jl,fun tr ok hi=>?_⟩
  obtain⟨p1,p2⟩:=step 0 gw (if_neg h) (fun x y=>if_neg h) tr ok hi
  refine⟨fun hc=>⟨rfl,_,_,p1 hc,rfl⟩,fun hc=>?_⟩
  exact⟨aa args,rfl,⟨by decide,by rw[ag];omega⟩,_,g1,rfl,o1,s1,t1.k,t1.sc,v1.t.k,v1.t.sc,v1.aA,v1.n,v1.s,aa a1,rfl,args[1],row,rfl,rfl,by rw[e1,ab];rfl,hs _ (List.getElem_mem _),hr,jl,fun S6 jK Qu=>⟨rfl,_,_,p2 hc S6 jK Qu,rfl⟩⟩
theorem EL(G:aZ gl)(n:Nat)(hC:ah prog gl (xu n))(a:List R)(K:KT)(h:BN n a K):Ct prog gl 100 a K:=by
 unfold BN at h
 split at h
 ·obtain⟨op,sub,t,v,args,row,rfl,rfl,rfl,h0,h1,h2,h3,h4,h5⟩:=h
  exact(Vu G n hC op sub t v args row h0 h1 h2 h3 h4).mono fun res fin ⟨e1,tr,ok,hi,e2⟩=>by subst e1;subst e2;exact h5 tr ok hi
 ·exact h.elim
def S7(n:Nat):aj:=au (au (au (au oe 77 (Dn n)) 101 (sW n)) 104 (BM n)) 100 (BN n)
def S8(op sub:Int)(t:Ty)(v:Go.Ex.AV)(args:List EX)(ty:Ty):List (Nat×B):=[(3,.box [.d (.v (.int .i64 op)),.d (.v (.int .i64 sub)),.d (.v (.int .i64 t.k)),.d (.v (.int .i64 t.sc)),.d (.v (.int .i64 v.t.k)),.d (.v (.int .i64 v.t.sc)),.d (.v (.bool v.aA)),.d (.v (.int .i64 v.n)),.d (.v (.string v.s)),.d (.sl (aa args))]),(4,.box [.d (.v (.int .i64 0)),.d (.v (.int .i64 0)),.d (.v (.bool false)),.d (.v (.int .i64 0)),.d (.v (.string {data:={toList:=[]:Array UInt8}:ByteArray}))]),(6,.box [.d (.v (.int .i64 ty.k)),.d (.v (.int .i64 ty.sc))])]
def Vv(op sub:Int)(t:Ty)(v:Go.Ex.AV)(args:List EX)(row:List Go.Ex.AV)(ty:Ty)(j:Nat):St:={tm:=[(0,.bW [.sl (row.map Go.Ex.AV.cs),.sl ((ak row).map Ty.cs)]),(3,.ref 3 0),(4,.ref 4 0),(5,.d (.v (.bool false))),(6,.ref 6 0),(10,.d (.v (.int .i64 (2*(j:Int)))))],hp:=S8 op sub t v args ty,kn:=[],gd:=[]}
def Vw(op sub:Int)(t:Ty)(v:Go.Ex.AV)(args:List EX)(row:List Go.Ex.AV)(ty:Ty)(j:Nat):St:={tm:=[(0,.bW [.sl (row.map Go.Ex.AV.cs),.sl ((ak row).map Ty.cs)]),(3,.ref 3 0),(4,.ref 4 0),(5,.d (.v (.bool false))),(6,.ref 6 0),(135,.d (.sl (aa args))),(136,.d (.v (.int .i64 ((aa args).length:Int)))),(137,.d (.v (.int .i64 (j:Int))))],hp:=S8 op sub t v args ty,kn:=[],gd:=[]}
def qX(row:List Go.Ex.AV)(args:List EX)(ty:Ty)(m:Nat)(j:Nat):Prop:=2*j<args.length∧m=args.length-j∧fD ty (fE row args)=fD ty (fE row (args.drop (2*j)))
def qY(row:List Go.Ex.AV)(args:List EX)(ty:Ty)(m:Nat)(j:Nat):Prop:=j≤args.length∧m=args.length-j∧gW ty (fE row args)=gW ty (fE row (args.drop j))
def qZ(row:List Go.Ex.AV)(args:List EX)(m:Nat)(x:VX):Prop:=x.i≤args.length∧m=args.length-x.i∧x.l.length=x.i∧fE row (args.take x.i)=x.l.map some
def LR(op sub:Int)(t:Ty)(v:Go.Ex.AV)(args:List EX)(row:List Go.Ex.AV)(ty:Ty):Fi:={akf with lx:=[(17,{X:=Nat,sh:=Vv op sub t v args row ty,P:=fun _=>qX row args ty}),(27,{X:=Nat,sh:=Vw op sub t v args row ty,P:=fun _=>qY row args ty}),(37,{X:=VX,sh:=ac1 op sub t v args row (ak row),P:=fun _=>qZ row args})]}
def Zf1(a0:List (List D))(a1:Int)(a2:KT):Prop:=zF a0 fun kS=>(0≤a1∧a1<(↑kS.length:Int))∧∃(cells:List D),kS[a1.toNat]? = some cells∧Vg cells fun n aN b aW cD=>a2 [.agg [.i n,.i aN,.v (.bool b),.i aW,.v (.string cD)],.d (.v (.bool true))] []
def Zj9(a0:Go.Ex.AV):List R:=[.agg [.i a0.1.1,.i a0.1.2,.v (.bool a0.2),.i a0.3,.v (.string a0.4)],.d (.v (.bool true))]
def S9(a0:List Go.Ex.AV)(k:(List AV)→Prop):Prop:=∃(cT:List AV),List.map AV.cs a0=List.map AV.cs cT∧k cT
def Zfu(a0:AV)(a1:Bool):List R:=[.agg (LN a0),.d (.v (.bool a1))]
def Vx(a0:KT)(a1:AV)(a2:Bool):Prop:=a0 (Zfu a1 a2) []
def Zb9(a0 a1:Int)(a2:Ty)(a3:Go.Ex.AV)(a4:List EX)(a5 a6:Int)(a7:Ty)(a8:AV)(a9:List EX)(eV:List AV)(fI:Nat)(a12:KT):Prop:=SS a0 a1 a2 a3 a4 a5 a6 a7 a8 a9 ((a5=(10:Int)∨a5=(11:Int))∧a9.length=2∧(∀(e:EX),e∈a9→dD eV fI e)∧LM eV fun w ok=>Is (gf a5 (fE eV a9)) w ok→Vx a12 w ok)
def Zdr(a0:List Go.Ex.AV)(a1 a2:Int)(a3:Ty)(a4:Go.Ex.AV)(a5:List EX)(a6:Nat)(a7:KT):Prop:=zE fun eh cr oH mv dN=>S9 a0 fun cT=>List.map Ty.cs (ak a0)=List.map Ty.cs (ak cT)∧Zb9 a1 a2 a3 a4 a5 eh cr oH mv dN cT a6 a7
def Zds(a0 a1:Int)(a2:List Go.Ex.AV)(a3:Int)(a4:Ty)(a5:Go.Ex.AV)(a6:List EX)(a7:Nat)(a8:KT):Prop:=(a0==a1)=true→Zdr a2 a0 a3 a4 a5 a6 a7 a8
def Zd1(a0 a1 a2:Int)(a3:List Go.Ex.AV)(a4:Int)(a5:Ty)(a6:Go.Ex.AV)(a7:List EX)(a8:Nat)(a9:KT)(k:Prop):Prop:=(a0==a1)=false→(Zds a0 a2 a3 a4 a5 a6 a7 a8 a9)∧k
def Zch(a0:List D)(a1:List Go.Ex.AV)(a2:Nat)(k:EX→(List AV)→Prop):Prop:=S5 a0 fun aN aW bO dv c_ fS b gI cD es e cT=>List.map AV.cs a1=List.map AV.cs cT∧List.map Ty.cs (ak a1)=List.map Ty.cs (ak cT)∧lU aN aW bO dv c_ fS b gI cD es e (dD cT a2 e∧dV cT∧cT.length≤4398046511104∧k e cT)
def Zd4(a0:List D)(a1:List Go.Ex.AV)(a2:Nat)(k:Int→Bool→Prop):Prop:=Zch a0 a1 a2 fun e cT=>∀(tr:Int) (ok:Bool),Is (Fw cT e) tr ok→k tr ok
def Zbt(a0:List D)(a1:List Go.Ex.AV)(a2:Ty)(a3:Nat)(k:AV→Bool→Prop):Prop:=S5 a0 fun aN aW bO dv c_ fS b gI cD es e cT=>∃(oH:Ty),List.map AV.cs a1=List.map AV.cs cT∧List.map Ty.cs (ak a1)=List.map Ty.cs (ak cT)∧lU aN aW bO dv c_ fS b gI cD es e ((AA a2)=oH.cs∧dD cT a3 e∧LM cT fun w ok=>Is (Vo cT oH e) w ok→k w ok)
def Zb2(a0:List D)(a1:List Go.Ex.AV)(a2:Ty)(a3:Nat)(a4:KT):Prop:=Zbt a0 a1 a2 a3 fun w ok=>Vx a4 w ok
def LS(a0:List Go.Ex.AV):List D:=[.sl (List.map AV.cs a0),.sl (List.map Ty.cs (ak a0))]
def Zev(a0:List Go.Ex.AV)(a1:Nat)(a2 a3:Int)(a4:Ty)(a5:Go.Ex.AV)(a6:List EX)(a7:Ty):St:={tm:=[(0,.bW (LS a0)),(3,.ref 3 0),(4,.ref 4 0),(5,.d (.v (.bool false))),(6,.ref 6 0),(10,.i ((2:Int)*(↑a1:Int)))],hp:=[(3,.box [.i a2,.i a3,.i a4.1,.i a4.2,.i a5.1.1,.i a5.1.2,.d (.v (.bool a5.2)),.i a5.3,.d (.v (.string a5.4)),.d (.sl (aa a6))]),(4,.box [.i 0,.i 0,.d (.v (.bool false)),.i 0,.d (.v (.string ⟨⟨[]⟩⟩))]),(6,.box [.i a7.1,.i a7.2])],kn:=[],gd:=[]:St}
def Zj5(a0:List EX)(a1:Nat)(k:(List D)→Prop):Prop:=gS a0 fun es=>((0:Int)≤2*(↑a1:Int)∧(2:Int)*(↑a1:Int)<(↑es.length:Int))∧∃(cells:List D),es[((2:Int)*(↑a1:Int)).toNat]? = some cells∧k cells
def WX(a0:Bool)(a1:KT):Prop:=(!a0)=true→Ll a1
def Qv(a0:Bool)(a1:KT)(k:Prop):Prop:=(WX a0 a1)∧k
def Zie(a0:List EX)(a1:Nat)(k:(List D)→Prop):Prop:=gS a0 fun es=>((0:Int)≤IntKind.i64.wrap ((2:Int)*(↑a1:Int)+1)∧IntKind.i64.wrap ((2:Int)*(↑a1:Int)+1)<(↑es.length:Int))∧∃(cells:List D),es[(IntKind.i64.wrap ((2:Int)*(↑a1:Int)+1)).toNat]? = some cells∧k cells
def Zer(a0:List EX)(k:(List (List D))→(List D)→Prop):Prop:=gS a0 fun es=>gS a0 fun kS=>Ib es kS fun cells=>k es cells
def Zee(a0:List Go.Ex.AV)(a1:List EX)(a2:Nat)(a3 a4:Int)(a5:Ty)(a6:Go.Ex.AV)(a7:Ty):St:={tm:=[(0,.bW (LS a0)),(3,.ref 3 0),(4,.ref 4 0),(5,.d (.v (.bool false))),(6,.ref 6 0),(135,.d (.sl (aa a1))),(136,.i (↑(aa a1).length:Int)),(137,.i (↑a2:Int))],hp:=[(3,.box [.i a3,.i a4,.i a5.1,.i a5.2,.i a6.1.1,.i a6.1.2,.d (.v (.bool a6.2)),.i a6.3,.d (.v (.string a6.4)),.d (.sl (aa a1))]),(4,.box [.i 0,.i 0,.d (.v (.bool false)),.i 0,.d (.v (.string ⟨⟨[]⟩⟩))]),(6,.box [.i a7.1,.i a7.2])],kn:=[],gd:=[]:St}
def Zgp(a0:Ty):List R:=[.agg (WT a0),.d (.v (.bool true))]
def Zgy(a0:KT)(a1:Ty):Prop:=a0 (Zgp a1) []
def Zkc(a0:List EX)(a1:VX)(k:(List D)→Prop):Prop:=gS a0 fun es=>(0≤(↑a1.1:Int)∧(↑a1.1:Int)<(↑es.length:Int))∧∃(cells:List D),es[(↑a1.1:Int).toNat]? = some cells∧k cells
def Zi(a0 a1:Int)(a2:Ty)(a3:Go.Ex.AV)(a4:List EX)(a5:List (List D))(a6:List Go.Ex.AV)(a7:KT)(a8:Nat)(a9:Ty):Prop:=Zh0 a0 a1 a2 a3 a4 a5 fun dn ok=>((a0==1)=true→fy fun es=>some [D.sl (List.map AV.cs a6)]=some [D.sl es]∧Zf1 es a1 a7)∧((a0==1)=false→((a0==2)=true→a7 (Zj9 a3) [])∧(Zd1 a0 (2:Int) (10:Int) a6 a1 a2 a3 a4 a8 a7 ((Zd1 a0 (10:Int) (11:Int) a6 a1 a2 a3 a4 a8 a7 (((a0==11)=false→((a0==12)=true→Qt a4 (0:Int) fun cells=>Zd4 cells a6 a8 fun tr ok=>a7 [.agg [.v (.int .i64 (bS (hZ tr)).1.1),.v (.int .i64 (bS (hZ tr)).1.2),.v (.bool (bS (hZ tr)).2),.v (.int .i64 (bS (hZ tr)).3),.v (.string (bS (hZ tr)).4)],.d (.v (.bool ok))] [])∧((a0==12)=false→((a0==16)=true→Qt a4 (0:Int) fun cells=>Zb2 cells a6 a2 a8 a7)∧((a0==16)=false→((a0==14)=true→∃(x0:Nat),({tm:=[(0,.bW (LS a6)),(3,.ref 3 0),(4,.ref 4 0),(5,.d (.v (.bool false))),(6,.ref 6 0),(10,.i 0)],hp:=[(3,.box [.i a0,.i a1,.i a2.1,.i a2.2,.i a3.1.1,.i a3.1.2,.d (.v (.bool a3.2)),.i a3.3,.d (.v (.string a3.4)),.d (.sl (aa a4))]),(4,.box [.i 0,.i 0,.d (.v (.bool false)),.i 0,.d (.v (.string ⟨⟨[]⟩⟩))]),(6,.box [.i dn.1,.i dn.2])],kn:=[],gd:=[]:St}=(Zev a6 x0 a0 a1 a2 a3 a4 a9)∧∃(n:Nat),qX a6 a4 a9 n x0)∧∀(aN:Nat) (x:Nat),qX a6 a4 a9 aN x→gS a4 fun es=>(decide (IntKind.i64.wrap ((2:Int)*(↑x:Int)+1)<(↑es.length:Int))=true→Zj5 a4 x fun cells=>Zd4 cells a6 a8 fun tr ok=>Qv ok a7 (((!ok)=false→((tr==1)=true→Zie a4 x fun cells=>Zb2 cells a6 a9 a8 a7)∧((tr==1)=false→fG aN fun m x'=>{tm:=[(0,.bW (LS a6)),(3,.ref 3 0),(4,.ref 4 0),(5,.d (.v (.bool false))),(6,.ref 6 0),(10,.i (IntKind.i64.wrap ((2:Int)*(↑x:Int)+2)))],hp:=[(3,.box [.i a0,.i a1,.i a2.1,.i a2.2,.i a3.1.1,.i a3.1.2,.d (.v (.bool a3.2)),.i a3.3,.d (.v (.string a3.4)),.d (.sl (aa a4))]),(4,.box [.i 0,.i 0,.d (.v (.bool false)),.i 0,.d (.v (.string ⟨⟨[]⟩⟩))]),(6,.box [.i a9.1,.i a9.2])],kn:=[],gd:=[]:St}=(Zev a6 x' a0 a1 a2 a3 a4 a9)∧qX a6 a4 a9 m x'))))∧(decide (IntKind.i64.wrap ((2:Int)*(↑x:Int)+1)<(↑es.length:Int))=false→Zer a4 fun _ cells=>Zb2 cells a6 a9 a8 a7))∧((a0==14)=false→((a0==15)=true→zz a4 fun es x0=>({tm:=[(0,.bW (LS a6)),(3,.ref 3 0),(4,.ref 4 0),(5,.d (.v (.bool false))),(6,.ref 6 0),(135,.d (.sl (aa a4))),(136,.i (↑es.length:Int)),(137,.i 0)],hp:=[(3,.box [.i a0,.i a1,.i a2.1,.i a2.2,.i a3.1.1,.i a3.1.2,.d (.v (.bool a3.2)),.i a3.3,.d (.v (.string a3.4)),.d (.sl (aa a4))]),(4,.box [.i 0,.i 0,.d (.v (.bool false)),.i 0,.d (.v (.string ⟨⟨[]⟩⟩))]),(6,.box [.i dn.1,.i dn.2])],kn:=[],gd:=[]:St}=(Zee a6 a4 x0 a0 a1 a2 a3 a9)∧∃(n:Nat),qY a6 a4 a9 n x0)∧∀(aN:Nat) (x:Nat),qY a6 a4 a9 aN x→(Gm x a4 (yM a4 x fun cells=>Zbt cells a6 a9 a8 fun w ok=>((bif !ok then true else !w.2)=true→Vx a7 w ok)∧((bif !ok then true else !w.2)=false→fG aN fun m x'=>{tm:=[(0,.bW (LS a6)),(3,.ref 3 0),(4,.ref 4 0),(5,.d (.v (.bool false))),(6,.ref 6 0),(135,.d (.sl (aa a4))),(136,.i (↑(aa a4).length:Int)),(137,.i (IntKind.i64.wrap ((↑x:Int)+1)))],hp:=[(3,.box [.i a0,.i a1,.i a2.1,.i a2.2,.i a3.1.1,.i a3.1.2,.d (.v (.bool a3.2)),.i a3.3,.d (.v (.string a3.4)),.d (.sl (aa a4))]),(4,.box [.i 0,.i 0,.d (.v (.bool false)),.i 0,.d (.v (.string ⟨⟨[]⟩⟩))]),(6,.box [.i a9.1,.i a9.2])],kn:=[],gd:=[]:St}=(Zee a6 a4 x' a0 a1 a2 a3 a9)∧qY a6 a4 a9 m x')))∧(Fc x a4 (Zgy a7 a9)))∧((a0==15)=false→gS a4 fun es=>0≤(↑es.length:Int)∧(↑es.length:Int)≤(↑es.length:Int)∧(↑es.length:Int)*(↑(48:Nat):Int)≤140737488355328∧(↑es.length:Int)≤140737488355328∧gS a4 fun kS=>∃(x0:VX),({tm:=[(0,.bW (LS a6)),(3,.ref 3 0),(4,.ref 4 0),(5,.d (.v (.bool false))),(6,.ref 6 0),(17,.own 163),(18,.d (.v (.bool false))),(165,.d (.sl (aa a4))),(166,.i (↑kS.length:Int)),(167,.i 0)],hp:=[(3,.box [.i a0,.i a1,.i a2.1,.i a2.2,.i a3.1.1,.i a3.1.2,.d (.v (.bool a3.2)),.i a3.3,.d (.v (.string a3.4)),.d (.sl (aa a4))]),(4,.box [.i 0,.i 0,.d (.v (.bool false)),.i 0,.d (.v (.string ⟨⟨[]⟩⟩))]),(6,.box [.i dn.1,.i dn.2]),(163,.bu 25 5 (List.replicate (↑es.length:Int).toNat (Z8 (0:Int) (0:Int))))],kn:=[],gd:=[]:St}={tm:=[(0,.bW (LS a6)),(3,.ref 3 0),(4,.ref 4 0),(5,.d (.v (.bool false))),(6,.ref 6 0),(17,.own 163),(18,.d (.v (.bool (x0.2.any fun(v:AV)=>v.aA)))),(165,.d (.sl (aa a4))),(166,.i (↑(aa a4).length:Int)),(167,.i (↑x0.1:Int))],hp:=[(3,.box [.i a0,.i a1,.i a2.1,.i a2.2,.i a3.1.1,.i a3.1.2,.d (.v (.bool a3.2)),.i a3.3,.d (.v (.string a3.4)),.d (.sl (aa a4))]),(4,.box [.i 0,.i 0,.d (.v (.bool false)),.i 0,.d (.v (.string ⟨⟨[]⟩⟩))]),(6,.box [.d (.v (.int .i64 (ay (ak a6) (EX.mk a0 a1 a2 a3 a4)).1.1)),.d (.v (.int .i64 (ay (ak a6) (EX.mk a0 a1 a2 a3 a4)).1.2))]),(163,.bu 25 5 (List.map AV.cs x0.2++List.replicate (a4.length-x0.1) zeroV.cs))],kn:=[],gd:=[]:St}∧∃(n:Nat),qZ a6 a4 n x0)∧∀(aN:Nat) (x:VX),qZ a6 a4 aN x→(decide ((↑x.1:Int)<(↑(aa a4).length:Int))=true→Zkc a4 x fun cells=>Zch cells a6 a8 fun e cT=>∀(w:AV) (ok:Bool),Is (jk cT e) w ok→Qv ok a7 (((!ok)=false→(0≤(↑x.1:Int)∧(↑x.1:Int)<(↑(List.map AV.cs x.2++List.replicate (a4.length-x.1) zeroV.cs).length:Int))∧(5:Nat)=(5:Nat)∧∃(cells:List D),(List.map AV.cs x.2++List.replicate (a4.length-x.1) zeroV.cs)[(↑x.1:Int).toNat]? = some cells∧∃(kd:List D),over (0:Nat) (LN w) cells=some kd∧∃(m:Nat),∃(x':VX),m<aN∧{tm:=[(0,.bW (LS a6)),(3,.ref 3 0),(4,.ref 4 0),(5,.d (.v (.bool false))),(6,.ref 6 0),(17,.own 163),(18,.d (.v (.bool (bif x.2.any fun(v:AV)=>v.aA then true else w.2)))),(165,.d (.sl (aa a4))),(166,.i (↑(aa a4).length:Int)),(167,.i (IntKind.i64.wrap ((↑x.1:Int)+1)))],hp:=[(3,.box [.i a0,.i a1,.i a2.1,.i a2.2,.i a3.1.1,.i a3.1.2,.d (.v (.bool a3.2)),.i a3.3,.d (.v (.string a3.4)),.d (.sl (aa a4))]),(4,.box [.i 0,.i 0,.d (.v (.bool false)),.i 0,.d (.v (.string ⟨⟨[]⟩⟩))]),(6,.box [.d (.v (.int .i64 (ay (ak a6) (EX.mk a0 a1 a2 a3 a4)).1.1)),.d (.v (.int .i64 (ay (ak a6) (EX.mk a0 a1 a2 a3 a4)).1.2))]),(163,.bu 25 5 ((List.map AV.cs x.2++List.replicate (a4.length-x.1) zeroV.cs).set (↑x.1:Int).toNat kd))],kn:=[],gd:=[]:St}={tm:=[(0,.bW (LS a6)),(3,.ref 3 0),(4,.ref 4 0),(5,.d (.v (.bool false))),(6,.ref 6 0),(17,.own 163),(18,.d (.v (.bool (x'.2.any fun(v:AV)=>v.aA)))),(165,.d (.sl (aa a4))),(166,.i (↑(aa a4).length:Int)),(167,.i (↑x'.1:Int))],hp:=[(3,.box [.i a0,.i a1,.i a2.1,.i a2.2,.i a3.1.1,.i a3.1.2,.d (.v (.bool a3.2)),.i a3.3,.d (.v (.string a3.4)),.d (.sl (aa a4))]),(4,.box [.i 0,.i 0,.d (.v (.bool false)),.i 0,.d (.v (.string ⟨⟨[]⟩⟩))]),(6,.box [.d (.v (.int .i64 (ay (ak a6) (EX.mk a0 a1 a2 a3 a4)).1.1)),.d (.v (.int .i64 (ay (ak a6) (EX.mk a0 a1 a2 a3 a4)).1.2))]),(163,.bu 25 5 (List.map AV.cs x'.2++List.replicate (a4.length-x'.1) zeroV.cs))],kn:=[],gd:=[]:St}∧qZ a6 a4 m x')))∧(decide ((↑x.1:Int)<(↑(aa a4).length:Int))=false→((a0==13)=true→a7 [.agg [.i 1,.i 0,.v (.bool false),.i (bif x.2.any fun(v:AV)=>v.aA then(1:Int)else(0:Int)),.v (.string eB)],.d (.v (.bool true))] [])∧((a0==13)=false→((x.2.any fun(v:AV)=>v.aA)=true→a7 [.agg [.v (.int .i64 (ay (ak a6) (EX.mk a0 a1 a2 a3 a4)).1.1),.v (.int .i64 (ay (ak a6) (EX.mk a0 a1 a2 a3 a4)).1.2),.v (.bool true),.i 0,.v (.string ⟨⟨[]⟩⟩)],.d (.v (.bool true))] [])∧((x.2.any fun(v:AV)=>v.aA)=false→zE fun eh cr y w dN=>∃(a:AV),∃(b:AV),SS a0 a1 a2 a3 a4 eh cr y w dN (db a∧db b∧ar a.3∧ar b.3∧(List.map AV.cs x.2++List.replicate (a4.length-x.1) zeroV.cs)[(0:Nat)]? = some a.cs∧(List.map AV.cs x.2++List.replicate (a4.length-x.1) zeroV.cs)[(List.map AV.cs x.2++List.replicate (a4.length-x.1) zeroV.cs).length-(1:Nat)]? = some b.cs∧(List.map AV.cs x.2++List.replicate (a4.length-x.1) zeroV.cs).length≤1000∧a7 [.agg [.v (.int .i64 (bb eh cr {k:=(ay (ak a6) (EX.mk a0 a1 a2 a3 a4)).1.1,sc:=(ay (ak a6) (EX.mk a0 a1 a2 a3 a4)).1.2:Ty} a b).1.1.1),.v (.int .i64 (bb eh cr {k:=(ay (ak a6) (EX.mk a0 a1 a2 a3 a4)).1.1,sc:=(ay (ak a6) (EX.mk a0 a1 a2 a3 a4)).1.2:Ty} a b).1.1.2),.v (.bool (bb eh cr {k:=(ay (ak a6) (EX.mk a0 a1 a2 a3 a4)).1.1,sc:=(ay (ak a6) (EX.mk a0 a1 a2 a3 a4)).1.2:Ty} a b).1.2),.v (.int .i64 (bb eh cr {k:=(ay (ak a6) (EX.mk a0 a1 a2 a3 a4)).1.1,sc:=(ay (ak a6) (EX.mk a0 a1 a2 a3 a4)).1.2:Ty} a b).1.3),.v (.string (bb eh cr {k:=(ay (ak a6) (EX.mk a0 a1 a2 a3 a4)).1.1,sc:=(ay (ak a6) (EX.mk a0 a1 a2 a3 a4)).1.2:Ty} a b).1.4)],.d (.v (.bool (bb eh cr {k:=(ay (ak a6) (EX.mk a0 a1 a2 a3 a4)).1.1,sc:=(ay (ak a6) (EX.mk a0 a1 a2 a3 a4)).1.2:Ty} a b).2))] []))))))))))))))
theorem afh(n:Nat)(op sub:Int)(t:Ty)(v:Go.Ex.AV)(args:List EX)(row:List Go.Ex.AV)(ty:Ty)(Q:KT):vc zH (S7 n) bf (LR op sub t v args row ty) (f77.body.getD .skip) f77.results.toList [.ptr [.sl (row.map Go.Ex.AV.cs),.sl ((ak row).map Ty.cs)],.agg (aT op sub t v (aa args))] Q=(fy fun es=>some [D.sl (List.map Ty.cs (ak row))]=some [D.sl es]∧(Zi op sub t v args es row Q n ty)∧Zi op sub t v args es row Q n ty):=by kernel_rfl
theorem ph{e:EX}{l:List EX}(h:e∈l):size e≤ir l:=by
 induction l with
 |nil=>cases h
 |cons a r ih=>
  simp only[ir]
  cases h with
  |head=>omega
  |tail _ h=>have:=ih h;omega
theorem nk{ae:List Ty}:∀{l:List EX} {tl:List Ty},bm ae l=some tl→∀e∈l,(ay ae e).2=true
 |a::l,tl,h,e,he=>by
  simp only[bm]at h
  rcases hh:ay ae a with⟨u,_|_⟩
  ·rw[hh]at h;cases h
  ·rw[hh]at h
   rcases hl:bm ae l with _|r
   ·rw[hl]at h;cases h
   ·rcases List.mem_cons.1 he with rfl|he
    ·rw[hh]
    ·exact nk hl e he
theorem sY{c:Int}{l:List EX}(h:ep c l=true):∀e∈l,cu c e=true:=by
 rw[fV,List.all_eq_true]at h
 exact h
theorem cq{l:List EX}{i:Nat}(hi:i<l.length):∃op sub t v a,l[i] = .mk op sub t v a∧(aa l)[i]? = some (aT op sub t v (aa a)):=by
 obtain⟨op,sub,t,v,a,h1,h2⟩:=aX hi
 exact⟨op,sub,t,v,a,h1,by rw[Int.toNat_natCast]at h2;exact h2⟩
theorem BO{row:List Go.Ex.AV}{l:List EX}{i:Nat}(hi:i<l.length):(fE row l).getD i none=jk row l[i]:=by
 rw[iK,List.getD_eq_getElem?_getD,List.getElem?_map,List.getElem?_eq_getElem hi];rfl
theorem l5{row:List Go.Ex.AV}{l:List EX}{i:Nat}(hi:i<l.length):fE row (l.drop i)=jk row l[i]::fE row (l.drop (i+1)):=by
 rw[List.drop_eq_getElem_cons hi]
 simp only[fE]
theorem all_map:∀l:List Go.Ex.AV,qt (l.map some)=some l
 |[]=>rfl
 |a::r=>by simp only[List.map_cons,qt,all_map r]
theorem all_none{row:List Go.Ex.AV}:∀{l:List EX} {i:Nat} (hi:i<l.length),jk row l[i]=none→qt (fE row l)=none
 |a::l,0,hi,h=>by
  simp only[fE]
  have h:jk row a=none:=h
  rw[h];rfl
 |a::l,i+1,hi,h=>by
  simp only[fE]
  have:=all_none (l:=l) (i:=i) (by simpa using hi) h
  cases hx:jk row a with
  |none=>rfl
  |some b=>simp only[qt,this]
theorem vT{op sub:Int}{t:Ty}{v:Go.Ex.AV}{m c:Int}(h:bE op sub t v m c=true)(xS:op≠14)(h15:op≠15):m≤2:=by
 unfold bE at h
 rw[show(op==14)=false by simpa using xS,show(op==15)=false by simpa using h15]at h
 simp only[cond_false]at h
 cases e1:op==1
 ·cases e2:op==2
  ·cases e9:op==9
   ·cases e16:op==16
    ·cases e8:(op==8||op==12||op==13||op==18)
     ·cases e3:(op==3||op==4||op==5||op==6||op==7||op==10||op==11||op==17)
      ·rw[e1,e2,e9,e16,e8,e3]at h;cases h
      ·rw[e1,e2,e9,e16,e8,e3]at h
       have:=eq_of_beq (bt (bt (bt h).1).1).1
       omega
     ·rw[e1,e2,e9,e16,e8]at h
      have:=eq_of_beq (bt (bt (bt h).1).1).1
      omega
    ·rw[e1,e2,e9,e16]at h
     have:=eq_of_beq (bt (bt (bt h).1).1).1
     omega
   ·rw[e1,e2,e9]at h
    have:=eq_of_beq (bt (bt (bt h).1).1).1
    omega
  ·rw[e1,e2]at h
   have:=eq_of_beq (bt (bt (bt h).1).1).1
   omega
 ·rw[e1]at h
  have:=eq_of_beq (bt (bt (bt h).1).1).1
  omega
theorem dQ{op sub:Int}{t:Ty}{v:Go.Ex.AV}{m c:Int}(h:bE op sub t v m c=true)(ho:op=10∨op=11):m=2:=by
 unfold bE at h
 rcases ho with rfl|rfl
 ·exact eq_of_beq (bt (bt (bt h).1).1).1
 ·exact eq_of_beq (bt (bt (bt h).1).1).1
theorem lH{sub:Int}{t:Ty}{v:Go.Ex.AV}{m c:Int}(h:bE 14 sub t v m c=true):3≤m∧m.tmod 2≠0:=by
 unfold bE at h
 have h1:=bt (bt (bt (bt h).1).1).1
 exact⟨of_decide_eq_true h1.1,by simpa using h1.2⟩
theorem Qw{l:List Go.Ex.AV}{n:Nat}{z:List D}{w:Go.Ex.AV}{i:Nat}(hi:l.length=i)(h:i<n):(l.map Go.Ex.AV.cs++List.replicate (n-i) z).set i w.cs=(l++[w]).map Go.Ex.AV.cs++List.replicate (n-(i+1)) z:=by
 subst hi;exact IF h
theorem S_(G:aZ gl):∀(n:Nat) (e:EX) (row:List Go.Ex.AV),dD row n e→dV row→row.length≤4398046511104→
  Ct prog gl 77 [.ptr [.sl (row.map Go.Ex.AV.cs),.sl ((ak row).map Ty.cs)],.agg (cells e)] (fun res fin=>fin=[]∧∃(w:Go.Ex.AV) (ok:Bool),Is (jk row e) w ok∧res=[.agg w.cs,.d (.v (.bool ok))])
 |0,e,row,h,_,_=>absurd h.1 (Nat.not_lt_zero _)
 |n+1,.mk op sub t v args,row,hs,hr,jl=>by
  have afi:∀a K,Dn n a K→Ct prog gl 77 a K:=fun a K hk=>by
   unfold Dn at hk
   split at hk
   ·obtain⟨e,row,rfl,rfl,rfl,h1,h2,h3,h4⟩:=hk
    exact(S_ G n e row h1 h2 h3).mono fun res fin ⟨e1,w,ok,hi,e2⟩=>by subst e1;subst e2;exact h4 w ok hi
   ·exact hk.elim
  have WY:ah prog gl (sX n):=af (kC G) afi
  have afj:∀a K,sW n a K→Ct prog gl 101 a K:=EI G n WY
  have afk:ah prog gl (xu n):=af (kC G) afj
  have hC:ah prog gl (S7 n):=af (af (af (af (kC G) afi) afj) (EJ G n WY)) (EL G n afk)
  obtain⟨h1,h2,h3,h4⟩:=hs
  have hc:aT op sub t v (aa args)=cells (.mk op sub t v args):=(ab _ _ _ _ _).symm
  rw[ab]
  obtain⟨tl,AB⟩:=jz h4
  obtain⟨hm,nC⟩:=sU h3
  obtain⟨_,hal,ss⟩:=ee h2
  simp only[size]at h1
  have iI:∀e∈args,dD row n e:=fun e he=>⟨by have:=ph he;omega,cZ ss he,sY nC e he,nk AB e he⟩
  have Dq:∀(i:Nat) (hi:i<args.length) (a:Go.Ex.AV),jk row args[i]=some a→db a∧ar a.n:=fun i hi a ha=>by
   have:=iI _ (List.getElem_mem hi)
   exact(pf hr this.2.1 this.2.2.1 this.2.2.2 ha).2
  have EK:jk row (.mk op sub t v args)=nj row op sub t v (ay (ak row) (.mk op sub t v args)).1 (fE row args):=by simp only[jk]
  refine aw (E:=zH) ⟨bN.te⟩ hC aF (fun _ _ _ h=>h.elim) mixed (fn:=f77) (body:=f77.body.getD .skip) (by kernel_rfl) (by kernel_rfl) (by kernel_rfl) (fi:=LR op sub t v args row (ay (ak row) (.mk op sub t v args)).1) (by kernel_rfl) (by kernel_rfl) (let ⟨w,ok,h⟩:=pZ (jk row (.mk op sub t v args)) zeroV;⟨_,_,rfl,w,ok,h,rfl⟩) ?_
  rw[afh];dsimp -eta -iota -proj only[fy,Zi,Zh0,VV,SW,SV,Fl,zC,Z1,Zf1,zF,Vg,WU,PU,Zj9,Zd1,Zds,Zdr,zE,S9,Zb9,SS,xQ,LM,Vx,Zfu,LN,Qt,gS,uD,Zd4,Zch,S5,Zy,Zs,Zr,Z2,lU,Zb2,Zbt,AA,LS,Zev,Zj5,Qv,WX,Ll,S2,Z8,Zie,fG,fb,Zer,Ib,zz,Zee,Gm,yM,Zbx,Fc,Zgy,Zgp,WT,Zkc]
  rw[EK]
  refine⟨_,rfl,?_⟩
  refine(and_self_iff).2 ?_
  refine⟨.mk op sub t v args,ak row,hc,rfl,h2,by rw[fo];exact h3,by rw[fo];omega,fun ty ok ht=>?_⟩
  obtain rfl:ty=(ay (ak row) (.mk op sub t v args)).1:=by rw[ht]
  refine⟨fun o=>?_,fun n1=>⟨fun o=>?_,fun n2=>⟨fun o=>?_,fun n10=>⟨fun o=>?_,fun n11=>⟨fun o=>?_,fun n12=>⟨fun o=>?_,fun n16=>⟨fun o=>?_,fun n14=>⟨fun o=>?_,fun n15=>?_⟩⟩⟩⟩⟩⟩⟩⟩
  ·have o:op=1:=eq_of_beq o
   have hs:=kr (by rw[o]at hm;exact hm)
   have hlt:sub.toNat<row.length:=by omega
   refine⟨_,rfl,_,rfl,⟨hs.1,by rw[List.length_map];exact hs.2⟩,(row[sub.toNat]).cs,by rw[List.getElem?_map,List.getElem?_eq_getElem hlt];rfl,rfl,_,_,_,_,_,rfl,rfl,row[sub.toNat],true,?_,rfl⟩
   unfold nj
   rw[if_pos o,List.getElem?_eq_getElem hlt]
   exact ec _
  ·have o:op=2:=eq_of_beq o
   refine⟨rfl,v,true,?_,rfl⟩
   unfold nj
   rw[if_neg (by omega),if_pos o]
   exact ec _
  ·have o:op=10:=eq_of_beq o
   refine⟨op,sub,t,v,args,row,rfl,rfl,rfl,.inl o,by have:=dQ hm (.inl o);omega,iI,hr,jl,fun w ok hi=>⟨rfl,w,ok,?_,rfl⟩⟩
   unfold nj
   rw[if_neg (by omega),if_neg (by omega),if_pos (.inl o)]
   exact hi
  ·have o:op=11:=eq_of_beq o
   refine⟨op,sub,t,v,args,row,rfl,rfl,rfl,.inr o,by have:=dQ hm (.inr o);omega,iI,hr,jl,fun w ok hi=>⟨rfl,w,ok,?_,rfl⟩⟩
   unfold nj
   rw[if_neg (by omega),if_neg (by omega),if_pos (.inr o)]
   exact hi
  ·have o:op=12:=eq_of_beq o
   have hp:=b8 hm (by omega) (by omega)
   have hp:0<args.length:=by omega
   obtain⟨o0,s0,t0,v0,a0,e0,g0⟩:=cq hp
   refine⟨aa args,rfl,⟨by omega,by rw[ag];omega⟩,_,g0,rfl,o0,s0,t0.k,t0.sc,v0.t.k,v0.t.sc,v0.aA,v0.n,v0.s,aa a0,rfl,args[0],row,rfl,rfl,by rw[e0,ab];rfl,iI _ (List.getElem_mem _),hr,jl,fun tr ok hi=>⟨rfl,bS (hZ tr),ok,?_,rfl⟩⟩
   unfold nj
   rw[if_neg (by omega),if_neg (by omega),if_neg (by omega),if_pos o,BO hp]
   have:=LO (f:=fun x=>bS (hZ x)) hi
   unfold Fw at this
   rw[Option.map_map]at this
   exact this
  ·have o:op=16:=eq_of_beq o
   have hp:=b8 hm (by omega) (by omega)
   have hp:0<args.length:=by omega
   obtain⟨o0,s0,t0,v0,a0,e0,g0⟩:=cq hp
   refine⟨aa args,rfl,⟨by omega,by rw[ag];omega⟩,_,g0,rfl,o0,s0,t0.k,t0.sc,v0.t.k,v0.t.sc,v0.aA,v0.n,v0.s,aa a0,rfl,args[0],row,t,rfl,rfl,by rw[e0,ab];rfl,rfl,iI _ (List.getElem_mem _),hr,jl,fun w ok hi=>⟨rfl,w,ok,?_,rfl⟩⟩
   unfold nj
   rw[if_neg (by omega),if_neg (by omega),if_neg (by omega),if_neg (by omega),if_pos o,BO hp]
   exact hi
  ·have o:op=14:=eq_of_beq o
   have hO:=lH (by rw[o]at hm;exact hm)
   rw[Int.tmod_eq_emod_of_nonneg (by omega)]at hO
   have hE:nj row op sub t v (ay (ak row) (.mk op sub t v args)).1 (fE row args)=fD (ay (ak row) (.mk op sub t v args)).1 (fE row args):=by
    unfold nj
    rw[if_neg (by omega),if_neg (by omega),if_neg (by omega),if_neg (by omega),if_neg (by omega),if_pos o]
   rw[hE]
   generalize (ay (ak row) (.mk op sub t v args)).1=ty at *
   refine⟨(0:Nat),⟨rfl,args.length,by omega,rfl,by rw[Nat.mul_zero,List.drop_zero]⟩,fun m (j:Nat) hj=>?_⟩
   obtain⟨j1,j2,j3⟩:=hj
   rw[ai (n:=2*(j:Int)+1) (by omega) (by omega)]
   have q0:(2*(j:Int)).toNat=2*j:=by omega
   have q1:(2*(j:Int)+1).toNat=2*j+1:=by omega
   obtain⟨o0,s0,t0,v0,a0,e0,g0⟩:=cq j1
   rw[l5 j1]at j3
   refine⟨aa args,rfl,fun hi=>?_,fun hi=>?_⟩
   ·have hi:=of_decide_eq_true hi
    rw[ag]at hi
    have hi:2*j+1<args.length:=by omega
    obtain⟨o1,s1,t1,v1,a1,e1,g1⟩:=cq hi
    rw[l5 hi]at j3
    refine⟨aa args,rfl,⟨by omega,by rw[ag];omega⟩,_,by rw[q0];exact g0,rfl,o0,s0,t0.k,t0.sc,v0.t.k,v0.t.sc,v0.aA,v0.n,v0.s,aa a0,rfl,args[2*j],row,rfl,rfl,by rw[e0,ab];rfl,iI _ (List.getElem_mem _),hr,jl,fun tr ok hq=>⟨fun h=>?_,fun h=>⟨fun hk=>?_,fun hk=>?_⟩⟩⟩
    ·have:ok=false:=by simpa using h
     subst this
     have hn:=fc hq
     unfold Fw at hn
     have hn:jk row args[2*j]=none:=by
      cases hx:jk row args[2*j]with
      |none=>rfl
      |some a=>rw[hx]at hn;cases hn
     refine⟨rfl,zeroV,false,?_,rfl⟩
     rw[j3,hn]
     exact j6 _
    ·have:ok=true:=by simpa using h
     subst this
     have hn:=dc hq
     unfold Fw at hn
     obtain⟨c,hcx,xN⟩:=Option.map_eq_some_iff.1 hn
     refine⟨aa args,rfl,⟨by omega,by rw[ag];omega⟩,_,by rw[q1];exact g1,rfl,o1,s1,t1.k,t1.sc,v1.t.k,v1.t.sc,v1.aA,v1.n,v1.s,aa a1,rfl,args[2*j+1],row,ty,rfl,rfl,by rw[e1,ab];rfl,rfl,iI _ (List.getElem_mem _),hr,jl,fun w pF hw=>⟨rfl,w,pF,?_,rfl⟩⟩
     rw[j3,hcx]
     simp only[fD]
     rw[xN,hk]
     exact hw
    ·have:ok=true:=by simpa using h
     subst this
     have hn:=dc hq
     unfold Fw at hn
     obtain⟨c,hcx,xN⟩:=Option.map_eq_some_iff.1 hn
     refine⟨args.length-(j+1),j+1,by omega,?_,by omega,rfl,?_⟩
     ·rw[ai (by omega) (by omega),show 2*(j:Int)+2=2*((j+1:Nat):Int) by omega]
     ·rw[j3,hcx]
      simp only[fD]
      rw[xN,hk]
      rfl
   ·have hi:=of_decide_eq_false hi
    rw[ag]at hi
    have hl:args.length=2*j+1:=by omega
    have q2:IntKind.i64.wrap (((aa args).length:Int)-1)=((2*j:Nat):Int):=by rw[ag,ai (by omega) (by omega)];omega
    refine⟨aa args,rfl,aa args,rfl,?_⟩
    rw[q2]
    refine⟨⟨by omega,by rw[ag];omega⟩,_,by rw[Int.toNat_natCast];exact g0,rfl,o0,s0,t0.k,t0.sc,v0.t.k,v0.t.sc,v0.aA,v0.n,v0.s,aa a0,rfl,args[2*j],row,ty,rfl,rfl,by rw[e0,ab];rfl,rfl,iI _ (List.getElem_mem _),hr,jl,fun w ok hw=>⟨rfl,w,ok,?_,rfl⟩⟩
    rw[j3,List.drop_eq_nil_of_le (by omega)]
    simp only[fE,fD]
    exact hw
  ·have o:op=15:=eq_of_beq o
   have hE:nj row op sub t v (ay (ak row) (.mk op sub t v args)).1 (fE row args)=gW (ay (ak row) (.mk op sub t v args)).1 (fE row args):=by
    unfold nj
    rw[if_neg (by omega),if_neg (by omega),if_neg (by omega),if_neg (by omega),if_neg (by omega),if_neg (by omega),if_pos o]
   rw[hE]
   generalize (ay (ak row) (.mk op sub t v args)).1=ty at *
   refine⟨aa args,rfl,(0:Nat),⟨rfl,args.length,Nat.zero_le _,rfl,by rw[List.drop_zero]⟩,fun m (j:Nat) hj=>?_⟩
   obtain⟨j1,j2,j3⟩:=hj
   refine⟨fun hi=>?_,fun hi=>?_⟩
   ·have hi:=of_decide_eq_true hi
    rw[ag]at hi
    have hi:j<args.length:=by omega
    obtain⟨o0,s0,t0,v0,a0,e0,g0⟩:=cq hi
    rw[l5 hi]at j3
    refine⟨aa args,rfl,⟨by omega,by rw[ag];omega⟩,_,by rw[Int.toNat_natCast];exact g0,rfl,o0,s0,t0.k,t0.sc,v0.t.k,v0.t.sc,v0.aA,v0.n,v0.s,aa a0,rfl,args[j],row,ty,rfl,rfl,by rw[e0,ab];rfl,rfl,iI _ (List.getElem_mem _),hr,jl,fun w ok hw=>⟨fun h=>⟨rfl,w,ok,?_,rfl⟩,fun h=>?_⟩⟩
    ·rw[j3]
     simp only[gW]
     unfold Vo at hw
     cases ok with
     |false=>rw[fc hw];exact j6 _
     |true=>
      rw[dc hw]
      have:w.aA=false:=by simpa using h
      dsimp only
      rw[this]
      exact ec _
    ·have fQ:ok=true∧w.aA=true:=by
      revert h
      cases ok<;>cases w.aA<;>simp
     obtain⟨rfl,hz⟩:=fQ
     refine⟨args.length-(j+1),j+1,by omega,?_,by omega,rfl,?_⟩
     ·rw[aL (by omega)]
     ·rw[j3]
      simp only[gW]
      unfold Vo at hw
      rw[dc hw]
      dsimp only
      rw[hz]
      rfl
   ·have hi:=of_decide_eq_false hi
    rw[ag]at hi
    refine⟨rfl,jW ty,true,?_,rfl⟩
    rw[j3,List.drop_eq_nil_of_le (by omega)]
    simp only[fE,gW]
    exact ec _
  ·have n1:op≠1:=ne_of_beq_false n1
   have n2:op≠2:=ne_of_beq_false n2
   have n10:op≠10:=ne_of_beq_false n10
   have n11:op≠11:=ne_of_beq_false n11
   have n12:op≠12:=ne_of_beq_false n12
   have n16:op≠16:=ne_of_beq_false n16
   have n14:op≠14:=ne_of_beq_false n14
   have n15:op≠15:=ne_of_beq_false n15
   have hE:∀ty,nj row op sub t v ty (fE row args)=match qt (fE row args)with
     |none=>none
     |some vs=>if op=13 then some (pT (vs.any fun v=>v.aA))else bif vs.any (fun v=>v.aA)then some (jW ty)else BL op sub ty vs:=fun ty=>by
    unfold nj
    rw[if_neg n1,if_neg n2,if_neg (by omega),if_neg n12,if_neg n16,if_neg n14,if_neg n15]
    rfl
   rw[hE]
   have hp:=b8 hm n1 n2
   have WG:=vT hm n14 n15
   have fw:(aa args).length=args.length:=ag _
   refine⟨aa args,rfl,by omega,by omega,by rw[fw];omega,by rw[fw];omega,aa args,rfl,(⟨0,[]⟩:VX),⟨by simp only[List.map_nil,List.nil_append,List.any_nil,Nat.sub_zero,Int.toNat_natCast,fw];rfl,args.length,Nat.zero_le _,rfl,rfl,by simp only[List.take_zero,fE,List.map_nil]⟩,fun m (x:VX) hx=>⟨fun hi=>?_,fun hi=>?_⟩⟩
   ·obtain⟨i,l⟩:=x
    obtain⟨x1,x2,x3,x4⟩:=hx
    dsimp only at x1 x2 x3 x4 hi ⊢
    have hi:=of_decide_eq_true hi
    rw[fw]at hi
    have hi:i<args.length:=by omega
    obtain⟨o0,s0,t0,v0,a0,e0,g0⟩:=cq hi
    refine⟨aa args,rfl,⟨by omega,by rw[ag];omega⟩,_,by rw[Int.toNat_natCast];exact g0,rfl,o0,s0,t0.k,t0.sc,v0.t.k,v0.t.sc,v0.aA,v0.n,v0.s,aa a0,rfl,args[i],row,rfl,rfl,by rw[e0,ab];rfl,iI _ (List.getElem_mem _),hr,jl,fun w ok hw=>⟨fun h=>?_,fun h=>?_⟩⟩
    ·have:ok=false:=by simpa using h
     subst this
     refine⟨rfl,zeroV,false,?_,rfl⟩
     rw[all_none hi (fc hw)]
     exact j6 _
    ·have:ok=true:=by simpa using h
     subst this
     refine⟨⟨by omega,by simp;omega⟩,rfl,zeroV.cs,?_,w.cs,rfl,args.length-(i+1),⟨i+1,l++[w]⟩,by omega,?_,hi,rfl,by simp[x3],?_⟩
     ·rw[Int.toNat_natCast,List.getElem?_append_right (by simp;omega),List.getElem?_replicate,if_pos (by simp;omega)]
     ·dsimp only
      rw[aL (by omega),Int.toNat_natCast]
      have:=Qw (z:=zeroV.cs) (w:=w) x3 hi
      rw[this,List.any_append]
      simp only[List.any_cons,List.any_nil,Bool.or_false]
      cases l.any (fun v=>v.aA)<;>cases w.aA<;>rfl
     ·rw[List.take_add_one,List.getElem?_eq_getElem hi,iK,List.map_append,←iK,x4]
      simp only[Option.toList_some,List.map_cons,List.map_nil,dc hw,List.map_append]
   ·obtain⟨i,l⟩:=x
    obtain⟨x1,x2,x3,x4⟩:=hx
    dsimp only at x1 x2 x3 x4 hi ⊢
    have hi:=of_decide_eq_false hi
    rw[fw]at hi
    have hi:i=args.length:=by omega
    subst hi
    rw[List.take_of_length_le (Nat.le_refl _)]at x4
    rw[x4,all_map]
    dsimp only
    refine⟨fun o=>⟨rfl,pT (l.any fun v=>v.aA),true,?_,rfl⟩,fun n13=>⟨fun hn=>⟨rfl,jW _,true,?_,rfl⟩,fun hn=>?_⟩⟩
    ·rw[if_pos (eq_of_beq o)];exact ec _
    ·rw[if_neg (ne_of_beq_false n13),hn];exact ec _
    ·rw[if_neg (ne_of_beq_false n13),hn,Nat.sub_self,List.replicate_zero,List.append_nil]
     have S4:0<l.length:=by omega
     have mK:∀(k:Nat) (hk:k<l.length),db l[k]∧ar l[k].n:=fun k hk=>by
      have hka:k<args.length:=by omega
      refine Dq k hka _ ?_
      have:=congrArg (fun z=>z[k]?) x4
      simp only[iK,List.getElem?_map]at this
      rw[List.getElem?_eq_getElem hka,List.getElem?_eq_getElem hk]at this
      simpa using this
     have zy:l.length-1<l.length:=by omega
     refine⟨op,sub,t,v,args,l.getD 0 zeroV,l.getD (l.length-1) zeroV,rfl,?_,?_,?_,?_,?_,?_,by rw[List.length_map];omega,rfl,_,_,?_,rfl⟩
     ·rw[List.getD_eq_getElem?_getD,List.getElem?_eq_getElem S4];exact(mK 0 S4).1
     ·rw[List.getD_eq_getElem?_getD,List.getElem?_eq_getElem zy];exact(mK _ zy).1
     ·rw[List.getD_eq_getElem?_getD,List.getElem?_eq_getElem S4];exact(mK 0 S4).2
     ·rw[List.getD_eq_getElem?_getD,List.getElem?_eq_getElem zy];exact(mK _ zy).2
     ·rw[List.getElem?_map,List.getD_eq_getElem?_getD,List.getElem?_eq_getElem S4];rfl
     ·rw[List.length_map,List.getElem?_map,List.getD_eq_getElem?_getD,List.getElem?_eq_getElem zy];rfl
     ·simp only[cond_false]
      unfold BL
      refine⟨?_,fun a ha=>?_⟩
      ·cases hq:(bb op sub (ay (ak row) (EX.mk op sub t v args)).1 (l.getD 0 zeroV) (l.getD (l.length-1) zeroV)).2<;>rfl
      ·cases hq:(bb op sub (ay (ak row) (EX.mk op sub t v args)).1 (l.getD 0 zeroV) (l.getD (l.length-1) zeroV)).2
       ·rw[hq]at ha;cases ha
       ·rw[hq]at ha
        simp only[cond_true,Option.some.injEq]at ha
        exact ha
def Zce(a0 a1:Int)(a2:KT)(a3:Bool)(a4:Int)(a5:ByteArray):Prop:=((dS a0 a1 != (0:Int))=true→a2 [.d (.i (dS a0 a1))] [])∧((dS a0 a1 != (0:Int))=false→(a3=true→((bif a4 != (0:Int)then true else !a5=={data:={toList:=[]:Array UInt8}:ByteArray})=true→a2 [.d (.i 20)] [])∧((bif a4 != (0:Int)then true else !a5=={data:={toList:=[]:Array UInt8}:ByteArray})=false→a2 [.d (.i 0)] []))∧(a3=false→((a0==4)=true→((bif a4 != (0:Int)then true else decide ((↑a5.size:Int)>256))=true→a2 [.d (.i 20)] [])∧((bif a4 != (0:Int)then true else decide ((↑a5.size:Int)>256))=false→a2 [.d (.i 0)] []))∧((a0==4)=false→((!a5=={data:={toList:=[]:Array UInt8}:ByteArray})=true→(true=true→a2 [.d (.i 20)] [])∧(true=false→a2 [.d (.i 0)] []))∧((!a5=={data:={toList:=[]:Array UInt8}:ByteArray})=false→((a0==1)=true→((bif a4 != (0:Int)then a4 != (1:Int)else false)=true→a2 [.d (.i 20)] [])∧((bif a4 != (0:Int)then a4 != (1:Int)else false)=false→a2 [.d (.i 0)] []))∧((a0==1)=false→((a0==3)=true→((!eo a4)=true→a2 [.d (.i 20)] [])∧((!eo a4)=false→a2 [.d (.i 0)] []))∧((a0==3)=false→((a0==5)=true→(WL a4 (a2 [.d (.i 20)] []))∧(Vb a4 (a2 [.d (.i 0)] [])))∧((a0==5)=false→(false=true→a2 [.d (.i 20)] [])∧(false=false→a2 [.d (.i 0)] []))))))))
theorem ama(k sc:Int)(aA:Bool)(m:Int)(s:ByteArray)(Q:KT):vc bl d_ bf OD (f23.body.getD .skip) f23.results.toList [.agg [.v (.int .i64 k),.v (.int .i64 sc),.v (.bool aA),.v (.int .i64 m),.v (.string s)]] Q=(Zce k sc Q aA m s):=by kernel_rfl
def Vy(a:List R)(K:KT):Prop:=match a with
 |[.agg [.v (.int .i64 k),.v (.int .i64 sc),.v (.bool aA),.v (.int .i64 m),.v (.string s)]]=>K [.d (.v (.int .i64 (bL k sc aA m s)))] []
 |_=>False
theorem Vz(a b:Int):dS a b=cf a b:=by
 unfold dS cf dZ
 have h1:decide (b≥0) = !decide (b<0):=by by_cases h:b<0<;>simp[h]<;>omega
 have h2:decide (b≤18) = !decide (b>18):=by by_cases h:b>18<;>simp[h]<;>omega
 rw[h1,h2]
 simp only[bne]
 cases decide (a<1)<;>cases decide (a>5)<;>cases decide (b<0)<;>cases decide (b>18)<;>cases a==3<;>cases b==0<;>rfl
def zh(k sc:Int)(aA:Bool)(m:Int)(s:ByteArray):Int:=bif dS k sc != 0 then dS k sc else bif aA then(bif (bif m != 0 then true else !s==({data:={toList:=[]}}:ByteArray))then 20 else 0)
 else bif k==4 then(bif (bif m != 0 then true else decide ((s.size:Int)>256))then 20 else 0)
 else bif !s==({data:={toList:=[]}}:ByteArray)then 20
 else bif k==1 then(bif (bif m != 0 then m != 1 else false)then 20 else 0)
 else bif k==3 then(bif !eo m then 20 else 0)
 else bif k==5 then(bif (bif decide (m < -719162)then true else decide (m>2932896))then 20 else 0)
 else 0
theorem LU(k sc:Int)(aA:Bool)(m:Int)(s:ByteArray):zh k sc aA m s=bL k sc aA m s:=by
 unfold zh bL eo bZ
 rw[Vz]
 have h1:decide (m≥-719162) = !decide (m < -719162):=by by_cases h:m < -719162<;>simp[h]<;>omega
 have h2:decide (m≤2932896) = !decide (m>2932896):=by by_cases h:m>2932896<;>simp[h]<;>omega
 have h3:decide ((s.size:Int)≤256) = !decide ((s.size:Int)>256):=by by_cases h:(s.size:Int)>256<;>simp[h]<;>omega
 have h4:decide ((-999999999999999999:Int)≤m)=decide (m≥-999999999999999999):=rfl
 rw[h1,h2,h3,h4]
 simp only[bne]
 generalize (s==({data:={toList:=[]}}:ByteArray))=Z
 generalize (cf k sc==0)=Y
 generalize decide (m < -719162)=X1
 generalize decide (m>2932896)=X2
 generalize decide ((s.size:Int)>256)=X3
 generalize decide (m≥-999999999999999999)=X4
 generalize decide (m≤999999999999999999)=X5
 generalize (m==0)=M0
 generalize (m==1)=M1
 generalize cf k sc=S
 have split:∀(c1 c3 c4 c5:Bool),(k==1)=c1→(k==3)=c3→(k==4)=c4→(k==5)=c5→(c4=true→c1=false∧c3=false∧c5=false):=by
  intro c1 c3 c4 c5 e1 e3 e4 e5 h
  subst h
  have:k=4:=by simpa using e4
  subst this
  exact⟨e1.symm,e3.symm,e5.symm⟩
 have split:=split _ _ _ _ rfl rfl rfl rfl
 revert split
 generalize (k==1)=c1
 generalize (k==3)=c3
 generalize (k==4)=c4
 generalize (k==5)=c5
 intro split
 cases Y
 ·rfl
 cases aA
 ·cases c4
  ·cases c1
   ·cases c3
    ·cases c5
     ·cases Z<;>rfl
     ·cases Z<;>cases X1<;>cases X2<;>rfl
    ·cases Z<;>cases X4<;>cases X5<;>rfl
   ·cases Z<;>cases M0<;>cases M1<;>rfl
  ·obtain⟨rfl,rfl,rfl⟩:=split rfl
   cases M0<;>cases X3<;>rfl
 ·cases M0<;>cases Z<;>rfl
theorem amb(k sc:Int)(aA:Bool)(m:Int)(s:ByteArray):Ct prog gl 23 [.agg [.v (.int .i64 k),.v (.int .i64 sc),.v (.bool aA),.v (.int .i64 m),.v (.string s)]] (gives [.d (.v (.int .i64 (bL k sc aA m s)))]):=by
 refine cz bh f23 OD ⟨_,_,rfl,rfl⟩ ?_
 rw[ama];dsimp -eta -iota -proj only[Zce,WL,Vb]
 rw[←LU]
 have fin:∀b,zh k sc aA m s=b→gives [.d (.v (.int .i64 (zh k sc aA m s)))] [R.d (D.v (Value.int .i64 b))] []:=fun b h=>by rw[h];exact⟨rfl,rfl⟩
 repeat' first|(refine And.intro (fun h=>?_) (fun h=>?_))|fail
 all_goals first|(refine fin _ ?_;clear fin;simp only[zh, *,cond_true,cond_false];done)|(rename_i h;cases h)
theorem Qx:CK gl Vy 23:=fun a K h=>by
 unfold Vy at h
 split at h
 ·exact(amb _ _ _ _ _).gives h
 ·exact h.elim
def LV(a:List R)(K:KT):Prop:=match a with
 |[.ptr [.sl r,.sl y],.agg x]=>∃(e:EX) (row:List Go.Ex.AV),r=row.map Go.Ex.AV.cs∧y=(ak row).map Ty.cs∧x=cells e∧dD row (size e+1) e∧dV row∧row.length≤4398046511104∧∀(w:Go.Ex.AV) (ok:Bool),Is (jk row e) w ok→K [.agg w.cs,.d (.v (.bool ok))] []
 |_=>False
theorem LW(G:aZ gl):CK gl LV 77:=fun a K h=>by
 unfold LV at h
 split at h
 ·obtain⟨e,row,rfl,rfl,rfl,h1,h2,h3,h4⟩:=h
  exact(S_ G _ e row h1 h2 h3).mono fun res fin ⟨e1,w,ok,hi,e2⟩=>by subst e1;subst e2;exact h4 w ok hi
 ·exact h.elim
def LY:aj:=au oe 77 LV
theorem EM(G:aZ gl):ah prog gl LY:=af (kC G) (LW G)
noncomputable def dq(row:List Go.Ex.AV)(e:EX):Go.Ex.AV×Int:=
 bif (aV (ak row) e).2 != 0 then(zeroV,(aV (ak row) e).2)else bif row.any mi then(zeroV,140)else(match jk row e with|none=>(zeroV,141)|some v=>(v,0))
theorem sZ{v:Go.Ex.AV}:mi v=false↔db v:=by
 rw[←gN]
 unfold mi sx
 cases h:bL v.t.k v.t.sc v.aA v.n v.s==0
 ·simp[bne,h];simpa using h
 ·simp[bne,h];simpa using h
def vU(row:List Go.Ex.AV):Prop:=∀v∈row,ar v.n
theorem zi{row:List Go.Ex.AV}(h:row.any mi=false)(hi:vU row):dV row:=fun v hv=>⟨sZ.1 (by
 rw[Bool.eq_false_iff]
 intro hb
 rw[List.any_eq_true.2 ⟨v,hv,hb⟩]at h
 cases h),hi v hv⟩
def VA(a0:List Go.Ex.AV)(k:(List AV)→Prop):Prop:=S9 a0 fun cT=>cT.length≤4398046511104∧k cT
def Zgk(a0 a1:Int)(a2:Ty)(a3:Go.Ex.AV)(a4:List EX)(a5:List AV)(a6:KT)(k:Ty→Int→Prop):Prop:=Fl a0 a1 a2 a3 a4 fun e ae=>List.map Ty.cs (ak a5)=List.map Ty.cs ae∧fits e∧ae.length≤8796093022208∧∀(dn:Ty) (f:Int),aV ae e=(dn,f)→((f != (0:Int))=true→a6 [.agg (Z8 (0:Int) (0:Int)),.d (.i f)] [])∧k dn f
def qj(a0 a1:Int)(a2:Ty)(a3:Go.Ex.AV)(a4:List EX)(a5:EX)(a6:List AV)(a7:KT):Prop:=zC a0 a1 a2 a3 a4 a5 (dD a6 (size a5).succ a5∧LM a6 fun w ok=>Is (jk a6 a5) w ok→((!ok)=true→tA a7 (141:Int))∧((!ok)=false→a7 [.agg (LN w),.d (.i 0)] []))
def Zb0(a0:List Go.Ex.AV)(a1:List AV)(a2 a3:Int)(a4:Ty)(a5:Go.Ex.AV)(a6:List EX)(a7:KT):Prop:=∃(e:EX),S9 a0 fun S'=>List.map Ty.cs (ak a1)=List.map Ty.cs (ak S')∧qj a2 a3 a4 a5 a6 e S' a7
def Z3(a0 a1:Int)(a2:Ty)(a3:Go.Ex.AV)(a4:List EX)(a5:List AV)(a6:KT)(a7:List Go.Ex.AV):Prop:=Zgk a0 a1 a2 a3 a4 a5 a6 fun _ f=>((f != (0:Int))=false→S9 a7 fun l=>l.length<4611686018427387904∧(l.any mi=true→tA a6 (140:Int))∧(l.any mi=false→(VA a7 fun p0=>((Zb0 a7 p0 a0 a1 a2 a3 a4 a6)∧Zb0 a7 p0 a0 a1 a2 a3 a4 a6)∧Zb0 a7 p0 a0 a1 a2 a3 a4 a6)∧VA a7 fun p0=>Zb0 a7 p0 a0 a1 a2 a3 a4 a6))
theorem afn(op sub:Int)(t:Ty)(v:Go.Ex.AV)(args:List EX)(row:List Go.Ex.AV)(Q:KT):vc zH LY bf Yv (f35.body.getD .skip) f35.results.toList [.agg (aT op sub t v (aa args)),.d (.sl (row.map Go.Ex.AV.cs))] Q=((VA row fun cT=>(Z3 op sub t v args cT Q row)∧Z3 op sub t v args cT Q row)∧VA row fun cT=>Z3 op sub t v args cT Q row):=by kernel_rfl
theorem afo(G:aZ gl):∀(e:EX) (row:List Go.Ex.AV) (hf:fits e) (hi:vU row) (jl:row.length≤4398046511104),
  Ct prog gl 35 [.agg (cells e),.d (.sl (row.map Go.Ex.AV.cs))] (gives [.agg (dq row e).1.cs,.d (.v (.int .i64 (dq row e).2))])
 | .mk op sub t v args,row,hf,hi,jl=>by
   have hc:aT op sub t v (aa args)=cells (.mk op sub t v args):=(ab _ _ _ _ _).symm
   rw[ab]
   refine aw (E:=zH) ⟨bN.te⟩ (EM G) aF (fun _ _ _ h=>h.elim) mixed (fn:=f35) (body:=f35.body.getD .skip) (by kernel_rfl) (by kernel_rfl) (by kernel_rfl) (fi:=Yv) (by kernel_rfl) (by kernel_rfl) ⟨_,_,rfl,rfl⟩ ?_
   rw[afn];dsimp -eta -iota -proj only[VA,S9,Z3,Zgk,Fl,zC,Z1,Z8,tA,Zb0,qj,LM,LN]
   have AB:(ak row).length=row.length:=by simp[ak]
   refine⟨⟨row,rfl,jl,?_,?_⟩,row,rfl,jl,?_⟩
   all_goals
    refine⟨.mk op sub t v args,ak row,hc,rfl,hf,by omega,fun t1 f hk=>⟨fun h=>?_,fun h=>⟨row,rfl,by omega,fun hb=>?_,fun hb=>?_⟩⟩⟩
    ·unfold dq
     rw[hk]
     dsimp only
     rw[h]
     exact⟨rfl,rfl⟩
    ·unfold dq
     rw[hk]
     dsimp only
     rw[h,hb]
     exact⟨rfl,rfl⟩
    ·have hm:=iN (ae:=ak row) (e:=.mk op sub t v args) (by rw[hk];simpa using h)
     rw[AB]at hm
     have XZ:=zi hb hi
     have hso:dD row (size (.mk op sub t v args)+1) (.mk op sub t v args):=⟨Nat.lt_succ_self _,hf,hm.1,hm.2⟩
     have fin:∀(w:Go.Ex.AV) (ok:Bool),Is (jk row (.mk op sub t v args)) w ok→
       ((!ok)=true→gives [.agg (dq row (.mk op sub t v args)).1.cs,.d (.v (.int .i64 (dq row (.mk op sub t v args)).2))] [R.agg [D.v (Value.int IntKind.i64 (0:Int)),D.v (Value.int IntKind.i64 (0:Int)),D.v (Value.bool false),D.v (Value.int IntKind.i64 (0:Int)),D.v (Value.string {data:={toList:=[]:Array UInt8}:ByteArray})],R.d (D.v (Value.int IntKind.i64 (141:Int)))] [])∧
       ((!ok)=false→gives [.agg (dq row (.mk op sub t v args)).1.cs,.d (.v (.int .i64 (dq row (.mk op sub t v args)).2))] [R.agg w.cs,R.d (D.v (Value.int IntKind.i64 (0:Int)))] []):=by
      intro w ok fQ
      have key:dq row (.mk op sub t v args)=bif !ok then(zeroV,141)else(w,0):=by
       unfold dq
       rw[hk]
       dsimp only
       rw[h,hb,cond_false,cond_false]
       cases ok with
       |false=>rw[fc fQ];rfl
       |true=>rw[dc fQ];rfl
      rw[key]
      refine⟨fun h=>?_,fun h=>?_⟩
      ·rw[h];exact⟨rfl,rfl⟩
      ·rw[h];exact⟨rfl,rfl⟩
     refine⟨⟨row,rfl,jl,⟨?_,?_⟩,?_⟩,row,rfl,jl,?_⟩
     all_goals exact⟨.mk op sub t v args,row,rfl,rfl,hc,hso,XZ,jl,fin⟩
def LZ(a:List R)(K:KT):Prop:=match a with
 |[.agg x,.d (.sl y)]=>∃(e:EX) (row:List Go.Ex.AV),x=cells e∧y=row.map Go.Ex.AV.cs∧fits e∧vU row∧row.length≤4398046511104∧∀(w:Go.Ex.AV) (f:Int),dq row e=(w,f)→K [.agg w.cs,.d (.v (.int .i64 f))] []
 |_=>False
theorem L0(G:aZ gl):CK gl LZ 35:=fun a K h=>by
 unfold LZ at h
 split at h
 ·obtain⟨e,row,rfl,rfl,h1,h2,h3,h4⟩:=h
  exact(afo G e row h1 h2 h3).gives (h4 _ _ rfl)
 ·exact h.elim
def afp(row:List Go.Ex.AV)(x:Nat):St:={tm:=[(0,.d (.sl (row.map Go.Ex.AV.cs))),(2,.nil),(3,.own 50003),(4,.d (.v (.int .i64 (x:Int))))],hp:=[(50003,.bu 23 2 ((ak (row.take x)).map Ty.cs))],kn:=[],gd:=[]}
def Ta(row:List Go.Ex.AV):Fi:={fi9 with cv:=[(3,[⟨none,3,50003,23,2⟩])],lx:=[(3,{X:=Nat,sh:=afp row,P:=fun _=>lu row})]}
def Zh5(a0:List Go.Ex.AV)(a1:Nat):St:={tm:=[(0,.d (.sl (List.map AV.cs a0))),(2,.nil),(3,.own 50003),(4,.i (↑a1:Int))],hp:=[(50003,.bu 23 2 (List.map Ty.cs (ak (List.take a1 a0))))],kn:=[],gd:=[]:St}
theorem amd(row:List Go.Ex.AV)(Q:KT):vc bl d_ bf (Ta row) (f9.body.getD .skip) f9.results.toList [.d (.sl (row.map Go.Ex.AV.cs))] Q=(∃(x0:Nat),({tm:=[(0,.d (.sl (List.map AV.cs row))),(2,.nil),(3,.own 50003),(4,.i 0)],hp:=[(50003,.bu 23 2 [])],kn:=[],gd:=[]:St}=(Zh5 row x0)∧∃(n:Nat),lu row n x0)∧∀(n:Nat) (x:Nat),lu row n x→NP row fun es=>(sy x es (NP row fun es=>PQ x es (5:Nat) fun aN aW=>PZ aN aW ((↑(List.map Ty.cs (ak (List.take x row))).length.succ:Int)*(↑(16:Nat):Int)≤140737488355328∧fG n fun m x'=>{tm:=[(0,.d (.sl (List.map AV.cs row))),(2,.nil),(3,.own 50003),(4,.i (IntKind.i64.wrap ((↑x:Int)+1)))],hp:=[(50003,.bu 23 2 (List.map Ty.cs (ak (List.take x row))++[(ql aN aW)]))],kn:=[],gd:=[]:St}=(Zh5 row x')∧lu row m x')))∧(qE x es (Q [.d (.sl (List.map Ty.cs (ak (List.take x row))))] []))):=by kernel_rfl
theorem ame(row:List Go.Ex.AV)(hl:row.length≤4398046511104):Ct prog gl 9 [.d (.sl (row.map Go.Ex.AV.cs))] (gives [.d (.sl ((ak row).map Ty.cs))]):=by
 refine aw bN bh aF bD mixed (fn:=f9) (body:=f9.body.getD .skip) (by kernel_rfl) (by kernel_rfl) (by kernel_rfl) (fi:=Ta row) (by kernel_rfl) (by kernel_rfl) ⟨_,_,rfl,rfl⟩ ?_
 rw[amd];dsimp -eta -iota -proj only[Zh5,NP,fy,sy,PQ,Ay,Zbx,ql,PZ,fG,fb,qE]
 refine⟨(0:Nat),⟨rfl,row.length,Nat.zero_le _,rfl⟩,fun m (x:Nat) hx=>⟨_,rfl,fun hi=>?_,fun hi=>?_⟩⟩
 ·have hi:x<row.length:=by simpa using hi
  have hm:=hx.2
  refine⟨_,rfl,⟨by omega,by rw[List.length_map];omega⟩,(row[x]).cs,by rw[Int.toNat_natCast,List.getElem?_map,List.getElem?_eq_getElem hi];rfl,rfl,_,_,rfl,by simp,rfl,rfl,?_,row.length-(x+1),x+1,by omega,?_,hi,rfl⟩
  ·have:(List.map Ty.cs (ak (List.take x row))).length≤row.length:=by simp[ak];omega
   simp only[Nat.succ_eq_add_one];omega
  ·rw[aL (by omega),List.take_add_one,List.getElem?_eq_getElem hi,Option.toList_some]
   simp only[ak,List.map_append,List.map_cons,List.map_nil]
 ·have hi:¬x<row.length:=by simpa using hi
  rw[List.take_of_length_le (by omega)]
  exact⟨rfl,rfl⟩
def VB(a:List R)(K:KT):Prop:=match a with
 |[.d (.sl x)]=>∃row:List Go.Ex.AV,x=row.map Go.Ex.AV.cs∧row.length≤4398046511104∧K [.d (.sl ((ak row).map Ty.cs))] []
 |_=>False
theorem Qy:CK gl VB 9:=fun a K h=>by
 unfold VB at h
 split at h
 ·obtain⟨row,rfl,h1,h2⟩:=h
  exact(ame row h1).gives h2
 ·exact h.elim
end Go.Proofs.Tryz
set_option maxRecDepth 100000
namespace Go.Ex
open Go Go.Dm
theorem lI{a b:Int}(ha:ar a)(hb:ar b):cA a b*ba+cN a b=a*b∧0≤cN a b∧cN a b<ba:=by
 have hp:=lX ha hb
 obtain⟨gp,jJ⟩:=ha
 obtain⟨hb1,du⟩:=hb
 have wa:IntKind.u64.wrap a=if a<0 then a+ba else a:=by rw[aP];simp only[ba];split<;>omega
 have wb:IntKind.u64.wrap b=if b<0 then b+ba else b:=by rw[aP];simp only[ba];split<;>omega
 have hx:0≤IntKind.u64.wrap a∧IntKind.u64.wrap a<ba:=by rw[aP];simp only[ba];omega
 have hy:0≤IntKind.u64.wrap b∧IntKind.u64.wrap b<ba:=by rw[aP];simp only[ba];omega
 obtain⟨e,l0,l1,h0,h1⟩:=words hx.1 hx.2 hy.1 hy.2
 have exy:IntKind.u64.wrap a*IntKind.u64.wrap b=a*b+ba*((if a<0 then b else 0)+(if b<0 then a else 0))+(if a<0∧b<0 then ba*ba else 0):=by
  rw[wa,wb]
  by_cases h1:a<0<;>by_cases h2:b<0<;>simp only[h1,h2,if_true,if_false,and_true,and_false]<;>grind
 rw[exy]at e
 have key:cA a b*ba+mL (IntKind.u64.wrap a) (IntKind.u64.wrap b)=a*b:=by
  unfold cA
  generalize mH (IntKind.u64.wrap a) (IntKind.u64.wrap b)=H at *
  generalize mL (IntKind.u64.wrap a) (IntKind.u64.wrap b)=L at *
  generalize a*b=p at *
  simp only[fW,ba]at *
  by_cases g1:a<0<;>by_cases g2:b<0<;>simp only[g1,g2,if_true,if_false,and_true,and_false,decide_true,decide_false,cond_true,cond_false]at e ⊢<;>(repeat' split)<;>omega
 exact⟨key,l0,l1⟩
def L1(a b:Int):Int:=bif decide (a<0)==decide (b<0)then IntKind.i64.wrap ((a.natAbs:Int)*(b.natAbs:Int)/ba)else
 IntKind.i64.wrap (bif IntKind.u64.wrap (0-(a.natAbs:Int)*(b.natAbs:Int) % ba)==0 then IntKind.u64.wrap (aB.bits .xor .u64 18446744073709551615 ((a.natAbs:Int)*(b.natAbs:Int)/ba)+1)else aB.bits .xor .u64 18446744073709551615 ((a.natAbs:Int)*(b.natAbs:Int)/ba))
def BP(a b:Int):Int:=bif decide (a<0)==decide (b<0)then(a.natAbs:Int)*(b.natAbs:Int) % ba else IntKind.u64.wrap (0-(a.natAbs:Int)*(b.natAbs:Int) % ba)
theorem Qz{x:Int}(h0:0≤x)(h1:x<ba):aB.bits .xor .u64 18446744073709551615 x=18446744073709551615-x:=by
 obtain⟨n,rfl⟩:=Int.eq_ofNat_of_zero_le h0
 have h1:n<18446744073709551616:=by have:(n:Int)<18446744073709551616:=h1;omega
 have hb:aB.bits .xor .u64 18446744073709551615 (n:Int)=IntKind.u64.wrap (((BitVec.ofInt 64 18446744073709551615 ^^^ BitVec.ofInt 64 (n:Int)).toNat:Nat):Int):=by unfold aB.bits;rfl
 rw[hb,aP]
 have e:(BitVec.ofInt 64 18446744073709551615 ^^^ BitVec.ofInt 64 (n:Int)) = ~~~ (BitVec.ofNat 64 n):=by
  have e1:BitVec.ofInt 64 18446744073709551615=BitVec.allOnes 64:=BitVec.eq_of_toNat_eq (by rw[BitVec.toNat_ofInt,BitVec.toNat_allOnes];simp)
  have e2:BitVec.ofInt 64 (n:Int)=BitVec.ofNat 64 n:=BitVec.ofInt_natCast 64 n
  rw[e1,e2,BitVec.allOnes_xor]
 rw[e,BitVec.toNat_not,BitVec.toNat_ofNat]
 simp only[Nat.reducePow,Nat.reduceSub,ba]
 omega
theorem VC{p:Int}(h0:p≤0)(h1:-85070591730234615865843651857942052864≤p){z H L:Int}(hz:z=(0-(p.natAbs:Int) % ba) % ba)
  (hH:H=if z=0 then(ba-1-(p.natAbs:Int)/ba+1) % ba else ba-1-(p.natAbs:Int)/ba) (hL:L=if H % ba<9223372036854775808 then H % ba else H % ba-ba):
  L*ba+z=p∧0≤z∧z<ba:=by
 simp only[ba]at *
 have e:(p.natAbs:Int) = -p:=by omega
 rw[e]at hz hH
 generalize -p=q at *
 by_cases c:z=0
 ·rw[if_pos c]at hH
  subst hH
  split at hL<;>omega
 ·rw[if_neg c]at hH
  subst hH
  split at hL<;>omega
theorem VD{p:Int}(h0:0≤p)(h1:p≤85070591730234615865843651857942052864){L:Int}(hL:L=if(p.natAbs:Int)/ba % ba<9223372036854775808 then(p.natAbs:Int)/ba % ba else(p.natAbs:Int)/ba % ba-ba):
  L*ba+(p.natAbs:Int) % ba=p∧0≤(p.natAbs:Int) % ba∧(p.natAbs:Int) % ba<ba:=by
 simp only[ba]at *
 have e:(p.natAbs:Int)=p:=by omega
 rw[e]at *
 split at hL<;>omega
theorem afq{a b:Int}(ha:ar a)(hb:ar b):L1 a b=cA a b∧BP a b=cN a b:=by
 obtain⟨e,l0,l1⟩:=lI ha hb
 have hp:(a.natAbs:Int)*(b.natAbs:Int)=((a*b).natAbs:Int):=by rw[Int.natAbs_mul,Int.natCast_mul]
 have du:=lX ha hb
 have hs:(a*b<0→(decide (a<0)==decide (b<0))=false)∧((decide (a<0)==decide (b<0))=false→a*b≤0):=by
  by_cases h1:a<0<;>by_cases h2:b<0<;>simp only[h1,h2,decide_true,decide_false]<;>simp
  ·exact Int.mul_nonneg_of_nonpos_of_nonpos (by omega) (by omega)
  ·exact Int.mul_nonpos_of_nonpos_of_nonneg (by omega) (by omega)
  ·exact Int.mul_nonpos_of_nonneg_of_nonpos (by omega) (by omega)
  ·exact Int.mul_nonneg (by omega) (by omega)
 have key:L1 a b*ba+BP a b=a*b∧0≤BP a b∧BP a b<ba:=by
  unfold L1 BP
  rw[hp]
  cases hc:(decide (a<0)==decide (b<0))
  ·have hle:=hs.2 hc
   generalize a*b=p at *
   have hq:0≤(p.natAbs:Int)/ba∧(p.natAbs:Int)/ba<ba:=by simp only[ba];omega
   have hx:=Qz hq.1 hq.2
   have Ju:(18446744073709551615:Int)=ba-1:=rfl
   simp only[cond_false]
   rw[hx,Ju]
   refine VC hle du.1 (aP _) (H:=bif IntKind.u64.wrap (0-(p.natAbs:Int) % ba)==0 then IntKind.u64.wrap (ba-1-(p.natAbs:Int)/ba+1)else ba-1-(p.natAbs:Int)/ba) ?_ (fW _)
   cases hz:IntKind.u64.wrap (0-(p.natAbs:Int) % ba)==0
   ·rw[if_neg (ne_of_beq_false hz),cond_false]
   ·rw[if_pos (eq_of_beq hz),cond_true,aP]
  ·have Wq:¬a*b<0:=fun h=>by rw[hs.1 h]at hc;cases hc
   generalize a*b=p at *
   simp only[cond_true]
   exact VD (by omega) du.2 (fW _)
 generalize a*b=p at *
 generalize L1 a b=h1 at *
 generalize BP a b=l1' at *
 generalize cA a b=h2 at *
 generalize cN a b=l2 at *
 simp only[ba]at *
 omega
def zj(x y:Int):Int:=if x<y then -1 else if x=y then 0 else 1
theorem vV{h1 l1 h2 l2 x y:Int}(e1:h1*ba+l1=x)(a1:0≤l1)(b1:l1<ba)(e2:h2*ba+l2=y)(a2:0≤l2)(b2:l2<ba):
  ((h1<h2∨(h1=h2∧l1<l2))↔x<y)∧((h1=h2∧l1=l2)↔x=y):=by
 simp only[ba]at *
 constructor<;>constructor<;>intro h<;>omega
end Go.Ex
