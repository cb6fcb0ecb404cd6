/- A part of the proof: contracts of functions, by a verified generator of conditions; no condition of its own. -/
import Derived.Test.YthhomimmnogngaaGreatDoorE7
namespace Go.Proofs.Tryz
open Go Go.Dm Go.Ex
set_option maxRecDepth 100000
variable {gl:Nat→Option Obj}
def SubOk(row:List Go.Ex.AV)(n:Nat)(e:EX):Prop:=size e<n∧fits e∧mayE row.length e=true∧(typedE (typesV row) e).2=true
def Is{α:Type}(o:Option α)(w:α)(ok:Bool):Prop:=ok=o.isSome∧∀a,o=some a→w=a
noncomputable def trE(row:List Go.Ex.AV)(e:EX):Option Int:=(evE row e).map truthP
noncomputable def asE(row:List Go.Ex.AV)(t:Ty)(e:EX):Option Go.Ex.AV:=(evE row e).bind (asV t)
def c_57v(n:Nat)(a:List R)(K:KT):Prop:=match a with
 |[.ptr [.sl r,.sl y],.agg x]=>∃(e:EX) (row:List Go.Ex.AV),r=row.map Go.Ex.AV.cs∧y=(typesV row).map Ty.cs∧x=cells e∧SubOk row n e∧RowOk row∧row.length≤4398046511104∧∀(w:Go.Ex.AV) (ok:Bool),Is (evE row e) w ok→K [.agg w.cs,.d (.v (.bool ok))] []
 |_=>False
def c_116v(n:Nat)(a:List R)(K:KT):Prop:=match a with
 |[.ptr [.sl r,.sl y],.agg x]=>∃(e:EX) (row:List Go.Ex.AV),r=row.map Go.Ex.AV.cs∧y=(typesV row).map Ty.cs∧x=cells e∧SubOk row n e∧RowOk row∧row.length≤4398046511104∧∀(tr:Int) (ok:Bool),Is (trE row e) tr ok→K [.d (.v (.int .i64 tr)),.d (.v (.bool ok))] []
 |_=>False
def c_119v(n:Nat)(a:List R)(K:KT):Prop:=match a with
 |[.ptr [.sl r,.sl y],.agg x,.agg z]=>∃(e:EX) (row:List Go.Ex.AV) (t:Ty),r=row.map Go.Ex.AV.cs∧y=(typesV row).map Ty.cs∧x=cells e∧z=t.cs∧SubOk row n e∧RowOk row∧row.length≤4398046511104∧∀(w:Go.Ex.AV) (ok:Bool),Is (asE row t e) w ok→K [.agg w.cs,.d (.v (.bool ok))] []
 |_=>False
def c_115v(n:Nat)(a:List R)(K:KT):Prop:=match a with
 |[.ptr [.sl r,.sl y],.agg x]=>∃(op sub:Int) (t:Ty) (v:Go.Ex.AV) (args:List EX) (row:List Go.Ex.AV),r=row.map Go.Ex.AV.cs∧y=(typesV row).map Ty.cs∧x=encX op sub t v (cellsL args)∧(op=10∨op=11)∧args.length=2∧(∀e∈args,SubOk row n e)∧RowOk row∧row.length≤4398046511104∧∀(w:Go.Ex.AV) (ok:Bool),Is (logicV op (evL row args)) w ok→K [.agg w.cs,.d (.v (.bool ok))] []
 |_=>False
def C_v57(n:Nat):CallT:=addC C_t122r 18 (c_57v n)
def Ze4(a0:List AV)(k:Prop):Prop:=RowOk a0∧a0.length≤4398046511104∧k
def Zel(a0 a1:List (List D))(a2 a3:Int)(a4:Ty)(a5:Go.Ex.AV)(a6:List EX)(a7:Nat)(k:AV→Bool→Prop):Prop:=∃(e:EX),∃(row:List AV),a0=List.map AV.cs row∧a1=List.map Ty.cs (typesV row)∧Z7 a2 a3 a4 a5 a6 e (SubOk row a7 e∧Ze4 row (∀(w:AV) (ok:Bool),Is (evE row e) w ok→k w ok))
theorem vc116v(n:Nat)(op sub:Int)(t:Ty)(v:Go.Ex.AV)(args:List EX)(r y:List (List D))(Q:KT):vc E_9 (C_v57 n) noI fi39 (f39.body.getD .skip) f39.results.toList [.ptr [.sl r,.sl y],.agg (encX op sub t v (cellsL args))] Q=(Zel r y op sub t v args n fun w ok=>Q [.d (.i (s196_0 w.1.1 w.1.2 w.2 w.3 w.4)),.d (.v (.bool ok))] []):=by kernel_rfl
def Zc4(a0:AV):List D:=[.i a0.1.1,.i a0.1.2,.v (.bool a0.2),.i a0.3,.v (.string a0.4)]
theorem vc119v(n:Nat)(op sub:Int)(t:Ty)(v:Go.Ex.AV)(args:List EX)(r y:List (List D))(u:Ty)(Q:KT):vc E_9 (C_v57 n) noI fi42 (f42.body.getD .skip) f42.results.toList [.ptr [.sl r,.sl y],.agg (encX op sub t v (cellsL args)),.agg u.cs] Q=(Zel r y op sub t v args n fun w ok=>((!ok)=true→Q [.agg (Zc4 w),.d (.v (.bool false))] [])∧((!ok)=false→ValP {t:={k:=w.1.1,sc:=w.1.2:Ty},nul:=w.2,n:=w.3,s:=w.4:AV}∧in64 w.3∧Q [.agg [.v (.int .i64 (castV {t:={k:=w.1.1,sc:=w.1.2:Ty},nul:=w.2,n:=w.3,s:=w.4:AV} {k:=u.1,sc:=u.2:Ty}).1.1.1),.v (.int .i64 (castV {t:={k:=w.1.1,sc:=w.1.2:Ty},nul:=w.2,n:=w.3,s:=w.4:AV} {k:=u.1,sc:=u.2:Ty}).1.1.2),.v (.bool (castV {t:={k:=w.1.1,sc:=w.1.2:Ty},nul:=w.2,n:=w.3,s:=w.4:AV} {k:=u.1,sc:=u.2:Ty}).1.2),.v (.int .i64 (castV {t:={k:=w.1.1,sc:=w.1.2:Ty},nul:=w.2,n:=w.3,s:=w.4:AV} {k:=u.1,sc:=u.2:Ty}).1.3),.v (.string (castV {t:={k:=w.1.1,sc:=w.1.2:Ty},nul:=w.2,n:=w.3,s:=w.4:AV} {k:=u.1,sc:=u.2:Ty}).1.4)],.d (.v (.bool ((castV {t:={k:=w.1.1,sc:=w.1.2:Ty},nul:=w.2,n:=w.3,s:=w.4:AV} {k:=u.1,sc:=u.2:Ty}).2==(0:Int))))] [])):=by kernel_rfl
def C_v116(n:Nat):CallT:=addC C_t122r 39 (c_116v n)
def Zd1(a0:List EX)(a1:Int)(k:(List D)→Prop):Prop:=Zb6 a0 fun es=>Zcd a1 es fun cells=>k cells
def Z5(a0:List D)(k:Int→Int→Int→Int→Int→Int→Bool→Int→ByteArray→(List (List D))→EX→(List AV)→Prop):Prop:=Z1 a0 fun n_1 n_2 n_3 n_4 n_5 n_6 b n_7 b_1 es e=>∃(row:List AV),k n_1 n_2 n_3 n_4 n_5 n_6 b n_7 b_1 es e row
def Zba(a0:List EX)(a1:Int)(a2 a3:List (List D))(a4:Nat)(k:Int→Bool→Prop):Prop:=Zd1 a0 a1 fun cells=>Z5 cells fun n_1 n_2 n_3 n_4 n_5 n_6 b n_7 b_1 es e row=>a2=List.map AV.cs row∧a3=List.map Ty.cs (typesV row)∧Zdc n_1 n_2 n_3 n_4 n_5 n_6 b n_7 b_1 es e (SubOk row a4 e∧Ze4 row (∀(tr:Int) (ok:Bool),Is (trE row e) tr ok→k tr ok))
def Zbx(a0:List EX)(a1 a2:List (List D))(a3:Nat)(a4:Int)(a5:KT)(k:Int→Bool→Prop):Prop:=Zba a0 (0:Int) a1 a2 a3 fun tr ok=>((bif !ok then true else tr==a4)=true→a5 [.agg [.v (.int .i64 (liftV tr).1.1),.v (.int .i64 (liftV tr).1.2),.v (.bool (liftV tr).2),.v (.int .i64 (liftV tr).3),.v (.string (liftV tr).4)],.d (.v (.bool ok))] [])∧k tr ok
def Zb2(a0:Bool)(a1 a2:Int)(a3:List EX)(a4 a5:List (List D))(a6:Nat)(k:Int→Bool→Prop):Prop:=(bif !a0 then true else a1==a2)=false→Zba a3 (1:Int) a4 a5 a6 fun tr_1 ok=>k tr_1 ok
theorem vc115v(n:Nat)(op sub:Int)(t:Ty)(v:Go.Ex.AV)(args:List EX)(r y:List (List D))(Q:KT):vc E_9 (C_v116 n) noI fi38 (f38.body.getD .skip) f38.results.toList [.ptr [.sl r,.sl y],.agg (encX op sub t v (cellsL args))] Q=(((op==11)=true→Zbx args r y n (1:Int) Q fun tr ok=>(Zb2 ok tr (1:Int) args r y n fun tr_1 ok=>Q [.agg [.v (.int .i64 (liftV (s195_0 tr tr_1)).1.1),.v (.int .i64 (liftV (s195_0 tr tr_1)).1.2),.v (.bool (liftV (s195_0 tr tr_1)).2),.v (.int .i64 (liftV (s195_0 tr tr_1)).3),.v (.string (liftV (s195_0 tr tr_1)).4)],.d (.v (.bool ok))] []))∧((op==11)=false→Zbx args r y n (0:Int) Q fun tr ok=>(Zb2 ok tr (0:Int) args r y n fun tr_1 ok=>Q [.agg [.v (.int .i64 (liftV (s194_0 tr tr_1)).1.1),.v (.int .i64 (liftV (s194_0 tr tr_1)).1.2),.v (.bool (liftV (s194_0 tr tr_1)).2),.v (.int .i64 (liftV (s194_0 tr tr_1)).3),.v (.string (liftV (s194_0 tr tr_1)).4)],.d (.v (.bool ok))] []))):=by kernel_rfl
theorem is_ex{α:Type}(o:Option α)(d:α):∃w ok,Is o w ok:=by
 cases o with
 |none=>exact⟨d,false,rfl,fun a h=>by cases h⟩
 |some a=>exact⟨a,true,rfl,fun b h=>by cases h;rfl⟩
theorem is_map{α β:Type}{f:α→β}{o:Option α}{w:α}{ok:Bool}(h:Is o w ok):Is (o.map f) (f w) ok:=by
 obtain⟨h1,h2⟩:=h
 cases o with
 |none=>exact⟨h1,fun a h=>by cases h⟩
 |some a=>exact⟨h1,fun b hb=>by simp only[Option.map_some,Option.some.injEq]at hb;rw[h2 a rfl,hb]⟩
theorem is_none{α:Type}{o:Option α}{w:α}(h:Is o w false):o=none:=by
 cases o with
 |none=>rfl
 |some a=>cases h.1
theorem is_some{α:Type}{o:Option α}{w:α}(h:Is o w true):o=some w:=by
 cases o with
 |none=>cases h.1
 |some a=>rw[h.2 a rfl]
theorem is_as(t:Ty)(w:Go.Ex.AV):Is (asV t w) (castV w t).1 ((castV w t).2==0):=by
 unfold asV
 cases(castV w t).2==0
 ·exact⟨rfl,fun a h=>by cases h⟩
 ·exact⟨rfl,fun a h=>by simp only[cond_true,Option.some.injEq]at h;exact h⟩
theorem is_no{α:Type}(w:α):Is (none:Option α) w false:=⟨rfl,fun a h=>by cases h⟩
theorem is_yes{α:Type}(w:α):Is (some w) w true:=⟨rfl,fun a h=>by cases h;rfl⟩
theorem ct116v(G:GlOk gl)(n:Nat)(hC:CallsOk prog gl (C_v57 n))(e:EX)(row:List Go.Ex.AV)(hs:SubOk row n e)(hr:RowOk row)(hrl:row.length≤4398046511104):
  Ct prog gl 39 [.ptr [.sl (row.map Go.Ex.AV.cs),.sl ((typesV row).map Ty.cs)],.agg (cells e)] (fun res fin=>fin=[]∧∃(tr:Int) (ok:Bool),Is (trE row e) tr ok∧res=[.d (.v (.int .i64 tr)),.d (.v (.bool ok))]):=by
 obtain⟨op,sub,t,v,args⟩:=e
 rw[cells_mk]
 refine ct_of_vc (E:=E_9) ⟨E_ok.te⟩ hC ioK_no (fun _ _ _ h=>h.elim) mixed (fn:=f39) (body:=f39.body.getD .skip) (by kernel_rfl) (by kernel_rfl) (by kernel_rfl) (fi:=fi39) (by kernel_rfl) (by kernel_rfl) (let ⟨tr,ok,h⟩:=is_ex (trE row (.mk op sub t v args)) 0;⟨_,_,rfl,tr,ok,h,rfl⟩) ?_
 rw[vc116v];dsimp -eta -iota -proj only[Zel,Z7,Z6,Ze4]
 exact⟨.mk op sub t v args,row,rfl,rfl,(cells_mk _ _ _ _ _).symm,hs,hr,hrl,fun w ok hi=>⟨rfl,_,_,is_map hi,rfl⟩⟩
theorem ct119v(G:GlOk gl)(n:Nat)(hC:CallsOk prog gl (C_v57 n))(e:EX)(row:List Go.Ex.AV)(u:Ty)(hs:SubOk row n e)(hr:RowOk row)(hrl:row.length≤4398046511104):
  Ct prog gl 42 [.ptr [.sl (row.map Go.Ex.AV.cs),.sl ((typesV row).map Ty.cs)],.agg (cells e),.agg u.cs] (fun res fin=>fin=[]∧∃(w:Go.Ex.AV) (ok:Bool),Is (asE row u e) w ok∧res=[.agg w.cs,.d (.v (.bool ok))]):=by
 obtain⟨op,sub,t,v,args⟩:=e
 rw[cells_mk]
 refine ct_of_vc (E:=E_9) ⟨E_ok.te⟩ hC ioK_no (fun _ _ _ h=>h.elim) mixed (fn:=f42) (body:=f42.body.getD .skip) (by kernel_rfl) (by kernel_rfl) (by kernel_rfl) (fi:=fi42) (by kernel_rfl) (by kernel_rfl) (let ⟨tr,ok,h⟩:=is_ex (asE row u (.mk op sub t v args)) zeroV;⟨_,_,rfl,tr,ok,h,rfl⟩) ?_
 rw[vc119v];dsimp -eta -iota -proj only[Zel,Z7,Z6,Ze4,Zc4]
 refine⟨.mk op sub t v args,row,rfl,rfl,(cells_mk _ _ _ _ _).symm,hs,hr,hrl,fun w ok hi=>⟨fun h=>?_,fun h=>?_⟩⟩<;>unfold asE
 ·have:ok=false:=by simpa using h
  subst this
  rw[is_none hi]
  exact⟨rfl,w,false,is_no w,rfl⟩
 ·have:ok=true:=by simpa using h
  subst this
  have he:=is_some hi
  have hg:=evE_ok hr hs.2.1 hs.2.2.1 hs.2.2.2 he
  rw[he]
  exact⟨hg.2.1,hg.2.2,rfl,(castV w u).1,_,is_as u w,rfl⟩
theorem c_116v_ok(G:GlOk gl)(n:Nat)(hC:CallsOk prog gl (C_v57 n))(a:List R)(K:KT)(h:c_116v n a K):Ct prog gl 39 a K:=by
 unfold c_116v at h
 split at h
 ·obtain⟨e,row,rfl,rfl,rfl,h1,h2,h3,h4⟩:=h
  exact(ct116v G n hC e row h1 h2 h3).mono fun res fin ⟨e1,tr,ok,hi,e2⟩=>by subst e1;subst e2;exact h4 tr ok hi
 ·exact h.elim
theorem c_119v_ok(G:GlOk gl)(n:Nat)(hC:CallsOk prog gl (C_v57 n))(a:List R)(K:KT)(h:c_119v n a K):Ct prog gl 42 a K:=by
 unfold c_119v at h
 split at h
 ·obtain⟨e,row,t,rfl,rfl,rfl,rfl,h1,h2,h3,h4⟩:=h
  exact(ct119v G n hC e row t h1 h2 h3).mono fun res fin ⟨e1,tr,ok,hi,e2⟩=>by subst e1;subst e2;exact h4 tr ok hi
 ·exact h.elim
theorem logic_a{op:Int}{a:Go.Ex.AV}{r:List (Option Go.Ex.AV)}(h:(truthP a==(if op=11 then 1 else 0))=true):logicV op (some a::r)=some (liftV (truthP a)):=by
 show(bif truthP a==(if op=11 then 1 else 0)then _ else _)=_
 rw[h];rfl
theorem logic_b{op:Int}{a:Go.Ex.AV}{b:Option Go.Ex.AV}{r:List (Option Go.Ex.AV)}(h:(truthP a==(if op=11 then 1 else 0))=false):logicV op (some a::b::r)=b.map fun b=>liftV (if op=11 then s195_0 (truthP a) (truthP b)else s194_0 (truthP a) (truthP b)):=by
 show(bif truthP a==(if op=11 then 1 else 0)then _ else _)=_
 rw[h]
 cases b<;>rfl
theorem ct115v(G:GlOk gl)(n:Nat)(hC:CallsOk prog gl (C_v116 n))(op sub:Int)(t:Ty)(v:Go.Ex.AV)(args:List EX)(row:List Go.Ex.AV)(ho:op=10∨op=11)(ha:args.length=2)(hs:∀e∈args,SubOk row n e)(hr:RowOk row)(hrl:row.length≤4398046511104):
  Ct prog gl 38 [.ptr [.sl (row.map Go.Ex.AV.cs),.sl ((typesV row).map Ty.cs)],.agg (encX op sub t v (cellsL args))] (fun res fin=>fin=[]∧∃(w:Go.Ex.AV) (ok:Bool),Is (logicV op (evL row args)) w ok∧res=[.agg w.cs,.d (.v (.bool ok))]):=by
 refine ct_of_vc (E:=E_9) ⟨E_ok.te⟩ hC ioK_no (fun _ _ _ h=>h.elim) mixed (fn:=f38) (body:=f38.body.getD .skip) (by kernel_rfl) (by kernel_rfl) (by kernel_rfl) (fi:=fi38) (by kernel_rfl) (by kernel_rfl) (let ⟨tr,ok,h⟩:=is_ex (logicV op (evL row args)) zeroV;⟨_,_,rfl,tr,ok,h,rfl⟩) ?_
 rw[vc115v];dsimp -eta -iota -proj only[Zbx,Zba,Zd1,Zb6,Zej,Zcd,Z5,Z1,Zcs,Zdc,Ze4,Zb2]
 obtain⟨o0,s0,t0,v0,a0,e0,g0⟩:=arg_get (l:=args) (i:=0) (by omega)
 obtain⟨o1,s1,t1,v1,a1,e1,g1⟩:=arg_get (l:=args) (i:=1) (by omega)
 have hev:evL row args=[evE row args[0],evE row args[1]]:=by
  match args,ha with
  |[x,y],_=>simp only[evL];rfl
 rw[hev]
 have step:∀(k:Int) (f:Int→Int→Int),(if op=11 then(1:Int)else 0)=k→(∀x y,(if op=11 then s195_0 x y else s194_0 x y)=f x y)→∀(tr:Int) (ok:Bool),Is (trE row args[0]) tr ok→
   ((bif !ok then true else tr==k)=true→Is (logicV op [evE row args[0],evE row args[1]]) (liftV tr) ok)∧
   ((bif !ok then true else tr==k)=false→∀(tr1:Int) (ok1:Bool),Is (trE row args[1]) tr1 ok1→Is (logicV op [evE row args[0],evE row args[1]]) (liftV (f tr tr1)) ok1):=by
  intro k f hk hf tr ok hi
  unfold trE at hi ⊢
  cases hx:evE row args[0]with
  |none=>
   rw[hx]at hi
   cases ok with
   |true=>cases hi.1
   |false=>exact⟨fun _=>is_no _,fun h=>by cases h⟩
  |some a=>
   rw[hx]at hi
   cases ok with
   |false=>cases hi.1
   |true=>
    have htr:tr=truthP a:=hi.2 _ rfl
    subst htr
    refine⟨fun h=>?_,fun h tr1 ok1 h1=>?_⟩
    ·rw[logic_a (by rw[hk];exact h)];exact is_yes _
    ·rw[logic_b (by rw[hk];exact h)]
     cases hy:evE row args[1]with
     |none=>rw[hy]at h1;cases ok1 with
      |true=>cases h1.1
      |false=>exact is_no _
     |some b=>rw[hy]at h1;cases ok1 with
      |false=>cases h1.1
      |true=>
       have:tr1=truthP b:=h1.2 _ rfl
       subst this
       rw[←hf];exact is_yes _
 refine⟨fun h=>?_,fun h=>?_⟩
 ·have h:op=11:=by simpa using h
  refine⟨cellsL args,rfl,⟨by decide,by rw[cellsL_len];omega⟩,_,g0,rfl,o0,s0,t0.k,t0.sc,v0.t.k,v0.t.sc,v0.nul,v0.n,v0.s,cellsL a0,rfl,args[0],row,rfl,rfl,by rw[e0,cells_mk];rfl,hs _ (List.getElem_mem _),hr,hrl,fun tr ok hi=>?_⟩
  obtain⟨p1,p2⟩:=step 1 s195_0 (if_pos h) (fun x y=>if_pos h) tr ok hi
  refine⟨fun hc=>⟨rfl,_,_,p1 hc,rfl⟩,fun hc=>?_⟩
  exact⟨cellsL args,rfl,⟨by decide,by rw[cellsL_len];omega⟩,_,g1,rfl,o1,s1,t1.k,t1.sc,v1.t.k,v1.t.sc,v1.nul,v1.n,v1.s,cellsL a1,rfl,args[1],row,rfl,rfl,by rw[e1,cells_mk];rfl,hs _ (List.getElem_mem _),hr,hrl,fun tr1 ok1 hi1=>⟨rfl,_,_,p2 hc tr1 ok1 hi1,rfl⟩⟩
 ·have h:¬op=11:=by simpa using h
  refine⟨cellsL args,rfl,⟨by decide,by rw[cellsL_len];omega⟩,_,g0,rfl,o0,s0,t0.k,t0.sc,v0.t.k,v0.t.sc,v0.nul,v0.n,v0.s,cellsL a0,rfl,args[0],row,rfl,rfl,by rw[e0,cells_mk];rfl,hs _ (List.getElem_mem _),hr,hrl,fun tr ok hi=>?_⟩
  obtain⟨p1,p2⟩:=step 0 s194_0 (if_neg h) (fun x y=>if_neg h) tr ok hi
  refine⟨fun hc=>⟨rfl,_,_,p1 hc,rfl⟩,fun hc=>?_⟩
  exact⟨cellsL args,rfl,⟨by decide,by rw[cellsL_len];omega⟩,_,g1,rfl,o1,s1,t1.k,t1.sc,v1.t.k,v1.t.sc,v1.nul,v1.n,v1.s,cellsL a1,rfl,args[1],row,rfl,rfl,by rw[e1,cells_mk];rfl,hs _ (List.getElem_mem _),hr,hrl,fun tr1 ok1 hi1=>⟨rfl,_,_,p2 hc tr1 ok1 hi1,rfl⟩⟩
theorem c_115v_ok(G:GlOk gl)(n:Nat)(hC:CallsOk prog gl (C_v116 n))(a:List R)(K:KT)(h:c_115v n a K):Ct prog gl 38 a K:=by
 unfold c_115v at h
 split at h
 ·obtain⟨op,sub,t,v,args,row,rfl,rfl,rfl,h0,h1,h2,h3,h4,h5⟩:=h
  exact(ct115v G n hC op sub t v args row h0 h1 h2 h3 h4).mono fun res fin ⟨e1,tr,ok,hi,e2⟩=>by subst e1;subst e2;exact h5 tr ok hi
 ·exact h.elim
def C_w57(n:Nat):CallT:=addC (addC (addC (addC C_t122r 18 (c_57v n)) 39 (c_116v n)) 42 (c_119v n)) 38 (c_115v n)
def st_hp(op sub:Int)(t:Ty)(v:Go.Ex.AV)(args:List EX)(ty:Ty):List (Nat×B):=[(3,.box [.d (.v (.int .i64 op)),.d (.v (.int .i64 sub)),.d (.v (.int .i64 t.k)),.d (.v (.int .i64 t.sc)),.d (.v (.int .i64 v.t.k)),.d (.v (.int .i64 v.t.sc)),.d (.v (.bool v.nul)),.d (.v (.int .i64 v.n)),.d (.v (.string v.s)),.d (.sl (cellsL args))]),(4,.box [.d (.v (.int .i64 0)),.d (.v (.int .i64 0)),.d (.v (.bool false)),.d (.v (.int .i64 0)),.d (.v (.string {data:={toList:=[]:Array UInt8}:ByteArray}))]),(6,.box [.d (.v (.int .i64 ty.k)),.d (.v (.int .i64 ty.sc))])]
def st_57a(op sub:Int)(t:Ty)(v:Go.Ex.AV)(args:List EX)(row:List Go.Ex.AV)(ty:Ty)(j:Nat):St:={tm:=[(0,.dptr [.sl (row.map Go.Ex.AV.cs),.sl ((typesV row).map Ty.cs)]),(3,.ref 3 0),(4,.ref 4 0),(5,.d (.v (.bool false))),(6,.ref 6 0),(10,.d (.v (.int .i64 (2*(j:Int)))))],hp:=st_hp op sub t v args ty,kn:=[],gd:=[]}
def st_57b(op sub:Int)(t:Ty)(v:Go.Ex.AV)(args:List EX)(row:List Go.Ex.AV)(ty:Ty)(j:Nat):St:={tm:=[(0,.dptr [.sl (row.map Go.Ex.AV.cs),.sl ((typesV row).map Ty.cs)]),(3,.ref 3 0),(4,.ref 4 0),(5,.d (.v (.bool false))),(6,.ref 6 0),(135,.d (.sl (cellsL args))),(136,.d (.v (.int .i64 ((cellsL args).length:Int)))),(137,.d (.v (.int .i64 (j:Int))))],hp:=st_hp op sub t v args ty,kn:=[],gd:=[]}
def inv_57a(row:List Go.Ex.AV)(args:List EX)(ty:Ty)(m:Nat)(j:Nat):Prop:=2*j<args.length∧m=args.length-j∧caseV ty (evL row args)=caseV ty (evL row (args.drop (2*j)))
def inv_57b(row:List Go.Ex.AV)(args:List EX)(ty:Ty)(m:Nat)(j:Nat):Prop:=j≤args.length∧m=args.length-j∧coalV ty (evL row args)=coalV ty (evL row (args.drop j))
def inv_57c(row:List Go.Ex.AV)(args:List EX)(m:Nat)(x:VX):Prop:=x.i≤args.length∧m=args.length-x.i∧x.l.length=x.i∧evL row (args.take x.i)=x.l.map some
def fx_57v(op sub:Int)(t:Ty)(v:Go.Ex.AV)(args:List EX)(row:List Go.Ex.AV)(ty:Ty):Fi:={fi18 with lx:=[(17,{X:=Nat,sh:=st_57a op sub t v args row ty,P:=fun _=>inv_57a row args ty}),(27,{X:=Nat,sh:=st_57b op sub t v args row ty,P:=fun _=>inv_57b row args ty}),(37,{X:=VX,sh:=st_57 op sub t v args row (typesV row),P:=fun _=>inv_57c row args})]}
def Zdk(a0:List Go.Ex.AV)(k:(List AV)→Prop):Prop:=∃(row_1:List AV),List.map AV.cs a0=List.map AV.cs row_1∧k row_1
def Zd9(a0:AV)(a1:Bool):List R:=[.agg (Zc4 a0),.d (.v (.bool a1))]
def Zeo(a0:KT)(a1:AV)(a2:Bool):Prop:=a0 (Zd9 a1 a2) []
def Zb3(a0:List Go.Ex.AV)(a1 a2:Int)(a3:Ty)(a4:Go.Ex.AV)(a5:List EX)(a6:Nat)(a7:KT):Prop:=Zer fun op_1 sub_1 t_2 v_1 args_1=>Zdk a0 fun row_1=>List.map Ty.cs (typesV a0)=List.map Ty.cs (typesV row_1)∧Zc3 a1 a2 a3 a4 a5 op_1 sub_1 t_2 v_1 args_1 ((op_1=(10:Int)∨op_1=(11:Int))∧args_1.length=2∧(∀(e:EX),e∈args_1→SubOk row_1 a6 e)∧Ze4 row_1 (∀(w:AV) (ok:Bool),Is (logicV op_1 (evL row_1 args_1)) w ok→Zeo a7 w ok))
def Zb4(a0 a1:Int)(a2:List Go.Ex.AV)(a3:Int)(a4:Ty)(a5:Go.Ex.AV)(a6:List EX)(a7:Nat)(a8:KT):Prop:=(a0==a1)=true→Zb3 a2 a0 a3 a4 a5 a6 a7 a8
def Zcb(a0 a1 a2:Int)(a3:List Go.Ex.AV)(a4:Int)(a5:Ty)(a6:Go.Ex.AV)(a7:List EX)(a8:Nat)(a9:KT)(k:Prop):Prop:=(a0==a1)=false→(Zb4 a0 a2 a3 a4 a5 a6 a7 a8 a9)∧k
def Zbn(a0:List D)(a1:List Go.Ex.AV)(a2:Nat)(k:EX→(List AV)→Prop):Prop:=Z5 a0 fun n_1 n_2 n_3 n_4 n_5 n_6 b n_7 b_1 es e row_1=>List.map AV.cs a1=List.map AV.cs row_1∧List.map Ty.cs (typesV a1)=List.map Ty.cs (typesV row_1)∧Zdc n_1 n_2 n_3 n_4 n_5 n_6 b n_7 b_1 es e (SubOk row_1 a2 e∧Ze4 row_1 (k e row_1))
def Zcc(a0:List D)(a1:List Go.Ex.AV)(a2:Nat)(k:Int→Bool→Prop):Prop:=Zbn a0 a1 a2 fun e row_1=>∀(tr:Int) (ok:Bool),Is (trE row_1 e) tr ok→k tr ok
def Zbb(a0:List D)(a1:List Go.Ex.AV)(a2:Ty)(a3:Nat)(k:AV→Bool→Prop):Prop:=Z5 a0 fun n_1 n_2 n_3 n_4 n_5 n_6 b n_7 b_1 es e row_1=>∃(t_2:Ty),List.map AV.cs a1=List.map AV.cs row_1∧List.map Ty.cs (typesV a1)=List.map Ty.cs (typesV row_1)∧Zdc n_1 n_2 n_3 n_4 n_5 n_6 b n_7 b_1 es e ((Ze7 a2)=t_2.cs∧SubOk row_1 a3 e∧Ze4 row_1 (∀(w:AV) (ok:Bool),Is (asE row_1 t_2 e) w ok→k w ok))
def Zbe(a0:List D)(a1:List Go.Ex.AV)(a2:Ty)(a3:Nat)(a4:KT):Prop:=Zbb a0 a1 a2 a3 fun w ok=>Zeo a4 w ok
def Zcj(a0:List Go.Ex.AV):List D:=[.sl (List.map AV.cs a0),.sl (List.map Ty.cs (typesV a0))]
def Zcm(a0:List Go.Ex.AV)(a1:Nat)(a2 a3:Int)(a4:Ty)(a5:Go.Ex.AV)(a6:List EX)(a7:Ty):St:={tm:=[(0,.dptr (Zcj a0)),(3,.ref 3 0),(4,.ref 4 0),(5,.d (.v (.bool false))),(6,.ref 6 0),(10,.i ((2:Int)*(↑a1:Int)))],hp:=[(3,.box [.i a2,.i a3,.i a4.1,.i a4.2,.i a5.1.1,.i a5.1.2,.d (.v (.bool a5.2)),.i a5.3,.d (.v (.string a5.4)),.d (.sl (cellsL a6))]),(4,.box [.i 0,.i 0,.d (.v (.bool false)),.i 0,.d (.v (.string ⟨⟨[]⟩⟩))]),(6,.box [.i a7.1,.i a7.2])],kn:=[],gd:=[]:St}
def Zey(a0:Bool)(a1:KT):Prop:=(!a0)=true→Zdi a1
def Zfb(a0:Bool)(a1:KT)(k:Prop):Prop:=(Zey a0 a1)∧k
def Zce(a0:List Go.Ex.AV)(a1:List EX)(a2:Nat)(a3 a4:Int)(a5:Ty)(a6:Go.Ex.AV)(a7:Ty):St:={tm:=[(0,.dptr (Zcj a0)),(3,.ref 3 0),(4,.ref 4 0),(5,.d (.v (.bool false))),(6,.ref 6 0),(135,.d (.sl (cellsL a1))),(136,.i (↑(cellsL a1).length:Int)),(137,.i (↑a2:Int))],hp:=[(3,.box [.i a3,.i a4,.i a5.1,.i a5.2,.i a6.1.1,.i a6.1.2,.d (.v (.bool a6.2)),.i a6.3,.d (.v (.string a6.4)),.d (.sl (cellsL a1))]),(4,.box [.i 0,.i 0,.d (.v (.bool false)),.i 0,.d (.v (.string ⟨⟨[]⟩⟩))]),(6,.box [.i a7.1,.i a7.2])],kn:=[],gd:=[]:St}
def Zc(a0 a1:Int)(a2:Ty)(a3:Go.Ex.AV)(a4:List EX)(a5:List (List D))(a6:List Go.Ex.AV)(a7:KT)(a8:Nat)(a9:Ty):Prop:=Zd3 a0 a1 a2 a3 a4 a5 fun t_1 ok=>((a0==1)=true→Zej fun es=>some [D.sl (List.map AV.cs a6)]=some [D.sl es]∧Zej fun es_1=>D.sl es=D.sl es_1∧(0≤a1∧a1<(↑es_1.length:Int))∧∃(cells:List D),es_1[a1.toNat]? = some cells∧Zbg cells fun n n_1 b n_2 b_1=>a7 [.agg (Zdq n n_1 b n_2 b_1),.d (.v (.bool true))] [])∧((a0==1)=false→((a0==2)=true→a7 [.agg [.i a3.1.1,.i a3.1.2,.v (.bool a3.2),.i a3.3,.v (.string a3.4)],.d (.v (.bool true))] [])∧(Zcb a0 (2:Int) (10:Int) a6 a1 a2 a3 a4 a8 a7 ((Zcb a0 (10:Int) (11:Int) a6 a1 a2 a3 a4 a8 a7 (((a0==11)=false→((a0==12)=true→Zd1 a4 (0:Int) fun cells=>Zcc cells a6 a8 fun tr ok=>a7 [.agg [.v (.int .i64 (liftV (s118_0 tr)).1.1),.v (.int .i64 (liftV (s118_0 tr)).1.2),.v (.bool (liftV (s118_0 tr)).2),.v (.int .i64 (liftV (s118_0 tr)).3),.v (.string (liftV (s118_0 tr)).4)],.d (.v (.bool ok))] [])∧((a0==12)=false→((a0==16)=true→Zd1 a4 (0:Int) fun cells=>Zbe cells a6 a2 a8 a7)∧((a0==16)=false→((a0==14)=true→∃(x0:Nat),({tm:=[(0,.dptr (Zcj a6)),(3,.ref 3 0),(4,.ref 4 0),(5,.d (.v (.bool false))),(6,.ref 6 0),(10,.i 0)],hp:=[(3,.box [.i a0,.i a1,.i a2.1,.i a2.2,.i a3.1.1,.i a3.1.2,.d (.v (.bool a3.2)),.i a3.3,.d (.v (.string a3.4)),.d (.sl (cellsL a4))]),(4,.box [.i 0,.i 0,.d (.v (.bool false)),.i 0,.d (.v (.string ⟨⟨[]⟩⟩))]),(6,.box [.i t_1.1,.i t_1.2])],kn:=[],gd:=[]:St}=(Zcm a6 x0 a0 a1 a2 a3 a4 a9)∧∃(n:Nat),inv_57a a6 a4 a9 n x0)∧∀(n_1:Nat) (x:Nat),inv_57a a6 a4 a9 n_1 x→Zb6 a4 fun es=>(decide (IntKind.i64.wrap ((2:Int)*(↑x:Int)+1)<(↑es.length:Int))=true→Zb6 a4 fun es=>((0:Int)≤2*(↑x:Int)∧(2:Int)*(↑x:Int)<(↑es.length:Int))∧∃(cells:List D),es[((2:Int)*(↑x:Int)).toNat]? = some cells∧Zcc cells a6 a8 fun tr ok=>Zfb ok a7 (((!ok)=false→((tr==1)=true→Zb6 a4 fun es=>((0:Int)≤IntKind.i64.wrap ((2:Int)*(↑x:Int)+1)∧IntKind.i64.wrap ((2:Int)*(↑x:Int)+1)<(↑es.length:Int))∧∃(cells:List D),es[(IntKind.i64.wrap ((2:Int)*(↑x:Int)+1)).toNat]? = some cells∧Zbe cells a6 a9 a8 a7)∧((tr==1)=false→Zee n_1 fun m x'=>{tm:=[(0,.dptr (Zcj a6)),(3,.ref 3 0),(4,.ref 4 0),(5,.d (.v (.bool false))),(6,.ref 6 0),(10,.i (IntKind.i64.wrap ((2:Int)*(↑x:Int)+2)))],hp:=[(3,.box [.i a0,.i a1,.i a2.1,.i a2.2,.i a3.1.1,.i a3.1.2,.d (.v (.bool a3.2)),.i a3.3,.d (.v (.string a3.4)),.d (.sl (cellsL a4))]),(4,.box [.i 0,.i 0,.d (.v (.bool false)),.i 0,.d (.v (.string ⟨⟨[]⟩⟩))]),(6,.box [.i a9.1,.i a9.2])],kn:=[],gd:=[]:St}=(Zcm a6 x' a0 a1 a2 a3 a4 a9)∧inv_57a a6 a4 a9 m x'))))∧(decide (IntKind.i64.wrap ((2:Int)*(↑x:Int)+1)<(↑es.length:Int))=false→Zb6 a4 fun es=>Zb6 a4 fun es_1=>Zcp es es_1 fun cells=>Zbe cells a6 a9 a8 a7))∧((a0==14)=false→((a0==15)=true→Zb6 a4 fun es=>∃(x0:Nat),({tm:=[(0,.dptr (Zcj a6)),(3,.ref 3 0),(4,.ref 4 0),(5,.d (.v (.bool false))),(6,.ref 6 0),(135,.d (.sl (cellsL a4))),(136,.i (↑es.length:Int)),(137,.i 0)],hp:=[(3,.box [.i a0,.i a1,.i a2.1,.i a2.2,.i a3.1.1,.i a3.1.2,.d (.v (.bool a3.2)),.i a3.3,.d (.v (.string a3.4)),.d (.sl (cellsL a4))]),(4,.box [.i 0,.i 0,.d (.v (.bool false)),.i 0,.d (.v (.string ⟨⟨[]⟩⟩))]),(6,.box [.i t_1.1,.i t_1.2])],kn:=[],gd:=[]:St}=(Zce a6 a4 x0 a0 a1 a2 a3 a9)∧∃(n:Nat),inv_57b a6 a4 a9 n x0)∧∀(n_1:Nat) (x:Nat),inv_57b a6 a4 a9 n_1 x→(Zep x a4 fun cells=>Zbb cells a6 a9 a8 fun w ok=>((bif !ok then true else !w.2)=true→Zeo a7 w ok)∧((bif !ok then true else !w.2)=false→Zee n_1 fun m x'=>{tm:=[(0,.dptr (Zcj a6)),(3,.ref 3 0),(4,.ref 4 0),(5,.d (.v (.bool false))),(6,.ref 6 0),(135,.d (.sl (cellsL a4))),(136,.i (↑(cellsL a4).length:Int)),(137,.i (IntKind.i64.wrap ((↑x:Int)+1)))],hp:=[(3,.box [.i a0,.i a1,.i a2.1,.i a2.2,.i a3.1.1,.i a3.1.2,.d (.v (.bool a3.2)),.i a3.3,.d (.v (.string a3.4)),.d (.sl (cellsL a4))]),(4,.box [.i 0,.i 0,.d (.v (.bool false)),.i 0,.d (.v (.string ⟨⟨[]⟩⟩))]),(6,.box [.i a9.1,.i a9.2])],kn:=[],gd:=[]:St}=(Zce a6 a4 x' a0 a1 a2 a3 a9)∧inv_57b a6 a4 a9 m x'))∧(decide ((↑x:Int)<(↑(cellsL a4).length:Int))=false→a7 [.agg (Zev a9),.d (.v (.bool true))] []))∧((a0==15)=false→Zb6 a4 fun es=>0≤(↑es.length:Int)∧(↑es.length:Int)≤(↑es.length:Int)∧(↑es.length:Int)*(↑(48:Nat):Int)≤140737488355328∧(↑es.length:Int)≤140737488355328∧Zb6 a4 fun es_1=>∃(x0:VX),({tm:=[(0,.dptr (Zcj a6)),(3,.ref 3 0),(4,.ref 4 0),(5,.d (.v (.bool false))),(6,.ref 6 0),(17,.own 163),(18,.d (.v (.bool false))),(165,.d (.sl (cellsL a4))),(166,.i (↑es_1.length:Int)),(167,.i 0)],hp:=[(3,.box [.i a0,.i a1,.i a2.1,.i a2.2,.i a3.1.1,.i a3.1.2,.d (.v (.bool a3.2)),.i a3.3,.d (.v (.string a3.4)),.d (.sl (cellsL a4))]),(4,.box [.i 0,.i 0,.d (.v (.bool false)),.i 0,.d (.v (.string ⟨⟨[]⟩⟩))]),(6,.box [.i t_1.1,.i t_1.2]),(163,.lst 25 5 (List.replicate (↑es.length:Int).toNat (Z3 (0:Int) (0:Int))))],kn:=[],gd:=[]:St}={tm:=[(0,.dptr (Zcj a6)),(3,.ref 3 0),(4,.ref 4 0),(5,.d (.v (.bool false))),(6,.ref 6 0),(17,.own 163),(18,.d (.v (.bool (x0.2.any fun(v:AV)=>v.nul)))),(165,.d (.sl (cellsL a4))),(166,.i (↑(cellsL a4).length:Int)),(167,.i (↑x0.1:Int))],hp:=[(3,.box [.i a0,.i a1,.i a2.1,.i a2.2,.i a3.1.1,.i a3.1.2,.d (.v (.bool a3.2)),.i a3.3,.d (.v (.string a3.4)),.d (.sl (cellsL a4))]),(4,.box [.i 0,.i 0,.d (.v (.bool false)),.i 0,.d (.v (.string ⟨⟨[]⟩⟩))]),(6,.box [.d (.v (.int .i64 (typedE (typesV a6) (EX.mk a0 a1 a2 a3 a4)).1.1)),.d (.v (.int .i64 (typedE (typesV a6) (EX.mk a0 a1 a2 a3 a4)).1.2))]),(163,.lst 25 5 (List.map AV.cs x0.2++List.replicate (a4.length-x0.1) zeroV.cs))],kn:=[],gd:=[]:St}∧∃(n:Nat),inv_57c a6 a4 n x0)∧∀(n_1:Nat) (x:VX),inv_57c a6 a4 n_1 x→(decide ((↑x.1:Int)<(↑(cellsL a4).length:Int))=true→Zb6 a4 fun es=>(0≤(↑x.1:Int)∧(↑x.1:Int)<(↑es.length:Int))∧∃(cells:List D),es[(↑x.1:Int).toNat]? = some cells∧Zbn cells a6 a8 fun e row_1=>∀(w:AV) (ok:Bool),Is (evE row_1 e) w ok→Zfb ok a7 (((!ok)=false→(0≤(↑x.1:Int)∧(↑x.1:Int)<(↑(List.map AV.cs x.2++List.replicate (a4.length-x.1) zeroV.cs).length:Int))∧(5:Nat)=(5:Nat)∧∃(cells:List D),(List.map AV.cs x.2++List.replicate (a4.length-x.1) zeroV.cs)[(↑x.1:Int).toNat]? = some cells∧∃(cells':List D),over (0:Nat) (Zc4 w) cells=some cells'∧∃(m:Nat),∃(x':VX),m<n_1∧{tm:=[(0,.dptr (Zcj a6)),(3,.ref 3 0),(4,.ref 4 0),(5,.d (.v (.bool false))),(6,.ref 6 0),(17,.own 163),(18,.d (.v (.bool (bif x.2.any fun(v:AV)=>v.nul then true else w.2)))),(165,.d (.sl (cellsL a4))),(166,.i (↑(cellsL a4).length:Int)),(167,.i (IntKind.i64.wrap ((↑x.1:Int)+1)))],hp:=[(3,.box [.i a0,.i a1,.i a2.1,.i a2.2,.i a3.1.1,.i a3.1.2,.d (.v (.bool a3.2)),.i a3.3,.d (.v (.string a3.4)),.d (.sl (cellsL a4))]),(4,.box [.i 0,.i 0,.d (.v (.bool false)),.i 0,.d (.v (.string ⟨⟨[]⟩⟩))]),(6,.box [.d (.v (.int .i64 (typedE (typesV a6) (EX.mk a0 a1 a2 a3 a4)).1.1)),.d (.v (.int .i64 (typedE (typesV a6) (EX.mk a0 a1 a2 a3 a4)).1.2))]),(163,.lst 25 5 ((List.map AV.cs x.2++List.replicate (a4.length-x.1) zeroV.cs).set (↑x.1:Int).toNat cells'))],kn:=[],gd:=[]:St}={tm:=[(0,.dptr (Zcj a6)),(3,.ref 3 0),(4,.ref 4 0),(5,.d (.v (.bool false))),(6,.ref 6 0),(17,.own 163),(18,.d (.v (.bool (x'.2.any fun(v:AV)=>v.nul)))),(165,.d (.sl (cellsL a4))),(166,.i (↑(cellsL a4).length:Int)),(167,.i (↑x'.1:Int))],hp:=[(3,.box [.i a0,.i a1,.i a2.1,.i a2.2,.i a3.1.1,.i a3.1.2,.d (.v (.bool a3.2)),.i a3.3,.d (.v (.string a3.4)),.d (.sl (cellsL a4))]),(4,.box [.i 0,.i 0,.d (.v (.bool false)),.i 0,.d (.v (.string ⟨⟨[]⟩⟩))]),(6,.box [.d (.v (.int .i64 (typedE (typesV a6) (EX.mk a0 a1 a2 a3 a4)).1.1)),.d (.v (.int .i64 (typedE (typesV a6) (EX.mk a0 a1 a2 a3 a4)).1.2))]),(163,.lst 25 5 (List.map AV.cs x'.2++List.replicate (a4.length-x'.1) zeroV.cs))],kn:=[],gd:=[]:St}∧inv_57c a6 a4 m x')))∧(decide ((↑x.1:Int)<(↑(cellsL a4).length:Int))=false→((a0==13)=true→a7 [.agg [.i 1,.i 0,.v (.bool false),.i (bif x.2.any fun(v:AV)=>v.nul then(1:Int)else(0:Int)),.v (.string eB)],.d (.v (.bool true))] [])∧((a0==13)=false→((x.2.any fun(v:AV)=>v.nul)=true→a7 [.agg [.v (.int .i64 (typedE (typesV a6) (EX.mk a0 a1 a2 a3 a4)).1.1),.v (.int .i64 (typedE (typesV a6) (EX.mk a0 a1 a2 a3 a4)).1.2),.v (.bool true),.i 0,.v (.string ⟨⟨[]⟩⟩)],.d (.v (.bool true))] [])∧((x.2.any fun(v:AV)=>v.nul)=false→Zer fun op_1 sub_1 y w args_1=>∃(a:AV),∃(b:AV),Zc3 a0 a1 a2 a3 a4 op_1 sub_1 y w args_1 (ValP a∧ValP b∧in64 a.3∧in64 b.3∧(List.map AV.cs x.2++List.replicate (a4.length-x.1) zeroV.cs)[(0:Nat)]? = some a.cs∧(List.map AV.cs x.2++List.replicate (a4.length-x.1) zeroV.cs)[(List.map AV.cs x.2++List.replicate (a4.length-x.1) zeroV.cs).length-(1:Nat)]? = some b.cs∧(List.map AV.cs x.2++List.replicate (a4.length-x.1) zeroV.cs).length≤1000∧a7 [.agg [.v (.int .i64 (reckonV op_1 sub_1 {k:=(typedE (typesV a6) (EX.mk a0 a1 a2 a3 a4)).1.1,sc:=(typedE (typesV a6) (EX.mk a0 a1 a2 a3 a4)).1.2:Ty} a b).1.1.1),.v (.int .i64 (reckonV op_1 sub_1 {k:=(typedE (typesV a6) (EX.mk a0 a1 a2 a3 a4)).1.1,sc:=(typedE (typesV a6) (EX.mk a0 a1 a2 a3 a4)).1.2:Ty} a b).1.1.2),.v (.bool (reckonV op_1 sub_1 {k:=(typedE (typesV a6) (EX.mk a0 a1 a2 a3 a4)).1.1,sc:=(typedE (typesV a6) (EX.mk a0 a1 a2 a3 a4)).1.2:Ty} a b).1.2),.v (.int .i64 (reckonV op_1 sub_1 {k:=(typedE (typesV a6) (EX.mk a0 a1 a2 a3 a4)).1.1,sc:=(typedE (typesV a6) (EX.mk a0 a1 a2 a3 a4)).1.2:Ty} a b).1.3),.v (.string (reckonV op_1 sub_1 {k:=(typedE (typesV a6) (EX.mk a0 a1 a2 a3 a4)).1.1,sc:=(typedE (typesV a6) (EX.mk a0 a1 a2 a3 a4)).1.2:Ty} a b).1.4)],.d (.v (.bool (reckonV op_1 sub_1 {k:=(typedE (typesV a6) (EX.mk a0 a1 a2 a3 a4)).1.1,sc:=(typedE (typesV a6) (EX.mk a0 a1 a2 a3 a4)).1.2:Ty} a b).2))] []))))))))))))))
theorem vc57v(n:Nat)(op sub:Int)(t:Ty)(v:Go.Ex.AV)(args:List EX)(row:List Go.Ex.AV)(ty:Ty)(Q:KT):vc E_9 (C_w57 n) noI (fx_57v op sub t v args row ty) (f18.body.getD .skip) f18.results.toList [.ptr [.sl (row.map Go.Ex.AV.cs),.sl ((typesV row).map Ty.cs)],.agg (encX op sub t v (cellsL args))] Q=(Zej fun es=>some [D.sl (List.map Ty.cs (typesV row))]=some [D.sl es]∧(Zc op sub t v args es row Q n ty)∧Zc op sub t v args es row Q n ty):=by kernel_rfl
theorem size_mem2{e:EX}{l:List EX}(h:e∈l):size e≤sizeL l:=by
 induction l with
 |nil=>cases h
 |cons a r ih=>
  simp only[sizeL]
  cases h with
  |head=>omega
  |tail _ h=>have:=ih h;omega
theorem typedL_mem{cols:List Ty}:∀{l:List EX} {tl:List Ty},typedL cols l=some tl→∀e∈l,(typedE cols e).2=true
 |a::l,tl,h,e,he=>by
  simp only[typedL]at h
  rcases hh:typedE cols a with⟨u,_|_⟩
  ·rw[hh]at h;cases h
  ·rw[hh]at h
   rcases hl:typedL cols l with _|r
   ·rw[hl]at h;cases h
   ·rcases List.mem_cons.1 he with rfl|he
    ·rw[hh]
    ·exact typedL_mem hl e he
theorem mayL_mem{c:Int}{l:List EX}(h:mayL c l=true):∀e∈l,mayE c e=true:=by
 rw[mayL_all,List.all_eq_true]at h
 exact h
theorem arg_get2{l:List EX}{i:Nat}(hi:i<l.length):∃op sub t v a,l[i] = .mk op sub t v a∧(cellsL l)[i]? = some (encX op sub t v (cellsL a)):=by
 obtain⟨op,sub,t,v,a,h1,h2⟩:=arg_get hi
 exact⟨op,sub,t,v,a,h1,by rw[Int.toNat_natCast]at h2;exact h2⟩
theorem ev_get{row:List Go.Ex.AV}{l:List EX}{i:Nat}(hi:i<l.length):(evL row l).getD i none=evE row l[i]:=by
 rw[evL_map,List.getD_eq_getElem?_getD,List.getElem?_map,List.getElem?_eq_getElem hi];rfl
theorem ev_drop{row:List Go.Ex.AV}{l:List EX}{i:Nat}(hi:i<l.length):evL row (l.drop i)=evE row l[i]::evL row (l.drop (i+1)):=by
 rw[List.drop_eq_getElem_cons hi]
 simp only[evL]
theorem all_map:∀l:List Go.Ex.AV,allV (l.map some)=some l
 |[]=>rfl
 |a::r=>by simp only[List.map_cons,allV,all_map r]
theorem all_none{row:List Go.Ex.AV}:∀{l:List EX} {i:Nat} (hi:i<l.length),evE row l[i]=none→allV (evL row l)=none
 |a::l,0,hi,h=>by
  simp only[evL]
  have h:evE row a=none:=h
  rw[h];rfl
 |a::l,i+1,hi,h=>by
  simp only[evL]
  have:=all_none (l:=l) (i:=i) (by simpa using hi) h
  cases hx:evE row a with
  |none=>rfl
  |some b=>simp only[allV,this]
theorem may_small{op sub:Int}{t:Ty}{v:Go.Ex.AV}{m c:Int}(h:mayHd op sub t v m c=true)(h14:op≠14)(h15:op≠15):m≤2:=by
 unfold mayHd at h
 rw[show(op==14)=false by simpa using h14,show(op==15)=false by simpa using h15]at h
 simp only[cond_false]at h
 cases e1:op==1
 ·cases e2:op==2
  ·cases e9:op==9
   ·cases e16:op==16
    ·cases e8:(op==8||op==12||op==13||op==18)
     ·cases e3:(op==3||op==4||op==5||op==6||op==7||op==10||op==11||op==17)
      ·rw[e1,e2,e9,e16,e8,e3]at h;cases h
      ·rw[e1,e2,e9,e16,e8,e3]at h
       have:=eq_of_beq (bt (bt (bt h).1).1).1
       omega
     ·rw[e1,e2,e9,e16,e8]at h
      have:=eq_of_beq (bt (bt (bt h).1).1).1
      omega
    ·rw[e1,e2,e9,e16]at h
     have:=eq_of_beq (bt (bt (bt h).1).1).1
     omega
   ·rw[e1,e2,e9]at h
    have:=eq_of_beq (bt (bt (bt h).1).1).1
    omega
  ·rw[e1,e2]at h
   have:=eq_of_beq (bt (bt (bt h).1).1).1
   omega
 ·rw[e1]at h
  have:=eq_of_beq (bt (bt (bt h).1).1).1
  omega
theorem may_and{op sub:Int}{t:Ty}{v:Go.Ex.AV}{m c:Int}(h:mayHd op sub t v m c=true)(ho:op=10∨op=11):m=2:=by
 unfold mayHd at h
 rcases ho with rfl|rfl
 ·exact eq_of_beq (bt (bt (bt h).1).1).1
 ·exact eq_of_beq (bt (bt (bt h).1).1).1
theorem may_case{sub:Int}{t:Ty}{v:Go.Ex.AV}{m c:Int}(h:mayHd 14 sub t v m c=true):3≤m∧m.tmod 2≠0:=by
 unfold mayHd at h
 have h1:=bt (bt (bt (bt h).1).1).1
 exact⟨of_decide_eq_true h1.1,by simpa using h1.2⟩
theorem set_map{l:List Go.Ex.AV}{n:Nat}{z:List D}{w:Go.Ex.AV}{i:Nat}(hi:l.length=i)(h:i<n):(l.map Go.Ex.AV.cs++List.replicate (n-i) z).set i w.cs=(l++[w]).map Go.Ex.AV.cs++List.replicate (n-(i+1)) z:=by
 subst hi;exact set_next h
theorem ct57v(G:GlOk gl):∀(n:Nat) (e:EX) (row:List Go.Ex.AV),SubOk row n e→RowOk row→row.length≤4398046511104→
  Ct prog gl 18 [.ptr [.sl (row.map Go.Ex.AV.cs),.sl ((typesV row).map Ty.cs)],.agg (cells e)] (fun res fin=>fin=[]∧∃(w:Go.Ex.AV) (ok:Bool),Is (evE row e) w ok∧res=[.agg w.cs,.d (.v (.bool ok))])
 |0,e,row,h,_,_=>absurd h.1 (Nat.not_lt_zero _)
 |n+1,.mk op sub t v args,row,hs,hr,hrl=>by
  have hC57:∀a K,c_57v n a K→Ct prog gl 18 a K:=fun a K hk=>by
   unfold c_57v at hk
   split at hk
   ·obtain⟨e,row,rfl,rfl,rfl,h1,h2,h3,h4⟩:=hk
    exact(ct57v G n e row h1 h2 h3).mono fun res fin ⟨e1,w,ok,hi,e2⟩=>by subst e1;subst e2;exact h4 w ok hi
   ·exact hk.elim
  have hCv:CallsOk prog gl (C_v57 n):=addC_ok (C_t122r_ok G) hC57
  have hC16:∀a K,c_116v n a K→Ct prog gl 39 a K:=c_116v_ok G n hCv
  have hCv16:CallsOk prog gl (C_v116 n):=addC_ok (C_t122r_ok G) hC16
  have hC:CallsOk prog gl (C_w57 n):=addC_ok (addC_ok (addC_ok (addC_ok (C_t122r_ok G) hC57) hC16) (c_119v_ok G n hCv)) (c_115v_ok G n hCv16)
  obtain⟨h1,h2,h3,h4⟩:=hs
  have hc:encX op sub t v (cellsL args)=cells (.mk op sub t v args):=(cells_mk _ _ _ _ _).symm
  rw[cells_mk]
  obtain⟨tl,htl⟩:=typedE_args h4
  obtain⟨hm,hml⟩:=may_mk h3
  obtain⟨_,hal,hfl⟩:=fits_mk h2
  simp only[size]at h1
  have hsub:∀e∈args,SubOk row n e:=fun e he=>⟨by have:=size_mem2 he;omega,fitsL_mem hfl he,mayL_mem hml e he,typedL_mem htl e he⟩
  have hgood:∀(i:Nat) (hi:i<args.length) (a:Go.Ex.AV),evE row args[i]=some a→ValP a∧in64 a.n:=fun i hi a ha=>by
   have:=hsub _ (List.getElem_mem hi)
   exact(evE_ok hr this.2.1 this.2.2.1 this.2.2.2 ha).2
  have hev:evE row (.mk op sub t v args)=evN row op sub t v (typedE (typesV row) (.mk op sub t v args)).1 (evL row args):=by simp only[evE]
  refine ct_of_vc (E:=E_9) ⟨E_ok.te⟩ hC ioK_no (fun _ _ _ h=>h.elim) mixed (fn:=f18) (body:=f18.body.getD .skip) (by kernel_rfl) (by kernel_rfl) (by kernel_rfl) (fi:=fx_57v op sub t v args row (typedE (typesV row) (.mk op sub t v args)).1) (by kernel_rfl) (by kernel_rfl) (let ⟨w,ok,h⟩:=is_ex (evE row (.mk op sub t v args)) zeroV;⟨_,_,rfl,w,ok,h,rfl⟩) ?_
  rw[vc57v];dsimp -eta -iota -proj only[Zej,Zc,Zd3,Zdw,Z7,Z6,Zbg,Zdq,Zcb,Zb4,Zb3,Zer,Zdk,Zc3,Zbs,Ze4,Zeo,Zd9,Zc4,Zd1,Zb6,Zcd,Zcc,Zbn,Z5,Z1,Zcs,Zdc,Zbe,Zbb,Ze7,Zcj,Zcm,Zfb,Zey,Zdi,Zdf,Z3,Zee,Zdt,Zcp,Zce,Zep,Zcf,Zev]
  rw[hev]
  refine⟨_,rfl,?_⟩
  refine(and_self_iff).2 ?_
  refine⟨.mk op sub t v args,typesV row,hc,rfl,h2,by rw[typesV_len];exact h3,by rw[typesV_len];omega,fun ty ok ht=>?_⟩
  obtain rfl:ty=(typedE (typesV row) (.mk op sub t v args)).1:=by rw[ht]
  refine⟨fun o=>?_,fun n1=>⟨fun o=>?_,fun n2=>⟨fun o=>?_,fun n10=>⟨fun o=>?_,fun n11=>⟨fun o=>?_,fun n12=>⟨fun o=>?_,fun n16=>⟨fun o=>?_,fun n14=>⟨fun o=>?_,fun n15=>?_⟩⟩⟩⟩⟩⟩⟩⟩
  ·have o:op=1:=eq_of_beq o
   have hs:=may_col (by rw[o]at hm;exact hm)
   have hlt:sub.toNat<row.length:=by omega
   refine⟨_,rfl,_,rfl,⟨hs.1,by rw[List.length_map];exact hs.2⟩,(row[sub.toNat]).cs,by rw[List.getElem?_map,List.getElem?_eq_getElem hlt];rfl,rfl,_,_,_,_,_,rfl,rfl,row[sub.toNat],true,?_,rfl⟩
   unfold evN
   rw[if_pos o,List.getElem?_eq_getElem hlt]
   exact is_yes _
  ·have o:op=2:=eq_of_beq o
   refine⟨rfl,v,true,?_,rfl⟩
   unfold evN
   rw[if_neg (by omega),if_pos o]
   exact is_yes _
  ·have o:op=10:=eq_of_beq o
   refine⟨op,sub,t,v,args,row,rfl,rfl,rfl,.inl o,by have:=may_and hm (.inl o);omega,hsub,hr,hrl,fun w ok hi=>⟨rfl,w,ok,?_,rfl⟩⟩
   unfold evN
   rw[if_neg (by omega),if_neg (by omega),if_pos (.inl o)]
   exact hi
  ·have o:op=11:=eq_of_beq o
   refine⟨op,sub,t,v,args,row,rfl,rfl,rfl,.inr o,by have:=may_and hm (.inr o);omega,hsub,hr,hrl,fun w ok hi=>⟨rfl,w,ok,?_,rfl⟩⟩
   unfold evN
   rw[if_neg (by omega),if_neg (by omega),if_pos (.inr o)]
   exact hi
  ·have o:op=12:=eq_of_beq o
   have hp:=may_pos hm (by omega) (by omega)
   have hp:0<args.length:=by omega
   obtain⟨o0,s0,t0,v0,a0,e0,g0⟩:=arg_get2 hp
   refine⟨cellsL args,rfl,⟨by omega,by rw[cellsL_len];omega⟩,_,g0,rfl,o0,s0,t0.k,t0.sc,v0.t.k,v0.t.sc,v0.nul,v0.n,v0.s,cellsL a0,rfl,args[0],row,rfl,rfl,by rw[e0,cells_mk];rfl,hsub _ (List.getElem_mem _),hr,hrl,fun tr ok hi=>⟨rfl,liftV (s118_0 tr),ok,?_,rfl⟩⟩
   unfold evN
   rw[if_neg (by omega),if_neg (by omega),if_neg (by omega),if_pos o,ev_get hp]
   have:=is_map (f:=fun x=>liftV (s118_0 x)) hi
   unfold trE at this
   rw[Option.map_map]at this
   exact this
  ·have o:op=16:=eq_of_beq o
   have hp:=may_pos hm (by omega) (by omega)
   have hp:0<args.length:=by omega
   obtain⟨o0,s0,t0,v0,a0,e0,g0⟩:=arg_get2 hp
   refine⟨cellsL args,rfl,⟨by omega,by rw[cellsL_len];omega⟩,_,g0,rfl,o0,s0,t0.k,t0.sc,v0.t.k,v0.t.sc,v0.nul,v0.n,v0.s,cellsL a0,rfl,args[0],row,t,rfl,rfl,by rw[e0,cells_mk];rfl,rfl,hsub _ (List.getElem_mem _),hr,hrl,fun w ok hi=>⟨rfl,w,ok,?_,rfl⟩⟩
   unfold evN
   rw[if_neg (by omega),if_neg (by omega),if_neg (by omega),if_neg (by omega),if_pos o,ev_get hp]
   exact hi
  ·have o:op=14:=eq_of_beq o
   have hcs:=may_case (by rw[o]at hm;exact hm)
   rw[Int.tmod_eq_emod_of_nonneg (by omega)]at hcs
   have hE:evN row op sub t v (typedE (typesV row) (.mk op sub t v args)).1 (evL row args)=caseV (typedE (typesV row) (.mk op sub t v args)).1 (evL row args):=by
    unfold evN
    rw[if_neg (by omega),if_neg (by omega),if_neg (by omega),if_neg (by omega),if_neg (by omega),if_pos o]
   rw[hE]
   generalize (typedE (typesV row) (.mk op sub t v args)).1=ty at *
   refine⟨(0:Nat),⟨rfl,args.length,by omega,rfl,by rw[Nat.mul_zero,List.drop_zero]⟩,fun m (j:Nat) hj=>?_⟩
   obtain⟨j1,j2,j3⟩:=hj
   rw[wrap_i64_of (n:=2*(j:Int)+1) (by omega) (by omega)]
   have q0:(2*(j:Int)).toNat=2*j:=by omega
   have q1:(2*(j:Int)+1).toNat=2*j+1:=by omega
   obtain⟨o0,s0,t0,v0,a0,e0,g0⟩:=arg_get2 j1
   rw[ev_drop j1]at j3
   refine⟨cellsL args,rfl,fun hi=>?_,fun hi=>?_⟩
   ·have hi:=of_decide_eq_true hi
    rw[cellsL_len]at hi
    have hi:2*j+1<args.length:=by omega
    obtain⟨o1,s1,t1,v1,a1,e1,g1⟩:=arg_get2 hi
    rw[ev_drop hi]at j3
    refine⟨cellsL args,rfl,⟨by omega,by rw[cellsL_len];omega⟩,_,by rw[q0];exact g0,rfl,o0,s0,t0.k,t0.sc,v0.t.k,v0.t.sc,v0.nul,v0.n,v0.s,cellsL a0,rfl,args[2*j],row,rfl,rfl,by rw[e0,cells_mk];rfl,hsub _ (List.getElem_mem _),hr,hrl,fun tr ok hq=>⟨fun h=>?_,fun h=>⟨fun hk=>?_,fun hk=>?_⟩⟩⟩
    ·have:ok=false:=by simpa using h
     subst this
     have hn:=is_none hq
     unfold trE at hn
     have hn:evE row args[2*j]=none:=by
      cases hx:evE row args[2*j]with
      |none=>rfl
      |some a=>rw[hx]at hn;cases hn
     refine⟨rfl,zeroV,false,?_,rfl⟩
     rw[j3,hn]
     exact is_no _
    ·have:ok=true:=by simpa using h
     subst this
     have hn:=is_some hq
     unfold trE at hn
     obtain⟨c,hcx,hct⟩:=Option.map_eq_some_iff.1 hn
     refine⟨cellsL args,rfl,⟨by omega,by rw[cellsL_len];omega⟩,_,by rw[q1];exact g1,rfl,o1,s1,t1.k,t1.sc,v1.t.k,v1.t.sc,v1.nul,v1.n,v1.s,cellsL a1,rfl,args[2*j+1],row,ty,rfl,rfl,by rw[e1,cells_mk];rfl,rfl,hsub _ (List.getElem_mem _),hr,hrl,fun w ok2 hw=>⟨rfl,w,ok2,?_,rfl⟩⟩
     rw[j3,hcx]
     simp only[caseV]
     rw[hct,hk]
     exact hw
    ·have:ok=true:=by simpa using h
     subst this
     have hn:=is_some hq
     unfold trE at hn
     obtain⟨c,hcx,hct⟩:=Option.map_eq_some_iff.1 hn
     refine⟨args.length-(j+1),j+1,by omega,?_,by omega,rfl,?_⟩
     ·rw[wrap_i64_of (by omega) (by omega),show 2*(j:Int)+2=2*((j+1:Nat):Int) by omega]
     ·rw[j3,hcx]
      simp only[caseV]
      rw[hct,hk]
      rfl
   ·have hi:=of_decide_eq_false hi
    rw[cellsL_len]at hi
    have hl:args.length=2*j+1:=by omega
    have q2:IntKind.i64.wrap (((cellsL args).length:Int)-1)=((2*j:Nat):Int):=by rw[cellsL_len,wrap_i64_of (by omega) (by omega)];omega
    refine⟨cellsL args,rfl,cellsL args,rfl,?_⟩
    rw[q2]
    refine⟨⟨by omega,by rw[cellsL_len];omega⟩,_,by rw[Int.toNat_natCast];exact g0,rfl,o0,s0,t0.k,t0.sc,v0.t.k,v0.t.sc,v0.nul,v0.n,v0.s,cellsL a0,rfl,args[2*j],row,ty,rfl,rfl,by rw[e0,cells_mk];rfl,rfl,hsub _ (List.getElem_mem _),hr,hrl,fun w ok hw=>⟨rfl,w,ok,?_,rfl⟩⟩
    rw[j3,List.drop_eq_nil_of_le (by omega)]
    simp only[evL,caseV]
    exact hw
  ·have o:op=15:=eq_of_beq o
   have hE:evN row op sub t v (typedE (typesV row) (.mk op sub t v args)).1 (evL row args)=coalV (typedE (typesV row) (.mk op sub t v args)).1 (evL row args):=by
    unfold evN
    rw[if_neg (by omega),if_neg (by omega),if_neg (by omega),if_neg (by omega),if_neg (by omega),if_neg (by omega),if_pos o]
   rw[hE]
   generalize (typedE (typesV row) (.mk op sub t v args)).1=ty at *
   refine⟨cellsL args,rfl,(0:Nat),⟨rfl,args.length,Nat.zero_le _,rfl,by rw[List.drop_zero]⟩,fun m (j:Nat) hj=>?_⟩
   obtain⟨j1,j2,j3⟩:=hj
   refine⟨fun hi=>?_,fun hi=>?_⟩
   ·have hi:=of_decide_eq_true hi
    rw[cellsL_len]at hi
    have hi:j<args.length:=by omega
    obtain⟨o0,s0,t0,v0,a0,e0,g0⟩:=arg_get2 hi
    rw[ev_drop hi]at j3
    refine⟨cellsL args,rfl,⟨by omega,by rw[cellsL_len];omega⟩,_,by rw[Int.toNat_natCast];exact g0,rfl,o0,s0,t0.k,t0.sc,v0.t.k,v0.t.sc,v0.nul,v0.n,v0.s,cellsL a0,rfl,args[j],row,ty,rfl,rfl,by rw[e0,cells_mk];rfl,rfl,hsub _ (List.getElem_mem _),hr,hrl,fun w ok hw=>⟨fun h=>⟨rfl,w,ok,?_,rfl⟩,fun h=>?_⟩⟩
    ·rw[j3]
     simp only[coalV]
     unfold asE at hw
     cases ok with
     |false=>rw[is_none hw];exact is_no _
     |true=>
      rw[is_some hw]
      have:w.nul=false:=by simpa using h
      dsimp only
      rw[this]
      exact is_yes _
    ·have hok:ok=true∧w.nul=true:=by
      revert h
      cases ok<;>cases w.nul<;>simp
     obtain⟨rfl,hz⟩:=hok
     refine⟨args.length-(j+1),j+1,by omega,?_,by omega,rfl,?_⟩
     ·rw[wrap_next (by omega)]
     ·rw[j3]
      simp only[coalV]
      unfold asE at hw
      rw[is_some hw]
      dsimp only
      rw[hz]
      rfl
   ·have hi:=of_decide_eq_false hi
    rw[cellsL_len]at hi
    refine⟨rfl,noneV ty,true,?_,rfl⟩
    rw[j3,List.drop_eq_nil_of_le (by omega)]
    simp only[evL,coalV]
    exact is_yes _
  ·have n1:op≠1:=ne_of_beq_false n1
   have n2:op≠2:=ne_of_beq_false n2
   have n10:op≠10:=ne_of_beq_false n10
   have n11:op≠11:=ne_of_beq_false n11
   have n12:op≠12:=ne_of_beq_false n12
   have n16:op≠16:=ne_of_beq_false n16
   have n14:op≠14:=ne_of_beq_false n14
   have n15:op≠15:=ne_of_beq_false n15
   have hE:∀ty,evN row op sub t v ty (evL row args)=match allV (evL row args)with
     |none=>none
     |some vs=>if op=13 then some (boolV (vs.any fun v=>v.nul))else bif vs.any (fun v=>v.nul)then some (noneV ty)else recV op sub ty vs:=fun ty=>by
    unfold evN
    rw[if_neg n1,if_neg n2,if_neg (by omega),if_neg n12,if_neg n16,if_neg n14,if_neg n15]
    rfl
   rw[hE]
   have hp:=may_pos hm n1 n2
   have hsm:=may_small hm n14 n15
   have hcl:(cellsL args).length=args.length:=cellsL_len _
   refine⟨cellsL args,rfl,by omega,by omega,by rw[hcl];omega,by rw[hcl];omega,cellsL args,rfl,(⟨0,[]⟩:VX),⟨by simp only[List.map_nil,List.nil_append,List.any_nil,Nat.sub_zero,Int.toNat_natCast,hcl];rfl,args.length,Nat.zero_le _,rfl,rfl,by simp only[List.take_zero,evL,List.map_nil]⟩,fun m (x:VX) hx=>⟨fun hi=>?_,fun hi=>?_⟩⟩
   ·obtain⟨i,l⟩:=x
    obtain⟨x1,x2,x3,x4⟩:=hx
    dsimp only at x1 x2 x3 x4 hi ⊢
    have hi:=of_decide_eq_true hi
    rw[hcl]at hi
    have hi:i<args.length:=by omega
    obtain⟨o0,s0,t0,v0,a0,e0,g0⟩:=arg_get2 hi
    refine⟨cellsL args,rfl,⟨by omega,by rw[cellsL_len];omega⟩,_,by rw[Int.toNat_natCast];exact g0,rfl,o0,s0,t0.k,t0.sc,v0.t.k,v0.t.sc,v0.nul,v0.n,v0.s,cellsL a0,rfl,args[i],row,rfl,rfl,by rw[e0,cells_mk];rfl,hsub _ (List.getElem_mem _),hr,hrl,fun w ok hw=>⟨fun h=>?_,fun h=>?_⟩⟩
    ·have:ok=false:=by simpa using h
     subst this
     refine⟨rfl,zeroV,false,?_,rfl⟩
     rw[all_none hi (is_none hw)]
     exact is_no _
    ·have:ok=true:=by simpa using h
     subst this
     refine⟨⟨by omega,by simp;omega⟩,rfl,zeroV.cs,?_,w.cs,rfl,args.length-(i+1),⟨i+1,l++[w]⟩,by omega,?_,hi,rfl,by simp[x3],?_⟩
     ·rw[Int.toNat_natCast,List.getElem?_append_right (by simp;omega),List.getElem?_replicate,if_pos (by simp;omega)]
     ·dsimp only
      rw[wrap_next (by omega),Int.toNat_natCast]
      have:=set_map (z:=zeroV.cs) (w:=w) x3 hi
      rw[this,List.any_append]
      simp only[List.any_cons,List.any_nil,Bool.or_false]
      cases l.any (fun v=>v.nul)<;>cases w.nul<;>rfl
     ·rw[List.take_add_one,List.getElem?_eq_getElem hi,evL_map,List.map_append,←evL_map,x4]
      simp only[Option.toList_some,List.map_cons,List.map_nil,is_some hw,List.map_append]
   ·obtain⟨i,l⟩:=x
    obtain⟨x1,x2,x3,x4⟩:=hx
    dsimp only at x1 x2 x3 x4 hi ⊢
    have hi:=of_decide_eq_false hi
    rw[hcl]at hi
    have hi:i=args.length:=by omega
    subst hi
    rw[List.take_of_length_le (Nat.le_refl _)]at x4
    rw[x4,all_map]
    dsimp only
    refine⟨fun o=>⟨rfl,boolV (l.any fun v=>v.nul),true,?_,rfl⟩,fun n13=>⟨fun hn=>⟨rfl,noneV _,true,?_,rfl⟩,fun hn=>?_⟩⟩
    ·rw[if_pos (eq_of_beq o)];exact is_yes _
    ·rw[if_neg (ne_of_beq_false n13),hn];exact is_yes _
    ·rw[if_neg (ne_of_beq_false n13),hn,Nat.sub_self,List.replicate_zero,List.append_nil]
     have hp0:0<l.length:=by omega
     have hgl:∀(k:Nat) (hk:k<l.length),ValP l[k]∧in64 l[k].n:=fun k hk=>by
      have hka:k<args.length:=by omega
      refine hgood k hka _ ?_
      have:=congrArg (fun z=>z[k]?) x4
      simp only[evL_map,List.getElem?_map]at this
      rw[List.getElem?_eq_getElem hka,List.getElem?_eq_getElem hk]at this
      simpa using this
     have hl1:l.length-1<l.length:=by omega
     refine⟨op,sub,t,v,args,l.getD 0 zeroV,l.getD (l.length-1) zeroV,rfl,?_,?_,?_,?_,?_,?_,by rw[List.length_map];omega,rfl,_,_,?_,rfl⟩
     ·rw[List.getD_eq_getElem?_getD,List.getElem?_eq_getElem hp0];exact(hgl 0 hp0).1
     ·rw[List.getD_eq_getElem?_getD,List.getElem?_eq_getElem hl1];exact(hgl _ hl1).1
     ·rw[List.getD_eq_getElem?_getD,List.getElem?_eq_getElem hp0];exact(hgl 0 hp0).2
     ·rw[List.getD_eq_getElem?_getD,List.getElem?_eq_getElem hl1];exact(hgl _ hl1).2
     ·rw[List.getElem?_map,List.getD_eq_getElem?_getD,List.getElem?_eq_getElem hp0];rfl
     ·rw[List.length_map,List.getElem?_map,List.getD_eq_getElem?_getD,List.getElem?_eq_getElem hl1];rfl
     ·simp only[cond_false]
      unfold recV
      refine⟨?_,fun a ha=>?_⟩
      ·cases hq:(reckonV op sub (typedE (typesV row) (EX.mk op sub t v args)).1 (l.getD 0 zeroV) (l.getD (l.length-1) zeroV)).2<;>rfl
      ·cases hq:(reckonV op sub (typedE (typesV row) (EX.mk op sub t v args)).1 (l.getD 0 zeroV) (l.getD (l.length-1) zeroV)).2
       ·rw[hq]at ha;cases ha
       ·rw[hq]at ha
        simp only[cond_true,Option.some.injEq]at ha
        exact ha
end Go.Proofs.Tryz
namespace Go.Proofs.Tryz
open Go Go.Dm Go.Ex
set_option maxRecDepth 100000
variable {gl:Nat→Option Obj}
theorem vc18(k sc:Int)(nul:Bool)(m:Int)(s:ByteArray)(Q:KT):vc E_0 C_4e noI fi8 (f8.body.getD .skip) f8.results.toList [.agg [.v (.int .i64 k),.v (.int .i64 sc),.v (.bool nul),.v (.int .i64 m),.v (.string s)]] Q=(((s67_0 k sc != (0:Int))=true→Q [.d (.i (s67_0 k sc))] [])∧((s67_0 k sc != (0:Int))=false→(nul=true→((bif m != (0:Int)then true else !s=={data:={toList:=[]:Array UInt8}:ByteArray})=true→Q [.d (.i 20)] [])∧((bif m != (0:Int)then true else !s=={data:={toList:=[]:Array UInt8}:ByteArray})=false→Q [.d (.i 0)] []))∧(nul=false→((k==4)=true→((bif m != (0:Int)then true else decide ((↑s.size:Int)>256))=true→Q [.d (.i 20)] [])∧((bif m != (0:Int)then true else decide ((↑s.size:Int)>256))=false→Q [.d (.i 0)] []))∧((k==4)=false→((!s=={data:={toList:=[]:Array UInt8}:ByteArray})=true→(true=true→Q [.d (.i 20)] [])∧(true=false→Q [.d (.i 0)] []))∧((!s=={data:={toList:=[]:Array UInt8}:ByteArray})=false→((k==1)=true→((bif m != (0:Int)then m != (1:Int)else false)=true→Q [.d (.i 20)] [])∧((bif m != (0:Int)then m != (1:Int)else false)=false→Q [.d (.i 0)] []))∧((k==1)=false→((k==3)=true→((!s68_0 m)=true→Q [.d (.i 20)] [])∧((!s68_0 m)=false→Q [.d (.i 0)] []))∧((k==3)=false→((k==5)=true→((bif decide (m<(-719162:Int))then true else decide (m>2932896))=true→Q [.d (.i 20)] [])∧((bif decide (m<(-719162:Int))then true else decide (m>2932896))=false→Q [.d (.i 0)] []))∧((k==5)=false→(false=true→Q [.d (.i 20)] [])∧(false=false→Q [.d (.i 0)] []))))))))):=by kernel_rfl
def c_18(a:List R)(K:KT):Prop:=match a with
 |[.agg [.v (.int .i64 k),.v (.int .i64 sc),.v (.bool nul),.v (.int .i64 m),.v (.string s)]]=>K [.d (.v (.int .i64 (s56_0 k sc nul m s)))] []
 |_=>False
theorem s67_60(a b:Int):s67_0 a b=s60_0 a b:=by
 unfold s67_0 s60_0 s124_0
 have h1:decide (b≥0) = !decide (b<0):=by by_cases h:b<0<;>simp[h]<;>omega
 have h2:decide (b≤18) = !decide (b>18):=by by_cases h:b>18<;>simp[h]<;>omega
 rw[h1,h2]
 simp only[bne]
 cases decide (a<1)<;>cases decide (a>5)<;>cases decide (b<0)<;>cases decide (b>18)<;>cases a==3<;>cases b==0<;>rfl
def chk18(k sc:Int)(nul:Bool)(m:Int)(s:ByteArray):Int:=bif s67_0 k sc != 0 then s67_0 k sc else bif nul then(bif (bif m != 0 then true else !s==({data:={toList:=[]}}:ByteArray))then 20 else 0)
 else bif k==4 then(bif (bif m != 0 then true else decide ((s.size:Int)>256))then 20 else 0)
 else bif !s==({data:={toList:=[]}}:ByteArray)then 20
 else bif k==1 then(bif (bif m != 0 then m != 1 else false)then 20 else 0)
 else bif k==3 then(bif !s68_0 m then 20 else 0)
 else bif k==5 then(bif (bif decide (m < -719162)then true else decide (m>2932896))then 20 else 0)
 else 0
theorem chk18_eq(k sc:Int)(nul:Bool)(m:Int)(s:ByteArray):chk18 k sc nul m s=s56_0 k sc nul m s:=by
 unfold chk18 s56_0 s68_0 s114_0
 rw[s67_60]
 have h1:decide (m≥-719162) = !decide (m < -719162):=by by_cases h:m < -719162<;>simp[h]<;>omega
 have h2:decide (m≤2932896) = !decide (m>2932896):=by by_cases h:m>2932896<;>simp[h]<;>omega
 have h3:decide ((s.size:Int)≤256) = !decide ((s.size:Int)>256):=by by_cases h:(s.size:Int)>256<;>simp[h]<;>omega
 have h4:decide ((-999999999999999999:Int)≤m)=decide (m≥-999999999999999999):=rfl
 rw[h1,h2,h3,h4]
 simp only[bne]
 generalize (s==({data:={toList:=[]}}:ByteArray))=Z
 generalize (s60_0 k sc==0)=Y
 generalize decide (m < -719162)=X1
 generalize decide (m>2932896)=X2
 generalize decide ((s.size:Int)>256)=X3
 generalize decide (m≥-999999999999999999)=X4
 generalize decide (m≤999999999999999999)=X5
 generalize (m==0)=M0
 generalize (m==1)=M1
 generalize s60_0 k sc=S
 have split:∀(c1 c3 c4 c5:Bool),(k==1)=c1→(k==3)=c3→(k==4)=c4→(k==5)=c5→(c4=true→c1=false∧c3=false∧c5=false):=by
  intro c1 c3 c4 c5 e1 e3 e4 e5 h
  subst h
  have:k=4:=by simpa using e4
  subst this
  exact⟨e1.symm,e3.symm,e5.symm⟩
 have split:=split _ _ _ _ rfl rfl rfl rfl
 revert split
 generalize (k==1)=c1
 generalize (k==3)=c3
 generalize (k==4)=c4
 generalize (k==5)=c5
 intro split
 cases Y
 ·rfl
 cases nul
 ·cases c4
  ·cases c1
   ·cases c3
    ·cases c5
     ·cases Z<;>rfl
     ·cases Z<;>cases X1<;>cases X2<;>rfl
    ·cases Z<;>cases X4<;>cases X5<;>rfl
   ·cases Z<;>cases M0<;>cases M1<;>rfl
  ·obtain⟨rfl,rfl,rfl⟩:=split rfl
   cases M0<;>cases X3<;>rfl
 ·cases M0<;>cases Z<;>rfl
theorem ct18(k sc:Int)(nul:Bool)(m:Int)(s:ByteArray):Ct prog gl 8 [.agg [.v (.int .i64 k),.v (.int .i64 sc),.v (.bool nul),.v (.int .i64 m),.v (.string s)]] (gives [.d (.v (.int .i64 (s56_0 k sc nul m s)))]):=by
 refine ctv C_4e_ok f8 fi8 ⟨_,_,rfl,rfl⟩ ?_
 rw[vc18]
 rw[←chk18_eq]
 have fin:∀b,chk18 k sc nul m s=b→gives [.d (.v (.int .i64 (chk18 k sc nul m s)))] [R.d (D.v (Value.int .i64 b))] []:=fun b h=>by rw[h];exact⟨rfl,rfl⟩
 repeat' first|(refine And.intro (fun h=>?_) (fun h=>?_))|fail
 all_goals first|(refine fin _ ?_;clear fin;simp only[chk18, *,cond_true,cond_false];done)|(rename_i h;cases h)
theorem c_18_ok(a:List R)(K:KT)(h:c_18 a K):Ct prog gl 8 a K:=by
 unfold c_18 at h
 split at h
 ·exact(ct18 _ _ _ _ _).gives h
 ·exact h.elim
def c_57w(a:List R)(K:KT):Prop:=match a with
 |[.ptr [.sl r,.sl y],.agg x]=>∃(e:EX) (row:List Go.Ex.AV),r=row.map Go.Ex.AV.cs∧y=(typesV row).map Ty.cs∧x=cells e∧SubOk row (size e+1) e∧RowOk row∧row.length≤4398046511104∧∀(w:Go.Ex.AV) (ok:Bool),Is (evE row e) w ok→K [.agg w.cs,.d (.v (.bool ok))] []
 |_=>False
theorem c_57w_ok(G:GlOk gl)(a:List R)(K:KT)(h:c_57w a K):Ct prog gl 18 a K:=by
 unfold c_57w at h
 split at h
 ·obtain⟨e,row,rfl,rfl,rfl,h1,h2,h3,h4⟩:=h
  exact(ct57v G _ e row h1 h2 h3).mono fun res fin ⟨e1,w,ok,hi,e2⟩=>by subst e1;subst e2;exact h4 w ok hi
 ·exact h.elim
def C_t57w:CallT:=addC C_t122r 18 c_57w
theorem C_t57w_ok(G:GlOk gl):CallsOk prog gl C_t57w:=addC_ok (C_t122r_ok G) (c_57w_ok G)
noncomputable def evalE(row:List Go.Ex.AV)(e:EX):Go.Ex.AV×Int:=
 bif (checkE (typesV row) e).2 != 0 then(zeroV,(checkE (typesV row) e).2)else bif row.any badV then(zeroV,140)else(match evE row e with|none=>(zeroV,141)|some v=>(v,0))
theorem badV_iff{v:Go.Ex.AV}:badV v=false↔ValP v:=by
 rw[←s56_iff]
 unfold badV s55_0
 cases h:s56_0 v.t.k v.t.sc v.nul v.n v.s==0
 ·simp[bne,h];simpa using h
 ·simp[bne,h];simpa using h
def RowIn(row:List Go.Ex.AV):Prop:=∀v∈row,in64 v.n
theorem rowOk_of{row:List Go.Ex.AV}(h:row.any badV=false)(hi:RowIn row):RowOk row:=fun v hv=>⟨badV_iff.1 (by
 rw[Bool.eq_false_iff]
 intro hb
 rw[List.any_eq_true.2 ⟨v,hv,hb⟩]at h
 cases h),hi v hv⟩
def Zd6(a0:List Go.Ex.AV)(k:(List AV)→Prop):Prop:=Zdk a0 fun row_1=>row_1.length≤4398046511104∧k row_1
def Zbc(a0:List Go.Ex.AV)(a1:List AV)(a2 a3:Int)(a4:Ty)(a5:Go.Ex.AV)(a6:List EX)(a7:KT):Prop:=∃(e:EX),Zdk a0 fun row_3=>List.map Ty.cs (typesV a1)=List.map Ty.cs (typesV row_3)∧Z7 a2 a3 a4 a5 a6 e (SubOk row_3 (size e).succ e∧Ze4 row_3 (∀(w:AV) (ok:Bool),Is (evE row_3 e) w ok→((!ok)=true→Zbm a7 (141:Int))∧((!ok)=false→a7 [.agg (Zc4 w),.d (.i 0)] [])))
def Zt(a0 a1:Int)(a2:Ty)(a3:Go.Ex.AV)(a4:List EX)(a5:List AV)(a6:KT)(a7:List Go.Ex.AV):Prop:=Zdw a0 a1 a2 a3 a4 fun e cols=>List.map Ty.cs (typesV a5)=List.map Ty.cs cols∧fits e∧cols.length≤8796093022208∧∀(t_1:Ty) (f:Int),checkE cols e=(t_1,f)→((f != (0:Int))=true→a6 [.agg (Z3 (0:Int) (0:Int)),.d (.i f)] [])∧((f != (0:Int))=false→Zdk a7 fun l=>l.length<4611686018427387904∧(l.any badV=true→Zbm a6 (140:Int))∧(l.any badV=false→(Zd6 a7 fun row_2=>((Zbc a7 row_2 a0 a1 a2 a3 a4 a6)∧Zbc a7 row_2 a0 a1 a2 a3 a4 a6)∧Zbc a7 row_2 a0 a1 a2 a3 a4 a6)∧Zd6 a7 fun row_2=>Zbc a7 row_2 a0 a1 a2 a3 a4 a6))
theorem vc14v(op sub:Int)(t:Ty)(v:Go.Ex.AV)(args:List EX)(row:List Go.Ex.AV)(Q:KT):vc E_9 C_t57w noI fi5 (f5.body.getD .skip) f5.results.toList [.agg (encX op sub t v (cellsL args)),.d (.sl (row.map Go.Ex.AV.cs))] Q=((Zd6 row fun row_1=>(Zt op sub t v args row_1 Q row)∧Zt op sub t v args row_1 Q row)∧Zd6 row fun row_1=>Zt op sub t v args row_1 Q row):=by kernel_rfl
theorem ct14v(G:GlOk gl):∀(e:EX) (row:List Go.Ex.AV) (hf:fits e) (hi:RowIn row) (hrl:row.length≤4398046511104),
  Ct prog gl 5 [.agg (cells e),.d (.sl (row.map Go.Ex.AV.cs))] (gives [.agg (evalE row e).1.cs,.d (.v (.int .i64 (evalE row e).2))])
 | .mk op sub t v args,row,hf,hi,hrl=>by
   have hc:encX op sub t v (cellsL args)=cells (.mk op sub t v args):=(cells_mk _ _ _ _ _).symm
   rw[cells_mk]
   refine ct_of_vc (E:=E_9) ⟨E_ok.te⟩ (C_t57w_ok G) ioK_no (fun _ _ _ h=>h.elim) mixed (fn:=f5) (body:=f5.body.getD .skip) (by kernel_rfl) (by kernel_rfl) (by kernel_rfl) (fi:=fi5) (by kernel_rfl) (by kernel_rfl) ⟨_,_,rfl,rfl⟩ ?_
   rw[vc14v];dsimp -eta -iota -proj only[Zd6,Zdk,Zt,Zdw,Z7,Z6,Z3,Zbm,Zbl,Zbc,Ze4,Zc4]
   have htl:(typesV row).length=row.length:=by simp[typesV]
   refine⟨⟨row,rfl,hrl,?_,?_⟩,row,rfl,hrl,?_⟩
   all_goals
    refine⟨.mk op sub t v args,typesV row,hc,rfl,hf,by omega,fun t1 f hk=>⟨fun h=>?_,fun h=>⟨row,rfl,by omega,fun hb=>?_,fun hb=>?_⟩⟩⟩
    ·unfold evalE
     rw[hk]
     dsimp only
     rw[h]
     exact⟨rfl,rfl⟩
    ·unfold evalE
     rw[hk]
     dsimp only
     rw[h,hb]
     exact⟨rfl,rfl⟩
    ·have hm:=check_may (cols:=typesV row) (e:=.mk op sub t v args) (by rw[hk];simpa using h)
     rw[htl]at hm
     have hro:=rowOk_of hb hi
     have hso:SubOk row (size (.mk op sub t v args)+1) (.mk op sub t v args):=⟨Nat.lt_succ_self _,hf,hm.1,hm.2⟩
     have fin:∀(w:Go.Ex.AV) (ok:Bool),Is (evE row (.mk op sub t v args)) w ok→
       ((!ok)=true→gives [.agg (evalE row (.mk op sub t v args)).1.cs,.d (.v (.int .i64 (evalE row (.mk op sub t v args)).2))] [R.agg [D.v (Value.int IntKind.i64 (0:Int)),D.v (Value.int IntKind.i64 (0:Int)),D.v (Value.bool false),D.v (Value.int IntKind.i64 (0:Int)),D.v (Value.string {data:={toList:=[]:Array UInt8}:ByteArray})],R.d (D.v (Value.int IntKind.i64 (141:Int)))] [])∧
       ((!ok)=false→gives [.agg (evalE row (.mk op sub t v args)).1.cs,.d (.v (.int .i64 (evalE row (.mk op sub t v args)).2))] [R.agg w.cs,R.d (D.v (Value.int IntKind.i64 (0:Int)))] []):=by
      intro w ok hok
      have key:evalE row (.mk op sub t v args)=bif !ok then(zeroV,141)else(w,0):=by
       unfold evalE
       rw[hk]
       dsimp only
       rw[h,hb,cond_false,cond_false]
       cases ok with
       |false=>rw[is_none hok];rfl
       |true=>rw[is_some hok];rfl
      rw[key]
      refine⟨fun h=>?_,fun h=>?_⟩
      ·rw[h];exact⟨rfl,rfl⟩
      ·rw[h];exact⟨rfl,rfl⟩
     refine⟨⟨row,rfl,hrl,⟨?_,?_⟩,?_⟩,row,rfl,hrl,?_⟩
     all_goals exact⟨.mk op sub t v args,row,rfl,rfl,hc,hso,hro,hrl,fin⟩
def c_14v(a:List R)(K:KT):Prop:=match a with
 |[.agg x,.d (.sl y)]=>∃(e:EX) (row:List Go.Ex.AV),x=cells e∧y=row.map Go.Ex.AV.cs∧fits e∧RowIn row∧row.length≤4398046511104∧∀(w:Go.Ex.AV) (f:Int),evalE row e=(w,f)→K [.agg w.cs,.d (.v (.int .i64 f))] []
 |_=>False
theorem c_14v_ok(G:GlOk gl)(a:List R)(K:KT)(h:c_14v a K):Ct prog gl 5 a K:=by
 unfold c_14v at h
 split at h
 ·obtain⟨e,row,rfl,rfl,h1,h2,h3,h4⟩:=h
  exact(ct14v G e row h1 h2 h3).gives (h4 _ _ rfl)
 ·exact h.elim
def C_t14v:CallT:=addC C_t57w 5 c_14v
theorem C_t14v_ok(G:GlOk gl):CallsOk prog gl C_t14v:=addC_ok (C_t57w_ok G) (c_14v_ok G)
def C_t66s:CallT:=addC C_t14v 12 c_66s
theorem C_t66s_ok(G:GlOk gl):CallsOk prog gl C_t66s:=addC_ok (C_t14v_ok G) c_66s_ok
theorem vc17v(u:Nat)(Q:KT):vc E_0 C_t66s noI fi4 (f4.body.getD .skip) f4.results.toList [] Q=(∃(e:EX),∃(row:List AV),[D.i 3,D.i 0,D.i 0,D.i 0,D.i 0,D.i 0,D.v (.bool false),D.i 0,D.v (.string ⟨⟨[]⟩⟩),D.sl [[D.i 1,D.i 0,D.i 0,D.i 0,D.i 0,D.i 0,D.v (.bool false),D.i 0,D.v (.string ⟨⟨[]⟩⟩),D.sl []],[D.i 1,D.i 0,D.i 0,D.i 0,D.i 0,D.i 0,D.v (.bool false),D.i 0,D.v (.string ⟨⟨[]⟩⟩),D.sl []]]]=cells e∧[[D.i 2,D.i 0,D.v (.bool false),D.i 1,D.v (.string ⟨⟨[]⟩⟩)],[D.i 2,D.i 0,D.v (.bool false),D.i 0,D.v (.string ⟨⟨[]⟩⟩)]]=List.map AV.cs row∧fits e∧RowIn row∧row.length≤4398046511104∧∀(w:AV) (f:Int),evalE row e=(w,f)→∃(e:EX),∃(row:List AV),[D.i 6,D.i 0,D.i 0,D.i 0,D.i 0,D.i 0,D.v (.bool false),D.i 0,D.v (.string ⟨⟨[]⟩⟩),D.sl [[D.i 1,D.i 0,D.i 0,D.i 0,D.i 0,D.i 0,D.v (.bool false),D.i 0,D.v (.string ⟨⟨[]⟩⟩),D.sl []],[D.i 1,D.i 1,D.i 0,D.i 0,D.i 0,D.i 0,D.v (.bool false),D.i 0,D.v (.string ⟨⟨[]⟩⟩),D.sl []]]]=cells e∧[[D.i 2,D.i 0,D.v (.bool false),D.i 1,D.v (.string ⟨⟨[]⟩⟩)],[D.i 2,D.i 0,D.v (.bool false),D.i 0,D.v (.string ⟨⟨[]⟩⟩)]]=List.map AV.cs row∧fits e∧RowIn row∧row.length≤4398046511104∧∀(w_1:AV) (f_1:Int),evalE row e=(w_1,f_1)→((bif bif w.1.1==2&&(w.1.2==0&&(w.2==false&&(w.3==2&&(w.4=={data:={toList:=[]:Array UInt8}:ByteArray}&&true))))then f==0 else false then f_1==141 else false)=true→[D.i 3,D.i 0,D.i 0,D.i 0,D.i 0,D.i 0,D.v (.bool false),D.i 0,D.v (.string ⟨⟨[]⟩⟩),D.sl [[D.i 1,D.i 0,D.i 0,D.i 0,D.i 0,D.i 0,D.v (.bool false),D.i 0,D.v (.string ⟨⟨[]⟩⟩),D.sl []],[D.i 1,D.i 1,D.i 0,D.i 0,D.i 0,D.i 0,D.v (.bool false),D.i 0,D.v (.string ⟨⟨[]⟩⟩),D.sl []]]]=[D.i 3,D.i 0,D.i 0,D.i 0,D.i 0,D.i 0,D.v (.bool false),D.i 0,D.v (.string ⟨⟨[]⟩⟩),D.sl (cellsL [colE (0:Nat),colE (1:Nat)])]∧Q [.d (.v (.bool (showB=={data:={toList:=[(40:UInt8),(43:UInt8),(32:UInt8),(36:UInt8),(48:UInt8),(32:UInt8),(36:UInt8),(49:UInt8),(41:UInt8)]:Array UInt8}:ByteArray})))] [])∧((bif bif w.1.1==2&&(w.1.2==0&&(w.2==false&&(w.3==2&&(w.4=={data:={toList:=[]:Array UInt8}:ByteArray}&&true))))then f==0 else false then f_1==141 else false) = !true→Q [.d (.v (.bool false))] [])):=by kernel_rfl
theorem evalE_sum:evalE rowP sumE=(ofI 2,0):=by
 have h1:checkE (typesV rowP) sumE=(⟨2,0⟩,0):=by kernel_rfl
 have h2:rowP.any badV=false:=by kernel_rfl
 have h3:evE rowP sumE=some (ofI 2):=by kernel_rfl
 unfold evalE
 rw[h1]
 dsimp only
 rw[h2,h3]
 simp only[bne_self_eq_false,cond_false]
theorem evalE_quo:evalE rowP quoE=(zeroV,141):=by
 have h1:checkE (typesV rowP) quoE=(⟨2,0⟩,0):=by kernel_rfl
 have h2:rowP.any badV=false:=by kernel_rfl
 have h3:evE rowP quoE=none:=by kernel_rfl
 unfold evalE
 rw[h1]
 dsimp only
 rw[h2,h3]
 simp only[bne_self_eq_false,cond_false]
theorem rowP_in:RowIn rowP:=by
 intro v hv
 simp only[rowP,List.mem_cons,List.not_mem_nil,or_false]at hv
 rcases hv with rfl|rfl<;>exact⟨by decide,by decide⟩
theorem ct17v(G:GlOk gl):Ct prog gl 4 [] (gives [.d (.v (.bool true))]):=by
 refine ct_of_vc E_ok (C_t66s_ok G) ioK_no it_ok mixed (fn:=f4) (body:=f4.body.getD .skip) (by kernel_rfl) (by kernel_rfl) (by kernel_rfl) (fi:=fi4) (by kernel_rfl) (by kernel_rfl) ⟨_,_,rfl,rfl⟩ ?_
 rw[vc17v 0]
 refine⟨sumE,rowP,?_,rfl,fits_sum,rowP_in,by decide,fun w1 g1 e1=>⟨quoE,rowP,?_,rfl,fits_quo,rowP_in,by decide,fun w2 g2 e2=>?_⟩⟩
 ·simp only[sumE,colE,cells,cellsL,zeroV];rfl
 ·simp only[quoE,colE,cells,cellsL,zeroV];rfl
 rw[evalE_sum]at e1
 rw[evalE_quo]at e2
 cases e1
 cases e2
 rw[show_val]
 refine⟨fun _=>⟨?_,?_⟩,fun h=>absurd h (by decide)⟩
 ·simp only[colE,cells,cellsL,zeroV];rfl
 ·exact⟨rfl,rfl⟩
def c_17v(a:List R)(K:KT):Prop:=match a with
 |[]=>K [.d (.v (.bool true))] []
 |_=>False
theorem c_17v_ok(G:GlOk gl)(a:List R)(K:KT)(h:c_17v a K):Ct prog gl 4 a K:=by
 unfold c_17v at h
 split at h
 ·exact(ct17v G).gives h
 ·exact h.elim
def C_t18:CallT:=addC C_t66s 8 c_18
theorem C_t18_ok(G:GlOk gl):CallsOk prog gl C_t18:=addC_ok (C_t66s_ok G) c_18_ok
def C_t17v:CallT:=addC C_t18 4 c_17v
theorem C_t17v_ok(G:GlOk gl):CallsOk prog gl C_t17v:=addC_ok (C_t18_ok G) (c_17v_ok G)
end Go.Proofs.Tryz
