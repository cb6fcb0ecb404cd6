/- Part of the proof: contracts of functions; no condition. -/
import Derived.Test.YtabbmgfeemkkbaaGreatDoorR5
namespace Go.Proofs.Tryz
open Go Go.Dm Go.Ex
set_option maxRecDepth 100000
variable {gl:Nat→Option Obj}
structure WZ where
 s:Bool
 n:Bool
 c:Int
def mz(a:Ty)(x:WZ)(u:Ty):WZ:=⟨bif x.s then u.k==a.k&&(u.sc==a.sc&&true)else false,bif x.n then cG u.k u.sc else false,if u.sc>x.c then u.sc else x.c⟩
def cE(a:Ty)(l:List Ty):WZ:=l.foldl (mz a) ⟨true,true,0⟩
def afM(a:Ty)(r:List Ty)(x:Nat):St:={tm:=[(0,.d (.sl ((a::r).map Ty.cs))),(2,.ref 2 0),(3,.d (.v (.bool false))),(4,.d (.v (.bool (cE a ((a::r).take x)).s))),(5,.d (.v (.bool (cE a ((a::r).take x)).n))),(6,.d (.v (.int .i64 (cE a ((a::r).take x)).c))),(7,.d (.v (.int .i64 (x:Int))))],hp:=[(2,.box [.d (.v (.int .i64 0)),.d (.v (.int .i64 0))])],kn:=[],gd:=[]}
def Ti(a:Ty)(r:List Ty):Fi:={akj with lx:=[(5,{X:=Nat,sh:=afM a r,P:=fun _=>eZ (a::r)})]}
def W6(a0:Ty)(a1:List Ty)(a2:Nat):St:={tm:=[(0,.d (.sl (a0.cs::List.map Ty.cs a1))),(2,.ref 2 0),(3,.d (.v (.bool false))),(4,.d (.v (.bool (cE a0 (List.take a2 (a0::a1))).1))),(5,.d (.v (.bool (cE a0 (List.take a2 (a0::a1))).2))),(6,.d (.v (.int .i64 (cE a0 (List.take a2 (a0::a1))).3))),(7,.i (↑a2:Int))],hp:=[(2,.box [.i 0,.i 0])],kn:=[],gd:=[]:St}
def Zh2(a0:Ty)(a1:List Ty)(a2:Nat)(k:Int→Int→Prop):Prop:=UO a0 a1 fun es=>PQ a2 es (2:Nat) fun aN aW=>k aN aW
def Zdl(a0:Ty)(a1:List Ty)(a2 a3:Nat)(k:Int→Nat→Nat→Prop):Prop:=UO a0 a1 fun es=>Ay a2 es (2:Nat) fun cells gI=>cut 0 1 (pr (1:Nat) cells)=some [D.i gI]∧fG a3 fun m x'=>k gI m x'
def Ze5(a0:Ty)(a1:Nat)(a2:List Ty)(a3:Nat)(k:Int→Int→Int→Nat→Nat→Prop):Prop:=(cE a0 (List.take a1 (a0::a2))).2=true→Zh2 a0 a2 a1 fun c_ fS=>Zdl a0 a2 a1 a3 fun gI m x'=>k c_ fS gI m x'
def Zhm(a0:Ty)(a1:Nat)(a2:List Ty)(a3:Nat)(k:Int→Nat→Nat→Prop):Prop:=(cE a0 (List.take a1 (a0::a2))).2 = !true→Zdl a0 a2 a1 a3 fun c_ m x'=>k c_ m x'
theorem amu(a:Ty)(r:List Ty)(Q:KT):vc bl d_ bf (Ti a r) (f88.body.getD .skip) f88.results.toList [.d (.sl ((a::r).map Ty.cs))] Q=(∃(x0:Nat),({tm:=[(0,.d (.sl (a.cs::List.map Ty.cs r))),(2,.ref 2 0),(3,.d (.v (.bool false))),(4,.d (.v (.bool true))),(5,.d (.v (.bool true))),(6,.i 0),(7,.i 0)],hp:=[(2,.box [.i 0,.i 0])],kn:=[],gd:=[]:St}=(W6 a r x0)∧∃(n:Nat),eZ (a::r) n x0)∧∀(n:Nat) (x:Nat),eZ (a::r) n x→UO a r fun es=>(sy x es (((cE a (List.take x (a::r))).1=true→Zh2 a r x fun aN aW=>lT a r fun bO dv=>(Ze5 a x r n fun c_ fS gI m x'=>{tm:=[(0,.d (.sl (a.cs::List.map Ty.cs r))),(2,.ref 2 0),(3,.d (.v (.bool false))),(4,.d (.v (.bool (aN==bO&&(aW==dv&&true))))),(5,.d (.v (.bool (cG c_ fS)))),(6,.i (if gI>(cE a (List.take x (a::r))).3 then gI else(cE a (List.take x (a::r))).3)),(7,.i (IntKind.i64.wrap ((↑x:Int)+1)))],hp:=[(2,.box [.i 0,.i 0])],kn:=[],gd:=[]:St}=(W6 a r x')∧eZ (a::r) m x')∧(Zhm a x r n fun c_ m x'=>{tm:=[(0,.d (.sl (a.cs::List.map Ty.cs r))),(2,.ref 2 0),(3,.d (.v (.bool false))),(4,.d (.v (.bool (aN==bO&&(aW==dv&&true))))),(5,.d (.v (.bool false))),(6,.i (if c_>(cE a (List.take x (a::r))).3 then c_ else(cE a (List.take x (a::r))).3)),(7,.i (IntKind.i64.wrap ((↑x:Int)+1)))],hp:=[(2,.box [.i 0,.i 0])],kn:=[],gd:=[]:St}=(W6 a r x')∧eZ (a::r) m x'))∧((cE a (List.take x (a::r))).1 = !true→(Ze5 a x r n fun aN aW bO m x'=>{tm:=[(0,.d (.sl (a.cs::List.map Ty.cs r))),(2,.ref 2 0),(3,.d (.v (.bool false))),(4,.d (.v (.bool false))),(5,.d (.v (.bool (cG aN aW)))),(6,.i (if bO>(cE a (List.take x (a::r))).3 then bO else(cE a (List.take x (a::r))).3)),(7,.i (IntKind.i64.wrap ((↑x:Int)+1)))],hp:=[(2,.box [.i 0,.i 0])],kn:=[],gd:=[]:St}=(W6 a r x')∧eZ (a::r) m x')∧(Zhm a x r n fun aN m x'=>{tm:=[(0,.d (.sl (a.cs::List.map Ty.cs r))),(2,.ref 2 0),(3,.d (.v (.bool false))),(4,.d (.v (.bool false))),(5,.d (.v (.bool false))),(6,.i (if aN>(cE a (List.take x (a::r))).3 then aN else(cE a (List.take x (a::r))).3)),(7,.i (IntKind.i64.wrap ((↑x:Int)+1)))],hp:=[(2,.box [.i 0,.i 0])],kn:=[],gd:=[]:St}=(W6 a r x')∧eZ (a::r) m x'))))∧(qE x es (((cE a (List.take x (a::r))).1=true→lT a r fun n aN=>Q [.agg (ql n aN),.d (.v (.bool true))] [])∧((cE a (List.take x (a::r))).1=false→Q [.agg [.i 3,.v (.int .i64 (cE a (List.take x (a::r))).3)],.d (.v (.bool (cE a (List.take x (a::r))).2))] [])))):=by kernel_rfl
def ER(l:List Nat):List (List D):=l.map fun(i:Nat)=>[.v (.int .i64 (i:Int))]
def de(op:Int)(n x:Nat):List Nat:=(List.range x).filter fun i=>op==15||i % 2==1||i==n-1
def VG(op:Int)(n x:Nat):St:={tm:=[(0,.d (.v (.int .i64 op))),(1,.d (.v (.int .i64 (n:Int)))),(4,.nil),(5,.own 50005),(6,.d (.v (.int .i64 (x:Int))))],hp:=[(50005,.bu 3 1 (ER (de op n x)))],kn:=[],gd:=[]}
def ou(n:Nat)(m:Nat)(x:Nat):Prop:=x≤n∧m=n-x
def Mq(op:Int)(n:Nat):Fi:={aki with cv:=[(3,[⟨none,5,50005,3,1⟩])],lx:=[(3,{X:=Nat,sh:=VG op n,P:=fun _=>ou n})]}
def zl(a0:Nat):List D:=[.i (↑a0:Int)]
theorem afN(op:Int)(n:Nat)(Q:KT):vc bl d_ bf (Mq op n) (f87.body.getD .skip) f87.results.toList [.d (.v (.int .i64 op)),.d (.v (.int .i64 (n:Int)))] Q=(∃(x0:Nat),({tm:=[(0,.i op),(1,.i (↑n:Int)),(4,.nil),(5,.own 50005),(6,.i 0)],hp:=[(50005,.bu 3 1 [])],kn:=[],gd:=[]:St}={tm:=[(0,.i op),(1,.i (↑n:Int)),(4,.nil),(5,.own 50005),(6,.i (↑x0:Int))],hp:=[(50005,.bu 3 1 (List.map (fun(i:Nat)=>(zl i)) (de op n x0)))],kn:=[],gd:=[]:St}∧∃(aN:Nat),ou n aN x0)∧∀(aN:Nat) (x:Nat),ou n aN x→(decide ((↑x:Int)<(↑n:Int))=true→(2:Int)≠(0:Int)∧((bif bif op==15 then true else(↑x:Int).tmod (2:Int)==1 then true else(↑x:Int)==IntKind.i64.wrap ((↑n:Int)-1))=true→(∀(c:List D),c∈[(zl x)]→c.length=1)∧(3:Nat)=(3:Nat)∧(1:Nat)=(1:Nat)∧(↑(List.map (fun(i:Nat)=>(zl i)) (de op n x)).length.succ:Int)*(↑(8:Nat):Int)≤140737488355328∧fG aN fun m x'=>{tm:=[(0,.i op),(1,.i (↑n:Int)),(4,.nil),(5,.own 50005),(6,.i (IntKind.i64.wrap ((↑x:Int)+1)))],hp:=[(50005,.bu 3 1 (List.map (fun(i:Nat)=>(zl i)) (de op n x)++[(zl x)]))],kn:=[],gd:=[]:St}={tm:=[(0,.i op),(1,.i (↑n:Int)),(4,.nil),(5,.own 50005),(6,.i (↑x':Int))],hp:=[(50005,.bu 3 1 (List.map (fun(i:Nat)=>(zl i)) (de op n x')))],kn:=[],gd:=[]:St}∧ou n m x')∧((bif bif op==15 then true else(↑x:Int).tmod (2:Int)==1 then true else(↑x:Int)==IntKind.i64.wrap ((↑n:Int)-1))=false→fG aN fun m x'=>{tm:=[(0,.i op),(1,.i (↑n:Int)),(4,.nil),(5,.own 50005),(6,.i (IntKind.i64.wrap ((↑x:Int)+1)))],hp:=[(50005,.bu 3 1 (List.map (fun(i:Nat)=>(zl i)) (de op n x)))],kn:=[],gd:=[]:St}={tm:=[(0,.i op),(1,.i (↑n:Int)),(4,.nil),(5,.own 50005),(6,.i (↑x':Int))],hp:=[(50005,.bu 3 1 (List.map (fun(i:Nat)=>(zl i)) (de op n x')))],kn:=[],gd:=[]:St}∧ou n m x'))∧(decide ((↑x:Int)<(↑n:Int))=false→Q [.d (.sl (List.map (fun(i:Nat)=>(zl i)) (de op n x)))] [])):=by kernel_rfl
def VH(l:List Ty)(k:Int)(x:Nat):St:={tm:=[(0,.d (.sl (l.map Ty.cs))),(1,.d (.v (.int .i64 k))),(4,.d (.v (.bool false))),(5,.d (.v (.int .i64 (x:Int))))],hp:=[],kn:=[],gd:=[]}
def q9(l:List Ty)(k:Int)(m:Nat)(x:Nat):Prop:=x≤l.length∧m=l.length-x∧(l.take x).any (gT k)=false
def Mr(l:List Ty)(k:Int):Fi:={aj' with lx:=[(2,{X:=Nat,sh:=VH l k,P:=fun _=>q9 l k})]}
def Zjc(a0:List Ty)(a1:Int)(a2:Nat):St:={tm:=[(0,.d (.sl (List.map Ty.cs a0))),(1,.i a1),(4,.d (.v (.bool false))),(5,.i (↑a2:Int))],hp:=[],kn:=[],gd:=[]:St}
def Zkh(a0:Nat)(a1:List (List D))(a2:Nat)(k:Int→Prop):Prop:=Ay a0 a1 a2 fun cells aN=>cut 0 1 cells=some [D.i aN]∧k aN
theorem afO(l:List Ty)(k:Int)(Q:KT):vc bl d_ bf (Mr l k) (f49.body.getD .skip) f49.results.toList [.d (.sl (l.map Ty.cs)),.d (.v (.int .i64 k))] Q=(∃(x0:Nat),({tm:=[(0,.d (.sl (List.map Ty.cs l))),(1,.i k),(4,.d (.v (.bool false))),(5,.i 0)],hp:=[],kn:=[],gd:=[]:St}=(Zjc l k x0)∧∃(n:Nat),q9 l k n x0)∧∀(n:Nat) (x:Nat),q9 l k n x→o7 l fun es=>(sy x es (o7 l fun es=>Zkh x es (2:Nat) fun aN=>((aN != k)=true→mu Q)∧((aN != k)=false→fG n fun m x'=>{tm:=[(0,.d (.sl (List.map Ty.cs l))),(1,.i k),(4,.d (.v (.bool false))),(5,.i (IntKind.i64.wrap ((↑x:Int)+1)))],hp:=[],kn:=[],gd:=[]:St}=(Zjc l k x')∧q9 l k m x')))∧(qE x es (Q Hz []))):=by kernel_rfl
theorem BZ{a:Ty}{l:List Ty}{x:Nat}(hi:x<l.length):cE a (l.take (x+1))=mz a (cE a (l.take x)) l[x]:=by
 unfold cE
 rw[e7 l hi,List.foldl_append]
 rfl
def eJ(a:Ty)(r:List Ty):Ty×Bool:=bif (cE a (a::r)).s then(a,true)else(⟨3,(cE a (a::r)).c⟩,(cE a (a::r)).n)
theorem amw(a:Ty)(r:List Ty)(hl:r.length<4611686018427387904):Ct prog gl 88 [.d (.sl ((a::r).map Ty.cs))] (gives [.agg (eJ a r).1.cs,.d (.v (.bool (eJ a r).2))]):=by
 refine aw bN bh aF bD mixed (fn:=f88) (body:=f88.body.getD .skip) (by kernel_rfl) (by kernel_rfl) (by kernel_rfl) (fi:=Ti a r) (by kernel_rfl) (by kernel_rfl) ⟨_,_,rfl,rfl⟩ ?_
 rw[amu];dsimp -eta -iota -proj only[W6,UO,fy,sy,Zh2,PQ,Ay,Zbx,ql,lT,WD,uD,Fj,H',Ze5,Zdl,fG,fb,Zhm,qE]
 refine⟨(0:Nat),⟨by simp only[List.take_zero,cE,List.foldl_nil];rfl,(a::r).length,Nat.zero_le _,rfl⟩,fun m (x:Nat) hx=>⟨_,rfl,fun hi=>?_,fun hi=>?_⟩⟩
 ·have hi:x<(a::r).length:=by have h:=of_decide_eq_true hi;rw[List.length_cons,List.length_map]at h;rw[List.length_cons];omega
  have hg:=eU hi
  have hm:=hx.2
  have hlen:(a::r).length=r.length+1:=rfl
  have hb:(0:Int)≤(x:Int)∧(x:Int)<((((a::r).map Ty.cs).length:Nat):Int):=by rw[List.length_map];omega
  have h0:(0:Int)≤0∧(0:Int)<((((a::r).map Ty.cs).length:Nat):Int):=by rw[List.length_map];omega
  have e0:=BZ (a:=a) hi
  generalize hu:(a::r)[x]=u at hg e0
  refine⟨fun s1=>⟨_,rfl,hb,_,hg,rfl,u.k,u.sc,rfl,_,rfl,h0,Ty.cs a,rfl,rfl,a.k,a.sc,rfl,fun s2=>⟨_,rfl,hb,_,hg,rfl,u.k,u.sc,rfl,_,rfl,hb,_,hg,rfl,u.sc,rfl,(a::r).length-(x+1),x+1,by omega,?_,hi,rfl⟩,fun s2=>⟨_,rfl,hb,_,hg,rfl,u.sc,rfl,(a::r).length-(x+1),x+1,by omega,?_,hi,rfl⟩⟩,fun s1=>⟨fun s2=>⟨_,rfl,hb,_,hg,rfl,u.k,u.sc,rfl,_,rfl,hb,_,hg,rfl,u.sc,rfl,(a::r).length-(x+1),x+1,by omega,?_,hi,rfl⟩,fun s2=>⟨_,rfl,hb,_,hg,rfl,u.sc,rfl,(a::r).length-(x+1),x+1,by omega,?_,hi,rfl⟩⟩⟩
  all_goals
   (first|(have s1:(cE a ((a::r).take x)).s=true:=s1)|(have s1:(cE a ((a::r).take x)).s=false:=s1))
   (first|(have s2:(cE a ((a::r).take x)).n=true:=s2)|(have s2:(cE a ((a::r).take x)).n=false:=s2))
   rw[aL (by omega),e0]
   simp only[mz,s1,s2,cond_true,cond_false]
   try rfl
 ·have hi:¬x<(a::r).length:=by have h:=of_decide_eq_false hi;rw[List.length_cons,List.length_map]at h;rw[List.length_cons];omega
  rw[List.take_of_length_le (by omega)]
  refine⟨fun s1=>⟨_,rfl,⟨by decide,by simp only[List.length_cons];omega⟩,Ty.cs a,rfl,rfl,a.k,a.sc,rfl,?_⟩,fun s1=>?_⟩
  ·have s1:(cE a (a::r)).s=true:=s1
   unfold eJ;rw[s1];exact⟨rfl,rfl⟩
  ·have s1:(cE a (a::r)).s=false:=s1
   unfold eJ;rw[s1];exact⟨rfl,rfl⟩
def agree(p q:Ty×Bool):Prop:=q.2=p.2∧(p.2=true→q.1=p.1)
theorem nq(p:Ty×Bool):agree p p:=⟨rfl,fun _=>rfl⟩
def s7(a:Ty)(p:Ty×Bool)(x:WZ):Prop:=(x.s=true→p=(a,true)∧x.n=aH a.k a.sc∧x.c=a.sc)∧(x.s=false→p.2=x.n∧(x.n=true→p.1=⟨3,x.c⟩))
theorem Ms(a:Ty)(p:Ty×Bool)(x:WZ)(u:Ty)(h:s7 a p x):s7 a (fz p u) (mz a x u):=by
 obtain⟨t,ok⟩:=p
 obtain⟨s,n,c⟩:=x
 obtain⟨h1,h2⟩:=h
 dsimp only at h1 h2
 cases s with
 |true=>
  obtain⟨e1,e2,e3⟩:=h1 rfl
  injection e1 with e1 e4
  subst e1;subst e4;subst e2;subst e3
  by_cases hu:u=t
  ·subst hu
   have q:(u.k==u.k&&(u.sc==u.sc&&true))=true:=by simp
   unfold fz mz
   rw[q]
   refine⟨fun _=>⟨rfl,?_,?_⟩,fun h=>(by cases h)⟩
   ·show(bif aH u.k u.sc then cG u.k u.sc else false)=aH u.k u.sc
    cases h:aH u.k u.sc with
    |true=>exact h
    |false=>rfl
   ·show(if u.sc>u.sc then u.sc else u.sc)=u.sc
    split<;>rfl
  ·have q:(u.k==t.k&&(u.sc==t.sc&&true))=false:=by
    rw[Bool.eq_false_iff];intro h
    simp only[Bool.and_true,Bool.and_eq_true,beq_iff_eq]at h
    exact hu (by obtain⟨_,_⟩:=u;obtain⟨_,_⟩:=t;simp_all)
   unfold fz mz
   dsimp only
   rw[q]
   have hs:∀k sc,cG k sc=aH k sc:=fun _ _=>rfl
   rw[hs]
   cases h3:aH u.k u.sc<;>cases h4:aH t.k t.sc<;>simp only[cond_true,cond_false]
   ·exact⟨fun h=>(by cases h),fun _=>⟨rfl,fun h=>(by cases h)⟩⟩
   ·exact⟨fun h=>(by cases h),fun _=>⟨rfl,fun h=>(by cases h)⟩⟩
   ·exact⟨fun h=>(by cases h),fun _=>⟨rfl,fun h=>(by cases h)⟩⟩
   ·exact⟨fun h=>(by cases h),fun _=>⟨rfl,fun _=>rfl⟩⟩
 |false=>
  obtain⟨e1,e2⟩:=h2 rfl
  subst e1
  refine⟨fun h=>(by unfold mz at h;cases h),fun _=>?_⟩
  have hs:∀k sc,cG k sc=aH k sc:=fun _ _=>rfl
  cases ok with
  |false=>
   have:(fz (t,false) u).2=false:=by
    unfold fz;dsimp only
    cases(u.k==t.k&&(u.sc==t.sc&&true))<;>cases(bif aH u.k u.sc then aH t.k t.sc else false)<;>rfl
   rw[this]
   exact⟨rfl,fun h=>(by cases h)⟩
  |true=>
   have e2:=e2 rfl
   subst e2
   unfold fz mz
   dsimp only
   rw[hs,show aH 3 c=true from rfl]
   by_cases hu:u=⟨3,c⟩
   ·subst hu
    have q:((3:Int)==3&&(c==c&&true))=true:=by simp
    rw[q]
    refine⟨rfl,fun _=>?_⟩
    show(⟨3,c⟩:Ty)=⟨3,if c>c then c else c⟩
    split<;>rfl
   ·have q:(u.k==3&&(u.sc==c&&true))=false:=by
       rw[Bool.eq_false_iff];intro h
       simp only[Bool.and_true,Bool.and_eq_true,beq_iff_eq]at h
       exact hu (by obtain⟨_,_⟩:=u;simp_all)
    rw[q]
    cases h3:aH u.k u.sc<;>simp only[cond_true,cond_false]
    ·exact⟨by first|rfl|trivial,fun h=>(by cases h)⟩
    ·exact⟨by first|rfl|trivial,fun _=>by first|rfl|trivial⟩
theorem QG(a:Ty)(ha:0≤a.sc)(r:List Ty):s7 a (aG a r) (cE a (a::r)):=by
 have key:∀(r:List Ty) (p:Ty×Bool) (x:WZ),s7 a p x→s7 a (r.foldl fz p) (r.foldl (mz a) x):=by
  intro r
  induction r with
  |nil=>intro p x h;exact h
  |cons u r ih=>intro p x h;exact ih _ _ (Ms a p x u h)
 refine key r (a,true) (mz a ⟨true,true,0⟩ a) ⟨fun _=>⟨rfl,rfl,?_⟩,fun h=>?_⟩
 ·show(if a.sc>0 then a.sc else 0)=a.sc
  split<;>omega
 ·exfalso
  revert h
  show(a.k==a.k&&(a.sc==a.sc&&true))=false→False
  simp
theorem ES(a:Ty)(ha:0≤a.sc)(r:List Ty):agree (aG a r) (eJ a r):=by
 have h:=QG a ha r
 unfold eJ
 rcases hs:(cE a (a::r)).s with _|_
 ·obtain⟨h1,h2⟩:=h.2 hs
  exact⟨h1.symm,fun h3=>(h2 (h1▸h3)).symm⟩
 ·obtain⟨h1,_⟩:=h.1 hs
  rw[h1];exact⟨rfl,fun _=>rfl⟩
theorem afP(l:List Ty)(k:Int)(hl:l.length<4611686018427387904):Ct prog gl 49 [.d (.sl (l.map Ty.cs)),.d (.v (.int .i64 k))] (gives [.d (.v (.bool (!l.any (gT k))))]):=by
 refine aw bN bh aF bD mixed (fn:=f49) (body:=f49.body.getD .skip) (by kernel_rfl) (by kernel_rfl) (by kernel_rfl) (fi:=Mr l k) (by kernel_rfl) (by kernel_rfl) ⟨_,_,rfl,rfl⟩ ?_
 rw[afO];dsimp -eta -iota -proj only[Zjc,o7,fy,sy,Zkh,Ay,Zbx,mu,fG,fb,qE,Hz]
 refine⟨(0:Nat),⟨rfl,l.length,Nat.zero_le _,rfl,by simp⟩,fun m (x:Nat) hx=>⟨_,rfl,fun hi=>?_,fun hi=>?_⟩⟩
 ·have hi:x<l.length:=by simpa using hi
  have hg:=eU hi
  have hm:=hx.2.1
  refine⟨_,rfl,⟨by omega,by rw[List.length_map];omega⟩,_,hg,rfl,l[x].k,rfl,fun hk=>?_,fun hk=>⟨l.length-(x+1),x+1,by omega,?_,hi,rfl,?_⟩⟩
  ·have:l.any (gT k)=true:=List.any_eq_true.2 ⟨l[x],List.getElem_mem hi,hk⟩
   rw[this];exact⟨rfl,rfl⟩
  ·rw[aL (by omega)]
  ·rw[e7 l hi,List.any_append,hx.2.2]
   simpa[gT]using hk
 ·have hi:¬x<l.length:=by simpa using hi
  have h2:=hx.2.2
  rw[List.take_of_length_le (by omega)]at h2
  rw[h2];exact⟨rfl,rfl⟩
theorem j8(op:Int)(n x:Nat):de op n (x+1)=de op n x++(if(op==15||x % 2==1||x==n-1)=true then [x]else []):=by
 unfold de
 rw[List.range_succ,List.filter_append]
 simp only[List.filter_cons,List.filter_nil]
theorem afQ(op:Int)(n:Nat)(hn:n≤1353245080300):Ct prog gl 87 [.d (.v (.int .i64 op)),.d (.v (.int .i64 (n:Int)))] (gives [.d (.sl (ER (de op n n)))]):=by
 refine aw bN bh aF bD mixed (fn:=f87) (body:=f87.body.getD .skip) (by kernel_rfl) (by kernel_rfl) (by kernel_rfl) (fi:=Mq op n) (by kernel_rfl) (by kernel_rfl) ⟨_,_,rfl,rfl⟩ ?_
 rw[afN];dsimp -eta -iota -proj only[zl,fG,fb]
 refine⟨(0:Nat),⟨rfl,n,Nat.zero_le _,rfl⟩,fun m (x:Nat) hx=>⟨fun hi=>?_,fun hi=>?_⟩⟩
 ·have hi:x<n:=by simpa using hi
  have hm:=hx.2
  have hc:(bif bif op==15 then true else((x:Nat):Int).tmod 2==1 then true else((x:Nat):Int)==IntKind.i64.wrap ((n:Int)-1))=(op==15||x % 2==1||x==n-1):=by
   rw[j7 (by omega) (by omega)]
   have e1:(((x:Nat):Int).tmod 2==1)=(x % 2==1):=by
    rw[Int.tmod_eq_emod_of_nonneg (by omega)]
    rw[Bool.eq_iff_iff];simp only[beq_iff_eq];omega
   have e2:(((x:Nat):Int)==(n:Int)-1)=(x==n-1):=by
    rw[Bool.eq_iff_iff];simp only[beq_iff_eq];omega
   rw[e1,e2]
   cases op==15<;>cases x % 2==1<;>rfl
  rw[hc]
  have hlen:(de op n x).length≤x:=by
   unfold de
   have:=List.length_filter_le (fun i=>op==15||i % 2==1||i==n-1) (List.range x)
   rw[List.length_range]at this;exact this
  refine⟨by decide,fun h=>⟨by simp,rfl,rfl,?_,n-(x+1),x+1,by omega,?_,hi,rfl⟩,fun h=>⟨n-(x+1),x+1,by omega,?_,hi,rfl⟩⟩
  ·rw[List.length_map];simp only[Nat.succ_eq_add_one];omega
  ·rw[aL (by omega),j8,if_pos h,List.map_append];rfl
  ·rw[aL (by omega),j8,if_neg (by rw[h];decide),List.append_nil]
 ·have hi:¬x<n:=by simpa using hi
  have tv:=hx.1
  rw[show x=n by omega]
  exact⟨rfl,rfl⟩
theorem afR(op:Int)(l:List Ty)(Q:KT):vc bl d_ bf YH (f52.body.getD .skip) f52.results.toList [.d (.v (.int .i64 op)),.d (.sl (l.map Ty.cs))] Q=(Zeh l fun n aN aW bO=>((op==6)=true→Q [.agg (zD (2:Int)),.d (.v (.bool (bif n==2 then aW==2 else false)))] [])∧((op==6)=false→((op==7)=true→Q [.agg (zD (2:Int)),.d (.v (.bool (bif n==2 then aW==2 else false)))] [])∧((op==7)=false→((op==8)=true→Q [.agg (ql n aN),.d (.v (.bool (bif cG n aN then cG aW bO else false)))] [])∧((op==8)=false→((op==5)=true→((bif n==2 then aW==2 else false)=true→Ic Q (2:Int))∧((bif n==2 then aW==2 else false)=false→Q [.agg [.i 3,.i (IntKind.i64.wrap (aN+bO))],.d (.v (.bool (bif bif cG n aN then cG aW bO else false then decide (IntKind.i64.wrap (aN+bO)≤(18:Int))else false)))] []))∧((op==5)=false→((bif n==2 then aW==2 else false)=true→Ic Q (2:Int))∧((bif n==2 then aW==2 else false)=false→((bif cG n aN then cG aW bO else false)=true→Q [.agg [.i 3,.i (if bO>aN then bO else aN)],.d (.v (.bool true))] [])∧((bif cG n aN then cG aW bO else false)=false→((bif bif n==5 then aW==5 else false then op==4 else false)=true→Ic Q (2:Int))∧((bif bif n==5 then aW==5 else false then op==4 else false)=false→Q [.agg (zD (5:Int)),.d (.v (.bool (bif bif n==5 then aW==2 else false then true else bif bif op==3 then n==2 else false then aW==5 else false)))] [])))))))):=by kernel_rfl
def fp(op:Int)(x y:Ty):Ty×Bool:=
 bif op==6 then(⟨2,0⟩,bif x.k==2 then y.k==2 else false)
 else bif op==7 then(⟨2,0⟩,bif x.k==2 then y.k==2 else false)
 else bif op==8 then(x,bif cG x.k x.sc then cG y.k y.sc else false)
 else bif op==5 then(bif (bif x.k==2 then y.k==2 else false)then(⟨2,0⟩,true)else(⟨3,IntKind.i64.wrap (x.sc+y.sc)⟩,bif (bif cG x.k x.sc then cG y.k y.sc else false)then decide (IntKind.i64.wrap (x.sc+y.sc)≤18)else false))
 else bif (bif x.k==2 then y.k==2 else false)then(⟨2,0⟩,true)
 else bif (bif cG x.k x.sc then cG y.k y.sc else false)then(⟨3,if y.sc>x.sc then y.sc else x.sc⟩,true)
 else bif (bif (bif x.k==5 then y.k==5 else false)then op==4 else false)then(⟨2,0⟩,true)
 else(⟨5,0⟩,bif (bif x.k==5 then y.k==2 else false)then true else bif (bif op==3 then x.k==2 else false)then y.k==5 else false)
theorem afS(op:Int)(l:List Ty)(x y:Ty)(hx:l[0]? = some x)(hy:l[l.length-1]? = some y)(hl:l.length≤1353245080300):Ct prog gl 52 [.d (.v (.int .i64 op)),.d (.sl (l.map Ty.cs))] (gives [.agg (fp op x y).1.cs,.d (.v (.bool (fp op x y).2))]):=by
 refine cz bh f52 YH ⟨_,_,rfl,rfl⟩ ?_
 rw[afR];dsimp -eta -iota -proj only[Zeh,o7,fy,WD,uD,Fj,H',ql,tn,Ib,zD,Ic,tG]
 have h0:=(List.getElem?_eq_some_iff.1 hx).1
 have w:IntKind.i64.wrap (((List.map Ty.cs l).length:Int)-1)=((l.length-1:Nat):Int):=by rw[List.length_map,ai (by omega) (by omega)];omega
 have g0:(l.map Ty.cs)[Int.toNat 0]? = some (Ty.cs x):=by
  show(l.map Ty.cs)[0]? = _
  rw[List.getElem?_map,hx];rfl
 have g1:(l.map Ty.cs)[(IntKind.i64.wrap (((List.map Ty.cs l).length:Int)-1)).toNat]? = some (Ty.cs y):=by
  rw[w,Int.toNat_natCast,List.getElem?_map,hy];rfl
 have fin:∀(a a':Int) (c:Bool),fp op x y=(⟨a,a'⟩,c)→gives [.agg (fp op x y).1.cs,.d (.v (.bool (fp op x y).2))] [R.agg [D.v (Value.int IntKind.i64 a),D.v (Value.int IntKind.i64 a')],R.d (D.v (Value.bool c))] []:=fun a a' c h=>by rw[h];exact⟨rfl,rfl⟩
 refine⟨_,rfl,⟨by decide,by rw[List.length_map];omega⟩,_,g0,rfl,x.k,x.sc,rfl,_,rfl,_,rfl,⟨by rw[w];omega,by rw[w,List.length_map];omega⟩,_,g1,rfl,y.k,y.sc,rfl,?_⟩
 repeat' first|(refine And.intro (fun h=>?_) (fun h=>?_))|fail
 all_goals(refine fin _ _ _ ?_;clear fin;first|(simp only[fp, *,cond_true,cond_false];done)|(simp_all only[fp,cond_true,cond_false];done))
def VI(a:List R)(K:KT):Prop:=match a with
 |[.d (.sl x)]=>∃(a:Ty) (r:List Ty),x=(a::r).map Ty.cs∧r.length<4611686018427387904∧K [.agg (eJ a r).1.cs,.d (.v (.bool (eJ a r).2))] []
 |_=>False
theorem QH:CK gl VI 88:=fun a K h=>by
 unfold VI at h
 split at h
 ·obtain⟨a,r,rfl,h1,h2⟩:=h
  exact(amw a r h1).gives h2
 ·exact h.elim
def Mt(a:List R)(K:KT):Prop:=match a with
 |[.d (.v (.int .i64 op)),.d (.v (.int .i64 n))]=>∃m:Nat,n=(m:Int)∧m≤1353245080300∧K [.d (.sl (ER (de op m m)))] []
 |_=>False
theorem Mu:CK gl Mt 87:=fun a K h=>by
 unfold Mt at h
 split at h
 ·obtain⟨m,rfl,h1,h2⟩:=h
  exact(afQ _ m h1).gives h2
 ·exact h.elim
def Mv(a:List R)(K:KT):Prop:=match a with
 |[.d (.sl x),.d (.v (.int .i64 k))]=>∃l:List Ty,x=l.map Ty.cs∧l.length<4611686018427387904∧K [.d (.v (.bool (!l.any (gT k))))] []
 |_=>False
theorem Mw:CK gl Mv 49:=fun a K h=>by
 unfold Mv at h
 split at h
 ·obtain⟨l,rfl,h1,h2⟩:=h
  exact(afP l _ h1).gives h2
 ·exact h.elim
def Mx(a:List R)(K:KT):Prop:=match a with
 |[.d (.v (.int .i64 op)),.d (.sl y)]=>∃(l:List Ty) (u w:Ty),y=l.map Ty.cs∧l[0]? = some u∧l[l.length-1]? = some w∧l.length≤1353245080300∧K [.agg (fp op u w).1.cs,.d (.v (.bool (fp op u w).2))] []
 |_=>False
theorem My:CK gl Mx 52:=fun a K h=>by
 unfold Mx at h
 split at h
 ·obtain⟨l,u,w,rfl,h1,h2,h3,h4⟩:=h
  exact(afS _ l u w h1 h2 h3).gives h4
 ·exact h.elim
def lK(l:List Ty)(is:List Nat):List Ty:=is.map fun i=>l.getD i ⟨0,0⟩
def v8(l:List Ty)(j:Nat):Bool:=(List.range j).all fun k=>(l.getD (2*k) ⟨0,0⟩).k==1
def Tj:aj:=au (au d_ 88 VI) 87 Mt
def VJ(op sub:Int)(t:Ty)(v:Go.Ex.AV)(args:List EX)(l:List Ty)(x:Nat):St:={tm:=[(1,.d (.sl (l.map Ty.cs))),(2,.ref 2 0),(4,.ref 4 0),(5,.d (.v (.bool false))),(6,.d (.sl (ER (de op l.length l.length)))),(7,.own 50007),(8,.d (.v (.int .i64 (x:Int))))],hp:=[(2,.box [.d (.v (.int .i64 op)),.d (.v (.int .i64 sub)),.d (.v (.int .i64 t.k)),.d (.v (.int .i64 t.sc)),.d (.v (.int .i64 v.t.k)),.d (.v (.int .i64 v.t.sc)),.d (.v (.bool v.aA)),.d (.v (.int .i64 v.n)),.d (.v (.string v.s)),.d (.sl (aa args))]),(4,.box [.d (.v (.int .i64 0)),.d (.v (.int .i64 0))]),(50007,.bu 23 2 ((lK l ((de op l.length l.length).take x)).map Ty.cs))],kn:=[],gd:=[]}
def q_(op:Int)(l:List Ty)(m:Nat)(x:Nat):Prop:=x≤(de op l.length l.length).length∧m=(de op l.length l.length).length-x
structure RY where
 t:Ty
 ok:Bool
 j:Nat
def QI(op sub:Int)(t:Ty)(v:Go.Ex.AV)(args:List EX)(l:List Ty)(y:RY):St:={tm:=[(1,.d (.sl (l.map Ty.cs))),(2,.ref 2 0),(4,.ref 4 0),(5,.d (.v (.bool false))),(9,.ref 9 0),(10,.d (.v (.bool (bif y.ok then v8 l y.j else false)))),(11,.d (.v (.int .i64 (2*(y.j:Int)))))],hp:=[(2,.box [.d (.v (.int .i64 op)),.d (.v (.int .i64 sub)),.d (.v (.int .i64 t.k)),.d (.v (.int .i64 t.sc)),.d (.v (.int .i64 v.t.k)),.d (.v (.int .i64 v.t.sc)),.d (.v (.bool v.aA)),.d (.v (.int .i64 v.n)),.d (.v (.string v.s)),.d (.sl (aa args))]),(4,.box [.d (.v (.int .i64 0)),.d (.v (.int .i64 0))]),(9,.box [.d (.v (.int .i64 y.t.k)),.d (.v (.int .i64 y.t.sc))])],kn:=[],gd:=[]}
def lL(op:Int)(l:List Ty)(y0:RY)(m:Nat)(y:RY):Prop:=y.t=y0.t∧y.ok=y0.ok∧y.j≤l.length/2∧m=l.length-y.j∧(op=14∨y.j=0)
def Mz(op sub:Int)(t:Ty)(v:Go.Ex.AV)(args:List EX)(l:List Ty):Fi:={aka with lp:=[(4,([1,2,4,5,6,7,8],[31,32])),(9,([1,2,4,5,9,10,11],[50007]))],cv:=[(4,[⟨none,7,50007,23,2⟩])],lx:=[(4,{X:=Nat,sh:=VJ op sub t v args l,P:=fun _=>q_ op l}),(9,{X:=RY,sh:=QI op sub t v args l,P:=lL op l})]}
def Zct(a0:List Ty)(a1:RY)(a2 a3:Int)(a4:Ty)(a5:Go.Ex.AV)(a6:List EX):St:={tm:=[(1,.d (.sl (List.map Ty.cs a0))),(2,.ref 2 0),(4,.ref 4 0),(5,.d (.v (.bool false))),(9,.ref 9 0),(10,.d (.v (.bool (bif a1.2 then v8 a0 a1.3 else false)))),(11,.i ((2:Int)*(↑a1.3:Int)))],hp:=[(2,.box [.i a2,.i a3,.i a4.1,.i a4.2,.i a5.1.1,.i a5.1.2,.d (.v (.bool a5.2)),.i a5.3,.d (.v (.string a5.4)),.d (.sl (aa a6))]),(4,.box [.i 0,.i 0]),(9,.box [.i a1.1.1,.i a1.1.2])],kn:=[],gd:=[]:St}
theorem afT(op sub:Int)(t:Ty)(v:Go.Ex.AV)(args:List EX)(l:List Ty)(Q:KT):vc bl Tj bf (Mz op sub t v args l) (f50.body.getD .skip) f50.results.toList [.agg (aT op sub t v (aa args)),.d (.sl (l.map Ty.cs))] Q=(o7 l fun es=>∃(m:Nat),(↑es.length:Int)=(↑m:Int)∧m≤(1353245080300:Nat)∧∃(x0:Nat),({tm:=[(1,.d (.sl (List.map Ty.cs l))),(2,.ref 2 0),(4,.ref 4 0),(5,.d (.v (.bool false))),(6,.d (.sl (List.map (fun(i:Nat)=>(zl i)) (de op m m)))),(7,.own 50007),(8,.i 0)],hp:=[(2,.box [.i op,.i sub,.i t.1,.i t.2,.i v.1.1,.i v.1.2,.d (.v (.bool v.2)),.i v.3,.d (.v (.string v.4)),.d (.sl (aa args))]),(4,.box [.i 0,.i 0]),(50007,.bu 23 2 [])],kn:=[],gd:=[]:St}={tm:=[(1,.d (.sl (List.map Ty.cs l))),(2,.ref 2 0),(4,.ref 4 0),(5,.d (.v (.bool false))),(6,.d (.sl (List.map (fun(i:Nat)=>(zl i)) (de op l.length l.length)))),(7,.own 50007),(8,.i (↑x0:Int))],hp:=[(2,.box [.i op,.i sub,.i t.1,.i t.2,.i v.1.1,.i v.1.2,.d (.v (.bool v.2)),.i v.3,.d (.v (.string v.4)),.d (.sl (aa args))]),(4,.box [.i 0,.i 0]),(50007,.bu 23 2 (List.map Ty.cs (lK l (List.take x0 (de op l.length l.length)))))],kn:=[],gd:=[]:St}∧∃(n:Nat),q_ op l n x0)∧∀(n:Nat) (x:Nat),q_ op l n x→fy fun es=>D.sl (List.map (fun(i:Nat)=>(zl i)) (de op l.length l.length))=D.sl es∧(sy x es (fy fun es=>D.sl (List.map (fun(i:Nat)=>(zl i)) (de op l.length l.length))=D.sl es∧Zkh x es (1:Nat) fun aN=>S0 l aN fun aW bO=>PZ aW bO ((↑(List.map Ty.cs (lK l (List.take x (de op l.length l.length)))).length.succ:Int)*(↑(16:Nat):Int)≤140737488355328∧fG n fun m x'=>{tm:=[(1,.d (.sl (List.map Ty.cs l))),(2,.ref 2 0),(4,.ref 4 0),(5,.d (.v (.bool false))),(6,.d (.sl (List.map (fun(i:Nat)=>(zl i)) (de op l.length l.length)))),(7,.own 50007),(8,.i (IntKind.i64.wrap ((↑x:Int)+1)))],hp:=[(2,.box [.i op,.i sub,.i t.1,.i t.2,.i v.1.1,.i v.1.2,.d (.v (.bool v.2)),.i v.3,.d (.v (.string v.4)),.d (.sl (aa args))]),(4,.box [.i 0,.i 0]),(50007,.bu 23 2 (List.map Ty.cs (lK l (List.take x (de op l.length l.length)))++[(ql aW bO)]))],kn:=[],gd:=[]:St}={tm:=[(1,.d (.sl (List.map Ty.cs l))),(2,.ref 2 0),(4,.ref 4 0),(5,.d (.v (.bool false))),(6,.d (.sl (List.map (fun(i:Nat)=>(zl i)) (de op l.length l.length)))),(7,.own 50007),(8,.i (↑x':Int))],hp:=[(2,.box [.i op,.i sub,.i t.1,.i t.2,.i v.1.1,.i v.1.2,.d (.v (.bool v.2)),.i v.3,.d (.v (.string v.4)),.d (.sl (aa args))]),(4,.box [.i 0,.i 0]),(50007,.bu 23 2 (List.map Ty.cs (lK l (List.take x' (de op l.length l.length)))))],kn:=[],gd:=[]:St}∧q_ op l m x')))∧(qE x es (∃(a:Ty),∃(r:List Ty),List.map Ty.cs (lK l (List.take x (de op l.length l.length)))=a.cs::List.map Ty.cs r∧r.length<4611686018427387904∧∃(x0:RY),({tm:=[(1,.d (.sl (List.map Ty.cs l))),(2,.ref 2 0),(4,.ref 4 0),(5,.d (.v (.bool false))),(9,.ref 9 0),(10,.d (.v (.bool (eJ a r).2))),(11,.i 0)],hp:=[(2,.box [.i op,.i sub,.i t.1,.i t.2,.i v.1.1,.i v.1.2,.d (.v (.bool v.2)),.i v.3,.d (.v (.string v.4)),.d (.sl (aa args))]),(4,.box [.i 0,.i 0]),(9,.box [.d (.v (.int .i64 (eJ a r).1.1)),.d (.v (.int .i64 (eJ a r).1.2))])],kn:=[],gd:=[]:St}=(Zct l x0 op sub t v args)∧∃(n:Nat),lL op l x0 n x0)∧∀(n:Nat) (x:RY),lL op l x0 n x→o7 l fun es=>((bif decide ((2:Int)*(↑x.3:Int)<IntKind.i64.wrap ((↑es.length:Int)-1))then op==14 else false)=true→((bif x.2 then v8 l x.3 else false)=true→o7 l fun es=>((0:Int)≤2*(↑x.3:Int)∧(2:Int)*(↑x.3:Int)<(↑es.length:Int))∧∃(cells:List D),es[((2:Int)*(↑x.3:Int)).toNat]? = some cells∧cells.length=2∧∃(aN:Int),cut 0 1 cells=some [D.i aN]∧∃(m:Nat),∃(x':RY),m<n∧{tm:=[(1,.d (.sl (List.map Ty.cs l))),(2,.ref 2 0),(4,.ref 4 0),(5,.d (.v (.bool false))),(9,.ref 9 0),(10,.d (.v (.bool (aN==1)))),(11,.i (IntKind.i64.wrap ((2:Int)*(↑x.3:Int)+2)))],hp:=[(2,.box [.i op,.i sub,.i t.1,.i t.2,.i v.1.1,.i v.1.2,.d (.v (.bool v.2)),.i v.3,.d (.v (.string v.4)),.d (.sl (aa args))]),(4,.box [.i 0,.i 0]),(9,.box [.i x.1.1,.i x.1.2])],kn:=[],gd:=[]:St}=(Zct l x' op sub t v args)∧lL op l x0 m x')∧((bif x.2 then v8 l x.3 else false) = !true→∃(m:Nat),∃(x':RY),m<n∧{tm:=[(1,.d (.sl (List.map Ty.cs l))),(2,.ref 2 0),(4,.ref 4 0),(5,.d (.v (.bool false))),(9,.ref 9 0),(10,.d (.v (.bool false))),(11,.i (IntKind.i64.wrap ((2:Int)*(↑x.3:Int)+2)))],hp:=[(2,.box [.i op,.i sub,.i t.1,.i t.2,.i v.1.1,.i v.1.2,.d (.v (.bool v.2)),.i v.3,.d (.v (.string v.4)),.d (.sl (aa args))]),(4,.box [.i 0,.i 0]),(9,.box [.i x.1.1,.i x.1.2])],kn:=[],gd:=[]:St}=(Zct l x' op sub t v args)∧lL op l x0 m x'))∧((bif decide ((2:Int)*(↑x.3:Int)<IntKind.i64.wrap ((↑es.length:Int)-1))then op==14 else false)=false→Q [.agg [.i x.1.1,.i x.1.2],.d (.v (.bool (bif x.2 then v8 l x.3 else false)))] [])))):=by kernel_rfl
theorem MA{l:List Ty}{j:Nat}(hj:2*j<l.length):v8 l (j+1)=(v8 l j&&l[2*j].k==1):=by
 unfold v8
 rw[List.range_succ,List.all_append]
 simp[List.getD_eq_getElem?_getD,hj]
theorem MB{op:Int}{n i:Nat}(h:i∈de op n n):i<n:=by
 unfold de at h
 exact List.mem_range.1 (List.mem_filter.1 h).1
theorem MC(op:Int)(n:Nat):(de op n n).length≤n:=by
 unfold de
 have:=List.length_filter_le (fun i=>op==15||i % 2==1||i==n-1) (List.range n)
 rw[List.length_range]at this;exact this
theorem MD{l:List Nat}{x:Nat}(h:x<l.length):(ER l)[x]? = some [.v (.int .i64 (l[x]:Int))]:=by
 unfold ER
 rw[List.getElem?_map,List.getElem?_eq_getElem h];rfl
theorem ME:ah prog gl Tj:=af (af bh QH) Mu
theorem afU(op sub:Int)(t:Ty)(v:Go.Ex.AV)(args:List EX)(l:List Ty)(hl:l.length≤1353245080300)(a:Ty)(r:List Ty)(wT:lK l (de op l.length l.length)=a::r):Ct prog gl 50 [.agg (aT op sub t v (aa args)),.d (.sl (l.map Ty.cs))] (gives [.agg (eJ a r).1.cs,.d (.v (.bool (bif (eJ a r).2 then v8 l (if op=14 then l.length/2 else 0)else false)))]):=by
 refine aw bN ME aF bD mixed (fn:=f50) (body:=f50.body.getD .skip) (by kernel_rfl) (by kernel_rfl) (by kernel_rfl) (fi:=Mz op sub t v args l) (by kernel_rfl) (by kernel_rfl) ⟨_,_,rfl,rfl⟩ ?_
 rw[afT];dsimp -eta -iota -proj only[o7,fy,zl,sy,Zkh,Ay,Zbx,S0,Fj,H',ql,PZ,fG,fb,qE,Zct]
 have jl:=MC op l.length
 refine⟨_,rfl,l.length,by rw[List.length_map],hl,(0:Nat),⟨by simp only[List.take_zero,lK,List.map_nil];rfl,_,Nat.zero_le _,rfl⟩,fun m (x:Nat) hx=>⟨_,rfl,fun hi=>?_,fun hi=>?_⟩⟩
 ·have hi:x<(de op l.length l.length).length:=by
   have h:=of_decide_eq_true hi
   rw[List.length_map]at h;omega
  have hm:=hx.2
  have hlt:=MB (List.getElem_mem hi)
  refine⟨_,rfl,⟨by omega,by rw[List.length_map];omega⟩,_,MD hi,rfl,_,rfl,_,rfl,⟨by omega,by rw[List.length_map];omega⟩,_,eU hlt,rfl,_,_,rfl,by simp,rfl,rfl,?_,(de op l.length l.length).length-(x+1),x+1,by omega,?_,hi,rfl⟩
  ·rw[List.length_map];simp only[lK,List.length_map,List.length_take,Nat.succ_eq_add_one];omega
  ·rw[aL (by omega),e7 _ hi]
   simp only[lK,List.map_append,List.map_cons,List.map_nil,List.getD_eq_getElem?_getD,List.getElem?_eq_getElem hlt,Option.getD_some]
 ·have hi:¬x<(de op l.length l.length).length:=by
   have h:=of_decide_eq_false hi
   rw[List.length_map]at h;omega
  rw[List.take_of_length_le (by omega),wT]
  have hrr:r.length<l.length+1:=by
   have:=congrArg List.length wT
   simp only[lK,List.length_map,List.length_cons]at this
   omega
  refine⟨a,r,rfl,by omega,⟨(eJ a r).1,(eJ a r).2,0⟩,⟨by
   have:(bif (eJ a r).2 then v8 l 0 else false)=(eJ a r).2:=by cases(eJ a r).2<;>rfl
   dsimp only
   rw[this]
   rfl,l.length,rfl,rfl,Nat.zero_le _,rfl,.inr rfl⟩,fun m2 y hy=>?_⟩
  obtain⟨yt,yok,yj⟩:=y
  obtain⟨e2,e3,hj,DW,hz⟩:=hy
  dsimp only at e2 e3 hj DW hz ⊢
  subst e2;subst e3
  refine⟨_,rfl,fun hc=>?_,fun hc=>?_⟩
  ·have Ir:op=14∧2*yj+1<l.length:=by
    by_cases xS:op=14
    ·rw[show(op==14)=true by simpa using xS,List.length_map]at hc
     by_cases hd:decide (2*(yj:Int)<IntKind.i64.wrap ((l.length:Int)-1))=true
     ·have:=of_decide_eq_true hd
      rw[j7 (by omega) (by omega)]at this
      exact⟨xS,by omega⟩
     ·rw[Bool.eq_false_iff.2 hd]at hc;cases hc
    ·rw[show(op==14)=false by simpa using xS]at hc
     revert hc
     cases decide (2*(yj:Int)<IntKind.i64.wrap (((List.map Ty.cs l).length:Int)-1))<;>intro hc<;>cases hc
   have NQ:2*yj<l.length:=by omega
   have w:IntKind.i64.wrap (2*((yj:Nat):Int)+2)=2*((yj+1:Nat):Int):=by rw[j7 (by omega) (by omega)];omega
   have hg:=eU NQ
   have e:(bif (eJ a r).2 then v8 l (yj+1)else false)=(bif (bif (eJ a r).2 then v8 l yj else false)then l[2*yj].k==1 else false):=by
    rw[MA NQ];cases(eJ a r).2<;>cases v8 l yj<;>rfl
   refine⟨fun hk=>⟨_,rfl,⟨by omega,by rw[List.length_map];omega⟩,_,(by rw[show(2*((yj:Nat):Int)).toNat=2*yj by omega];exact hg),rfl,l[2*yj].k,rfl,l.length-(yj+1),⟨(eJ a r).1,(eJ a r).2,yj+1⟩,by omega,?_,rfl,rfl,by show yj+1≤l.length/2;omega,rfl,.inl Ir.1⟩,fun hk=>⟨l.length-(yj+1),⟨(eJ a r).1,(eJ a r).2,yj+1⟩,by omega,?_,rfl,rfl,by show yj+1≤l.length/2;omega,rfl,.inl Ir.1⟩⟩
   ·rw[hk,cond_true]at e
    dsimp only
    rw[e,w]
   ·have Rk:(bif (eJ a r).2 then v8 l yj else false)=false:=hk
    rw[Rk,cond_false]at e
    dsimp only
    rw[e,w]
  ·have tp:yj=(if op=14 then l.length/2 else 0):=by
    by_cases xS:op=14
    ·rw[if_pos xS]
     rw[show(op==14)=true by simpa using xS,List.length_map]at hc
     by_cases hd:decide (2*(yj:Int)<IntKind.i64.wrap ((l.length:Int)-1))=true
     ·rw[hd]at hc;cases hc
     ·have:=of_decide_eq_false (Bool.eq_false_iff.2 hd)
      rw[j7 (by omega) (by omega)]at this
      omega
    ·rw[if_neg xS]
     rcases hz with h|h
     ·exact absurd h xS
     ·exact h
   rw[←tp]
   exact⟨rfl,rfl⟩
def MF(a:List R)(K:KT):Prop:=match a with
 |[.agg x,.d (.sl y)]=>∃(op sub:Int) (t:Ty) (v:Go.Ex.AV) (args:List EX) (l:List Ty) (a:Ty) (r:List Ty),x=aT op sub t v (aa args)∧y=l.map Ty.cs∧l.length≤1353245080300∧lK l (de op l.length l.length)=a::r∧K [.agg (eJ a r).1.cs,.d (.v (.bool (bif (eJ a r).2 then v8 l (if op=14 then l.length/2 else 0)else false)))] []
 |_=>False
theorem MG:CK gl MF 50:=fun a K h=>by
 unfold MF at h
 split at h
 ·obtain⟨op,sub,t,v,args,l,a,r,rfl,rfl,h1,h2,h3⟩:=h
  exact(afU op sub t v args l h1 a r h2).gives h3
 ·exact h.elim
def bX(t:Ty):Prop:=cf t.k t.sc=0
theorem e_{t:Ty}:bX t↔1≤t.k∧t.k≤5∧0≤t.sc∧t.sc≤18∧(t.sc≠0→t.k=3):=by
 unfold bX cf dZ
 simp only[bne]
 by_cases h1:t.k<1
 ·rw[decide_eq_true h1];constructor
  ·intro h;cases h
  ·intro h;omega
 rw[decide_eq_false h1]
 by_cases h2:t.k>5
 ·rw[decide_eq_true h2];constructor
  ·intro h;cases h
  ·intro h;omega
 rw[decide_eq_false h2]
 by_cases h3:t.sc≥0
 ·rw[decide_eq_true h3]
  by_cases h4:t.sc≤18
  ·rw[decide_eq_true h4]
   by_cases h5:t.sc=0
   ·rw[show(t.sc==0)=true by simpa using h5]
    constructor
    ·intro _;omega
    ·intro _;rfl
   ·rw[show(t.sc==0)=false by simpa using h5]
    by_cases h6:t.k=3
    ·rw[show(t.k==3)=true by simpa using h6]
     constructor
     ·intro _;omega
     ·intro _;rfl
    ·rw[show(t.k==3)=false by simpa using h6]
     constructor
     ·intro h;cases h
     ·intro h;omega
  ·rw[decide_eq_false h4];constructor
   ·intro h;cases h
   ·intro h;omega
 ·rw[decide_eq_false h3];constructor
  ·intro h;cases h
  ·intro h;omega
theorem ov{t:Ty}(h:bX t){k:Int}(hk:k≠3):(t.k==k&&(t.sc==0&&true))=(t.k==k):=by
 have h:=e_.1 h
 by_cases h1:t.k=k
 ·have:t.sc=0:=by
   by_cases h2:t.sc=0
   ·exact h2
   ·exact absurd (h.2.2.2.2 h2) (by omega)
  rw[this];simp
 ·rw[show(t.k==k)=false by simpa using h1];rfl
theorem Du{t:Ty}(h:bX t){k:Int}(hk:k≠3)(h1:t.k=k):t=⟨k,0⟩:=by
 have h:=e_.1 h
 obtain⟨a,b⟩:=t
 dsimp only at h h1
 subst h1
 have:b=0:=by
  by_cases h2:b=0
  ·exact h2
  ·exact absurd (h.2.2.2.2 h2) hk
 rw[this]
theorem zm{op:Int}{x y:Ty}(hx:bX x)(hy:bX y)(h8:op=8→x=y):agree (cH op x y (bif x.k==2 then y.k==2 else false)) (fp op x y):=by
 by_cases hi:x.k=2∧y.k=2
 ·have ex:=Du hx (by decide) hi.1
  have ey:=Du hy (by decide) hi.2
  subst ex;subst ey
  have:cH op ⟨2,0⟩ ⟨2,0⟩ (bif (2:Int)==2 then(2:Int)==2 else false)=(⟨2,0⟩,true):=rfl
  dsimp only
  rw[this]
  unfold fp
  cases op==6<;>cases op==7<;>cases op==8<;>cases op==5<;>exact⟨rfl,fun _=>rfl⟩
 have hI:(bif x.k==2 then y.k==2 else false)=false:=by
  by_cases h1:x.k=2
  ·have h2:¬y.k=2:=fun h=>hi ⟨h1,h⟩
   rw[show(y.k==2)=false by simpa using h2];cases x.k==2<;>rfl
  ·rw[show(x.k==2)=false by simpa using h1];rfl
 rw[hI]
 unfold cH fp
 rw[hI,ov hx (k:=5) (by decide),ov hy (k:=5) (by decide),ov hx (k:=2) (by decide),ov hy (k:=2) (by decide)]
 have hs:∀k sc,cG k sc=aH k sc:=fun _ _=>rfl
 rw[hs,hs]
 cases op==6
 ·cases op==7
  ·by_cases o8:op=8
   ·have e:=h8 o8
    subst e
    rw[show(op==8)=true by simpa using o8]
    cases aH x.k x.sc<;>exact⟨rfl,fun _=>rfl⟩
   ·rw[show(op==8)=false by simpa using o8]
    cases op==5
    ·cases(bif aH x.k x.sc then aH y.k y.sc else false)
     ·cases op==4<;>cases x.k==5<;>cases y.k==5<;>cases y.k==2<;>cases op==3<;>cases x.k==2<;>exact⟨rfl,fun _=>rfl⟩
     ·exact⟨rfl,fun _=>rfl⟩
    ·cases(bif aH x.k x.sc then aH y.k y.sc else false)
     ·exact⟨rfl,fun h=>by cases h⟩
     ·exact⟨rfl,fun _=>rfl⟩
  ·exact⟨rfl,fun h=>by cases h⟩
 ·exact⟨rfl,fun h=>by cases h⟩
theorem B1{op:Int}{x y:Ty}{b:Bool}(hx:bX x)(hy:bX y){t:Ty}(h:cH op x y b=(t,true)):bX t:=by
 unfold cH at h
 have g2:bX ⟨2,0⟩:=rfl
 have g5:bX ⟨5,0⟩:=rfl
 cases b
 case true=>injection h with h _;subst h;exact g2
 cases h6:(bif op==6 then true else op==7)
 case true=>rw[h6]at h;injection h with _ h;cases h
 rw[h6]at h
 cases h8:op==8
 case true=>rw[h8]at h;injection h with h _;subst h;exact hx
 rw[h8]at h
 have kx:=e_.1 hx
 have ky:=e_.1 hy
 cases hb:(bif aH x.k x.sc then aH y.k y.sc else false)
 ·rw[hb]at h
  cases h5:op==5
  case true=>rw[h5]at h;injection h with _ h;cases h
  rw[h5]at h
  cases hd:(bif (bif op==4 then x.k==5&&(x.sc==0&&true)else false)then y.k==5&&(y.sc==0&&true)else false)
  ·rw[hd]at h;injection h with h _;subst h;exact g5
  ·rw[hd]at h;injection h with h _;subst h;exact g2
 ·rw[hb]at h
  cases h5:op==5
  ·rw[h5]at h;injection h with h _;subst h
   refine e_.2 ⟨(by show(1:Int)≤3;decide),(by show(3:Int)≤5;decide),?_,?_,fun _=>rfl⟩<;>(show _≤_;dsimp only;split<;>omega)
  ·rw[h5]at h;injection h with h h3;subst h
   have:=of_decide_eq_true h3
   rw[j7 (by omega) (by omega)]at this ⊢
   exact e_.2 ⟨(by show(1:Int)≤3;decide),(by show(3:Int)≤5;decide),by show 0≤x.sc+y.sc;omega,this,fun _=>rfl⟩
theorem B2{a:Ty}{r:List Ty}(ha:bX a)(hr:∀t∈r,bX t):bX (aG a r).1:=by
 have key:∀(r:List Ty) (p:Ty×Bool),bX p.1→(∀t∈r,bX t)→bX (r.foldl fz p).1:=by
  intro r
  induction r with
  |nil=>intro p h _;exact h
  |cons u r ih=>
   intro p h hr
   refine ih _ ?_ (fun t ht=>hr t (List.mem_cons_of_mem _ ht))
   have hu:=e_.1 (hr u List.mem_cons_self)
   have hp:=e_.1 h
   unfold fz
   cases(u.k==p.1.k&&(u.sc==p.1.sc&&true))
   ·cases(bif aH u.k u.sc then aH p.1.k p.1.sc else false)
    ·exact h
    ·refine e_.2 ⟨(by show(1:Int)≤3;decide),(by show(3:Int)≤5;decide),?_,?_,fun _=>rfl⟩<;>(show _≤_;dsimp only[cond_true,cond_false];split<;>omega)
   ·exact h
 exact key r (a,true) ha hr
theorem B3{sub:Int}{t:Ty}{v:Go.Ex.AV}{m c:Int}(h:bE 2 sub t v m c=true):bX v.t:=by
 have h2:bL v.1.1 v.1.2 v.2 v.3 v.4=0:=by
  have e:bE 2 sub t v m c=(bif (bif bif m==0 then sub==0 else false then tz t else false)then bL v.1.1 v.1.2 v.2 v.3 v.4==0 else false):=rfl
  rw[e]at h
  revert h
  cases(bif bif m==0 then sub==0 else false then tz t else false)<;>intro h
  ·cases h
  ·simpa using h
 unfold bX
 by_cases h3:cf v.t.k v.t.sc=0
 ·exact h3
 ·exfalso
  apply h3
  unfold bL at h2
  rw[show(cf v.1.1 v.1.2 != 0)=true by simpa using h3,cond_true]at h2
  exact h2
theorem ET{sub:Int}{t:Ty}{v:Go.Ex.AV}{m c:Int}(h:bE 16 sub t v m c=true):bX t:=by
 have e:bE 16 sub t v m c=(bif (bif bif m==1 then sub==0 else false then cf t.1 t.2==0 else false)then jo v else false):=rfl
 rw[e]at h
 unfold bX
 revert h
 cases m==1<;>cases sub==0<;>cases h:(cf t.1 t.2==0)<;>cases jo v<;>intro h2<;>first|(cases h2;done)|(simpa using h)
theorem EU{sub:Int}{t:Ty}{v:Go.Ex.AV}{m c:Int}(h:bE 14 sub t v m c=true):3≤m∧m.tmod 2≠0:=by
 have e:bE 14 sub t v m c=(bif (bif bif (bif decide (m≥3)then m.tmod 2 != 0 else false)then sub==0 else false then tz t else false)then jo v else false):=rfl
 rw[e]at h
 revert h
 cases h1:decide (m≥3)<;>cases h2:(m.tmod 2 != 0)<;>cases sub==0<;>cases tz t<;>cases jo v<;>intro h<;>first|(cases h;done)|exact⟨of_decide_eq_true h1,by simpa using h2⟩
theorem EV{op sub:Int}{t:Ty}{v:Go.Ex.AV}{m c:Int}(h:bE op sub t v m c=true)(n1:op≠1)(n2:op≠2)(n9:op≠9)(n16:op≠16)(n12:op≠12)(n13:op≠13)(n18:op≠18)(n14:op≠14)(n15:op≠15):(op=8∧m=1)∨(op≠8∧m=2):=by
 unfold bE at h
 rw[show(op==1)=false by simpa using n1,show(op==2)=false by simpa using n2,show(op==9)=false by simpa using n9,show(op==16)=false by simpa using n16,show(op==12)=false by simpa using n12,show(op==13)=false by simpa using n13,show(op==18)=false by simpa using n18,show(op==14)=false by simpa using n14,show(op==15)=false by simpa using n15]at h
 simp only[cond_false,Bool.or_false]at h
 by_cases o8:op=8
 ·rw[show(op==8)=true by simpa using o8,cond_true]at h
  refine .inl ⟨o8,?_⟩
  by_cases hm:m=1
  ·exact hm
  ·rw[show(m==1)=false by simpa using hm]at h;cases h
 ·rw[show(op==8)=false by simpa using o8,cond_false]at h
  refine .inr ⟨o8,?_⟩
  by_cases hm:m=2
  ·exact hm
  ·rw[show(m==2)=false by simpa using hm]at h
   revert h
   cases(op==3||op==4||op==5||op==6||op==7||op==10||op==11||op==17)<;>intro h<;>cases h
theorem kE{op:Int}{l:List Ty}(bT:l≠[]){t:Ty}(h:t∈cM op l):t∈l:=by
 have hp:=List.length_pos_iff.2 bT
 unfold cM at h
 split at h
 ·exact h
 ·rcases List.mem_append.1 h with h|h
  ·unfold iu at h
   obtain⟨k,hk,rfl⟩:=List.mem_map.1 h
   have hk:=List.mem_range.1 hk
   have hlt:2*k+1<l.length:=by omega
   rw[List.getD_eq_getElem?_getD,List.getElem?_eq_getElem hlt]
   exact List.getElem_mem hlt
  ·have h:=List.mem_singleton.1 h
   have hlt:l.length-1<l.length:=by omega
   rw[List.getD_eq_getElem?_getD,List.getElem?_eq_getElem hlt]at h
   rw[h];exact List.getElem_mem hlt
theorem ow{l:List Ty}(hl:∀t∈l,bX t){i:Nat}(h:i<l.length):bX (l.getD i ⟨0,0⟩):=by
 rw[List.getD_eq_getElem?_getD,List.getElem?_eq_getElem h]
 exact hl _ (List.getElem_mem h)
theorem zn{ae:List Ty}(hc:∀t∈ae,bX t){op sub:Int}{t:Ty}{v:Go.Ex.AV}{l:List Ty}(hl:∀t∈l,bX t)(hm:bE op sub t v (l.length:Int) ae.length=true){t':Ty}(h:bA ae op sub t v l=(t',true)):bX t':=by
 have g1:bX ⟨1,0⟩:=rfl
 have g2:bX ⟨2,0⟩:=rfl
 have g4:bX ⟨4,0⟩:=rfl
 unfold bA at h
 split at h
 ·rename_i o;subst o
  obtain⟨h1,h2⟩:=kr hm
  injection h with h _
  rw[←h];exact ow hc (by omega)
 split at h
 ·rename_i o;subst o
  injection h with h _
  rw[←h];exact B3 hm
 rename_i n1 n2
 have ct:=b8 hm n1 n2
 have bT:l≠[]:=by intro h;rw[h]at ct;simp at ct
 split at h
 ·injection h with h _;subst h;exact g1
 split at h
 ·injection h with h _;subst h;exact g1
 split at h
 ·injection h with h _;subst h;exact g1
 split at h
 ·injection h with h _;subst h;exact g4
 split at h
 ·injection h with h _;subst h;exact g2
 split at h
 ·rename_i o;subst o
  injection h with h _;subst h;exact ET hm
 split at h
 ·obtain⟨a,r,hr,_⟩:=jf (op:=op) bT
  rw[hr]at h
  injection h with h _
  rw[←h]
  have DO:∀t∈a::r,bX t:=fun t ht=>hl t (kE bT (hr▸ht))
  exact B2 (DO _ List.mem_cons_self) (fun t ht=>DO t (List.mem_cons_of_mem _ ht))
 ·exact B1 (ow hl (by omega)) (ow hl (by omega)) h
theorem p5{ae:List Ty}:∀{l:List EX} {tl:List Ty},bm ae l=some tl→tl.length=l.length
 |[],tl,h=>by simp only[bm,Option.some.injEq]at h;subst h;rfl
 |a::l,tl,h=>by
  simp only[bm]at h
  rcases hh:ay ae a with⟨u,_|_⟩
  ·rw[hh]at h;cases h
  ·rw[hh]at h
   rcases hl:bm ae l with _|r
   ·rw[hl]at h;cases h
   ·rw[hl]at h
    simp only[Option.some.injEq]at h
    subst h
    simp only[List.length_cons,p5 hl]
mutual
theorem zo{ae:List Ty}(hc:∀t∈ae,bX t):∀(e:EX),cu ae.length e=true→∀t,ay ae e=(t,true)→bX t
 | .mk op sub t v args,hm,t',h=>by
   have Ef:bE op sub t v ((aa args).length:Int) ae.length=true∧ep ae.length args=true:=by
    have:(bE op sub t v ((aa args).length:Int) ae.length&&ep ae.length args)=true:=by simpa only[cu]using hm
    simpa using this
   simp only[ay]at h
   rcases hl:bm ae args with _|l
   ·rw[hl]at h;injection h with _ h;cases h
   ·rw[hl]at h
    have hlen:=p5 hl
    refine zn hc (lM hc args Ef.2 l hl) ?_ h
    rw[hlen,←ag];exact Ef.1
theorem lM{ae:List Ty}(hc:∀t∈ae,bX t):∀(l:List EX),ep ae.length l=true→∀tl,bm ae l=some tl→∀t∈tl,bX t
 |[],_,tl,h=>by simp only[bm,Option.some.injEq]at h;subst h;intro t ht;cases ht
 |e::l,hm,tl,h=>by
  have Ef:cu ae.length e=true∧ep ae.length l=true:=by
   have:(cu ae.length e&&ep ae.length l)=true:=by simpa only[ep]using hm
   simpa using this
  simp only[bm]at h
  rcases hh:ay ae e with⟨u,_|_⟩
  ·rw[hh]at h;cases h
  ·rw[hh]at h
   rcases hl:bm ae l with _|r
   ·rw[hl]at h;cases h
   ·rw[hl]at h
    simp only[Option.some.injEq]at h
    subst h
    intro t ht
    cases ht with
    |head=>exact zo hc e Ef.1 _ hh
    |tail _ ht=>exact lM hc l Ef.2 r hl t ht
end
end Go.Proofs.Tryz
namespace Go.Proofs.Tryz
open Go Go.Dm Go.Ex
set_option maxRecDepth 100000
variable {gl:Nat→Option Obj}
def afV(n:Nat)(a:List R)(K:KT):Prop:=match a with
 |[.agg x,.d (.sl y)]=>∃(e:EX) (ae:List Ty),x=cells e∧y=ae.map Ty.cs∧size e<n∧fits e∧cu ae.length e=true∧(∀t∈ae,bX t)∧ae.length≤8796093022208∧
  (∀(t:Ty) (ok:Bool),agree (ay ae e) (t,ok)→K [.agg t.cs,.d (.v (.bool ok))] [])
 |_=>False
def Tk(n:Nat):aj:=au (au (au (au d_ 49 Mv) 50 MF) 52 Mx) 22 (afV n)
def afW(op sub:Int)(t:Ty)(v:Go.Ex.AV)(args:List EX)(ae:List Ty)(x:TX):St:={tm:=[(1,.d (.sl (ae.map Ty.cs))),(2,.ref 2 0),(4,.ref 4 0),(5,.d (.v (.bool false))),(6,.own 50006),(7,.d (.v (.int .i64 (x.i:Int))))],hp:=[(2,.box [.d (.v (.int .i64 op)),.d (.v (.int .i64 sub)),.d (.v (.int .i64 t.k)),.d (.v (.int .i64 t.sc)),.d (.v (.int .i64 v.t.k)),.d (.v (.int .i64 v.t.sc)),.d (.v (.bool v.aA)),.d (.v (.int .i64 v.n)),.d (.v (.string v.s)),.d (.sl (aa args))]),(4,.box [.d (.v (.int .i64 0)),.d (.v (.int .i64 0))]),(50006,.bu 23 2 (x.l.map Ty.cs))],kn:=[],gd:=[]}
def Tl(op sub:Int)(t:Ty)(v:Go.Ex.AV)(args:List EX)(ae:List Ty):Fi:={aj2 with cv:=[(3,[⟨none,6,50006,23,2⟩])],lx:=[(3,{X:=TX,sh:=afW op sub t v args ae,P:=fun _=>ll ae args})]}
def Zfp(a0:List Ty)(a1:TX)(a2 a3:Int)(a4:Ty)(a5:Go.Ex.AV)(a6:List EX):St:={tm:=[(1,.d (.sl (List.map Ty.cs a0))),(2,.ref 2 0),(4,.ref 4 0),(5,.d (.v (.bool false))),(6,.own 50006),(7,.i (↑a1.1:Int))],hp:=[(2,.box [.i a2,.i a3,.i a4.1,.i a4.2,.i a5.1.1,.i a5.1.2,.d (.v (.bool a5.2)),.i a5.3,.d (.v (.string a5.4)),.d (.sl (aa a6))]),(4,.box [.i 0,.i 0]),(50006,.bu 23 2 (List.map Ty.cs a1.2))],kn:=[],gd:=[]:St}
def W7(a0:List Ty)(a1:EX)(k:Ty→Bool→Prop):Prop:=(∀(t:Ty),t∈a0→bX t)∧a0.length≤8796093022208∧∀(dn:Ty) (ok:Bool),agree (ay a0 a1) (dn,ok)→k dn ok
def Zec(a0 a1:Int)(a2:Ty)(a3:Go.Ex.AV)(a4:List EX)(a5:TX)(a6:KT):Prop:=zE fun eh cr dn mv dN=>∃(l:List Ty),∃(a:Ty),∃(r:List Ty),Zix a0 a1 a2 a3 a4 eh cr dn mv dN a5 l (lK l (de eh l.length l.length)=a::r∧a6 [.agg [.v (.int .i64 (eJ a r).1.1),.v (.int .i64 (eJ a r).1.2)],.d (.v (.bool (bif (eJ a r).2 then v8 l (if eh=(14:Int)then l.length/(2:Nat)else(0:Nat))else false)))] [])
def Zed(a0 a1 a2:Int)(a3:Ty)(a4:Go.Ex.AV)(a5:List EX)(a6:TX)(a7:KT):Prop:=(a0==a1)=true→Zec a0 a2 a3 a4 a5 a6 a7
def Zek(a0 a1 a2:Int)(a3:Ty)(a4:Go.Ex.AV)(a5:List EX)(a6:TX)(a7:KT)(k:Prop):Prop:=(Zed a0 a1 a2 a3 a4 a5 a6 a7)∧k
def Zel(a0 a1 a2 a3:Int)(a4:Ty)(a5:Go.Ex.AV)(a6:List EX)(a7:TX)(a8:KT)(k:Prop):Prop:=(a0==a1)=false→Zek a0 a2 a3 a4 a5 a6 a7 a8 (k)
theorem amz(n:Nat)(op sub:Int)(t:Ty)(v:Go.Ex.AV)(args:List EX)(ae:List Ty)(Q:KT):vc bl (Tk n) bf (Tl op sub t v args ae) (f22.body.getD .skip) f22.results.toList [.agg (aT op sub t v (aa args)),.d (.sl (ae.map Ty.cs))] Q=(∃(x0:TX),({tm:=[(1,.d (.sl (List.map Ty.cs ae))),(2,.ref 2 0),(4,.ref 4 0),(5,.d (.v (.bool false))),(6,.own 50006),(7,.i 0)],hp:=[(2,.box [.i op,.i sub,.i t.1,.i t.2,.i v.1.1,.i v.1.2,.d (.v (.bool v.2)),.i v.3,.d (.v (.string v.4)),.d (.sl (aa args))]),(4,.box [.i 0,.i 0]),(50006,.bu 23 2 [])],kn:=[],gd:=[]:St}=(Zfp ae x0 op sub t v args)∧∃(n:Nat),ll ae args n x0)∧∀(aN:Nat) (x:TX),ll ae args aN x→gS args fun es=>(decide ((↑x.1:Int)<(↑es.length:Int))=true→Zdu args x ae n fun e ea=>W7 ea e fun dn ok=>((!ok)=true→UQ Q)∧(Zj6 ok dn x aN fun m x'=>{tm:=[(1,.d (.sl (List.map Ty.cs ae))),(2,.ref 2 0),(4,.ref 4 0),(5,.d (.v (.bool false))),(6,.own 50006),(7,.i (IntKind.i64.wrap ((↑x.1:Int)+1)))],hp:=[(2,.box [.i op,.i sub,.i t.1,.i t.2,.i v.1.1,.i v.1.2,.d (.v (.bool v.2)),.i v.3,.d (.v (.string v.4)),.d (.sl (aa args))]),(4,.box [.i 0,.i 0]),(50006,.bu 23 2 (List.map Ty.cs x.2++[(AA dn)]))],kn:=[],gd:=[]:St}=(Zfp ae x' op sub t v args)∧ll ae args m x'))∧(decide ((↑x.1:Int)<(↑es.length:Int))=false→Zhp op ae sub Q (((op==1)=false→((op==2)=true→Q [.agg [.i v.1.1,.i v.1.2],.d (.v (.bool true))] [])∧((op==2)=false→(Zf9 op x fun n aW bO dv=>Q [.agg (zD (1:Int)),.d (.v (.bool (gx n aW bO dv)))] [])∧(Fk op (9:Int) (10:Int) x Q (1:Int) (1:Int) ((Fk op (10:Int) (11:Int) x Q (1:Int) (1:Int) ((Fk op (11:Int) (12:Int) x Q (1:Int) (1:Int) (((op==12)=false→((op==13)=true→Ic Q (1:Int))∧(Zel op (13:Int) (14:Int) sub t v args x Q ((Zel op (14:Int) (15:Int) sub t v args x Q (((op==15)=false→(S1 op (16:Int) x fun n aW=>Q [.agg (AA t),.d (.v (.bool (sv n aW t.1)))] [])∧(Fk op (16:Int) (17:Int) x Q (4:Int) (4:Int) ((Fk op (17:Int) (18:Int) x Q (2:Int) (4:Int) (((op==18)=false→∃(l:List Ty),∃(u w:Ty),List.map Ty.cs x.2=List.map Ty.cs l∧l[(0:Nat)]? = some u∧l[l.length-(1:Nat)]? = some w∧l.length≤1353245080300∧Q [.agg [.v (.int .i64 (fp op u w).1.1),.v (.int .i64 (fp op u w).1.2)],.d (.v (.bool (fp op u w).2))] [])))))))))))))))))))))):=by kernel_rfl
theorem VK(n x:Nat):de 15 n x=List.range x:=by
 unfold de
 rw[List.filter_eq_self]
 intro i _;rfl
theorem B4(l:List Ty):lK l (List.range l.length)=l:=by
 unfold lK
 apply List.ext_getElem?
 intro i
 rw[List.getElem?_map]
 by_cases h:i<l.length
 ·rw[List.getElem?_eq_getElem (by simpa using h),List.getElem_range,List.getElem?_eq_getElem h]
  simp[List.getD_eq_getElem?_getD,h]
 ·rw[List.getElem?_eq_none (by simpa using h),List.getElem?_eq_none (by omega)];rfl
theorem MH(h:Nat):∀j,j≤h→de 14 (2*h+1) (2*j)=(List.range j).map fun k=>2*k+1
 |0,_=>rfl
 |j+1,hj=>by
  rw[show 2*(j+1)=2*j+1+1 by omega,j8,j8,MH h j (by omega)]
  have e1:((14:Int)==15||(2*j) % 2==1||2*j==2*h+1-1)=false:=by
   rw[Bool.eq_false_iff];intro hh
   simp only[Bool.or_eq_true,beq_iff_eq]at hh
   rcases hh with(hh|hh)|hh
   ·cases hh
   ·omega
   ·omega
  have e2:((14:Int)==15||(2*j+1) % 2==1||2*j+1==2*h+1-1)=true:=by
   rw[show(2*j+1) % 2=1 by omega];rfl
  rw[e1,e2,if_pos rfl,if_neg (by decide),List.append_nil,List.range_succ,List.map_append]
  rfl
theorem p6{op:Int}{l:List Ty}(h:op=15∨(op=14∧l.length % 2=1)):lK l (de op l.length l.length)=cM op l:=by
 rcases h with rfl|⟨rfl,h⟩
 ·rw[VK,B4];rfl
 ·obtain⟨m,hm⟩:∃m,l.length=2*m+1:=⟨l.length/2,by omega⟩
  have e:de 14 l.length l.length=((List.range m).map fun k=>2*k+1)++[2*m]:=by
   rw[hm,j8,MH m m (Nat.le_refl _)]
   have:((14:Int)==15||(2*m) % 2==1||2*m==2*m+1-1)=true:=by
    rw[show 2*m+1-1=2*m by omega];simp
   rw[this,if_pos rfl]
  rw[e]
  unfold cM lK iu
  rw[if_neg (by decide),hm,show(2*m+1)/2=m by omega,show 2*m+1-1=2*m by omega,List.map_append,List.map_map]
  rfl
theorem amA{l:List Ty}(hl:∀t∈l,bX t){j:Nat}(hj:2*j≤l.length):mZ l j=v8 l j:=by
 unfold mZ v8
 rw[Bool.eq_iff_iff,List.all_eq_true,List.all_eq_true]
 have key:∀k,k∈List.range j→mY (l.getD (2*k) ⟨0,0⟩)=((l.getD (2*k) ⟨0,0⟩).k==1):=by
  intro k hk
  have hk:=List.mem_range.1 hk
  exact ov (ow hl (by omega)) (by decide)
 constructor
 ·intro h k hk;rw[←key k hk];exact h k hk
 ·intro h k hk;rw[key k hk];exact h k hk
theorem s8{op:Int}(ho:op=14∨op=15){l:List Ty}(hl:∀t∈l,bX t){a:Ty}{r:List Ty}(ha:bX a):agree ((aG a r).1,(aG a r).2&&(decide (op=15)||mZ l (l.length/2))) ((eJ a r).1,bif (eJ a r).2 then v8 l (if op=14 then l.length/2 else 0)else false):=by
 obtain⟨h1,h2⟩:=ES a (e_.1 ha).2.2.1 r
 have h3:(bif (eJ a r).2 then v8 l (if op=14 then l.length/2 else 0)else false)=((aG a r).2&&(decide (op=15)||mZ l (l.length/2))):=by
  rw[h1]
  rcases ho with rfl|rfl
  ·rw[if_pos rfl,amA hl (by omega)]
   cases(aG a r).2<;>rfl
  ·cases(aG a r).2<;>rfl
 refine⟨h3,fun h=>h2 ?_⟩
 dsimp only at h
 revert h
 cases(aG a r).2<;>simp
theorem MI(a b c d:Int):gx a b c d=ie a b c d:=by
 have e:∀k,fh k=bG k:=fun _=>rfl
 unfold gx ie
 rw[e,e]
 cases decide (a≥1)<;>cases decide (a≤5)<;>cases bG a==bG c<;>rfl
theorem QJ:∀{tl:List Ty},(tl.length=1∨tl.length=2)→∀(h1:0<tl.length) (h2:tl.length-1<tl.length),(!tl.any (gT 2))=(bif tl[0].k==2 then tl[tl.length-1].k==2 else false)
 |[x],_,_,_=>by
  show(!(x.k != 2||false))=(bif x.k==2 then x.k==2 else false)
  simp only[bne]
  cases x.k==2<;>rfl
 |[x,y],_,_,_=>by
  show(!(x.k != 2||(y.k != 2||false)))=(bif x.k==2 then y.k==2 else false)
  simp only[bne]
  cases x.k==2<;>cases y.k==2<;>rfl
 |[],h,_,_=>by simp at h
 |_::_::_::_,h,_,_=>by simp at h
theorem afX:∀(n:Nat) (e:EX) (ae:List Ty),size e<n→fits e→cu ae.length e=true→(∀t∈ae,bX t)→ae.length≤8796093022208→Ct prog gl 22 [.agg (cells e),.d (.sl (ae.map Ty.cs))] (fun res fin=>fin=[]∧∃(t:Ty) (ok:Bool),agree (ay ae e) (t,ok)∧res=[.agg t.cs,.d (.v (.bool ok))])
 |0,_,_,h,_,_,_,_=>absurd h (Nat.not_lt_zero _)
 |n+1,.mk op sub t v args,ae,hs,hf,hm,hgc,fw=>by
  have hC:ah prog gl (Tk n):=af (af (af (af bh Mw) MG) My) (fun a K hk=>by
   unfold afV at hk
   split at hk
   ·obtain⟨e,ae,rfl,rfl,h1,h2,h3,h4,h5,h6⟩:=hk
    exact(afX n e ae h1 h2 h3 h4 h5).mono fun res fin ⟨e1,t,ok,e2,e3⟩=>by subst e1;subst e3;exact h6 t ok e2
   ·exact hk.elim)
  rw[ab]
  refine aw bN hC aF bD mixed (fn:=f22) (body:=f22.body.getD .skip) (by kernel_rfl) (by kernel_rfl) (by kernel_rfl) (fi:=Tl op sub t v args ae) (by kernel_rfl) (by kernel_rfl) ⟨_,_,rfl,(ay ae (.mk op sub t v args)).1,(ay ae (.mk op sub t v args)).2,nq _,rfl⟩ ?_
  rw[amz];dsimp -eta -iota -proj only[Zfp,gS,fy,Zdu,Q9,Zy,Zs,Zr,Z2,lU,W7,UQ,Zik,zD,Zj6,Zjr,Zjn,Zjm,Zjk,AA,Zhp,Zg9,S0,o7,Fj,H',ql,Zf9,S1,Zc5,Fk,Ic,tG,Zel,Zek,Zed,Zec,zE,Zix,SS,Z1,xQ]
  obtain⟨_,hl,ss⟩:=ee hf
  simp only[size]at hs
  have Ef:bE op sub t v ((aa args).length:Int) ae.length=true∧ep ae.length args=true:=by
   have:(bE op sub t v ((aa args).length:Int) ae.length&&ep ae.length args)=true:=by simpa only[cu]using hm
   simpa using this
  obtain⟨hh,afY⟩:=Ef
  have nC:=afY
  rw[fV,List.all_eq_true]at nC
  refine⟨⟨0,[]⟩,⟨rfl,args.length,⟨Nat.zero_le _,rfl⟩,by simp only[List.take_zero,bm],rfl⟩,fun m (x:TX) hx=>⟨aa args,rfl,fun hi=>?_,fun hi=>?_⟩⟩
  ·obtain⟨i,tl⟩:=x
   obtain⟨⟨h1,h2⟩,h4,h5⟩:=hx
   dsimp only at h1 h2 h4 h5 hi ⊢
   have hi:i<args.length:=by simpa[ag]using hi
   obtain⟨PM,w9,t1,v1,a1,e1,g1⟩:=aX hi
   have hsz:=ja (List.getElem_mem hi)
   refine⟨aa args,rfl,⟨by omega,by rw[ag];omega⟩,_,g1,rfl,PM,w9,t1.k,t1.sc,v1.t.k,v1.t.sc,v1.aA,v1.n,v1.s,aa a1,rfl,args[i],ae,by rw[e1,ab];rfl,rfl,by omega,cZ ss (List.getElem_mem hi),nC _ (List.getElem_mem hi),hgc,fw,fun t2 ok he=>⟨fun ho=>?_,fun ho=>⟨by simp,rfl,rfl,?_,args.length-(i+1),⟨i+1,tl++[t2]⟩,by omega,?_,⟨hi,rfl⟩,?_,by simp[h5]⟩⟩⟩
   ·have:ok=false:=by simpa using ho
    subst this
    have e2:(ay ae args[i]).2=false:=he.1.symm
    refine⟨rfl,⟨0,0⟩,false,?_,rfl⟩
    rw[lr (ln (List.getElem_mem hi) e2)]
    exact nq _
   ·rw[List.length_map,h5];simp only[Nat.succ_eq_add_one];omega
   ·dsimp only
    rw[aL (by omega),List.map_append]
    rfl
   ·have:ok=true:=by simpa using ho
    subst this
    rw[List.take_add_one,List.getElem?_eq_getElem hi]
    refine lq h4 ?_
    have e2:(ay ae args[i]).2=true:=he.1.symm
    have e3:=he.2 e2
    rcases hte:ay ae args[i]with⟨u,b⟩
    rw[hte]at e2 e3
    dsimp only at e2 e3
    rw[e2,e3]
  ·obtain⟨i,tl⟩:=x
   obtain⟨⟨h1,h2⟩,h4,h5⟩:=hx
   dsimp only at h1 h2 h4 h5 hi ⊢
   have hi:¬i<args.length:=by simpa[ag]using hi
   rw[List.take_of_length_le (by omega)]at h4
   have AB:tl.length=args.length:=by omega
   rw[ag]at hh
   have mK:=lM hgc args afY tl h4
   have fin:∀(a a':Int) (c:Bool),agree (bA ae op sub t v tl) (⟨a,a'⟩,c)→(([]:List (List D))=[]∧∃(t':Ty) (ok:Bool),agree (ay ae (.mk op sub t v args)) (t',ok)∧[R.agg [D.v (Value.int IntKind.i64 a),D.v (Value.int IntKind.i64 a')],R.d (D.v (Value.bool c))]=[.agg t'.cs,.d (.v (.bool ok))]):=fun a a' c h=>⟨rfl,⟨a,a'⟩,c,by rw[fA h4];exact h,rfl⟩
   have same:∀(p:Ty×Bool) (a a':Int) (c:Bool),p=(⟨a,a'⟩,c)→agree p (⟨a,a'⟩,c):=fun p a a' c h=>by rw[h];exact nq _
   have g0:∀(h:0<tl.length),(tl.map Ty.cs)[Int.toNat 0]? = some (Ty.cs tl[0]):=fun h=>eU h
   have g1:∀(h:1<tl.length),(tl.map Ty.cs)[Int.toNat 1]? = some (Ty.cs tl[1]):=fun h=>eU h
   have d0:∀(h:0<tl.length),tl.getD 0 ⟨0,0⟩=tl[0]:=fun h=>by rw[List.getD_eq_getElem?_getD,List.getElem?_eq_getElem h];rfl
   have d1:∀(h:1<tl.length),tl.getD 1 ⟨0,0⟩=tl[1]:=fun h=>by rw[List.getD_eq_getElem?_getD,List.getElem?_eq_getElem h];rfl
   refine⟨fun o1=>?_,fun o1=>⟨fun o2=>?_,fun o2=>⟨fun o9=>?_,fun o9=>⟨fun Io=>?_,fun Io=>⟨fun Ip=>?_,fun Ip=>⟨fun AD=>?_,fun AD=>⟨fun Iq=>?_,fun Iq=>⟨fun xR=>?_,fun xR=>⟨fun yO=>?_,fun yO=>⟨fun uE=>?_,fun uE=>⟨fun tN=>?_,fun tN=>⟨fun xb=>?_,fun xb=>?_⟩⟩⟩⟩⟩⟩⟩⟩⟩⟩⟩⟩
   ·have o1:op=1:=by simpa using o1
    subst o1
    obtain⟨c1,c2⟩:=kr hh
    have hlt:sub.toNat<ae.length:=by omega
    refine⟨_,rfl,⟨c1,by rw[List.length_map];exact c2⟩,_,eU hlt,rfl,_,_,rfl,fin _ _ _ (same _ _ _ _ ?_)⟩
    unfold bA
    rw[if_pos rfl,List.getD_eq_getElem?_getD,List.getElem?_eq_getElem hlt]
    rfl
   all_goals have n1:op≠1:=by simpa using o1
   ·have o2:op=2:=by simpa using o2
    refine fin _ _ _ (same _ _ _ _ ?_)
    unfold bA
    rw[if_neg n1,if_pos o2]
   all_goals have n2:op≠2:=by simpa using o2
   all_goals have ct:1≤args.length:=by have:=b8 hh n1 n2;omega
   all_goals have bT:tl≠[]:=by intro h;rw[h]at AB;simp at AB;omega
   ·have o9:op=9:=by simpa using o9
    subst o9
    have h2:=CS hh
    refine⟨⟨by decide,by rw[List.length_map];omega⟩,rfl,_,g0 (by omega),_,_,rfl,⟨by decide,by rw[List.length_map];omega⟩,rfl,_,g1 (by omega),_,_,rfl,fin _ _ _ (same _ _ _ _ ?_)⟩
    unfold bA
    rw[if_neg n1,if_neg n2,if_pos rfl,d0 (by omega),d1 (by omega),MI]
   all_goals have n9:op≠9:=by simpa using o9
   ·have Io:op=10:=by simpa using Io
    refine⟨tl,rfl,by omega,fin _ _ _ (same _ _ _ _ ?_)⟩
    unfold bA
    rw[if_neg n1,if_neg n2,if_neg n9,if_pos (.inl Io)]
   all_goals have n10:op≠10:=by simpa using Io
   ·have Ip:op=11:=by simpa using Ip
    refine⟨tl,rfl,by omega,fin _ _ _ (same _ _ _ _ ?_)⟩
    unfold bA
    rw[if_neg n1,if_neg n2,if_neg n9,if_pos (.inr (.inl Ip))]
   all_goals have n11:op≠11:=by simpa using Ip
   ·have AD:op=12:=by simpa using AD
    refine⟨tl,rfl,by omega,fin _ _ _ (same _ _ _ _ ?_)⟩
    unfold bA
    rw[if_neg n1,if_neg n2,if_neg n9,if_pos (.inr (.inr AD))]
   all_goals have n12:op≠12:=by simpa using AD
   all_goals have nn:¬(op=10∨op=11∨op=12):=by omega
   ·have Iq:op=13:=by simpa using Iq
    refine fin _ _ _ (same _ _ _ _ ?_)
    unfold bA
    rw[if_neg n1,if_neg n2,if_neg n9,if_neg nn,if_pos Iq]
   all_goals have n13:op≠13:=by simpa using Iq
   ·have xR:op=14:=by simpa using xR
    obtain⟨a,r,hr,jl⟩:=jf (op:=op) bT
    have amB:op=15∨(op=14∧tl.length % 2=1):=by
     refine .inr ⟨xR,?_⟩
     subst xR
     have:=(EU hh).2
     rw[Int.tmod_eq_emod_of_nonneg (by omega)]at this
     omega
    have ha:bX a:=mK _ (kE bT (hr▸List.mem_cons_self))
    refine⟨op,sub,t,v,args,tl,a,r,rfl,rfl,by omega,by rw[p6 amB,hr],fin _ _ _ ?_⟩
    have n17:op≠17:=by omega
    have n18:op≠18:=by omega
    have n16:op≠16:=by omega
    unfold bA
    rw[if_neg n1,if_neg n2,if_neg n9,if_neg nn,if_neg n13,if_neg n17,if_neg n18,if_neg n16,if_pos (.inl xR),hr]
    exact s8 (.inl xR) mK ha
   all_goals have n14:op≠14:=by simpa using xR
   ·have yO:op=15:=by simpa using yO
    obtain⟨a,r,hr,jl⟩:=jf (op:=op) bT
    have ha:bX a:=mK _ (kE bT (hr▸List.mem_cons_self))
    refine⟨op,sub,t,v,args,tl,a,r,rfl,rfl,by omega,by rw[p6 (.inl yO),hr],fin _ _ _ ?_⟩
    have n17:op≠17:=by omega
    have n18:op≠18:=by omega
    have n16:op≠16:=by omega
    unfold bA
    rw[if_neg n1,if_neg n2,if_neg n9,if_neg nn,if_neg n13,if_neg n17,if_neg n18,if_neg n16,if_pos (.inr yO),hr]
    exact s8 (.inr yO) mK ha
   all_goals have n15:op≠15:=by simpa using yO
   ·have uE:op=16:=by simpa using uE
    refine⟨⟨by decide,by rw[List.length_map];omega⟩,rfl,_,g0 (by omega),_,_,rfl,fin _ _ _ (same _ _ _ _ ?_)⟩
    have n17:op≠17:=by omega
    have n18:op≠18:=by omega
    unfold bA
    rw[if_neg n1,if_neg n2,if_neg n9,if_neg nn,if_neg n13,if_neg n17,if_neg n18,if_pos uE,d0 (by omega)]
    unfold sv
    rw[BEq.comm (a:=tl[0].k) (b:=t.k)]
    have hs:∀k sc,cG k sc=aH k sc:=fun _ _=>rfl
    rw[hs,show aH t.k t.sc=(bif t.k==2 then true else t.k==3)from rfl]
    cases t.k==tl[0].k<;>cases tl[0].k==4<;>cases t.k==4<;>rfl
   all_goals have n16:op≠16:=by simpa using uE
   ·have tN:op=17:=by simpa using tN
    refine⟨tl,rfl,by omega,fin _ _ _ (same _ _ _ _ ?_)⟩
    unfold bA
    rw[if_neg n1,if_neg n2,if_neg n9,if_neg nn,if_neg n13,if_pos tN]
   all_goals have n17:op≠17:=by simpa using tN
   ·have xb:op=18:=by simpa using xb
    refine⟨tl,rfl,by omega,fin _ _ _ (same _ _ _ _ ?_)⟩
    unfold bA
    rw[if_neg n1,if_neg n2,if_neg n9,if_neg nn,if_neg n13,if_neg n17,if_pos xb]
   all_goals have n18:op≠18:=by simpa using xb
   have It:tl.length-1<tl.length:=by omega
   have har:=EV hh n1 n2 n9 n16 n12 n13 n18 n14 n15
   refine⟨tl,tl[0],tl[tl.length-1],rfl,List.getElem?_eq_getElem _,List.getElem?_eq_getElem _,by omega,fin _ _ _ ?_⟩
   unfold bA
   rw[if_neg n1,if_neg n2,if_neg n9,if_neg nn,if_neg n13,if_neg n17,if_neg n18,if_neg n16,if_neg (by omega),d0 (by omega),List.getD_eq_getElem?_getD,List.getElem?_eq_getElem It,Option.getD_some]
   have B5:(!tl.any (gT 2))=(bif tl[0].k==2 then tl[tl.length-1].k==2 else false):=by
    exact QJ (by rcases har with⟨_,h⟩|⟨_,h⟩<;>omega) _ _
   rw[B5]
   refine zm (mK _ (List.getElem_mem _)) (mK _ (List.getElem_mem _)) (fun o8=>?_)
   rcases har with⟨_,hm1⟩|⟨h8,_⟩
   ·have:tl.length-1=0:=by omega
    simp only[this]
   ·exact absurd o8 h8
def Dv(a:List R)(K:KT):Prop:=match a with
 |[.agg x,.d (.sl y)]=>∃(e:EX) (ae:List Ty),x=cells e∧y=ae.map Ty.cs∧fits e∧cu ae.length e=true∧(∀t∈ae,bX t)∧ae.length≤8796093022208∧
  (∀(t:Ty) (ok:Bool),agree (ay ae e) (t,ok)→K [.agg t.cs,.d (.v (.bool ok))] [])
 |_=>False
theorem zp:CK gl Dv 22:=fun a K h=>by
 unfold Dv at h
 split at h
 ·obtain⟨e,ae,rfl,rfl,h2,h3,h4,h5,h6⟩:=h
  exact(afX (size e+1) e ae (Nat.lt_succ_self _) h2 h3 h4 h5).mono fun res fin ⟨e1,t,ok,e2,e3⟩=>by subst e1;subst e3;exact h6 t ok e2
 ·exact h.elim
def Tm:aj:=au (au (au (au d_ 19 Mf) 20 Mh) 21 Mo) 22 Dv
def afZ(op sub:Int)(t:Ty)(v:Go.Ex.AV)(args:List EX)(ae:List Ty)(x:Nat):St:={tm:=[(1,.d (.sl (ae.map Ty.cs))),(2,.ref 2 0),(4,.ref 4 0),(5,.d (.v (.int .i64 0))),(6,.d (.v (.int .i64 (x:Int))))],hp:=[(2,.box [.d (.v (.int .i64 op)),.d (.v (.int .i64 sub)),.d (.v (.int .i64 t.k)),.d (.v (.int .i64 t.sc)),.d (.v (.int .i64 v.t.k)),.d (.v (.int .i64 v.t.sc)),.d (.v (.bool v.aA)),.d (.v (.int .i64 v.n)),.d (.v (.string v.s)),.d (.sl (aa args))]),(4,.box [.d (.v (.int .i64 0)),.d (.v (.int .i64 0))])],kn:=[],gd:=[]}
def xA(ae:List Ty)(m:Nat)(x:Nat):Prop:=x≤ae.length∧m=ae.length-x∧(ae.take x).any kq=false
def Tn(op sub:Int)(t:Ty)(v:Go.Ex.AV)(args:List EX)(ae:List Ty):Fi:={ajW with lx:=[(2,{X:=Nat,sh:=afZ op sub t v args ae,P:=fun _=>xA ae})]}
def Zgl(a0:List Ty)(a1:Nat)(a2 a3:Int)(a4:Ty)(a5:Go.Ex.AV)(a6:List EX):St:={tm:=[(1,.d (.sl (List.map Ty.cs a0))),(2,.ref 2 0),(4,.ref 4 0),(5,.i 0),(6,.i (↑a1:Int))],hp:=[(2,.box [.i a2,.i a3,.i a4.1,.i a4.2,.i a5.1.1,.i a5.1.2,.d (.v (.bool a5.2)),.i a5.3,.d (.v (.string a5.4)),.d (.sl (aa a6))]),(4,.box [.i 0,.i 0])],kn:=[],gd:=[]:St}
theorem amD(op sub:Int)(t:Ty)(v:Go.Ex.AV)(args:List EX)(ae:List Ty)(Q:KT):vc bl Tm bf (Tn op sub t v args ae) (f10.body.getD .skip) f10.results.toList [.agg (aT op sub t v (aa args)),.d (.sl (ae.map Ty.cs))] Q=(∃(x0:Nat),({tm:=[(1,.d (.sl (List.map Ty.cs ae))),(2,.ref 2 0),(4,.ref 4 0),(5,.i 0),(6,.i 0)],hp:=[(2,.box [.i op,.i sub,.i t.1,.i t.2,.i v.1.1,.i v.1.2,.d (.v (.bool v.2)),.i v.3,.d (.v (.string v.4)),.d (.sl (aa args))]),(4,.box [.i 0,.i 0])],kn:=[],gd:=[]:St}=(Zgl ae x0 op sub t v args)∧∃(n:Nat),xA ae n x0)∧∀(n:Nat) (x:Nat),xA ae n x→o7 ae fun es=>(sy x es (WB ae x fun aN aW=>((dS aN aW != (0:Int))=true→UX Q (140:Int))∧((dS aN aW != (0:Int))=false→fG n fun m x'=>{tm:=[(1,.d (.sl (List.map Ty.cs ae))),(2,.ref 2 0),(4,.ref 4 0),(5,.i 0),(6,.i (IntKind.i64.wrap ((↑x:Int)+1)))],hp:=[(2,.box [.i op,.i sub,.i t.1,.i t.2,.i v.1.1,.i v.1.2,.d (.v (.bool v.2)),.i v.3,.d (.v (.string v.4)),.d (.sl (aa args))]),(4,.box [.i 0,.i 0])],kn:=[],gd:=[]:St}=(Zgl ae x' op sub t v args)∧xA ae m x')))∧(qE x es (Zhd op sub t v args fun e UW=>o7 ae fun es=>WE op sub t v args fun WS=>((bif bif decide (nodes e>256)then true else decide (deep UW>24)then true else !cu (↑es.length:Int) WS)=true→UX Q (140:Int))∧((bif bif decide (nodes e>256)then true else decide (deep UW>24)then true else !cu (↑es.length:Int) WS)=false→Fl op sub t v args fun e ea=>List.map Ty.cs ae=List.map Ty.cs ea∧fits e∧cu (↑ea.length:Int) e=true∧W7 ea e fun t ok=>((!ok)=true→UX Q (21:Int))∧((!ok)=false→Q [.agg (AA t),.d (.i 0)] []))))):=by kernel_rfl
theorem bad_eq(t:Ty):kq t=(dS t.k t.sc != 0):=by rw[xy];rfl
theorem MJ{ae:List Ty}(h:ae.any kq=false):∀t∈ae,bX t:=by
 intro t ht
 have h2:kq t=false:=by
  rw[Bool.eq_false_iff];intro h3
  have:ae.any kq=true:=List.any_eq_true.2 ⟨t,ht,h3⟩
  rw[h]at this;cases this
 unfold kq sw at h2
 unfold bX
 simpa[bne]using h2
theorem amE:∀(e:EX) (ae:List Ty),fits e→ae.length≤8796093022208→Ct prog gl 10 [.agg (cells e),.d (.sl (ae.map Ty.cs))] (gives [.agg (aV ae e).1.cs,.d (.v (.int .i64 (aV ae e).2))])
 | .mk op sub t v args,ae,hf,fw=>by
   have hC:ah prog gl Tm:=af (af (af (af bh Mg) Mi) Mp) zp
   rw[ab]
   refine aw bN hC aF bD mixed (fn:=f10) (body:=f10.body.getD .skip) (by kernel_rfl) (by kernel_rfl) (by kernel_rfl) (fi:=Tn op sub t v args ae) (by kernel_rfl) (by kernel_rfl) ⟨_,_,rfl,rfl⟩ ?_
   rw[amD];dsimp -eta -iota -proj only[Zgl,o7,fy,sy,WB,PQ,Ay,Zbx,ql,UX,Ziu,zD,fG,fb,qE,Zhd,WE,cQ,zC,Z1,Fl,W7,AA]
   have hc:aT op sub t v (aa args)=cells (.mk op sub t v args):=(ab _ _ _ _ _).symm
   refine⟨(0:Nat),⟨rfl,ae.length,Nat.zero_le _,rfl,by simp⟩,fun m (x:Nat) hx=>⟨_,rfl,fun hi=>?_,fun hi=>?_⟩⟩
   ·have hi:x<ae.length:=by simpa using hi
    have hg:=eU hi
    have hm:=hx.2.1
    refine⟨_,rfl,⟨by omega,by rw[List.length_map];omega⟩,_,hg,rfl,_,_,rfl,fun h=>?_,fun h=>⟨ae.length-(x+1),x+1,by omega,?_,hi,rfl,?_⟩⟩
    ·have:ae.any kq=true:=List.any_eq_true.2 ⟨ae[x],List.getElem_mem hi,by rw[bad_eq];exact h⟩
     unfold aV
     rw[this];exact⟨rfl,rfl⟩
    ·rw[aL (by omega)]
    ·rw[e7 ae hi,List.any_append,hx.2.2]
     simp only[List.any_cons,List.any_nil,Bool.false_or,Bool.or_false]
     rw[bad_eq];exact h
   ·have hi:¬x<ae.length:=by simpa using hi
    have h2:=hx.2.2
    rw[List.take_of_length_le (by omega)]at h2
    have hgc:=MJ h2
    refine⟨.mk op sub t v args,hc,hf,.mk op sub t v args,hc,hf,_,rfl,.mk op sub t v args,hc,hf,fun h=>?_,fun h=>?_⟩
    ·rw[List.length_map]at h
     unfold aV
     rw[h2,cond_false,h];exact⟨rfl,rfl⟩
    ·rw[List.length_map]at h
     refine⟨.mk op sub t v args,ae,hc,rfl,hf,?_,hgc,fw,fun t' ok ht=>⟨fun h3=>?_,fun h3=>?_⟩⟩
     ·revert h
      cases cu (ae.length:Int) (.mk op sub t v args)<;>cases decide (nodes (EX.mk op sub t v args)>256)<;>cases decide (deep (EX.mk op sub t v args)>24)<;>simp
     ·have fQ:ok=false:=by simpa using h3
      have h4:(ay ae (.mk op sub t v args)).2=false:=by rw[←fQ];exact ht.1.symm
      unfold aV
      rw[h2,cond_false,h,cond_false,h4]
      exact⟨rfl,rfl⟩
     ·have fQ:ok=true:=by simpa using h3
      have h4:(ay ae (.mk op sub t v args)).2=true:=by rw[←fQ];exact ht.1.symm
      have h5:t'=(ay ae (.mk op sub t v args)).1:=ht.2 h4
      unfold aV
      rw[h2,cond_false,h,cond_false,h4,h5]
      exact⟨rfl,rfl⟩
def QK(a:List R)(K:KT):Prop:=match a with
 |[.agg x,.d (.sl y)]=>∃(e:EX) (ae:List Ty),x=cells e∧y=ae.map Ty.cs∧fits e∧ae.length≤8796093022208∧(∀(t:Ty) (f:Int),aV ae e=(t,f)→K [.agg t.cs,.d (.v (.int .i64 f))] [])
 |_=>False
theorem Dw:CK gl QK 10:=fun a K h=>by
 unfold QK at h
 split at h
 ·obtain⟨e,ae,rfl,rfl,h1,h2,h3⟩:=h
  exact(amE e ae h1 h2).gives (h3 _ _ rfl)
 ·exact h.elim
end Go.Proofs.Tryz
