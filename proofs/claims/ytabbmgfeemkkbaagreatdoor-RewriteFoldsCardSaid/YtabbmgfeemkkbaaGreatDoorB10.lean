/- Part of the proof: contracts of functions; no condition. -/
import Derived.Test.YtabbmgfeemkkbaaGreatDoorB6
namespace Go.Proofs.Tryz
open Go Go.Dm Go.Ex
set_option maxRecDepth 100000
variable {gl:Nat→Option Obj}
def Ie(a:List R)(K:KT):Prop:=match a with
 |[.d (.v (.int .i64 k)),.ptr [.sl x]]=>∃l:List Ty,x=l.map Ty.cs∧l.length<4611686018427387904∧K [.d (.v (.bool (!l.any (gT k))))] []
 |_=>False
theorem Ig:CK gl Ie 66:=fun a K h=>by
 unfold Ie at h
 split at h
 ·obtain⟨l,rfl,h1,h2⟩:=h
  exact(acO l _ h1).gives h2
 ·exact h.elim
def Ih(a:List R)(K:KT):Prop:=match a with
 |[.d (.sl x)]=>∃(a:Ty) (r:List Ty),x=(a::r).map Ty.cs∧r.length<4611686018427387904∧K [.agg (aG a r).1.cs,.d (.v (.bool (aG a r).2))] []
 |_=>False
theorem Ii:CK gl Ih 70:=fun a K h=>by
 unfold Ih at h
 split at h
 ·obtain⟨a,r,rfl,h1,h2⟩:=h
  exact(acL a r h1).gives h2
 ·exact h.elim
def Ij(a:List R)(K:KT):Prop:=match a with
 |[.agg x,.d (.sl y)]=>∃(op sub:Int) (t:Ty) (v:Go.Ex.AV) (args:List EX) (l:List Ty),x=aT op sub t v (aa args)∧y=l.map Ty.cs∧l.length≤1353245080300∧l≠[]∧K [.d (.sl ((cM op l).map Ty.cs))] []
 |_=>False
theorem Ik:CK gl Ij 71:=fun a K h=>by
 unfold Ij at h
 split at h
 ·obtain⟨op,sub,t,v,args,l,rfl,rfl,h1,h2,h3⟩:=h
  exact(acM op sub t v args l h1 h2).gives h3
 ·exact h.elim
def Il(a:List R)(K:KT):Prop:=match a with
 |[.d (.v (.int .i64 op)),.d (.sl y),.d (.v (.bool b))]=>∃(l:List Ty) (u w:Ty),y=l.map Ty.cs∧l[0]? = some u∧l[l.length-1]? = some w∧l.length≤1353245080300∧K [.agg (cH op u w b).1.cs,.d (.v (.bool (cH op u w b).2))] []
 |_=>False
theorem Im:CK gl Il 72:=fun a K h=>by
 unfold Il at h
 split at h
 ·obtain⟨l,u,w,rfl,h1,h2,h3,h4⟩:=h
  exact(acN _ l _ u w h1 h2 h3).gives h4
 ·exact h.elim
def US:aj:=au (au (au (au d_ 66 Ie) 70 Ih) 71 Ij) 72 Il
def mY(t:Ty):Bool:=t.k==(1:Int)&&(t.sc==(0:Int)&&true)
def mZ(l:List Ty)(j:Nat):Bool:=(List.range j).all fun k=>mY (l.getD (2*k) ⟨0,0⟩)
def bA(ae:List Ty)(op sub:Int)(t:Ty)(v:Go.Ex.AV)(l:List Ty):Ty×Bool:=
 if op=1 then(ae.getD sub.toNat ⟨0,0⟩,true)
 else if op=2 then(v.t,true)
 else if op=9 then(⟨1,0⟩,ie (l.getD 0 ⟨0,0⟩).k (l.getD 0 ⟨0,0⟩).sc (l.getD 1 ⟨0,0⟩).k (l.getD 1 ⟨0,0⟩).sc)
 else if op=10∨op=11∨op=12 then(⟨1,0⟩,!l.any (gT 1))
 else if op=13 then(⟨1,0⟩,true)
 else if op=17 then(⟨4,0⟩,!l.any (gT 4))
 else if op=18 then(⟨2,0⟩,!l.any (gT 4))
 else if op=16 then(t,bif (bif (bif t.k==(l.getD 0 ⟨0,0⟩).k then true else t.k==4)then true else(l.getD 0 ⟨0,0⟩).k==4)then true else bif aH (l.getD 0 ⟨0,0⟩).k (l.getD 0 ⟨0,0⟩).sc then aH t.k t.sc else false)
 else if op=14∨op=15 then
  match cM op l with
  |[]=>(⟨0,0⟩,false)
  |a::r=>((aG a r).1,(aG a r).2&&(decide (op=15)||mZ l (l.length/2)))
 else cH op (l.getD 0 ⟨0,0⟩) (l.getD (l.length-1) ⟨0,0⟩) (!l.any (gT 2))
mutual
def ay(ae:List Ty):EX→Ty×Bool
 | .mk op sub t v args=>match bm ae args with
   |none=>(⟨0,0⟩,false)
   |some l=>bA ae op sub t v l
def bm(ae:List Ty):List EX→Option (List Ty)
 |[]=>some []
 |e::r=>match ay ae e,bm ae r with
  |(t,true),some l=>some (t::l)
  |_,_=>none
end
def acP(n:Nat)(a:List R)(K:KT):Prop:=match a with
 |[.agg x,.d (.sl y)]=>∃(e:EX) (ae:List Ty),x=cells e∧y=ae.map Ty.cs∧size e<n∧fits e∧cu ae.length e=true∧ae.length≤8796093022208∧
  (∀(t:Ty) (ok:Bool),ay ae e=(t,ok)→K [.agg t.cs,.d (.v (.bool ok))] [])
 |_=>False
def SQ(n:Nat):aj:=au US 31 (acP n)
def E_8:Env:={bl with bw:=[66]}
structure TX where
 i:Nat
 l:List Ty
def acQ(op sub:Int)(t:Ty)(v:Go.Ex.AV)(args:List EX)(ae:List Ty)(x:TX):St:={tm:=[(1,.d (.sl (ae.map Ty.cs))),(2,.ref 2 0),(4,.ref 4 0),(5,.d (.v (.bool false))),(6,.ref 6 0),(20,.d (.sl (aa args))),(21,.d (.v (.int .i64 ((aa args).length:Int)))),(22,.d (.v (.int .i64 (x.i:Int))))],hp:=[(2,.box [.d (.v (.int .i64 op)),.d (.v (.int .i64 sub)),.d (.v (.int .i64 t.k)),.d (.v (.int .i64 t.sc)),.d (.v (.int .i64 v.t.k)),.d (.v (.int .i64 v.t.sc)),.d (.v (.bool v.aA)),.d (.v (.int .i64 v.n)),.d (.v (.string v.s)),.d (.sl (aa args))]),(4,.box [.d (.v (.int .i64 0)),.d (.v (.int .i64 0))]),(6,.box [.own 50006]),(50006,.bu 23 2 (x.l.map Ty.cs))],kn:=[],gd:=[]}
def ll(ae:List Ty)(args:List EX)(m:Nat)(x:TX):Prop:=(x.i≤args.length∧m=args.length-x.i)∧bm ae (args.take x.i)=some x.l∧x.l.length=x.i
structure TY where
 l:List Ty
 t:Ty
 ok:Bool
 j:Nat
def UT(op sub:Int)(t:Ty)(v:Go.Ex.AV)(args:List EX)(y:TY):St:={tm:=[(2,.ref 2 0),(4,.ref 4 0),(5,.d (.v (.bool false))),(6,.ref 6 0),(11,.ref 11 0),(13,.fn 66 [.ref 6 0]),(16,.ref 16 0),(17,.d (.v (.bool (bif y.ok then mZ y.l y.j else false)))),(18,.d (.v (.int .i64 (2*(y.j:Int)))))],hp:=[(2,.box [.d (.v (.int .i64 op)),.d (.v (.int .i64 sub)),.d (.v (.int .i64 t.k)),.d (.v (.int .i64 t.sc)),.d (.v (.int .i64 v.t.k)),.d (.v (.int .i64 v.t.sc)),.d (.v (.bool v.aA)),.d (.v (.int .i64 v.n)),.d (.v (.string v.s)),.d (.sl (aa args))]),(4,.box [.d (.v (.int .i64 0)),.d (.v (.int .i64 0))]),(6,.box [.own 50006]),(11,.box [.d (.v (.int .i64 1)),.d (.v (.int .i64 0))]),(12,.box [.d (.v (.int .i64 2)),.d (.v (.int .i64 0))]),(16,.box [.d (.v (.int .i64 y.t.k)),.d (.v (.int .i64 y.t.sc))]),(50006,.j9 2 (y.l.map Ty.cs))],kn:=[],gd:=[]}
def nS(op:Int)(y0:TY)(m:Nat)(y:TY):Prop:=y.l=y0.l∧y.t=y0.t∧y.ok=y0.ok∧y.j≤y.l.length/2∧m=y.l.length-y.j∧(op=14∨y.j=0)
def SR(op sub:Int)(t:Ty)(v:Go.Ex.AV)(args:List EX)(ae:List Ty):Fi:={aj6 with cv:=[(3,[⟨some 6,0,50006,23,2⟩])],lx:=[(3,{X:=TX,sh:=acQ op sub t v args ae,P:=fun _=>ll ae args}),(36,{X:=TY,sh:=UT op sub t v args,P:=nS op})]}
def Zez(a0:List Ty)(a1:List EX)(a2:TX)(a3 a4:Int)(a5:Ty)(a6:Go.Ex.AV):St:={tm:=[(1,.d (.sl (List.map Ty.cs a0))),(2,.ref 2 0),(4,.ref 4 0),(5,.d (.v (.bool false))),(6,.ref 6 0),(20,.d (.sl (aa a1))),(21,.i (↑(aa a1).length:Int)),(22,.i (↑a2.1:Int))],hp:=[(2,.box [.i a3,.i a4,.i a5.1,.i a5.2,.i a6.1.1,.i a6.1.2,.d (.v (.bool a6.2)),.i a6.3,.d (.v (.string a6.4)),.d (.sl (aa a1))]),(4,.box [.i 0,.i 0]),(6,.box [.own 50006]),(50006,.bu 23 2 (List.map Ty.cs a2.2))],kn:=[],gd:=[]:St}
def Q9(a0:List D)(k:EX→(List Ty)→Prop):Prop:=Zy a0 fun aW bO dv c_ fS gI b mr cD es e=>∃(ea:List Ty),lU aW bO dv c_ fS gI b mr cD es e (k e ea)
def Zdu(a0:List EX)(a1:TX)(a2:List Ty)(a3:Nat)(k:EX→(List Ty)→Prop):Prop:=gS a0 fun es=>(0≤(↑a1.1:Int)∧(↑a1.1:Int)<(↑es.length:Int))∧∃(cells:List D),es[(↑a1.1:Int).toNat]? = some cells∧Q9 cells fun e ea=>List.map Ty.cs a2=List.map Ty.cs ea∧size e<a3∧fits e∧cu (↑ea.length:Int) e=true∧k e ea
def AA(a0:Ty):List D:=[.i a0.1,.i a0.2]
def Zjk(a0:Ty)(a1:TX)(k:Prop):Prop:=(∀(c:List D),c∈[(AA a0)]→c.length=2)∧(23:Nat)=(23:Nat)∧(2:Nat)=(2:Nat)∧(↑(List.map Ty.cs a1.2).length.succ:Int)*(↑(16:Nat):Int)≤140737488355328∧k
def Zjm(a0:Ty)(a1:TX)(k:Nat→Prop):Prop:=Zjk a0 a1 (∃(m:Nat),k m)
def Zjn(a0:Ty)(a1:TX)(k:Nat→TX→Prop):Prop:=Zjm a0 a1 fun m=>∃(x':TX),k m x'
def Zjr(a0:Bool)(a1:Ty)(a2:TX)(k:Nat→TX→Prop):Prop:=(!a0)=false→Zjn a1 a2 fun m x'=>k m x'
def Zj6(a0:Bool)(a1:Ty)(a2:TX)(a3:Nat)(k:Nat→TX→Prop):Prop:=Zjr a0 a1 a2 fun m x'=>m<a3∧k m x'
def S0(a0:List Ty)(a1:Int)(k:Int→Int→Prop):Prop:=o7 a0 fun es=>(0≤a1∧a1<(↑es.length:Int))∧∃(cells:List D),es[a1.toNat]? = some cells∧Fj cells fun n aW=>k n aW
def Zg9(a0:Int)(a1:List Ty)(a2:Int)(a3:KT):Prop:=(a0==1)=true→S0 a1 a2 fun n aW=>a3 [.agg (ql n aW),.d (.v (.bool true))] []
def Zhp(a0:Int)(a1:List Ty)(a2:Int)(a3:KT)(k:Prop):Prop:=(Zg9 a0 a1 a2 a3)∧k
def Zc5(a0:Int)(a1:TX)(k:Int→Int→Prop):Prop:=(0≤a0∧a0<(↑(List.map Ty.cs a1.2).length:Int))∧(2:Nat)=(2:Nat)∧∃(cells:List D),(List.map Ty.cs a1.2)[Int.toNat a0]? = some cells∧H' cells fun n aW=>k n aW
def S1(a0 a1:Int)(a2:TX)(k:Int→Int→Prop):Prop:=(a0==a1)=true→Zc5 (0:Int) a2 fun n aW=>k n aW
def Zf9(a0:Int)(a1:TX)(k:Int→Int→Int→Int→Prop):Prop:=S1 a0 (9:Int) a1 fun n aW=>Zc5 (1:Int) a1 fun bO dv=>k n aW bO dv
def Fk(a0 a1 a2:Int)(a3:TX)(a4:KT)(a5 a6:Int)(k:Prop):Prop:=(a0==a1)=false→((a0==a2)=true→∃(l:List Ty),List.map Ty.cs a3.2=List.map Ty.cs l∧l.length<4611686018427387904∧a4 [.agg (zD a5),.d (.v (.bool !l.any (gT a6)))] [])∧k
def zE(k:Int→Int→Ty→AV→(List EX)→Prop):Prop:=∃(eh cr:Int),∃(dn:Ty),∃(mv:AV),∃(dN:List EX),k eh cr dn mv dN
def xQ(a0 a1:Int)(a2:Ty)(a3:AV)(a4:List EX):List D:=[.i a0,.i a1,.i a2.1,.i a2.2,.i a3.1.1,.i a3.1.2,.v (.bool a3.2),.i a3.3,.v (.string a3.4),.sl (aa a4)]
def SS(a0 a1:Int)(a2:Ty)(a3:Go.Ex.AV)(a4:List EX)(a5 a6:Int)(a7:Ty)(a8:AV)(a9:List EX)(k:Prop):Prop:=(Z1 a0 a1 a2 a3 a4)=(xQ a5 a6 a7 a8 a9)∧k
def Zix(a0 a1:Int)(a2:Ty)(a3:Go.Ex.AV)(a4:List EX)(a5 a6:Int)(a7:Ty)(a8:AV)(a9:List EX)(eV:TX)(fI:List Ty)(k:Prop):Prop:=SS a0 a1 a2 a3 a4 a5 a6 a7 a8 a9 (List.map Ty.cs eV.2=List.map Ty.cs fI∧fI.length≤1353245080300∧k)
def Zca(a0:TY)(a1 a2:Int)(a3:Ty)(a4:Go.Ex.AV)(a5:List EX):St:={tm:=[(2,.ref 2 0),(4,.ref 4 0),(5,.d (.v (.bool false))),(6,.ref 6 0),(11,.ref 11 0),(13,.fn (66:Nat) [.ref 6 0]),(16,.ref 16 0),(17,.d (.v (.bool (bif a0.3 then mZ a0.1 a0.4 else false)))),(18,.i ((2:Int)*(↑a0.4:Int)))],hp:=[(2,.box [.i a1,.i a2,.i a3.1,.i a3.2,.i a4.1.1,.i a4.1.2,.d (.v (.bool a4.2)),.i a4.3,.d (.v (.string a4.4)),.d (.sl (aa a5))]),(4,.box [.i 0,.i 0]),(6,.box [.own 50006]),(11,.box [.i 1,.i 0]),(12,.box [.i 2,.i 0]),(16,.box [.i a0.2.1,.i a0.2.2]),(50006,.j9 2 (List.map Ty.cs a0.1))],kn:=[],gd:=[]:St}
def Z6(a0 a1:Int)(a2:Ty)(a3:Go.Ex.AV)(a4:List EX)(a5:TX)(a6:KT):Prop:=zE fun eh cr dn mv dN=>∃(l:List Ty),Zix a0 a1 a2 a3 a4 eh cr dn mv dN a5 l (l≠[]∧∃(a:Ty),∃(r:List Ty),List.map Ty.cs (cM eh l)=a.cs::List.map Ty.cs r∧r.length<4611686018427387904∧∃(x0:TY),({tm:=[(2,.ref 2 0),(4,.ref 4 0),(5,.d (.v (.bool false))),(6,.ref 6 0),(11,.ref 11 0),(13,.fn (66:Nat) [.ref 6 0]),(16,.ref 16 0),(17,.d (.v (.bool (aG a r).2))),(18,.i 0)],hp:=[(2,.box [.i a0,.i a1,.i a2.1,.i a2.2,.i a3.1.1,.i a3.1.2,.d (.v (.bool a3.2)),.i a3.3,.d (.v (.string a3.4)),.d (.sl (aa a4))]),(4,.box [.i 0,.i 0]),(6,.box [.own 50006]),(11,.box [.i 1,.i 0]),(12,.box [.i 2,.i 0]),(16,.box [.d (.v (.int .i64 (aG a r).1.1)),.d (.v (.int .i64 (aG a r).1.2))]),(50006,.j9 2 (List.map Ty.cs a5.2))],kn:=[],gd:=[]:St}=(Zca x0 a0 a1 a2 a3 a4)∧∃(n:Nat),nS a0 x0 n x0)∧∀(n:Nat) (x:TY),nS a0 x0 n x→((bif a0==14 then decide (IntKind.i64.wrap ((2:Int)*(↑x.4:Int)+1)<(↑(List.map Ty.cs x.1).length:Int))else false)=true→((bif x.3 then mZ x.1 x.4 else false)=true→((0:Int)≤2*(↑x.4:Int)∧(2:Int)*(↑x.4:Int)<(↑(List.map Ty.cs x.1).length:Int))∧(2:Nat)=(2:Nat)∧∃(cells:List D),(List.map Ty.cs x.1)[((2:Int)*(↑x.4:Int)).toNat]? = some cells∧H' cells fun aW bO=>∃(m:Nat),∃(x':TY),m<n∧{tm:=[(2,.ref 2 0),(4,.ref 4 0),(5,.d (.v (.bool false))),(6,.ref 6 0),(11,.ref 11 0),(13,.fn (66:Nat) [.ref 6 0]),(16,.ref 16 0),(17,.d (.v (.bool (aW==1&&(bO==0&&true))))),(18,.i (IntKind.i64.wrap ((2:Int)*(↑x.4:Int)+2)))],hp:=[(2,.box [.i a0,.i a1,.i a2.1,.i a2.2,.i a3.1.1,.i a3.1.2,.d (.v (.bool a3.2)),.i a3.3,.d (.v (.string a3.4)),.d (.sl (aa a4))]),(4,.box [.i 0,.i 0]),(6,.box [.own 50006]),(11,.box [.i 1,.i 0]),(12,.box [.i 2,.i 0]),(16,.box [.i x.2.1,.i x.2.2]),(50006,.j9 2 (List.map Ty.cs x.1))],kn:=[],gd:=[]:St}=(Zca x' a0 a1 a2 a3 a4)∧nS a0 x0 m x')∧((bif x.3 then mZ x.1 x.4 else false) = !true→∃(m:Nat),∃(x':TY),m<n∧{tm:=[(2,.ref 2 0),(4,.ref 4 0),(5,.d (.v (.bool false))),(6,.ref 6 0),(11,.ref 11 0),(13,.fn (66:Nat) [.ref 6 0]),(16,.ref 16 0),(17,.d (.v (.bool false))),(18,.i (IntKind.i64.wrap ((2:Int)*(↑x.4:Int)+2)))],hp:=[(2,.box [.i a0,.i a1,.i a2.1,.i a2.2,.i a3.1.1,.i a3.1.2,.d (.v (.bool a3.2)),.i a3.3,.d (.v (.string a3.4)),.d (.sl (aa a4))]),(4,.box [.i 0,.i 0]),(6,.box [.own 50006]),(11,.box [.i 1,.i 0]),(12,.box [.i 2,.i 0]),(16,.box [.i x.2.1,.i x.2.2]),(50006,.j9 2 (List.map Ty.cs x.1))],kn:=[],gd:=[]:St}=(Zca x' a0 a1 a2 a3 a4)∧nS a0 x0 m x'))∧((bif a0==14 then decide (IntKind.i64.wrap ((2:Int)*(↑x.4:Int)+1)<(↑(List.map Ty.cs x.1).length:Int))else false)=false→a6 [.agg [.i x.2.1,.i x.2.2],.d (.v (.bool (bif x.3 then mZ x.1 x.4 else false)))] []))
def Z7(a0 a1 a2:Int)(a3:Ty)(a4:Go.Ex.AV)(a5:List EX)(a6:TX)(a7:KT):Prop:=(a0==a1)=true→Z6 a0 a2 a3 a4 a5 a6 a7
theorem ak4(n:Nat)(op sub:Int)(t:Ty)(v:Go.Ex.AV)(args:List EX)(ae:List Ty)(Q:KT):vc E_8 (SQ n) bf (SR op sub t v args ae) (f31.body.getD .skip) f31.results.toList [.agg (aT op sub t v (aa args)),.d (.sl (ae.map Ty.cs))] Q=(gS args fun es=>∃(x0:TX),({tm:=[(1,.d (.sl (List.map Ty.cs ae))),(2,.ref 2 0),(4,.ref 4 0),(5,.d (.v (.bool false))),(6,.ref 6 0),(20,.d (.sl (aa args))),(21,.i (↑es.length:Int)),(22,.i 0)],hp:=[(2,.box [.i op,.i sub,.i t.1,.i t.2,.i v.1.1,.i v.1.2,.d (.v (.bool v.2)),.i v.3,.d (.v (.string v.4)),.d (.sl (aa args))]),(4,.box [.i 0,.i 0]),(6,.box [.own 50006]),(50006,.bu 23 2 [])],kn:=[],gd:=[]:St}=(Zez ae args x0 op sub t v)∧∃(n:Nat),ll ae args n x0)∧∀(aN:Nat) (x:TX),ll ae args aN x→(decide ((↑x.1:Int)<(↑(aa args).length:Int))=true→Zdu args x ae n fun e ea=>ea.length≤8796093022208∧∀(dn:Ty) (ok:Bool),ay ea e=(dn,ok)→((!ok)=true→UQ Q)∧(Zj6 ok dn x aN fun m x'=>{tm:=[(1,.d (.sl (List.map Ty.cs ae))),(2,.ref 2 0),(4,.ref 4 0),(5,.d (.v (.bool false))),(6,.ref 6 0),(20,.d (.sl (aa args))),(21,.i (↑(aa args).length:Int)),(22,.i (IntKind.i64.wrap ((↑x.1:Int)+1)))],hp:=[(2,.box [.i op,.i sub,.i t.1,.i t.2,.i v.1.1,.i v.1.2,.d (.v (.bool v.2)),.i v.3,.d (.v (.string v.4)),.d (.sl (aa args))]),(4,.box [.i 0,.i 0]),(6,.box [.own 50006]),(50006,.bu 23 2 (List.map Ty.cs x.2++[(AA dn)]))],kn:=[],gd:=[]:St}=(Zez ae args x' op sub t v)∧ll ae args m x'))∧(decide ((↑x.1:Int)<(↑(aa args).length:Int))=false→Zhp op ae sub Q (((op==1)=false→((op==2)=true→Q [.agg [.i v.1.1,.i v.1.2],.d (.v (.bool true))] [])∧((op==2)=false→(Zf9 op x fun n aW bO dv=>Q [.agg (zD (1:Int)),.d (.v (.bool (ie n aW bO dv)))] [])∧(Fk op (9:Int) (10:Int) x Q (1:Int) (1:Int) ((Fk op (10:Int) (11:Int) x Q (1:Int) (1:Int) ((Fk op (11:Int) (12:Int) x Q (1:Int) (1:Int) (((op==12)=false→((op==13)=true→Ic Q (1:Int))∧(Fk op (13:Int) (17:Int) x Q (4:Int) (4:Int) ((Fk op (17:Int) (18:Int) x Q (2:Int) (4:Int) (((op==18)=false→(S1 op (16:Int) x fun n aW=>Q [.agg (AA t),.d (.v (.bool (bif bif bif t.1==n then true else t.1==4 then true else n==4 then true else bif aH n aW then aH t.1 t.2 else false)))] [])∧((op==16)=false→(Z7 op (14:Int) sub t v args x Q)∧((op==14)=false→(Z7 op (15:Int) sub t v args x Q)∧((op==15)=false→∃(l:List Ty),List.map Ty.cs x.2=List.map Ty.cs l∧l.length<4611686018427387904∧∃(gh:List Ty),∃(u w:Ty),List.map Ty.cs x.2=List.map Ty.cs gh∧gh[(0:Nat)]? = some u∧gh[gh.length-(1:Nat)]? = some w∧gh.length≤1353245080300∧Q [.agg [.v (.int .i64 (cH op u w !l.any (gT (2:Int))).1.1),.v (.int .i64 (cH op u w !l.any (gT (2:Int))).1.2)],.d (.v (.bool (cH op u w !l.any (gT (2:Int))).2))] [])))))))))))))))))))):=by kernel_rfl
theorem ln{ae:List Ty}:∀{l:List EX} {e:EX},e∈l→(ay ae e).2=false→bm ae l=none
 |a::l,e,h,hn=>by
  simp only[bm]
  cases h with
  |head=>
   rcases hh:ay ae a with⟨t,ok⟩
   rw[hh]at hn
   have:ok=false:=hn
   subst this
   rfl
  |tail _ h=>
   rw[ln h hn]
   rcases ay ae a with⟨t,_|_⟩<;>rfl
theorem lq{ae:List Ty}:∀{l:List EX} {tl:List Ty} {e:EX} {t:Ty},bm ae l=some tl→ay ae e=(t,true)→bm ae (l++[e])=some (tl++[t])
 |[],tl,e,t,h,he=>by
  simp only[bm,Option.some.injEq]at h
  subst h
  simp only[List.nil_append,bm,he]
 |a::l,tl,e,t,h,he=>by
  simp only[bm]at h
  rcases hh:ay ae a with⟨u,_|_⟩
  ·rw[hh]at h;cases h
  ·rw[hh]at h
   rcases hl:bm ae l with _|r
   ·rw[hl]at h;cases h
   ·rw[hl]at h
    simp only[Option.some.injEq]at h
    subst h
    simp only[List.cons_append,bm,hh,lq hl he]
theorem fA{ae:List Ty}{op sub:Int}{t:Ty}{v:Go.Ex.AV}{args:List EX}{l:List Ty}(h:bm ae args=some l):ay ae (.mk op sub t v args)=bA ae op sub t v l:=by
 simp only[ay,h]
theorem lr{ae:List Ty}{op sub:Int}{t:Ty}{v:Go.Ex.AV}{args:List EX}(h:bm ae args=none):ay ae (.mk op sub t v args)=(⟨0,0⟩,false):=by
 simp only[ay,h]
theorem kr{sub:Int}{t:Ty}{v:Go.Ex.AV}{m c:Int}(h:bE 1 sub t v m c=true):0≤sub∧sub<c:=by
 simp only[bE]at h
 by_cases h1:m=0<;>by_cases h2:0≤sub<;>by_cases h3:sub<c<;>simp_all
theorem CS{sub:Int}{t:Ty}{v:Go.Ex.AV}{m c:Int}(h:bE 9 sub t v m c=true):m=2:=by
 simp only[bE]at h
 by_cases h1:m=2
 ·exact h1
 ·simp_all
theorem b8{op sub:Int}{t:Ty}{v:Go.Ex.AV}{m c:Int}(h:bE op sub t v m c=true)(h1:op≠1)(h2:op≠2):1≤m:=by
 have b1:(op==1)=false:=by simpa using h1
 have b2:(op==2)=false:=by simpa using h2
 unfold bE at h
 rw[b1,b2,cond_false,cond_false]at h
 by_cases hm:1≤m
 ·exact hm
 ·exfalso
  have e1:(m==1)=false:=by simp;omega
  have e2:(m==2)=false:=by simp;omega
  have e3:decide (m≥3)=false:=by simp;omega
  have e4:decide (m≥1)=false:=by simp;omega
  rw[e1,e2,e3,e4]at h
  revert h
  cases op==9<;>cases op==16<;>cases(op==8||op==12||op==13||op==18)<;>cases op==14<;>cases op==15<;>cases(op==3||op==4||op==5||op==6||op==7||op==10||op==11||op==17)<;>simp
theorem nT{l:List Ty}{j:Nat}(hj:2*j<l.length):mZ l (j+1)=(mZ l j&&mY l[2*j]):=by
 unfold mZ
 rw[List.range_succ,List.all_append]
 simp[List.getD_eq_getElem?_getD,hj]
theorem jf{op:Int}{l:List Ty}(h:l≠[]):∃a r,cM op l=a::r∧r.length≤l.length:=by
 have hp:=List.length_pos_iff.2 h
 rcases hr:cM op l with _|⟨a,r⟩
 ·exfalso
  unfold cM at hr
  split at hr
  ·exact h hr
  ·simp at hr
 ·refine⟨a,r,rfl,?_⟩
  have:(cM op l).length≤l.length+1:=by
   unfold cM
   split
   ·omega
   ·simp only[List.length_append,iu,List.length_map,List.length_range,List.length_singleton];omega
  rw[hr]at this
  simpa using this
theorem CT:ah prog gl US:=af (af (af (af bh Ig) Ii) Ik) Im
theorem acU:∀(n:Nat) (e:EX) (ae:List Ty),size e<n→fits e→cu ae.length e=true→ae.length≤8796093022208→Ct prog gl 31 [.agg (cells e),.d (.sl (ae.map Ty.cs))] (gives [.agg (ay ae e).1.cs,.d (.v (.bool (ay ae e).2))])
 |0,_,_,h,_,_,_=>absurd h (Nat.not_lt_zero _)
 |n+1,.mk op sub t v args,ae,hs,hf,hm,fw=>by
  have hC:ah prog gl (SQ n):=af CT (fun a K hk=>by
   unfold acP at hk
   split at hk
   ·obtain⟨e,ae,rfl,rfl,h1,h2,h3,h4,h5⟩:=hk
    exact(acU n e ae h1 h2 h3 h4).gives (h5 _ _ rfl)
   ·exact hk.elim)
  rw[ab]
  refine aw (E:=E_8) ⟨bN.te⟩ hC aF (fun _ _ _ h=>h.elim) mixed (fn:=f31) (body:=f31.body.getD .skip) (by kernel_rfl) (by kernel_rfl) (by kernel_rfl) (fi:=SR op sub t v args ae) (by kernel_rfl) (by kernel_rfl) ⟨_,_,rfl,rfl⟩ ?_
  rw[ak4];dsimp -eta -iota -proj only[gS,fy,Zez,Zdu,Q9,Zy,Zs,Zr,Z2,lU,UQ,Zik,zD,Zj6,Zjr,Zjn,Zjm,Zjk,AA,Zhp,Zg9,S0,o7,Fj,H',ql,Zf9,S1,Zc5,Fk,Ic,tG,Z7,Z6,zE,Zix,SS,Z1,xQ,Zca]
  obtain⟨_,hl,ss⟩:=ee hf
  simp only[size]at hs
  have Ef:bE op sub t v ((aa args).length:Int) ae.length=true∧ep ae.length args=true:=by
   have:(bE op sub t v ((aa args).length:Int) ae.length&&ep ae.length args)=true:=by simpa only[cu]using hm
   simpa using this
  obtain⟨hh,nC⟩:=Ef
  rw[fV,List.all_eq_true]at nC
  refine⟨aa args,rfl,⟨0,[]⟩,⟨rfl,args.length,⟨Nat.zero_le _,rfl⟩,by simp only[List.take_zero,bm],rfl⟩,fun m (x:TX) hx=>⟨fun hi=>?_,fun hi=>?_⟩⟩
  ·obtain⟨i,tl⟩:=x
   obtain⟨⟨h1,h2⟩,h4,h5⟩:=hx
   dsimp only at h1 h2 h4 h5 hi ⊢
   have hi:i<args.length:=by simpa[ag]using hi
   obtain⟨PM,w9,t1,v1,a1,e1,g1⟩:=aX hi
   have hsz:=ja (List.getElem_mem hi)
   refine⟨aa args,rfl,⟨by omega,by rw[ag];omega⟩,_,g1,rfl,PM,w9,t1.k,t1.sc,v1.t.k,v1.t.sc,v1.aA,v1.n,v1.s,aa a1,rfl,args[i],ae,by rw[e1,ab];rfl,rfl,by omega,cZ ss (List.getElem_mem hi),nC _ (List.getElem_mem hi),fw,fun t2 ok he=>⟨fun ho=>?_,fun ho=>⟨by simp,rfl,rfl,?_,args.length-(i+1),⟨i+1,tl++[t2]⟩,by omega,?_,⟨hi,rfl⟩,?_,by simp[h5]⟩⟩⟩
   ·have:ok=false:=by simpa using ho
    subst this
    rw[lr (ln (List.getElem_mem hi) (by rw[he]))]
    exact⟨rfl,rfl⟩
   ·rw[List.length_map,h5];omega
   ·dsimp only
    rw[aL (by omega),List.map_append]
    rfl
   ·have:ok=true:=by simpa using ho
    subst this
    rw[List.take_add_one,List.getElem?_eq_getElem hi]
    exact lq h4 he
  ·obtain⟨i,tl⟩:=x
   obtain⟨⟨h1,h2⟩,h4,h5⟩:=hx
   dsimp only at h1 h2 h4 h5 hi ⊢
   have hi:¬i<args.length:=by simpa[ag]using hi
   rw[List.take_of_length_le (by omega)]at h4
   have AB:tl.length=args.length:=by omega
   rw[ag]at hh
   have fin:∀(a a':Int) (c:Bool),bA ae op sub t v tl=(⟨a,a'⟩,c)→gives [.agg (ay ae (.mk op sub t v args)).1.cs,.d (.v (.bool (ay ae (.mk op sub t v args)).2))] [R.agg [D.v (Value.int IntKind.i64 a),D.v (Value.int IntKind.i64 a')],R.d (D.v (Value.bool c))] []:=fun a a' c h=>by rw[fA h4,h];exact⟨rfl,rfl⟩
   have g0:∀(h:0<tl.length),(tl.map Ty.cs)[Int.toNat 0]? = some (Ty.cs tl[0]):=fun h=>eU h
   have g1:∀(h:1<tl.length),(tl.map Ty.cs)[Int.toNat 1]? = some (Ty.cs tl[1]):=fun h=>eU h
   have d0:∀(h:0<tl.length),tl.getD 0 ⟨0,0⟩=tl[0]:=fun h=>by rw[List.getD_eq_getElem?_getD,List.getElem?_eq_getElem h];rfl
   have d1:∀(h:1<tl.length),tl.getD 1 ⟨0,0⟩=tl[1]:=fun h=>by rw[List.getD_eq_getElem?_getD,List.getElem?_eq_getElem h];rfl
   refine⟨fun o1=>?_,fun o1=>⟨fun o2=>?_,fun o2=>⟨fun o9=>?_,fun o9=>⟨fun Io=>?_,fun Io=>⟨fun Ip=>?_,fun Ip=>⟨fun AD=>?_,fun AD=>⟨fun Iq=>?_,fun Iq=>⟨fun tN=>?_,fun tN=>⟨fun xb=>?_,fun xb=>⟨fun uE=>?_,fun uE=>?_⟩⟩⟩⟩⟩⟩⟩⟩⟩⟩
   ·have o1:op=1:=by simpa using o1
    subst o1
    obtain⟨c1,c2⟩:=kr hh
    have hlt:sub.toNat<ae.length:=by omega
    refine⟨_,rfl,⟨c1,by rw[List.length_map];exact c2⟩,_,eU hlt,rfl,_,_,rfl,fin _ _ _ ?_⟩
    unfold bA
    rw[if_pos rfl,List.getD_eq_getElem?_getD,List.getElem?_eq_getElem hlt]
    rfl
   all_goals have n1:op≠1:=by simpa using o1
   ·have o2:op=2:=by simpa using o2
    refine fin _ _ _ ?_
    unfold bA
    rw[if_neg n1,if_pos o2]
   all_goals have n2:op≠2:=by simpa using o2
   all_goals have ct:1≤args.length:=by have:=b8 hh n1 n2;omega
   all_goals have bT:tl≠[]:=by intro h;rw[h]at AB;simp at AB;omega
   ·have o9:op=9:=by simpa using o9
    subst o9
    have h2:=CS hh
    refine⟨⟨by decide,by rw[List.length_map];omega⟩,rfl,_,g0 (by omega),_,_,rfl,⟨by decide,by rw[List.length_map];omega⟩,rfl,_,g1 (by omega),_,_,rfl,fin _ _ _ ?_⟩
    unfold bA
    rw[if_neg n1,if_neg n2,if_pos rfl,d0 (by omega),d1 (by omega)]
   all_goals have n9:op≠9:=by simpa using o9
   ·have Io:op=10:=by simpa using Io
    refine⟨tl,rfl,by omega,fin _ _ _ ?_⟩
    unfold bA
    rw[if_neg n1,if_neg n2,if_neg n9,if_pos (.inl Io)]
   all_goals have n10:op≠10:=by simpa using Io
   ·have Ip:op=11:=by simpa using Ip
    refine⟨tl,rfl,by omega,fin _ _ _ ?_⟩
    unfold bA
    rw[if_neg n1,if_neg n2,if_neg n9,if_pos (.inr (.inl Ip))]
   all_goals have n11:op≠11:=by simpa using Ip
   ·have AD:op=12:=by simpa using AD
    refine⟨tl,rfl,by omega,fin _ _ _ ?_⟩
    unfold bA
    rw[if_neg n1,if_neg n2,if_neg n9,if_pos (.inr (.inr AD))]
   all_goals have n12:op≠12:=by simpa using AD
   all_goals have nn:¬(op=10∨op=11∨op=12):=by omega
   ·have Iq:op=13:=by simpa using Iq
    refine fin _ _ _ ?_
    unfold bA
    rw[if_neg n1,if_neg n2,if_neg n9,if_neg nn,if_pos Iq]
   all_goals have n13:op≠13:=by simpa using Iq
   ·have tN:op=17:=by simpa using tN
    refine⟨tl,rfl,by omega,fin _ _ _ ?_⟩
    unfold bA
    rw[if_neg n1,if_neg n2,if_neg n9,if_neg nn,if_neg n13,if_pos tN]
   all_goals have n17:op≠17:=by simpa using tN
   ·have xb:op=18:=by simpa using xb
    refine⟨tl,rfl,by omega,fin _ _ _ ?_⟩
    unfold bA
    rw[if_neg n1,if_neg n2,if_neg n9,if_neg nn,if_neg n13,if_neg n17,if_pos xb]
   all_goals have n18:op≠18:=by simpa using xb
   ·have uE:op=16:=by simpa using uE
    refine⟨⟨by decide,by rw[List.length_map];omega⟩,rfl,_,g0 (by omega),_,_,rfl,fin _ _ _ ?_⟩
    unfold bA
    rw[if_neg n1,if_neg n2,if_neg n9,if_neg nn,if_neg n13,if_neg n17,if_neg n18,if_pos uE,d0 (by omega)]
   have n16:op≠16:=by simpa using uE
   refine⟨fun xR=>?_,fun xR=>⟨fun yO=>?_,fun yO=>?_⟩⟩
   ·have xR:op=14:=by simpa using xR
    obtain⟨a,r,hr,jl⟩:=jf (op:=op) bT
    refine⟨op,sub,t,v,args,tl,rfl,rfl,by omega,bT,a,r,by rw[hr];rfl,by omega,⟨tl,(aG a r).1,(aG a r).2,0⟩,⟨by
     have:(bif (aG a r).2 then mZ tl 0 else false)=(aG a r).2:=by cases(aG a r).2<;>rfl
     dsimp only
     rw[this]
     rfl,tl.length,rfl,rfl,rfl,Nat.zero_le _,rfl,.inr rfl⟩,fun m2 y hy=>?_⟩
    obtain⟨yl,yt,yok,yj⟩:=y
    obtain⟨e1,e2,e3,hj,DW,hz⟩:=hy
    dsimp only at e1 e2 e3 hj DW hz ⊢
    have Wo:=e1.symm
    subst Wo;subst e2;subst e3
    refine⟨fun hc=>?_,fun hc=>?_⟩
    ·have Ir:op=14∧2*yj+1<tl.length:=by
      by_cases xS:op=14
      ·rw[show(op==14)=true by simpa using xS,cond_true]at hc
       have:=of_decide_eq_true hc
       rw[List.length_map,ai (by omega) (by omega)]at this
       exact⟨xS,by omega⟩
      ·rw[show(op==14)=false by simpa using xS,cond_false]at hc;cases hc
     have NQ:2*yj<tl.length:=by omega
     have w:IntKind.i64.wrap (2*((yj:Nat):Int)+2)=2*((yj+1:Nat):Int):=by rw[ai (by omega) (by omega)];omega
     have hg:=eU NQ
     refine⟨fun hk=>⟨⟨by omega,by rw[List.length_map];omega⟩,rfl,_,(by rw[show(2*((yj:Nat):Int)).toNat=2*yj by omega];exact hg),tl[2*yj].k,tl[2*yj].sc,rfl,tl.length-(yj+1),⟨tl,(aG a r).1,(aG a r).2,yj+1⟩,by omega,?_,rfl,rfl,rfl,by show yj+1≤tl.length/2;omega,rfl,.inl Ir.1⟩,fun hk=>⟨tl.length-(yj+1),⟨tl,(aG a r).1,(aG a r).2,yj+1⟩,by omega,?_,rfl,rfl,rfl,by show yj+1≤tl.length/2;omega,rfl,.inl Ir.1⟩⟩
     ·have e:(bif (aG a r).2 then mZ tl (yj+1)else false)=(bif (bif (aG a r).2 then mZ tl yj else false)then mY tl[2*yj]else false):=by
          rw[nT NQ];cases(aG a r).2<;>cases mZ tl yj<;>rfl
      rw[hk,cond_true]at e
      dsimp only
      rw[e,w]
      rfl
     ·have e:(bif (aG a r).2 then mZ tl (yj+1)else false)=(bif (bif (aG a r).2 then mZ tl yj else false)then mY tl[2*yj]else false):=by
          rw[nT NQ];cases(aG a r).2<;>cases mZ tl yj<;>rfl
      have Rk:(bif (aG a r).2 then mZ tl yj else false)=false:=hk
      rw[Rk,cond_false]at e
      dsimp only
      rw[e,w]
      try rw[Rk]
      try rfl
    ·refine fin _ _ _ ?_
     have hjj:yj=tl.length/2:=by
      rw[show(op==14)=true by simpa using xR,cond_true]at hc
      have:=of_decide_eq_false hc
      rw[List.length_map,ai (by omega) (by omega)]at this
      omega
     unfold bA
     rw[if_neg n1,if_neg n2,if_neg n9,if_neg nn,if_neg n13,if_neg n17,if_neg n18,if_neg n16,if_pos (.inl xR),hr,hjj]
     have n15:decide (op=15)=false:=decide_eq_false (by omega)
     simp only[n15]
     cases(aG a r).2<;>simp
   ·have yO:op=15:=by simpa using yO
    obtain⟨a,r,hr,jl⟩:=jf (op:=op) bT
    refine⟨op,sub,t,v,args,tl,rfl,rfl,by omega,bT,a,r,by rw[hr];rfl,by omega,⟨tl,(aG a r).1,(aG a r).2,0⟩,⟨by
     have:(bif (aG a r).2 then mZ tl 0 else false)=(aG a r).2:=by cases(aG a r).2<;>rfl
     dsimp only
     rw[this]
     rfl,tl.length,rfl,rfl,rfl,Nat.zero_le _,rfl,.inr rfl⟩,fun m2 y hy=>?_⟩
    obtain⟨yl,yt,yok,yj⟩:=y
    obtain⟨e1,e2,e3,hj,DW,hz⟩:=hy
    dsimp only at e1 e2 e3 hj DW hz ⊢
    have Wo:=e1.symm
    subst Wo;subst e2;subst e3
    refine⟨fun hc=>?_,fun hc=>?_⟩
    ·have Ir:op=14∧2*yj+1<tl.length:=by
      by_cases xS:op=14
      ·rw[show(op==14)=true by simpa using xS,cond_true]at hc
       have:=of_decide_eq_true hc
       rw[List.length_map,ai (by omega) (by omega)]at this
       exact⟨xS,by omega⟩
      ·rw[show(op==14)=false by simpa using xS,cond_false]at hc;cases hc
     have NQ:2*yj<tl.length:=by omega
     have w:IntKind.i64.wrap (2*((yj:Nat):Int)+2)=2*((yj+1:Nat):Int):=by rw[ai (by omega) (by omega)];omega
     have hg:=eU NQ
     refine⟨fun hk=>⟨⟨by omega,by rw[List.length_map];omega⟩,rfl,_,(by rw[show(2*((yj:Nat):Int)).toNat=2*yj by omega];exact hg),tl[2*yj].k,tl[2*yj].sc,rfl,tl.length-(yj+1),⟨tl,(aG a r).1,(aG a r).2,yj+1⟩,by omega,?_,rfl,rfl,rfl,by show yj+1≤tl.length/2;omega,rfl,.inl Ir.1⟩,fun hk=>⟨tl.length-(yj+1),⟨tl,(aG a r).1,(aG a r).2,yj+1⟩,by omega,?_,rfl,rfl,rfl,by show yj+1≤tl.length/2;omega,rfl,.inl Ir.1⟩⟩
     ·have e:(bif (aG a r).2 then mZ tl (yj+1)else false)=(bif (bif (aG a r).2 then mZ tl yj else false)then mY tl[2*yj]else false):=by
          rw[nT NQ];cases(aG a r).2<;>cases mZ tl yj<;>rfl
      rw[hk,cond_true]at e
      dsimp only
      rw[e,w]
      rfl
     ·have e:(bif (aG a r).2 then mZ tl (yj+1)else false)=(bif (bif (aG a r).2 then mZ tl yj else false)then mY tl[2*yj]else false):=by
          rw[nT NQ];cases(aG a r).2<;>cases mZ tl yj<;>rfl
      have Rk:(bif (aG a r).2 then mZ tl yj else false)=false:=hk
      rw[Rk,cond_false]at e
      dsimp only
      rw[e,w]
      try rw[Rk]
      try rfl
    ·refine fin _ _ _ ?_
     unfold bA
     rw[if_neg n1,if_neg n2,if_neg n9,if_neg nn,if_neg n13,if_neg n17,if_neg n18,if_neg n16,if_pos (.inr yO),hr]
     have e15:decide (op=15)=true:=decide_eq_true yO
     have hj0:mZ tl yj=true:=by
      rw[show yj=0 by omega];rfl
     simp only[e15,hj0]
     cases(aG a r).2<;>simp
   ·have n14:op≠14:=by simpa using xR
    have n15:op≠15:=by simpa using yO
    have It:tl.length-1<tl.length:=by omega
    refine⟨tl,rfl,by omega,tl,tl[0],tl[tl.length-1],rfl,List.getElem?_eq_getElem _,List.getElem?_eq_getElem _,by omega,fin _ _ _ ?_⟩
    unfold bA
    rw[if_neg n1,if_neg n2,if_neg n9,if_neg nn,if_neg n13,if_neg n17,if_neg n18,if_neg n16,if_neg (by omega),d0 (by omega),List.getD_eq_getElem?_getD,List.getElem?_eq_getElem It]
    rfl
end Go.Proofs.Tryz
namespace Go.Proofs.Tryz
open Go Go.Dm Go.Ex
set_option maxRecDepth 100000
variable {gl:Nat→Option Obj}
theorem acV:∀(n:Nat) (e:EX),size e<n→fits e→Ct prog gl 29 [.agg (cells e)] (gives [.d (.v (.int .i64 (deep e)))])
 |0,e,h,_=>absurd h (Nat.not_lt_zero _)
 |n+1,.mk op sub t v args,h,hf=>by
  have hC:ah prog gl (SG n):=af w4 (fun a K hk=>by
   unfold OK at hk
   split at hk
   ·obtain⟨e,rfl,h1,h2,h3⟩:=hk
    exact(acV n e h1 h2).gives h3
   ·exact hk.elim)
  rw[ab]
  refine aw bN hC aF bD mixed (fn:=f29) (body:=f29.body.getD .skip) (by kernel_rfl) (by kernel_rfl) (by kernel_rfl) (fi:=SH op sub t v args) (by kernel_rfl) (by kernel_rfl) ⟨_,_,rfl,rfl⟩ ?_
  rw[ako];dsimp -eta -iota -proj only[zz,gS,fy,Zg3,Zga,Zd0,Gm,Wz,OJ,OI,yM,Zbx,Fb,Zy,Zs,Zr,Z2,lU,fG,fb,Fc]
  obtain⟨_,hl,ss⟩:=ee hf
  have hsz:∀e∈args,size e<n:=fun e he=>by have:=nM (op:=op) (sub:=sub) (ty:=t) (v:=v) he;omega
  refine⟨aa args,rfl,(0:Nat),⟨by simp only[List.take_zero,eM];rfl,args.length,Nat.zero_le _,rfl⟩,fun m (x:Nat) hx=>⟨fun hi=>?_,fun hi=>?_⟩⟩
  ·have hi:x<args.length:=by simpa[ag]using hi
   obtain⟨cL,aU,t',v',a',he,gO⟩:=aX hi
   have hm:=hx.2
   refine⟨aa args,rfl,⟨by omega,by rw[ag];omega⟩,_,gO,rfl,cL,aU,t'.k,t'.sc,v'.t.k,v'.t.sc,v'.aA,v'.n,v'.s,aa a',rfl,args[x],by rw[he,ab];rfl,hsz _ (List.getElem_mem hi),cZ ss (List.getElem_mem hi),args.length-(x+1),x+1,by omega,?_,hi,rfl⟩
   rw[aL (by omega),List.take_add_one,List.getElem?_eq_getElem hi,Option.toList_some,sr]
  ·have hi:¬x<args.length:=by simpa[ag]using hi
   rw[List.take_of_length_le (by omega)]
   refine⟨?_,rfl⟩
   simp only[deep]
def ak(row:List Go.Ex.AV):List Ty:=row.map Go.Ex.AV.t
def acW(row:List Go.Ex.AV)(x:Nat):St:={tm:=[(2,.nil),(3,.own 50003),(6,.d (.sl (row.map Go.Ex.AV.cs))),(7,.d (.v (.int .i64 ((row.map Go.Ex.AV.cs).length:Int)))),(8,.d (.v (.int .i64 (x:Int))))],hp:=[(50003,.bu 23 2 ((ak (row.take x)).map Ty.cs))],kn:=[],gd:=[]}
def lu(row:List Go.Ex.AV)(m:Nat)(x:Nat):Prop:=x≤row.length∧m=row.length-x
def SU(row:List Go.Ex.AV):Fi:={ake with cv:=[(3,[⟨none,3,50003,23,2⟩])],lx:=[(3,{X:=Nat,sh:=acW row,P:=fun _=>lu row})]}
def Zhe(a0:List Go.Ex.AV)(a1:Nat):St:={tm:=[(2,.nil),(3,.own 50003),(6,.d (.sl (List.map AV.cs a0))),(7,.i (↑(List.map AV.cs a0).length:Int)),(8,.i (↑a1:Int))],hp:=[(50003,.bu 23 2 (List.map Ty.cs (ak (List.take a1 a0))))],kn:=[],gd:=[]:St}
theorem ak6(row:List Go.Ex.AV)(Q:KT):vc bl d_ bf (SU row) (f74.body.getD .skip) f74.results.toList [.d (.sl (row.map Go.Ex.AV.cs))] Q=(NP row fun es=>∃(x0:Nat),({tm:=[(2,.nil),(3,.own 50003),(6,.d (.sl (List.map AV.cs row))),(7,.i (↑es.length:Int)),(8,.i 0)],hp:=[(50003,.bu 23 2 [])],kn:=[],gd:=[]:St}=(Zhe row x0)∧∃(n:Nat),lu row n x0)∧∀(n:Nat) (x:Nat),lu row n x→(Zgj x row fun aN aW _ _ _=>PZ aN aW ((↑(List.map Ty.cs (ak (List.take x row))).length.succ:Int)*(↑(16:Nat):Int)≤140737488355328∧fG n fun m x'=>{tm:=[(2,.nil),(3,.own 50003),(6,.d (.sl (List.map AV.cs row))),(7,.i (↑(List.map AV.cs row).length:Int)),(8,.i (IntKind.i64.wrap ((↑x:Int)+1)))],hp:=[(50003,.bu 23 2 (List.map Ty.cs (ak (List.take x row))++[(ql aN aW)]))],kn:=[],gd:=[]:St}=(Zhe row x')∧lu row m x'))∧(decide ((↑x:Int)<(↑(List.map AV.cs row).length:Int))=false→Q [.d (.sl (List.map Ty.cs (ak (List.take x row))))] [])):=by kernel_rfl
def Iu(a:List R)(K:KT):Prop:=match a with
 |[.agg x]=>∃e:EX,x=cells e∧fits e∧K [.d (.v (.int .i64 (nodes e)))] []
 |_=>False
theorem Iv:CK gl Iu 28:=fun a K h=>by
 unfold Iu at h
 split at h
 ·obtain⟨e,rfl,h1,h2⟩:=h
  exact(ZR (size e+1) e (Nat.lt_succ_self _) h1).gives h2
 ·exact h.elim
def Iw(a:List R)(K:KT):Prop:=match a with
 |[.agg x]=>∃e:EX,x=cells e∧fits e∧K [.d (.v (.int .i64 (deep e)))] []
 |_=>False
theorem Ix:CK gl Iw 29:=fun a K h=>by
 unfold Iw at h
 split at h
 ·obtain⟨e,rfl,h1,h2⟩:=h
  exact(acV (size e+1) e (Nat.lt_succ_self _) h1).gives h2
 ·exact h.elim
def Iy(a:List R)(K:KT):Prop:=match a with
 |[.agg x,.d (.v (.int .i64 c))]=>∃e:EX,x=cells e∧fits e∧K [.d (.v (.bool (cu c e)))] []
 |_=>False
theorem Iz:CK gl Iy 30:=fun a K h=>by
 unfold Iy at h
 split at h
 ·obtain⟨e,rfl,h1,h2⟩:=h
  exact(acC (size e+1) e _ (Nat.lt_succ_self _) h1).gives h2
 ·exact h.elim
def IA(a:List R)(K:KT):Prop:=match a with
 |[.agg x,.d (.sl y)]=>∃(e:EX) (ae:List Ty),x=cells e∧y=ae.map Ty.cs∧fits e∧cu ae.length e=true∧ae.length≤8796093022208∧(∀(t:Ty) (ok:Bool),ay ae e=(t,ok)→K [.agg t.cs,.d (.v (.bool ok))] [])
 |_=>False
theorem IB:CK gl IA 31:=fun a K h=>by
 unfold IA at h
 split at h
 ·obtain⟨e,ae,rfl,rfl,h1,h2,h3,h4⟩:=h
  exact(acU (size e+1) e ae (Nat.lt_succ_self _) h1 h2 h3).gives (h4 _ _ rfl)
 ·exact h.elim
def UU:aj:=au (au (au (au US 28 Iu) 29 Iw) 30 Iy) 31 IA
theorem CU:ah prog gl UU:=af (af (af (af CT Iv) Ix) Iz) IB
def WE(a0 a1:Int)(a2:Ty)(a3:Go.Ex.AV)(a4:List EX)(k:EX→Prop):Prop:=cQ a0 a1 a2 a3 a4 fun e=>fits e∧k e
def Zhd(a0 a1:Int)(a2:Ty)(a3:Go.Ex.AV)(a4:List EX)(k:EX→EX→Prop):Prop:=WE a0 a1 a2 a3 a4 fun e=>WE a0 a1 a2 a3 a4 fun UW=>k e UW
def zF(a0:List (List D))(k:(List (List D))→Prop):Prop:=fy fun es=>D.sl a0=D.sl es∧k es
def Ziu(a0:Int):List R:=[.agg (zD (0:Int)),.d (.i a0)]
def UX(a0:KT)(a1:Int):Prop:=a0 (Ziu a1) []
def Fl(a0 a1:Int)(a2:Ty)(a3:Go.Ex.AV)(a4:List EX)(k:EX→(List Ty)→Prop):Prop:=∃(e:EX),∃(ae:List Ty),zC a0 a1 a2 a3 a4 e (k e ae)
def SV(a0 a1:Int)(a2:Ty)(a3:Go.Ex.AV)(a4:List EX)(a5:List (List D))(k:EX→(List Ty)→Prop):Prop:=Fl a0 a1 a2 a3 a4 fun e ae=>a5=List.map Ty.cs ae∧k e ae
def SW(a0 a1:Int)(a2:Ty)(a3:Go.Ex.AV)(a4:List EX)(a5:List (List D))(k:EX→(List Ty)→Prop):Prop:=SV a0 a1 a2 a3 a4 a5 fun e ae=>fits e∧k e ae
def VV(a0 a1:Int)(a2:Ty)(a3:Go.Ex.AV)(a4:List EX)(a5:List (List D))(k:EX→(List Ty)→Prop):Prop:=SW a0 a1 a2 a3 a4 a5 fun e ae=>cu (↑ae.length:Int) e=true∧k e ae
def Zh0(a0 a1:Int)(a2:Ty)(a3:Go.Ex.AV)(a4:List EX)(a5:List (List D))(k:Ty→Bool→Prop):Prop:=VV a0 a1 a2 a3 a4 a5 fun e ae=>ae.length≤8796093022208∧∀(t:Ty) (ok:Bool),ay ae e=(t,ok)→k t ok
theorem ak8(op sub:Int)(t:Ty)(v:Go.Ex.AV)(args:List EX)(x:List (List D))(Q:KT):vc bl UU bf Yn (f12.body.getD .skip) f12.results.toList [.agg (aT op sub t v (aa args)),.d (.sl x)] Q=(SL x fun l=>Zhd op sub t v args fun e UW=>zF x fun es=>WE op sub t v args fun WS=>((bif bif bif l.any kq then true else decide (nodes e>256)then true else decide (deep UW>24)then true else !cu (↑es.length:Int) WS)=true→UX Q (140:Int))∧((bif bif bif l.any kq then true else decide (nodes e>256)then true else decide (deep UW>24)then true else !cu (↑es.length:Int) WS)=false→Zh0 op sub t v args x fun t ok=>((!ok)=true→UX Q (21:Int))∧((!ok)=false→Q [.agg (AA t),.d (.i 0)] []))):=by kernel_rfl
theorem ak9(row:List Go.Ex.AV)(hl:row.length≤4398046511104):Ct prog gl 74 [.d (.sl (row.map Go.Ex.AV.cs))] (gives [.d (.sl ((ak row).map Ty.cs))]):=by
 refine aw bN bh aF bD mixed (fn:=f74) (body:=f74.body.getD .skip) (by kernel_rfl) (by kernel_rfl) (by kernel_rfl) (fi:=SU row) (by kernel_rfl) (by kernel_rfl) ⟨_,_,rfl,rfl⟩ ?_
 rw[ak6];dsimp -eta -iota -proj only[NP,fy,Zhe,Zgj,cB,Ay,Zbx,PU,PZ,ql,fG,fb]
 refine⟨_,rfl,(0:Nat),⟨rfl,row.length,Nat.zero_le _,rfl⟩,fun m (x:Nat) hx=>⟨fun hi=>?_,fun hi=>?_⟩⟩
 ·have hi:x<row.length:=by simpa using hi
  have hm:=hx.2
  refine⟨_,rfl,⟨by omega,by rw[List.length_map];omega⟩,(row[x]).cs,by rw[Int.toNat_natCast,List.getElem?_map,List.getElem?_eq_getElem hi];rfl,rfl,_,_,_,_,_,rfl,by simp,rfl,rfl,?_,row.length-(x+1),x+1,by omega,?_,hi,rfl⟩
  ·have:(List.map Ty.cs (ak (List.take x row))).length≤row.length:=by simp[ak];omega
   simp only[Nat.succ_eq_add_one];omega
  ·rw[aL (by omega),List.take_add_one,List.getElem?_eq_getElem hi,Option.toList_some]
   simp only[ak,List.map_append,List.map_cons,List.map_nil]
 ·have hi:¬x<row.length:=by simpa using hi
  rw[List.take_of_length_le (by omega)]
  exact⟨rfl,rfl⟩
def UY(a:List R)(K:KT):Prop:=match a with
 |[.d (.sl x)]=>∃row:List Go.Ex.AV,x=row.map Go.Ex.AV.cs∧row.length≤4398046511104∧K [.d (.sl ((ak row).map Ty.cs))] []
 |_=>False
theorem P0:CK gl UY 74:=fun a K h=>by
 unfold UY at h
 split at h
 ·obtain⟨row,rfl,h1,h2⟩:=h
  exact(ak9 row h1).gives h2
 ·exact h.elim
def aV(ae:List Ty)(e:EX):Ty×Int:=
 bif (bif bif bif ae.any kq then true else decide (nodes e>256)then true else decide (deep e>24)then true else !cu ae.length e)then(⟨0,0⟩,140)else(bif !(ay ae e).2 then(⟨0,0⟩,21)else((ay ae e).1,0))
theorem ak_:∀(e:EX) (ae:List Ty),fits e→ae.length≤8796093022208→Ct prog gl 12 [.agg (cells e),.d (.sl (ae.map Ty.cs))] (gives [.agg (aV ae e).1.cs,.d (.v (.int .i64 (aV ae e).2))])
 | .mk op sub t v args,ae,hf,fw=>by
   rw[ab]
   refine cz CU f12 Yn ⟨_,_,rfl,rfl⟩ ?_
   rw[ak8];dsimp -eta -iota -proj only[SL,Zhd,WE,cQ,zC,Z1,zF,fy,UX,Ziu,zD,Zh0,VV,SW,SV,Fl,AA]
   have hc:aT op sub t v (aa args)=cells (.mk op sub t v args):=(ab _ _ _ _ _).symm
   refine⟨ae,rfl,by omega,.mk op sub t v args,hc,hf,.mk op sub t v args,hc,hf,_,rfl,.mk op sub t v args,hc,hf,fun h=>?_,fun h=>?_⟩
   ·rw[List.length_map]at h
    unfold aV
    rw[h];exact⟨rfl,rfl⟩
   ·rw[List.length_map]at h
    refine⟨.mk op sub t v args,ae,hc,rfl,hf,?_,fw,fun t' ok ht=>⟨fun h2=>?_,fun h2=>?_⟩⟩
    ·revert h
     cases cu (ae.length:Int) (.mk op sub t v args)<;>cases ae.any kq<;>cases decide (nodes (EX.mk op sub t v args)>256)<;>cases decide (deep (EX.mk op sub t v args)>24)<;>simp
    ·unfold aV
     rw[h,ht]
     simp only[h2,cond_true,cond_false]
     exact⟨rfl,rfl⟩
    ·unfold aV
     rw[h,ht]
     simp only[h2,cond_true,cond_false]
     exact⟨rfl,rfl⟩
def IC(a:List R)(K:KT):Prop:=match a with
 |[.agg x,.d (.sl y)]=>∃(e:EX) (ae:List Ty),x=cells e∧y=ae.map Ty.cs∧fits e∧ae.length≤8796093022208∧(∀(t:Ty) (f:Int),aV ae e=(t,f)→K [.agg t.cs,.d (.v (.int .i64 f))] [])
 |_=>False
theorem xc:CK gl IC 12:=fun a K h=>by
 unfold IC at h
 split at h
 ·obtain⟨e,ae,rfl,rfl,h1,h2,h3⟩:=h
  exact(ak_ e ae h1 h2).gives (h3 _ _ rfl)
 ·exact h.elim
def UZ:aj:=au (au UU 74 UY) 12 IC
theorem CV:ah prog gl UZ:=af (af CU P0) xc
def m_(a b:Int):Int×Int:=bif b==0 then(0,11)else bif b == -1 then(je a,kp a)else(IntKind.i64.wrap (a.tdiv b),0)
theorem acZ(a b:Int)(Q:KT):vc bl UZ bf RP (f131.body.getD .skip) f131.results.toList [.d (.v (.int .i64 a)),.d (.v (.int .i64 b))] Q=((Gn b Q (11:Int))∧((b==0)=false→((b==(-1:Int))=true→Q [.d (.i (je a)),.d (.i (kp a))] [])∧((b==(-1:Int))=false→b≠(0:Int)∧Q [.d (.i (IntKind.i64.wrap (a.tdiv b))),.d (.i 0)] []))):=by kernel_rfl
theorem ac0(a b:Int):Ct prog gl 131 [.d (.v (.int .i64 a)),.d (.v (.int .i64 b))] (gives [.d (.v (.int .i64 (m_ a b).1)),.d (.v (.int .i64 (m_ a b).2))]):=
 cz CV f131 RP ⟨_,_,rfl,rfl⟩ (by
  rw[acZ];dsimp -eta -iota -proj only[Gn,dK]
  refine⟨fun h=>?_,fun h=>⟨fun h2=>?_,fun h2=>⟨by simpa using h,?_⟩⟩⟩<;>(simp only[m_, *,cond_true,cond_false];exact⟨rfl,rfl⟩))
def ID(a:List R)(K:KT):Prop:=match a with
 |[.d (.v (.int .i64 a)),.d (.v (.int .i64 b))]=>K [.d (.v (.int .i64 (m_ a b).1)),.d (.v (.int .i64 (m_ a b).2))] []
 |_=>False
theorem IE:CK gl ID 131:=fun a K h=>by
 unfold ID at h
 split at h
 ·exact(ac0 _ _).gives h
 ·exact h.elim
def AE:aj:=au UZ 131 ID
theorem lV:ah prog gl AE:=af CV IE
def zG(n:Int):Go.Ex.AV:=⟨⟨2,0⟩,false,n,{data:={toList:=[]:Array UInt8}:ByteArray}⟩
def zeroV:Go.Ex.AV:=⟨⟨0,0⟩,false,0,{data:={toList:=[]:Array UInt8}:ByteArray}⟩
def zH:Env:={bl with bw:=[77,100,101,104]}
structure VX where
 i:Nat
 l:List Go.Ex.AV
def ac1(op sub:Int)(t:Ty)(v:Go.Ex.AV)(args:List EX)(row:List Go.Ex.AV)(ae:List Ty)(x:VX):St:={tm:=[(0,.bW [.sl (row.map Go.Ex.AV.cs),.sl (ae.map Ty.cs)]),(3,.ref 3 0),(4,.ref 4 0),(5,.d (.v (.bool false))),(6,.ref 6 0),(17,.own 163),(18,.d (.v (.bool (x.l.any (fun v=>v.aA))))),(165,.d (.sl (aa args))),(166,.d (.v (.int .i64 ((aa args).length:Int)))),(167,.d (.v (.int .i64 (x.i:Int))))],hp:=[(3,.box [.d (.v (.int .i64 op)),.d (.v (.int .i64 sub)),.d (.v (.int .i64 t.k)),.d (.v (.int .i64 t.sc)),.d (.v (.int .i64 v.t.k)),.d (.v (.int .i64 v.t.sc)),.d (.v (.bool v.aA)),.d (.v (.int .i64 v.n)),.d (.v (.string v.s)),.d (.sl (aa args))]),(4,.box [.d (.v (.int .i64 0)),.d (.v (.int .i64 0)),.d (.v (.bool false)),.d (.v (.int .i64 0)),.d (.v (.string {data:={toList:=[]:Array UInt8}:ByteArray}))]),(6,.box [.d (.v (.int .i64 (ay ae (.mk op sub t v args)).1.k)),.d (.v (.int .i64 (ay ae (.mk op sub t v args)).1.sc))]),(163,.bu 25 5 (x.l.map Go.Ex.AV.cs++List.replicate (args.length-x.i) zeroV.cs))],kn:=[],gd:=[]}
theorem IF{l:List Go.Ex.AV}{n:Nat}{z:List D}{w:Go.Ex.AV}(h:l.length<n):(l.map Go.Ex.AV.cs++List.replicate (n-l.length) z).set l.length w.cs=(l++[w]).map Go.Ex.AV.cs++List.replicate (n-(l.length+1)) z:=by
 rw[List.set_append_right _ _ (by simp),List.length_map,Nat.sub_self,show n-l.length=(n-(l.length+1))+1 by omega,List.replicate_succ,List.set_cons_zero,List.map_append,List.append_assoc]
 rfl
theorem iN{ae:List Ty}{e:EX}(h:(aV ae e).2=0):cu ae.length e=true∧(ay ae e).2=true:=by
 unfold aV at h
 revert h
 cases cu (ae.length:Int) e<;>cases ae.any kq<;>cases decide (nodes e>256)<;>cases decide (deep e>24)<;>cases(ay ae e).2<;>simp
end Go.Proofs.Tryz
