/- A part of the proof: contracts of functions, by a verified generator of conditions; no condition of its own. -/
import Derived.Test.YthhomimmnogngaaGreatDoorN2
namespace Go.Proofs.Tryz
open Go Go.Dm Go.Ex
set_option maxRecDepth 100000
variable {gl:Nat→Option Obj}
theorem vc1002e(l:List Go.Ex.AV)(Q:KT):vc E_k C_0 noI fi7 (f7.body.getD .skip) f7.results.toList [.d (.sl (l.map Go.Ex.AV.cs))] Q=(∀(b:Bool),(b=true→List.map AV.cs l=[])→(b=true→Q [.d (.sl [])] [])∧(b=false→∃(es:List (List D)),D.sl (List.map AV.cs l)=D.sl es∧(∀(c:List D),c∈es→c.length=5)∧(25:Nat)=(25:Nat)∧(5:Nat)=(5:Nat)∧(↑(Nat.add (0:Nat) es.length):Int)*(↑(48:Nat):Int)≤140737488355328∧Q [.d (.sl ([]++es))] [])):=by kernel_rfl
theorem ct1002e:Ct prog gl 7 [.d (.sl [])] (gives [.d (.sl [])]):=by
 refine ct_of_vc E_k_ok C_0_ok ioK_no (fun _ _ _ h=>h.elim) mixed (fn:=f7) (body:=f7.body.getD .skip) (by kernel_rfl) (by kernel_rfl) (by kernel_rfl) (fi:=fi7) (by kernel_rfl) (by kernel_rfl) ⟨_,_,rfl,rfl⟩ ?_
 rw[show([]:List (List D))=([]:List Go.Ex.AV).map Go.Ex.AV.cs from rfl,vc1002e []]
 exact fun b hb=>⟨fun h=>⟨rfl,rfl⟩,fun h=>⟨_,rfl,fun c hc=>(by cases hc),rfl,rfl,by decide,rfl,rfl⟩⟩
def c_1002e(a:List R)(K:KT):Prop:=match a with
 |[.d (.sl x)]=>x=[]∧K [.d (.sl [])] []
 |_=>False
theorem c_1002e_ok(a:List R)(K:KT)(h:c_1002e a K):Ct prog gl 7 a K:=by
 unfold c_1002e at h
 split at h
 ·obtain⟨rfl,h1⟩:=h
  exact ct1002e.gives h1
 ·exact h.elim
def C_me:CallT:=addC (addC (addC (addC C_t17v 6 c_177) 7 c_1002e) 10 c_65) 11 c_25m
theorem C_me_ok(G:GlOk gl):CallsOk prog gl C_me:=addC_ok (addC_ok (addC_ok (addC_ok (C_t17v_ok G) c_177_ok) c_1002e_ok) c_65_ok) c_25m_ok
structure ME0 where
 w:Go.Ex.AV
 f:Int
 L:List Int
def st_mea(op sub:Int)(t:Ty)(v:Go.Ex.AV)(args:List EX)(row other:List Go.Ex.AV)(a:Int)(x:ME0):St:={tm:=[(1,.d (.sl (row.map Go.Ex.AV.cs))),(2,.d (.v (.int .u8 a))),(3,.d (.sl (other.map Go.Ex.AV.cs))),(4,.ref 4 0),(8,.d (.v (.bool false))),(9,.ref 9 0),(10,.d (.v (.int .i64 x.f))),(11,.d (.sl (intsD x.L))),(12,.d (.sl [])),(39,.d (.v (.int .i64 0))),(40,.d (.v (.int .i64 0)))],hp:=bx_mv op sub t v args x.w,kn:=[],gd:=[]}
def st_meb(op sub:Int)(t:Ty)(v:Go.Ex.AV)(args:List EX)(row:List Go.Ex.AV)(y:MY):St:={tm:=[(1,.d (.sl (row.map Go.Ex.AV.cs))),(4,.ref 4 0),(8,.d (.v (.bool false))),(9,.ref 9 0),(10,.d (.v (.int .i64 y.f))),(16,.d (.v (.int .i64 (IntKind.i64.wrap (y.a.tmod 4))))),(17,.nil),(18,.own 100),(102,.d (.v (.int .i64 ((y.mv.map Go.Ex.AV.cs).length:Int)))),(103,.d (.v (.int .i64 (y.i:Int))))],hp:=bx_mv op sub t v args y.w++[(14,.box [.d (.v (.int .i64 y.w2.t.k)),.d (.v (.int .i64 y.w2.t.sc)),.d (.v (.bool y.w2.nul)),.d (.v (.int .i64 y.w2.n)),.d (.v (.string y.w2.s))]),(100,.lst 25 5 (y.mv.map Go.Ex.AV.cs))],kn:=[],gd:=[]}
def st_mec(op sub:Int)(t:Ty)(v:Go.Ex.AV)(args:List EX)(row:List Go.Ex.AV)(y:MY):St:={tm:=[(1,.d (.sl (row.map Go.Ex.AV.cs))),(4,.ref 4 0),(8,.d (.v (.bool false))),(9,.ref 9 0),(10,.d (.v (.int .i64 y.f))),(16,.d (.v (.int .i64 (IntKind.i64.wrap (y.a.tmod 4))))),(17,.own 50017),(18,.own 100),(113,.d (.v (.int .i64 ((row.map Go.Ex.AV.cs).length:Int)))),(114,.d (.v (.int .i64 0)))],hp:=bx_mv op sub t v args y.w++[(14,.box [.d (.v (.int .i64 y.w2.t.k)),.d (.v (.int .i64 y.w2.t.sc)),.d (.v (.bool y.w2.nul)),.d (.v (.int .i64 y.w2.n)),.d (.v (.string y.w2.s))]),(100,.lst 25 5 (y.mv.map Go.Ex.AV.cs)),(50017,.lst 3 1 [])],kn:=[],gd:=[]}
def fx_me(op sub:Int)(t:Ty)(v:Go.Ex.AV)(args:List EX)(row other:List Go.Ex.AV)(a:Int):Fi:={fi3 with lx:=[(9,{X:=ME0,sh:=st_mea op sub t v args row other a,P:=fun x0 _ x=>x=x0}),(21,{X:=MY,sh:=st_meb op sub t v args row,P:=inv_mvb}),(26,{X:=MY,sh:=st_mec op sub t v args row,P:=fun x0 _ x=>x=x0})],cv:=[(26,[⟨none,17,50017,3,1⟩])]}
def Zd7(a0:List Go.Ex.AV)(a1:Int)(a2:List Go.Ex.AV)(a3:ME0)(a4 a5:Int)(a6:Ty)(a7:Go.Ex.AV)(a8:List EX):St:={tm:=[(1,.d (.sl (List.map AV.cs a0))),(2,.d (.v (.int .u8 a1))),(3,.d (.sl (List.map AV.cs a2))),(4,.ref 4 0),(8,.d (.v (.bool false))),(9,.ref 9 0),(10,.i a3.2),(11,.d (.sl (intsD a3.3))),(12,.d (.sl [])),(39,.i 0),(40,.i 0)],hp:=bx_mv a4 a5 a6 a7 a8 a3.1,kn:=[],gd:=[]:St}
def Zed(a0:List Go.Ex.AV)(k:Int→Int→Prop):Prop:=Zbt a0 fun es=>Zcw es (5:Nat) fun n_1 n_2=>k n_1 n_2
def Zdx(a0:List Go.Ex.AV)(k:Int→Int→Bool→Int→ByteArray→Prop):Prop:=Zbt a0 fun es=>Zcx es fun n_5 n_6 b n_7 b_1=>k n_5 n_6 b n_7 b_1
def Z2(a0:List Go.Ex.AV)(a1:Nat)(a2:List Go.Ex.AV)(a3:Int)(a4:ME0)(a5 a6:Int)(a7:Ty)(a8:Go.Ex.AV)(a9:List EX)(a10:ME0):Prop:=(false=true→Zdx a0 fun _ _ _ _ _=>Zej fun es=>D.sl []=D.sl es∧Zcd (0:Int) es fun cells=>cells.length=5∧False)∧(false=false→∃(m:Nat),∃(x':ME0),m<a1∧{tm:=[(1,.d (.sl (List.map AV.cs a2))),(2,.d (.v (.int .u8 a3))),(3,.d (.sl (List.map AV.cs a0))),(4,.ref 4 0),(8,.d (.v (.bool false))),(9,.ref 9 0),(10,.i a4.2),(11,.d (.sl (intsD a4.3))),(12,.d (.sl [])),(39,.i 0),(40,.i (IntKind.i64.wrap ((0:Int)+1)))],hp:=[(4,.box [.i a5,.i a6,.i a7.1,.i a7.2,.i a8.1.1,.i a8.1.2,.d (.v (.bool a8.2)),.i a8.3,.d (.v (.string a8.4)),.d (.sl (cellsL a9))]),(9,.box [.i a4.1.1.1,.i a4.1.1.2,.d (.v (.bool a4.1.2)),.i a4.1.3,.d (.v (.string a4.1.4))])],kn:=[],gd:=[]:St}=(Zd7 a2 a3 a0 x' a5 a6 a7 a8 a9)∧x'=a10)
def Zbd(a0:List Go.Ex.AV)(a1:Nat)(a2:List Go.Ex.AV)(a3:Int)(a4:ME0)(a5 a6:Int)(a7:Ty)(a8:Go.Ex.AV)(a9:List EX)(a10:ME0):Prop:=Zdx a0 fun n_5 n_6 b n_7 b_1=>((s56_0 n_5 n_6 b n_7 b_1==0)=true→False)∧((s56_0 n_5 n_6 b n_7 b_1==0) = !true→Z2 a0 a1 a2 a3 a4 a5 a6 a7 a8 a9 a10)
def Zbh(a0:List Go.Ex.AV)(a1:Nat)(a2:List Go.Ex.AV)(a3:Int)(a4:ME0)(a5 a6:Int)(a7:Ty)(a8:Go.Ex.AV)(a9:List EX)(a10:ME0):Prop:=(false=true→False)∧(false = !true→Z2 a0 a1 a2 a3 a4 a5 a6 a7 a8 a9 a10)
def Zct(a0:List Go.Ex.AV)(a1:MY)(a2 a3:Int)(a4:Ty)(a5:Go.Ex.AV)(a6:List EX):St:={tm:=[(1,.d (.sl (List.map AV.cs a0))),(4,.ref 4 0),(8,.d (.v (.bool false))),(9,.ref 9 0),(10,.i a1.2),(16,.i (IntKind.i64.wrap (a1.4.tmod (4:Int)))),(17,.nil),(18,.own 100),(102,.i (↑(List.map AV.cs a1.6).length:Int)),(103,.i (↑a1.7:Int))],hp:=bx_mv a2 a3 a4 a5 a6 a1.1++[(14,.box [.i a1.3.1.1,.i a1.3.1.2,.d (.v (.bool a1.3.2)),.i a1.3.3,.d (.v (.string a1.3.4))]),(100,.lst 25 5 (List.map AV.cs a1.6))],kn:=[],gd:=[]:St}
def Zcr(a0:List Go.Ex.AV)(a1:MY)(a2 a3:Int)(a4:Ty)(a5:Go.Ex.AV)(a6:List EX):St:={tm:=[(1,.d (.sl (List.map AV.cs a0))),(4,.ref 4 0),(8,.d (.v (.bool false))),(9,.ref 9 0),(10,.i a1.2),(16,.i (IntKind.i64.wrap (a1.4.tmod (4:Int)))),(17,.own 50017),(18,.own 100),(113,.i (↑(List.map AV.cs a0).length:Int)),(114,.i 0)],hp:=bx_mv a2 a3 a4 a5 a6 a1.1++[(14,.box [.i a1.3.1.1,.i a1.3.1.2,.d (.v (.bool a1.3.2)),.i a1.3.3,.d (.v (.string a1.3.4))]),(100,.lst 25 5 (List.map AV.cs a1.6)),(50017,.lst 3 1 [])],kn:=[],gd:=[]:St}
def Ze6(a0:MY)(a1:List (List D)):List D:=[.i (IntKind.i64.wrap (IntKind.i64.wrap (IntKind.i64.wrap (IntKind.i64.wrap (a0.4.tmod (4:Int))+(↑a1.length:Int))-(1:Int))-(0:Int)))]
def Zr(a0:Int)(a1:List Go.Ex.AV)(a2:ME0)(a3 a4:Int)(a5:Ty)(a6:Go.Ex.AV)(a7:List EX)(a8:AV)(a9:KT):Prop:=(4:Int)≠(0:Int)∧(0:Int)≤IntKind.i64.wrap (a0.tmod (4:Int))∧IntKind.i64.wrap (a0.tmod (4:Int))≤IntKind.i64.wrap (a0.tmod (4:Int))∧IntKind.i64.wrap (a0.tmod (4:Int))*(↑(48:Nat):Int)≤140737488355328∧IntKind.i64.wrap (a0.tmod (4:Int))≤(140737488355328:Int)∧∃(x0:MY),({tm:=[(1,.d (.sl (List.map AV.cs a1))),(4,.ref 4 0),(8,.d (.v (.bool false))),(9,.ref 9 0),(10,.i a2.2),(16,.i (IntKind.i64.wrap (a0.tmod (4:Int)))),(17,.nil),(18,.own 100),(102,.i (↑(List.replicate (IntKind.i64.wrap (a0.tmod (4:Int))).toNat (Z3 (0:Int) (0:Int))).length:Int)),(103,.i 0)],hp:=[(4,.box [.i a3,.i a4,.i a5.1,.i a5.2,.i a6.1.1,.i a6.1.2,.d (.v (.bool a6.2)),.i a6.3,.d (.v (.string a6.4)),.d (.sl (cellsL a7))]),(9,.box [.i a2.1.1.1,.i a2.1.1.2,.d (.v (.bool a2.1.2)),.i a2.1.3,.d (.v (.string a2.1.4))]),(14,.box [.i a8.1.1,.i a8.1.2,.d (.v (.bool a8.2)),.i a8.3,.d (.v (.string a8.4))]),(100,.lst 25 5 (List.replicate (IntKind.i64.wrap (a0.tmod (4:Int))).toNat (Z3 (0:Int) (0:Int))))],kn:=[],gd:=[]:St}=(Zct a1 x0 a3 a4 a5 a6 a7)∧∃(n:Nat),inv_mvb x0 n x0)∧∀(n:Nat) (x:MY),inv_mvb x0 n x→(Zc9 x n fun cells' m x'=>{tm:=[(1,.d (.sl (List.map AV.cs a1))),(4,.ref 4 0),(8,.d (.v (.bool false))),(9,.ref 9 0),(10,.i x.2),(16,.i (IntKind.i64.wrap (x.4.tmod (4:Int)))),(17,.nil),(18,.own 100),(102,.i (↑(List.map AV.cs x.6).length:Int)),(103,.i (IntKind.i64.wrap ((↑x.7:Int)+1)))],hp:=[(4,.box [.i a3,.i a4,.i a5.1,.i a5.2,.i a6.1.1,.i a6.1.2,.d (.v (.bool a6.2)),.i a6.3,.d (.v (.string a6.4)),.d (.sl (cellsL a7))]),(9,.box [.i x.1.1.1,.i x.1.1.2,.d (.v (.bool x.1.2)),.i x.1.3,.d (.v (.string x.1.4))]),(14,.box [.i x.3.1.1,.i x.3.1.2,.d (.v (.bool x.3.2)),.i x.3.3,.d (.v (.string x.3.4))]),(100,.lst 25 5 ((List.map AV.cs x.6).set (↑x.7:Int).toNat cells'))],kn:=[],gd:=[]:St}=(Zct a1 x' a3 a4 a5 a6 a7)∧inv_mvb x0 m x')∧(decide ((↑x.7:Int)<(↑(List.map AV.cs x.6).length:Int))=false→Zbt a1 fun es=>∃(x0:MY),({tm:=[(1,.d (.sl (List.map AV.cs a1))),(4,.ref 4 0),(8,.d (.v (.bool false))),(9,.ref 9 0),(10,.i x.2),(16,.i (IntKind.i64.wrap (x.4.tmod (4:Int)))),(17,.own 50017),(18,.own 100),(113,.i (↑es.length:Int)),(114,.i 0)],hp:=[(4,.box [.i a3,.i a4,.i a5.1,.i a5.2,.i a6.1.1,.i a6.1.2,.d (.v (.bool a6.2)),.i a6.3,.d (.v (.string a6.4)),.d (.sl (cellsL a7))]),(9,.box [.i x.1.1.1,.i x.1.1.2,.d (.v (.bool x.1.2)),.i x.1.3,.d (.v (.string x.1.4))]),(14,.box [.i x.3.1.1,.i x.3.1.2,.d (.v (.bool x.3.2)),.i x.3.3,.d (.v (.string x.3.4))]),(100,.lst 25 5 (List.map AV.cs x.6)),(50017,.lst 3 1 [])],kn:=[],gd:=[]:St}=(Zcr a1 x0 a3 a4 a5 a6 a7)∧∃(n:Nat),x0=x0)∧∀(n:Nat) (x:MY),x=x0→(decide (0<(↑(List.map AV.cs a1).length:Int))=true→Zbt a1 fun es=>(∀(c:List D),c∈[(Ze6 x es)]→c.length=1)∧(3:Nat)=(3:Nat)∧(1:Nat)=(1:Nat)∧(↑(1:Nat):Int)*(↑(8:Nat):Int)≤140737488355328∧Zbt a1 fun es_1=>Zbt a1 fun es_2=>((0:Int)≤IntKind.i64.wrap (IntKind.i64.wrap ((↑es_1.length:Int)-1)-(0:Int))∧IntKind.i64.wrap (IntKind.i64.wrap ((↑es_1.length:Int)-1)-(0:Int))<(↑es_2.length:Int))∧∃(cells:List D),es_2[(IntKind.i64.wrap (IntKind.i64.wrap ((↑es_1.length:Int)-1)-(0:Int))).toNat]? = some cells∧Zdz cells fun n_1 n_2 b n_3 b_1=>(↑(List.map AV.cs x.6).length.succ:Int)*(↑(48:Nat):Int)≤140737488355328∧∃(m:Nat),∃(x':MY),m<n∧{tm:=[(1,.d (.sl (List.map AV.cs a1))),(4,.ref 4 0),(8,.d (.v (.bool false))),(9,.ref 9 0),(10,.i x.2),(16,.i (IntKind.i64.wrap (x.4.tmod (4:Int)))),(17,.own 50017),(18,.own 100),(113,.i (↑(List.map AV.cs a1).length:Int)),(114,.i (IntKind.i64.wrap ((0:Int)+1)))],hp:=[(4,.box [.i a3,.i a4,.i a5.1,.i a5.2,.i a6.1.1,.i a6.1.2,.d (.v (.bool a6.2)),.i a6.3,.d (.v (.string a6.4)),.d (.sl (cellsL a7))]),(9,.box [.i x.1.1.1,.i x.1.1.2,.d (.v (.bool x.1.2)),.i x.1.3,.d (.v (.string x.1.4))]),(14,.box [.i x.3.1.1,.i x.3.1.2,.d (.v (.bool x.3.2)),.i x.3.3,.d (.v (.string x.3.4))]),(100,.lst 25 5 (List.map AV.cs x.6++[(Zdq n_1 n_2 b n_3 b_1)])),(50017,.lst 3 1 ([]++[(Ze6 x es)]))],kn:=[],gd:=[]:St}=(Zcr a1 x' a3 a4 a5 a6 a7)∧x'=x0)∧(decide (0<(↑(List.map AV.cs a1).length:Int))=false→∃(e:EX),∃(tq:List Int),Z7 a3 a4 a5 a6 a7 e ([]=List.map (fun(n:Int)=>[D.i n]) tq∧fits e∧tq.length≤17592186043904∧Zer fun op sub t v args=>shiftE tq e=some (EX.mk op sub t v args)∧(((0:Int) != (0:Int))=true→Zcv a9)∧(((0:Int) != (0:Int))=false→∃(e:EX),∃(row:List AV),(Zbs op sub t v args)=cells e∧List.map AV.cs x.6=List.map AV.cs row∧Zde e row fun w f=>((w.1.1==x.1.1.1&&(w.1.2==x.1.1.2&&(w.2==x.1.2&&(w.3==x.1.3&&(w.4==x.1.4&&true)))))=true→a9 [.d (.v (.bool (f==x.2)))] [])∧((w.1.1==x.1.1.1&&(w.1.2==x.1.1.2&&(w.2==x.1.2&&(w.3==x.1.3&&(w.4==x.1.4&&true))))) = !true→Zcv a9)))))
theorem vc1001e(op sub:Int)(t:Ty)(v:Go.Ex.AV)(args:List EX)(row other:List Go.Ex.AV)(a:Int)(Q:KT):vc E_k C_me noI (fx_me op sub t v args row other a) (f3.body.getD .skip) f3.results.toList [.agg (encX op sub t v (cellsL args)),.d (.sl (row.map Go.Ex.AV.cs)),.d (.v (.int .u8 a)),.d (.sl (other.map Go.Ex.AV.cs))] Q=(((!true)=true→Zcv Q)∧(Zd0 op sub t v args row Q fun w f=>(Zdj f op sub t v args fun L=>List.map AV.cs row=[]∧Zej fun es=>D.sl []=D.sl es∧∃(x0:ME0),({tm:=[(1,.d (.sl (List.map AV.cs row))),(2,.d (.v (.int .u8 a))),(3,.d (.sl (List.map AV.cs other))),(4,.ref 4 0),(8,.d (.v (.bool false))),(9,.ref 9 0),(10,.i f),(11,.d (.sl (intsD L))),(12,.d (.sl [])),(39,.i (↑es.length:Int)),(40,.i 0)],hp:=[(4,.box [.i op,.i sub,.i t.1,.i t.2,.i v.1.1,.i v.1.2,.d (.v (.bool v.2)),.i v.3,.d (.v (.string v.4)),.d (.sl (cellsL args))]),(9,.box [.i w.1.1,.i w.1.2,.d (.v (.bool w.2)),.i w.3,.d (.v (.string w.4))])],kn:=[],gd:=[]:St}=(Zd7 row a other x0 op sub t v args)∧∃(n:Nat),x0=x0)∧∀(n:Nat) (x:ME0),x=x0→(decide ((0:Int)<0)=true→Zbt other fun es=>(decide (0<(↑es.length:Int))=true→Zed other fun n_1 n_2=>Zed row fun n_3 n_4=>((n_1==n_3&&(n_2==n_4&&true))=true→Zbd other n row a x op sub t v args x0)∧((n_1==n_3&&(n_2==n_4&&true)) = !true→Zbh other n row a x op sub t v args x0))∧(decide (0<(↑es.length:Int)) = !true→(false=true→Zbd other n row a x op sub t v args x0)∧(false = !true→Zbh other n row a x op sub t v args x0)))∧(decide ((0:Int)<0)=false→Zc2 op sub t v args fun e row_2=>[]=List.map AV.cs row_2∧Zde e row_2 fun w f=>((!(w.1.1==x.1.1.1&&(w.1.2==x.1.1.2&&(w.2==x.1.2&&(w.3==x.1.3&&(w.4==x.1.4&&true))))))=false→((f != x.2)=true→Zcv Q)∧((f != x.2)=false→Zr a row x op sub t v args w Q))∧((!(w.1.1==x.1.1.1&&(w.1.2==x.1.1.2&&(w.2==x.1.2&&(w.3==x.1.3&&(w.4==x.1.4&&true)))))) = !false→(true=true→Zcv Q)∧(true=false→Zr a row x op sub t v args w Q)))))):=by kernel_rfl
theorem ct1001e(G:GlOk gl):∀(e:EX) (other:List Go.Ex.AV) (a:Int),fits e→RowIn other→other.length≤1000000000→0≤a→
  Ct prog gl 3 [.agg (cells e),.d (.sl (([]:List Go.Ex.AV).map Go.Ex.AV.cs)),.d (.v (.int .u8 a)),.d (.sl (other.map Go.Ex.AV.cs))] (gives [.d (.v (.bool true))])
 | .mk op sub t v args,other,a,hf,hio,hol,ha=>by
   have hc:encX op sub t v (cellsL args)=cells (.mk op sub t v args):=(cells_mk _ _ _ _ _).symm
   rw[cells_mk]
   refine ct_of_vc (E:=E_k) E_k_ok (C_me_ok G) ioK_no (fun _ _ _ h=>h.elim) mixed (fn:=f3) (body:=f3.body.getD .skip) (by kernel_rfl) (by kernel_rfl) (by kernel_rfl) (fi:=fx_me op sub t v args [] other a) (by kernel_rfl) (by kernel_rfl) ⟨_,_,rfl,rfl⟩ ?_
   rw[vc1001e];dsimp -eta -iota -proj only[Zcv,Zd0,Zc2,Z7,Z6,Zde,Zdj,Zco,Zej,Zd7,Zbt,Zed,Zcw,Zcd,Zbw,Zbr,Ze0,Zbd,Zdx,Zcx,Zbg,Zdq,Z2,Zbh,Zr,Z3,Zct,Zc9,Zc8,Zc7,Zc6,Zcr,Ze6,Zdz,Zer,Zbs]
   refine⟨fun h=>(by cases h),fun _=>⟨.mk op sub t v args,[],hc,rfl,hf,fun v hv=>(by cases hv),by decide,fun w f hev=>⟨fun _=>⟨rfl,rfl⟩,fun h140=>?_⟩⟩⟩
   have h140:(evalE [] (.mk op sub t v args)).2≠140:=by rw[hev];simpa using h140
   have hmay:=evalE_ne h140
   refine⟨.mk op sub t v args,0,hc,hf,by decide,cols_in hmay.2.1,fun L hpw hmem hLl=>⟨rfl,_,rfl,(⟨w,f,L⟩:ME0),⟨rfl,0,rfl⟩,fun m x hx=>⟨fun h=>absurd h (by decide),fun _=>?_⟩⟩⟩
   subst hx
   refine⟨.mk op sub t v args,[],hc,rfl,hf,fun v hv=>(by cases hv),by decide,fun w' f' hev'=>?_⟩
   rw[hev]at hev'
   cases hev'
   refine⟨fun _=>⟨fun h=>?_,fun _=>?_⟩,fun h=>?_⟩
   ·simp at h
   ·obtain⟨n,hn3,hnw⟩:=wrap_mod ha
    have e0:List.replicate (IntKind.i64.wrap (a.tmod 4)).toNat [D.v (Value.int .i64 0),D.v (Value.int .i64 0),D.v (Value.bool false),D.v (Value.int .i64 0),D.v (Value.string {data:={toList:=[]:Array UInt8}:ByteArray})]=(List.replicate n zeroV).map Go.Ex.AV.cs:=by
       rw[hnw,Int.toNat_natCast,List.map_replicate];rfl
    rw[e0]
    refine⟨by decide,by rw[hnw];omega,Int.le_refl _,by rw[hnw];omega,by rw[hnw];omega,(⟨w,f,w,a,[],List.replicate n zeroV,0⟩:MY),⟨rfl,n,⟨Nat.zero_le _,by simp⟩,⟨rfl,rfl,rfl,rfl,rfl⟩,rfl,by simp⟩,fun m2 (y:MY) hy=>⟨fun hlt2=>?_,fun hge2=>?_⟩⟩
    ·have hlt2:y.i<y.mv.length:=by simpa using hlt2
     obtain⟨⟨y1,y2⟩,⟨y3,y4,y5,y6,y7⟩,y8,y9⟩:=hy
     have y8:y.mv.length=n:=by rw[y8];simp
     have e1:(y.mv.map Go.Ex.AV.cs).set ((y.i:Nat):Int).toNat [D.v (Value.int .i64 2),D.v (Value.int .i64 0),D.v (Value.bool false),D.v (Value.int .i64 (y.i:Int)),D.v (Value.string {data:={toList:=[]:Array UInt8}:ByteArray})]=(y.mv.set y.i (ofI (y.i:Int))).map Go.Ex.AV.cs:=by rw[Int.toNat_natCast,List.map_set];rfl
     have e2:(y.mv.map Go.Ex.AV.cs).length=((y.mv.set y.i (ofI (y.i:Int))).map Go.Ex.AV.cs).length:=by simp
     refine⟨⟨by omega,by rw[List.length_map];omega⟩,rfl,(y.mv[y.i]).cs,by rw[Int.toNat_natCast,List.getElem?_map,List.getElem?_eq_getElem hlt2];rfl,_,rfl,y.mv.length-(y.i+1),{y with mv:=y.mv.set y.i (ofI (y.i:Int)),i:=y.i+1},by omega,?_,⟨by show y.i+1≤(y.mv.set _ _).length;rw[List.length_set];omega,by show _=(y.mv.set _ _).length-_;rw[List.length_set]⟩,⟨y3,y4,y5,y6,y7⟩,by rw[List.length_set,y8];simp,fun v hv=>?_⟩
     ·rw[wrap_next (by omega),e1,e2];rfl
     ·obtain⟨j,hj,rfl⟩:=List.getElem_of_mem hv
      simp only[List.length_take,List.length_set]at hj
      rw[List.getElem_take,List.getElem_set]
      split
      ·exact⟨y.i,by omega,rfl⟩
      ·rename_i hne'
       exact y9 _ (by rw[←List.getElem_take (j:=y.i) (h:=by simp;omega)];exact List.getElem_mem _)
    ·have hge2:¬y.i<y.mv.length:=by simpa using hge2
     obtain⟨⟨y1,y2⟩,⟨y3,y4,y5,y6,y7⟩,y8,y9⟩:=hy
     have y8:y.mv.length=n:=by rw[y8];simp
     rw[List.take_of_length_le (by omega)]at y9
     refine⟨_,rfl,y,⟨rfl,0,rfl⟩,fun m3 z hz=>⟨fun h=>absurd h (by decide),fun _=>?_⟩⟩
     subst hz
     have hbT:=any_badT.1 hmay.1
     obtain⟨e',hs,hev2⟩:=eval_moved2 (tq:=[]) (row':=z.mv) (fun i hi=>absurd hi (Nat.not_lt_zero _)) h140 (fun hb=>any_badV.2 fun v hv=>by
      obtain⟨k,hk,rfl⟩:=y9 v hv;exact(ofI_good hk).1) (any_badT.2 fun v hv=>by
      obtain⟨k,hk,rfl⟩:=y9 v hv;exact(ofI_good hk).2.1)
     have hfe:fits e':=fits_shift' (fun x hx=>by cases hx) hf hs
     rcases e' with⟨op',sub',t',v',l'⟩
     refine⟨.mk op sub t v args,[],hc,rfl,hf,by decide,op',sub',t',v',l',hs,fun h=>(by cases h),fun _=>⟨.mk op' sub' t' v' l',z.mv,(cells_mk _ _ _ _ _).symm,rfl,hfe,fun v hv=>?_,by omega,fun w2 f2 hev3=>?_⟩⟩
     ·obtain⟨k,hk,rfl⟩:=y9 v hv;exact(ofI_good hk).2.2
     ·rw[hev2,hev]at hev3
      cases hev3
      have hzw:z.w=w:=y3
      have hzf:z.f=f:=y4
      rw[hzw,hzf]
      refine⟨fun _=>⟨by rw[beq_self_eq_true],rfl⟩,fun h=>?_⟩
      rw[same_held]at h;cases h
   ·rw[same_held]at h;cases h
theorem ct1001(G:GlOk gl)(e:EX)(row other:List Go.Ex.AV)(a:Int)(hf:fits e)(hi:RowIn row)(hio:RowIn other)(hrl:row.length≤1000000000)(hol:other.length≤1000000000)(ha:0≤a):
  Ct prog gl 3 [.agg (cells e),.d (.sl (row.map Go.Ex.AV.cs)),.d (.v (.int .u8 a)),.d (.sl (other.map Go.Ex.AV.cs))] (gives [.d (.v (.bool true))]):=by
 by_cases hne:row=[]
 ·subst hne;exact ct1001e G e other a hf hio hol ha
 ·exact ct1001a G e row other a hf hne hi hio hrl hol ha
end Go.Proofs.Tryz
