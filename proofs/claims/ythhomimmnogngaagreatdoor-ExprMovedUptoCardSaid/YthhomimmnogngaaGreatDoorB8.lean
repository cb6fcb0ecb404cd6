/- A part of the proof: contracts of functions, by a verified generator of conditions; no condition of its own. -/
import Derived.Test.YthhomimmnogngaaGreatDoorB4
namespace Go.Proofs.Tryz
open Go Go.Dm Go.Ex
set_option maxRecDepth 100000
variable {gl:Nat→Option Obj}
def tyZ(t:Ty):Bool:=t.1==(0:Int)&&(t.2==(0:Int)&&true)
def valZ(v:Go.Ex.AV):Bool:=v.1.1==(0:Int)&&(v.1.2==(0:Int)&&(v.2==false&&(v.3==(0:Int)&&(v.4==({data:={toList:=[]}}:ByteArray)&&true))))
def mayHd(op sub:Int)(t:Ty)(v:Go.Ex.AV)(m c:Int):Bool:=
 bif op==1 then(bif bif bif m==0 then(bif decide (sub≥0)then decide (sub<c)else false)else false then tyZ t else false then valZ v else false)
 else bif op==2 then(bif bif bif m==0 then sub==0 else false then tyZ t else false then s56_0 v.1.1 v.1.2 v.2 v.3 v.4==0 else false)
 else bif op==9 then(bif bif bif m==2 then(bif decide (sub≥1)then decide (sub≤6)else false)else false then tyZ t else false then valZ v else false)
 else bif op==16 then(bif bif bif m==1 then sub==0 else false then s60_0 t.1 t.2==0 else false then valZ v else false)
 else bif (op==8||op==12||op==13||op==18)then(bif bif bif m==1 then sub==0 else false then tyZ t else false then valZ v else false)
 else bif op==14 then(bif bif bif (bif decide (m≥3)then m.tmod 2 != 0 else false)then sub==0 else false then tyZ t else false then valZ v else false)
 else bif op==15 then(bif bif bif decide (m≥1)then sub==0 else false then tyZ t else false then valZ v else false)
 else bif (op==3||op==4||op==5||op==6||op==7||op==10||op==11||op==17)then(bif bif bif m==2 then sub==0 else false then tyZ t else false then valZ v else false)
 else false
mutual
def mayE(c:Int):EX→Bool
 | .mk op sub t v args=>mayHd op sub t v ((cellsL args).length:Int) c&&mayL c args
def mayL(c:Int):List EX→Bool
 |[]=>true
 |e::r=>mayE c e&&mayL c r
end
theorem mayL_all(c:Int):∀l:List EX,mayL c l=l.all (mayE c)
 |[]=>by simp[mayL]
 |e::r=>by simp[mayL,mayL_all c r]
theorem mayL_any(c:Int)(l:List EX):(!mayL c l)=l.any (fun e=>!mayE c e):=by
 rw[mayL_all,List.not_all_eq_any_not]
def c_63(n:Nat)(a:List R)(K:KT):Prop:=match a with
 |[.agg x,.d (.v (.int .i64 c))]=>∃e:EX,x=cells e∧size e<n∧fits e∧K [.d (.v (.bool (mayE c e)))] []
 |_=>False
def C_f126(n:Nat):CallT:=addC C_4e 34 (c_63 n)
def Z6(a0 a1:Int)(a2:Ty)(a3:Go.Ex.AV)(a4:List EX):List D:=[.i a0,.i a1,.i a2.1,.i a2.2,.i a3.1.1,.i a3.1.2,.v (.bool a3.2),.i a3.3,.v (.string a3.4),.sl (cellsL a4)]
def Z7(a0 a1:Int)(a2:Ty)(a3:Go.Ex.AV)(a4:List EX)(a5:EX)(k:Prop):Prop:=(Z6 a0 a1 a2 a3 a4)=cells a5∧k
theorem vc126(n:Nat)(op sub:Int)(t:Ty)(v:Go.Ex.AV)(args:List EX)(c:Int)(Q:KT):vc E_0 (C_f126 n) noI fi59 (f59.body.getD .skip) f59.results.toList [.agg (encX op sub t v (cellsL args)),.ptr [.v (.int .i64 c)]] Q=(∃(n_1:Int),some [D.i c]=some [D.i n_1]∧∃(e:EX),Z7 op sub t v args e (size e<n∧fits e∧Q [.d (.v (.bool !mayE n_1 e))] [])):=by kernel_rfl
def c_126(n:Nat)(a:List R)(K:KT):Prop:=match a with
 |[.agg x,.ptr [.v (.int .i64 c)]]=>∃e:EX,x=cells e∧size e<n∧fits e∧K [.d (.v (.bool (!mayE c e)))] []
 |_=>False
def C_f208(n:Nat):CallT:=addC C_4e 59 (c_126 n)
def st_208(k:Int)(l:List EX)(x:Nat):St:={tm:=[(0,.d (.sl (cellsL l))),(1,.fn 59 [.dptr [.v (.int .i64 k)]]),(4,.d (.v (.int .i64 0))),(7,.d (.v (.int .i64 ((cellsL l).length:Int)))),(8,.d (.v (.int .i64 (x:Int))))],hp:=[],kn:=[],gd:=[]}
def inv_208(k:Int)(l:List EX)(m:Nat)(x:Nat):Prop:=(x≤l.length∧m=l.length-x)∧∀e∈l.take x,(!mayE k e)=false
def fx_208(k:Int)(l:List EX):Fi:={fi93 with lx:=[(2,{X:=Nat,sh:=st_208 k l,P:=fun _=>inv_208 k l})]}
def Zec(a0:List EX)(a1:Int)(a2:Nat):St:={tm:=[(0,.d (.sl (cellsL a0))),(1,.fn (59:Nat) [.dptr [.i a1]]),(4,.i 0),(7,.i (↑(cellsL a0).length:Int)),(8,.i (↑a2:Int))],hp:=[],kn:=[],gd:=[]:St}
theorem vc208(n:Nat)(k:Int)(l:List EX)(Q:KT):vc E_0 (C_f208 n) noI (fx_208 k l) (f93.body.getD .skip) f93.results.toList [.d (.sl (cellsL l)),.fn 59 [.ptr [.v (.int .i64 k)]]] Q=(Zb6 l fun es=>∃(x0:Nat),({tm:=[(0,.d (.sl (cellsL l))),(1,.fn (59:Nat) [.dptr [.i k]]),(4,.i 0),(7,.i (↑es.length:Int)),(8,.i 0)],hp:=[],kn:=[],gd:=[]:St}=(Zec l k x0)∧∃(n:Nat),inv_208 k l n x0)∧∀(n_1:Nat) (x:Nat),inv_208 k l n_1 x→(Zbj x l n fun e=>((!mayE k e)=true→Q [.d (.i (↑x:Int))] [])∧((!mayE k e)=false→Zee n_1 fun m x'=>{tm:=[(0,.d (.sl (cellsL l))),(1,.fn (59:Nat) [.dptr [.i k]]),(4,.i 0),(7,.i (↑(cellsL l).length:Int)),(8,.i (IntKind.i64.wrap ((↑x:Int)+1)))],hp:=[],kn:=[],gd:=[]:St}=(Zec l k x')∧inv_208 k l m x'))∧(decide ((↑x:Int)<(↑(cellsL l).length:Int))=false→Zdp Q)):=by kernel_rfl
def c_208(n:Nat)(a:List R)(K:KT):Prop:=match a with
 |[.d (.sl x),.fn 59 [.ptr [.v (.int .i64 c)]]]=>∃l:List EX,x=cellsL l∧sizeL l<n∧l.length≤1353245080300∧fitsL l∧∀r:Int,decide (r≥0)=(!mayL c l)→K [.d (.v (.int .i64 r))] []
 |_=>False
def C_f125(n:Nat):CallT:=addC C_4e 93 (c_208 n)
theorem vc125(n:Nat)(x:List (List D))(c:Int)(Q:KT):vc E_0 (C_f125 n) noI fi58 (f58.body.getD .skip) f58.results.toList [.d (.sl x),.fn 59 [.ptr [.v (.int .i64 c)]]] Q=(∃(l:List EX),x=cellsL l∧sizeL l<n∧l.length≤1353245080300∧fitsL l∧∀(r:Int),decide (r≥0) = !mayL c l→Q [.d (.v (.bool (decide (r≥0))))] []):=by kernel_rfl
def c_125(n:Nat)(a:List R)(K:KT):Prop:=match a with
 |[.d (.sl x),.fn 59 [.ptr [.v (.int .i64 c)]]]=>∃l:List EX,x=cellsL l∧sizeL l<n∧l.length≤1353245080300∧fitsL l∧K [.d (.v (.bool (!mayL c l)))] []
 |_=>False
def C_f63(n:Nat):CallT:=addC C_4e 58 (c_125 n)
def E_b:Env:={E_0 with bw:=[58]}
theorem E_b_ok:EnvOk prog E_b:=⟨E_ok.te⟩
theorem it_b:ItOk prog E_b:=fun _ _ _ h=>h.elim
def Zb1(a0:List EX)(a1:Nat)(a2:KT)(a3:Int):Prop:=∃(l:List EX),cellsL a0=cellsL l∧sizeL l<a1∧l.length≤1353245080300∧fitsL l∧a2 [.d (.v (.bool !!mayL a3 l))] []
def Zu(a0 a1 a2:Int)(a3:List (List D))(a4 a5:Int)(a6:Ty)(a7:Go.Ex.AV)(a8:List EX)(a9:Nat)(a10:KT)(a11:Int)(k:Prop):Prop:=(a0==a1)=false→((a0==a2)=true→((bif bif bif (↑a3.length:Int)==a4 then a5==0 else false then a6.1==0&&(a6.2==0&&true)else false then a7.1.1==0&&(a7.1.2==0&&(a7.2==false&&(a7.3==0&&(a7.4=={data:={toList:=[]:Array UInt8}:ByteArray}&&true))))else false)=true→Zb1 a8 a9 a10 a11)∧((bif bif bif (↑a3.length:Int)==a4 then a5==0 else false then a6.1==0&&(a6.2==0&&true)else false then a7.1.1==0&&(a7.1.2==0&&(a7.2==false&&(a7.3==0&&(a7.4=={data:={toList:=[]:Array UInt8}:ByteArray}&&true))))else false) = !true→Zcv a10))∧k
theorem vc63(n:Nat)(op sub:Int)(t:Ty)(v:Go.Ex.AV)(args:List EX)(c:Int)(Q:KT):vc E_b (C_f63 n) noI fi34 (f34.body.getD .skip) f34.results.toList [.agg (encX op sub t v (cellsL args)),.d (.v (.int .i64 c))] Q=(Zb6 args fun es=>((op==1)=true→((bif bif bif (↑es.length:Int)==0 then bif decide (sub≥0)then decide (sub<c)else false else false then t.1==0&&(t.2==0&&true)else false then v.1.1==0&&(v.1.2==0&&(v.2==false&&(v.3==0&&(v.4=={data:={toList:=[]:Array UInt8}:ByteArray}&&true))))else false)=true→Zb1 args n Q c)∧((bif bif bif (↑es.length:Int)==0 then bif decide (sub≥0)then decide (sub<c)else false else false then t.1==0&&(t.2==0&&true)else false then v.1.1==0&&(v.1.2==0&&(v.2==false&&(v.3==0&&(v.4=={data:={toList:=[]:Array UInt8}:ByteArray}&&true))))else false) = !true→Zcv Q))∧((op==1)=false→((op==2)=true→((bif bif bif (↑es.length:Int)==0 then sub==0 else false then t.1==0&&(t.2==0&&true)else false then s56_0 v.1.1 v.1.2 v.2 v.3 v.4==0 else false)=true→Zb1 args n Q c)∧((bif bif bif (↑es.length:Int)==0 then sub==0 else false then t.1==0&&(t.2==0&&true)else false then s56_0 v.1.1 v.1.2 v.2 v.3 v.4==0 else false) = !true→Zcv Q))∧((op==2)=false→((op==9)=true→((bif bif bif (↑es.length:Int)==2 then bif decide (sub≥1)then decide (sub≤6)else false else false then t.1==0&&(t.2==0&&true)else false then v.1.1==0&&(v.1.2==0&&(v.2==false&&(v.3==0&&(v.4=={data:={toList:=[]:Array UInt8}:ByteArray}&&true))))else false)=true→Zb1 args n Q c)∧((bif bif bif (↑es.length:Int)==2 then bif decide (sub≥1)then decide (sub≤6)else false else false then t.1==0&&(t.2==0&&true)else false then v.1.1==0&&(v.1.2==0&&(v.2==false&&(v.3==0&&(v.4=={data:={toList:=[]:Array UInt8}:ByteArray}&&true))))else false) = !true→Zcv Q))∧((op==9)=false→((op==16)=true→((bif bif bif (↑es.length:Int)==1 then sub==0 else false then s60_0 t.1 t.2==0 else false then v.1.1==0&&(v.1.2==0&&(v.2==false&&(v.3==0&&(v.4=={data:={toList:=[]:Array UInt8}:ByteArray}&&true))))else false)=true→Zb1 args n Q c)∧((bif bif bif (↑es.length:Int)==1 then sub==0 else false then s60_0 t.1 t.2==0 else false then v.1.1==0&&(v.1.2==0&&(v.2==false&&(v.3==0&&(v.4=={data:={toList:=[]:Array UInt8}:ByteArray}&&true))))else false) = !true→Zcv Q))∧(Zu op (16:Int) (8:Int) es (1:Int) sub t v args n Q c ((Zu op (8:Int) (12:Int) es (1:Int) sub t v args n Q c ((Zu op (12:Int) (13:Int) es (1:Int) sub t v args n Q c ((Zu op (13:Int) (18:Int) es (1:Int) sub t v args n Q c (((op==18)=false→((op==14)=true→(2:Int)≠(0:Int)∧((bif bif bif bif decide ((↑es.length:Int)≥3)then(↑es.length:Int).tmod (2:Int) != (0:Int)else false then sub==0 else false then t.1==0&&(t.2==0&&true)else false then v.1.1==0&&(v.1.2==0&&(v.2==false&&(v.3==0&&(v.4=={data:={toList:=[]:Array UInt8}:ByteArray}&&true))))else false)=true→Zb1 args n Q c)∧((bif bif bif bif decide ((↑es.length:Int)≥3)then(↑es.length:Int).tmod (2:Int) != (0:Int)else false then sub==0 else false then t.1==0&&(t.2==0&&true)else false then v.1.1==0&&(v.1.2==0&&(v.2==false&&(v.3==0&&(v.4=={data:={toList:=[]:Array UInt8}:ByteArray}&&true))))else false) = !true→Zcv Q))∧((op==14)=false→((op==15)=true→((bif bif bif decide ((↑es.length:Int)≥1)then sub==0 else false then t.1==0&&(t.2==0&&true)else false then v.1.1==0&&(v.1.2==0&&(v.2==false&&(v.3==0&&(v.4=={data:={toList:=[]:Array UInt8}:ByteArray}&&true))))else false)=true→Zb1 args n Q c)∧((bif bif bif decide ((↑es.length:Int)≥1)then sub==0 else false then t.1==0&&(t.2==0&&true)else false then v.1.1==0&&(v.1.2==0&&(v.2==false&&(v.3==0&&(v.4=={data:={toList:=[]:Array UInt8}:ByteArray}&&true))))else false) = !true→Zcv Q))∧(Zu op (15:Int) (3:Int) es (2:Int) sub t v args n Q c ((Zu op (3:Int) (4:Int) es (2:Int) sub t v args n Q c ((Zu op (4:Int) (5:Int) es (2:Int) sub t v args n Q c ((Zu op (5:Int) (6:Int) es (2:Int) sub t v args n Q c ((Zu op (6:Int) (7:Int) es (2:Int) sub t v args n Q c ((Zu op (7:Int) (10:Int) es (2:Int) sub t v args n Q c ((Zu op (10:Int) (11:Int) es (2:Int) sub t v args n Q c ((Zu op (11:Int) (17:Int) es (2:Int) sub t v args n Q c (((op==17)=false→((bif bif bif false then sub==0 else false then t.1==0&&(t.2==0&&true)else false then v.1.1==0&&(v.1.2==0&&(v.2==false&&(v.3==0&&(v.4=={data:={toList:=[]:Array UInt8}:ByteArray}&&true))))else false)=true→Zb1 args n Q c)∧((bif bif bif false then sub==0 else false then t.1==0&&(t.2==0&&true)else false then v.1.1==0&&(v.1.2==0&&(v.2==false&&(v.3==0&&(v.4=={data:={toList:=[]:Array UInt8}:ByteArray}&&true))))else false) = !true→Zcv Q)))))))))))))))))))))))))))))))):=by kernel_rfl
def P63(gl:Nat→Option Obj)(n:Nat):Prop:=∀(e:EX) (c:Int),size e<n→fits e→Ct prog gl 34 [.agg (cells e),.d (.v (.int .i64 c))] (gives [.d (.v (.bool (mayE c e)))])
theorem ct126_of{n:Nat}(h63:P63 gl n):∀(e:EX) (c:Int),size e<n→fits e→Ct prog gl 59 [.agg (cells e),.ptr [.v (.int .i64 c)]] (gives [.d (.v (.bool (!mayE c e)))])
 | .mk op sub t v args,c,hs,hf=>by
   have hC:CallsOk prog gl (C_f126 n):=addC_ok C_4e_ok (fun a K hk=>by
    unfold c_63 at hk
    split at hk
    ·obtain⟨e,rfl,h1,h2,h3⟩:=hk
     exact(h63 e _ h1 h2).gives h3
    ·exact hk.elim)
   rw[cells_mk]
   refine ctv hC f59 fi59 ⟨_,_,rfl,rfl⟩ ?_
   rw[vc126];dsimp -eta -iota -proj only[Z7,Z6]
   exact⟨c,rfl,.mk op sub t v args,by rw[cells_mk];rfl,hs,hf,rfl,rfl⟩
theorem ct208_of{n:Nat}(h63:P63 gl n)(l:List EX)(c:Int)(hs:sizeL l<n)(hl:l.length≤1353245080300)(hf:fitsL l):
  Ct prog gl 93 [.d (.sl (cellsL l)),.fn 59 [.ptr [.v (.int .i64 c)]]] (fun res fin=>fin=[]∧∃r:Int,res=[.d (.v (.int .i64 r))]∧decide (r≥0)=(!mayL c l)):=by
 have hC:CallsOk prog gl (C_f208 n):=addC_ok C_4e_ok (fun a K hk=>by
  unfold c_126 at hk
  split at hk
  ·obtain⟨e,rfl,h1,h2,h3⟩:=hk
   exact(ct126_of h63 e _ h1 h2).gives h3
  ·exact hk.elim)
 refine ct_of_vc E_ok hC ioK_no it_ok mixed (fn:=f93) (body:=f93.body.getD .skip) (by kernel_rfl) (by kernel_rfl) (by kernel_rfl) (fi:=fx_208 c l) (by kernel_rfl) (by kernel_rfl) (by
  cases h:mayL c l
  ·exact⟨_,_,rfl,0,rfl,rfl⟩
  ·exact⟨_,_,rfl,-1,rfl,rfl⟩) ?_
 rw[vc208];dsimp -eta -iota -proj only[Zb6,Zej,Zec,Zbj,Zep,Zcf,Z1,Zcs,Zdc,Zee,Zdt,Zdp,Zdn]
 refine⟨_,rfl,(0:Nat),⟨rfl,l.length,⟨Nat.zero_le _,rfl⟩,by simp⟩,fun m (x:Nat) hx=>⟨fun hi=>?_,fun hi=>?_⟩⟩
 ·have hi:x<l.length:=by simpa[cellsL_len]using hi
  obtain⟨op1,sub1,t1,v1,a1,e1,g1⟩:=arg_get hi
  have hm:=hx.1.2
  have hsz:=size_mem (List.getElem_mem hi)
  refine⟨cellsL l,rfl,⟨by omega,by rw[cellsL_len];omega⟩,_,g1,rfl,op1,sub1,t1.k,t1.sc,v1.t.k,v1.t.sc,v1.nul,v1.n,v1.s,cellsL a1,rfl,l[x],by rw[e1,cells_mk];rfl,by omega,fitsL_mem hf (List.getElem_mem hi),fun hb=>?_,fun hb=>?_⟩
  ·refine⟨rfl,(x:Int),rfl,?_⟩
   rw[decide_eq_true (by omega),mayL_any]
   exact(List.any_eq_true.2 ⟨l[x],List.getElem_mem hi,hb⟩).symm
  ·exact⟨l.length-(x+1),x+1,by omega,by rw[wrap_next (by omega)],⟨hi,rfl⟩,any_take (p:=fun e=>!mayE c e) hi hx.2 hb⟩
 ·have hi:¬x<l.length:=by simpa[cellsL_len]using hi
  have h:=hx.2
  rw[List.take_of_length_le (by omega)]at h
  refine⟨rfl,-1,rfl,?_⟩
  rw[mayL_any,any_none h];rfl
theorem ct125_of{n:Nat}(h63:P63 gl n)(l:List EX)(c:Int)(hs:sizeL l<n)(hl:l.length≤1353245080300)(hf:fitsL l):
  Ct prog gl 58 [.d (.sl (cellsL l)),.fn 59 [.ptr [.v (.int .i64 c)]]] (gives [.d (.v (.bool (!mayL c l)))]):=by
 have hC:CallsOk prog gl (C_f125 n):=addC_ok C_4e_ok (fun a K hk=>by
  unfold c_208 at hk
  split at hk
  ·obtain⟨l,rfl,h1,h2,h3,h4⟩:=hk
   exact(ct208_of h63 l _ h1 h2 h3).mono fun res fin ⟨e1,r,e2,e3⟩=>by subst e1;subst e2;exact h4 r e3
  ·exact hk.elim)
 refine ctv hC f58 fi58 ⟨_,_,rfl,rfl⟩ ?_
 rw[vc125]
 exact⟨l,rfl,hs,hl,hf,fun r hr=>⟨by rw[hr],rfl⟩⟩
theorem ct63_of{n:Nat}(h63:P63 gl n):∀(e:EX) (c:Int),size e<n+1→fits e→Ct prog gl 34 [.agg (cells e),.d (.v (.int .i64 c))] (gives [.d (.v (.bool (mayE c e)))])
 | .mk op sub t v args,c,hs,hf=>by
   have hC:CallsOk prog gl (C_f63 n):=addC_ok C_4e_ok (fun a K hk=>by
    unfold c_125 at hk
    split at hk
    ·obtain⟨l,rfl,h1,h2,h3,h4⟩:=hk
     exact(ct125_of h63 l _ h1 h2 h3).gives h4
    ·exact hk.elim)
   rw[cells_mk]
   refine ct_of_vc E_b_ok hC ioK_no it_b mixed (fn:=f34) (body:=f34.body.getD .skip) (by kernel_rfl) (by kernel_rfl) (by kernel_rfl) (fi:=fi34) (by kernel_rfl) (by kernel_rfl) ⟨_,_,rfl,rfl⟩ ?_
   rw[vc63];dsimp -eta -iota -proj only[Zb6,Zej,Zb1,Zcv,Zu]
   obtain⟨_,hl,hfl⟩:=fits_mk hf
   simp only[size]at hs
   have hs':sizeL args<n:=by omega
   refine⟨cellsL args,rfl,?_⟩
   have two:(2:Int)≠0:=by decide
   have leaf:∀b:Bool,mayE c (.mk op sub t v args)=b→gives [.d (.v (.bool (mayE c (.mk op sub t v args))))] [R.d (D.v (Value.bool b))] []:=fun b h=>by rw[h];exact⟨rfl,rfl⟩
   repeat' first|(refine And.intro (fun h=>?_) (fun h=>?_))|(refine And.intro two ?_)|fail
   all_goals first
    |(exfalso;rename_i h;simp only[cond_false]at h;cases h;done)
    |(refine⟨args,rfl,hs',hl,hfl,leaf _ ?_⟩;simp only[mayE,mayHd,tyZ,valZ, *,cond_true,cond_false,Bool.not_not,Bool.true_and,Bool.or_true,Bool.true_or,Bool.or_false,Bool.false_or])
    |(refine leaf _ ?_;simp only[mayE,mayHd,tyZ,valZ, *,cond_true,cond_false,Bool.not_true,Bool.false_and,Bool.or_true,Bool.true_or,Bool.or_false,Bool.false_or])
theorem ct63:∀n:Nat,P63 gl n
 |0=>fun e c h=>absurd h (Nat.not_lt_zero _)
 |n+1=>fun e c h hf=>ct63_of (ct63 n) e c h hf
end Go.Proofs.Tryz
namespace Go.Proofs.Tryz
open Go Go.Dm Go.Ex
set_option maxRecDepth 100000
variable {gl:Nat→Option Obj}
def cstep(a:Ty×Bool)(u:Ty):Ty×Bool:=
 bif u.k==a.1.k&&(u.sc==a.1.sc&&true)then a
 else bif (bif s130_0 u.k u.sc then s130_0 a.1.k a.1.sc else false)then(⟨3,if u.sc>a.1.sc then u.sc else a.1.sc⟩,a.2)
 else(a.1,false)
def cfold(a:Ty)(r:List Ty):Ty×Bool:=r.foldl cstep (a,true)
def st_131(a:Ty)(r:List Ty)(x:Nat):St:={tm:=[(2,.ref 2 0),(3,.d (.v (.bool false))),(4,.ref 4 0),(5,.d (.v (.bool (cfold a (r.take x)).2))),(12,.d (.sl (r.map Ty.cs))),(13,.d (.v (.int .i64 ((r.map Ty.cs).length:Int)))),(14,.d (.v (.int .i64 (x:Int))))],hp:=[(2,.box [.d (.v (.int .i64 0)),.d (.v (.int .i64 0))]),(4,.box [.d (.v (.int .i64 (cfold a (r.take x)).1.k)),.d (.v (.int .i64 (cfold a (r.take x)).1.sc))])],kn:=[],gd:=[]}
def inv_m{α:Type}(l:List α)(m:Nat)(x:Nat):Prop:=x≤l.length∧m=l.length-x
def fx_131(a:Ty)(r:List Ty):Fi:={fi64 with lx:=[(4,{X:=Nat,sh:=st_131 a r,P:=fun _=>inv_m r})]}
def Zcd(a0:Int)(a1:List (List D))(k:(List D)→Prop):Prop:=(0≤a0∧a0<(↑a1.length:Int))∧∃(cells:List D),a1[Int.toNat a0]? = some cells∧k cells
def Zcw(a0:List (List D))(a1:Nat)(k:Int→Int→Prop):Prop:=Zcd (0:Int) a0 fun cells=>Zbw cells a1 fun n n_1=>k n n_1
def Zeg(a0:Int)(a1:Nat)(k:Prop):Prop:=V.i a0=V.i (↑a1:Int)∧k
def Zem(a0:Int)(k:Nat→Nat→Prop):Prop:=Zdt fun l h=>Zeg a0 l (k l h)
def Zbo(a0:Ty)(a1:Nat)(a2:List Ty):St:={tm:=[(2,.ref 2 0),(3,.d (.v (.bool false))),(4,.ref 4 0),(5,.d (.v (.bool (cfold a0 (List.take a1 a2)).2))),(12,.d (.sl (List.map Ty.cs a2))),(13,.i (↑(List.map Ty.cs a2).length:Int)),(14,.i (↑a1:Int))],hp:=[(2,.box [.i 0,.i 0]),(4,.box [.d (.v (.int .i64 (cfold a0 (List.take a1 a2)).1.1)),.d (.v (.int .i64 (cfold a0 (List.take a1 a2)).1.2))])],kn:=[],gd:=[]:St}
theorem vc131(a:Ty)(r:List Ty)(Q:KT):vc E_0 C_4e noI (fx_131 a r) (f64.body.getD .skip) f64.results.toList [.d (.sl ((a::r).map Ty.cs))] Q=(Zej fun es=>D.sl (a.cs::List.map Ty.cs r)=D.sl es∧Zcw es (2:Nat) fun n n_1=>Zej fun es=>D.sl (a.cs::List.map Ty.cs r)=D.sl es∧Zem (1:Int) fun l h=>h=es.length∧l≤h∧h≤es.length∧(∀(c:List D),c∈es→c.length=2)∧Zej fun es_1=>D.sl (List.drop l (List.take h es))=D.sl es_1∧∃(x0:Nat),({tm:=[(2,.ref 2 0),(3,.d (.v (.bool false))),(4,.ref 4 0),(5,.d (.v (.bool true))),(12,.d (.sl (List.drop l (List.take h es)))),(13,.i (↑es_1.length:Int)),(14,.i 0)],hp:=[(2,.box [.i 0,.i 0]),(4,.box [.i n,.i n_1])],kn:=[],gd:=[]:St}=(Zbo a x0 r)∧∃(n:Nat),inv_m r n x0)∧∀(n:Nat) (x:Nat),inv_m r n x→(Zcg x r fun n_2 n_3=>((n_2==(cfold a (List.take x r)).1.1&&(n_3==(cfold a (List.take x r)).1.2&&true))=true→Zee n fun m x'=>{tm:=[(2,.ref 2 0),(3,.d (.v (.bool false))),(4,.ref 4 0),(5,.d (.v (.bool (cfold a (List.take x r)).2))),(12,.d (.sl (List.map Ty.cs r))),(13,.i (↑(List.map Ty.cs r).length:Int)),(14,.i (IntKind.i64.wrap ((↑x:Int)+1)))],hp:=[(2,.box [.i 0,.i 0]),(4,.box [.d (.v (.int .i64 (cfold a (List.take x r)).1.1)),.d (.v (.int .i64 (cfold a (List.take x r)).1.2))])],kn:=[],gd:=[]:St}=(Zbo a x' r)∧inv_m r m x')∧((n_2==(cfold a (List.take x r)).1.1&&(n_3==(cfold a (List.take x r)).1.2&&true))=false→((bif s130_0 n_2 n_3 then s130_0 (cfold a (List.take x r)).1.1 (cfold a (List.take x r)).1.2 else false)=true→Zee n fun m x'=>{tm:=[(2,.ref 2 0),(3,.d (.v (.bool false))),(4,.ref 4 0),(5,.d (.v (.bool (cfold a (List.take x r)).2))),(12,.d (.sl (List.map Ty.cs r))),(13,.i (↑(List.map Ty.cs r).length:Int)),(14,.i (IntKind.i64.wrap ((↑x:Int)+1)))],hp:=[(2,.box [.i 0,.i 0]),(4,.box [.i 3,.i (if n_3>(cfold a (List.take x r)).1.2 then n_3 else(cfold a (List.take x r)).1.2)])],kn:=[],gd:=[]:St}=(Zbo a x' r)∧inv_m r m x')∧((bif s130_0 n_2 n_3 then s130_0 (cfold a (List.take x r)).1.1 (cfold a (List.take x r)).1.2 else false)=false→Zee n fun m x'=>{tm:=[(2,.ref 2 0),(3,.d (.v (.bool false))),(4,.ref 4 0),(5,.d (.v (.bool false))),(12,.d (.sl (List.map Ty.cs r))),(13,.i (↑(List.map Ty.cs r).length:Int)),(14,.i (IntKind.i64.wrap ((↑x:Int)+1)))],hp:=[(2,.box [.i 0,.i 0]),(4,.box [.d (.v (.int .i64 (cfold a (List.take x r)).1.1)),.d (.v (.int .i64 (cfold a (List.take x r)).1.2))])],kn:=[],gd:=[]:St}=(Zbo a x' r)∧inv_m r m x')))∧(decide ((↑x:Int)<(↑(List.map Ty.cs r).length:Int))=false→Q [.agg [.v (.int .i64 (cfold a (List.take x r)).1.1),.v (.int .i64 (cfold a (List.take x r)).1.2)],.d (.v (.bool (cfold a (List.take x r)).2))] [])):=by kernel_rfl
def oddsT(l:List Ty)(j:Nat):List Ty:=(List.range j).map fun k=>l.getD (2*k+1) ⟨0,0⟩
def resultsE(op:Int)(l:List Ty):List Ty:=if op=15 then l else oddsT l (l.length/2)++[l.getD (l.length-1) ⟨0,0⟩]
def st_132(op sub:Int)(t:Ty)(v:Go.Ex.AV)(args:List EX)(l:List Ty)(x:Nat):St:={tm:=[(1,.d (.sl (l.map Ty.cs))),(4,.nil),(5,.own 50005),(6,.d (.v (.int .i64 (2*(x:Int)+1))))],hp:=[(2,.box [.d (.v (.int .i64 op)),.d (.v (.int .i64 sub)),.d (.v (.int .i64 t.k)),.d (.v (.int .i64 t.sc)),.d (.v (.int .i64 v.t.k)),.d (.v (.int .i64 v.t.sc)),.d (.v (.bool v.nul)),.d (.v (.int .i64 v.n)),.d (.v (.string v.s)),.d (.sl (cellsL args))]),(50005,.lst 23 2 ((oddsT l x).map Ty.cs))],kn:=[],gd:=[]}
def inv_132(l:List Ty)(m:Nat)(x:Nat):Prop:=x≤l.length/2∧m=l.length-x
def fx_132(op sub:Int)(t:Ty)(v:Go.Ex.AV)(args:List EX)(l:List Ty):Fi:={fi65 with cv:=[(5,[⟨none,5,50005,23,2⟩])],lx:=[(5,{X:=Nat,sh:=st_132 op sub t v args l,P:=fun _=>inv_132 l})]}
def Zdh(a0:List Ty)(a1:Nat)(a2 a3:Int)(a4:Ty)(a5:Go.Ex.AV)(a6:List EX):St:={tm:=[(1,.d (.sl (List.map Ty.cs a0))),(4,.nil),(5,.own 50005),(6,.i ((2:Int)*(↑a1:Int)+1))],hp:=[(2,.box [.i a2,.i a3,.i a4.1,.i a4.2,.i a5.1.1,.i a5.1.2,.d (.v (.bool a5.2)),.i a5.3,.d (.v (.string a5.4)),.d (.sl (cellsL a6))]),(50005,.lst 23 2 (List.map Ty.cs (oddsT a0 a1)))],kn:=[],gd:=[]:St}
def Zfa(a0 a1:Int):Prop:=∀(c:List D),c∈[(Ze0 a0 a1)]→c.length=2
def Zcp(a0 a1:List (List D))(k:(List D)→Prop):Prop:=((0:Int)≤IntKind.i64.wrap ((↑a0.length:Int)-1)∧IntKind.i64.wrap ((↑a0.length:Int)-1)<(↑a1.length:Int))∧∃(cells:List D),a1[(IntKind.i64.wrap ((↑a0.length:Int)-1)).toNat]? = some cells∧k cells
def Zc5(a0:List Ty)(k:Int→Int→Prop):Prop:=Zc1 a0 fun es=>Zc1 a0 fun es_1=>Zcp es es_1 fun cells=>Zbw cells (2:Nat) fun n n_1=>k n n_1
theorem vc132(op sub:Int)(t:Ty)(v:Go.Ex.AV)(args:List EX)(l:List Ty)(Q:KT):vc E_0 C_4e noI (fx_132 op sub t v args l) (f65.body.getD .skip) f65.results.toList [.agg (encX op sub t v (cellsL args)),.d (.sl (l.map Ty.cs))] Q=(((op==15)=true→Q [.d (.sl (List.map Ty.cs l))] [])∧((op==15)=false→∃(x0:Nat),({tm:=[(1,.d (.sl (List.map Ty.cs l))),(4,.nil),(5,.own 50005),(6,.i 1)],hp:=[(2,.box [.i op,.i sub,.i t.1,.i t.2,.i v.1.1,.i v.1.2,.d (.v (.bool v.2)),.i v.3,.d (.v (.string v.4)),.d (.sl (cellsL args))]),(50005,.lst 23 2 [])],kn:=[],gd:=[]:St}=(Zdh l x0 op sub t v args)∧∃(n:Nat),inv_132 l n x0)∧∀(n:Nat) (x:Nat),inv_132 l n x→Zc1 l fun es=>(decide ((2:Int)*(↑x:Int)+1<(↑es.length:Int))=true→Zc1 l fun es=>((0:Int)≤2*(↑x:Int)+1∧(2:Int)*(↑x:Int)+1<(↑es.length:Int))∧∃(cells:List D),es[((2:Int)*(↑x:Int)+1).toNat]? = some cells∧Zbw cells (2:Nat) fun n_1 n_2=>(Zfa n_1 n_2)∧(23:Nat)=(23:Nat)∧(2:Nat)=(2:Nat)∧(↑(List.map Ty.cs (oddsT l x)).length.succ:Int)*(↑(16:Nat):Int)≤140737488355328∧Zee n fun m x'=>{tm:=[(1,.d (.sl (List.map Ty.cs l))),(4,.nil),(5,.own 50005),(6,.i (IntKind.i64.wrap ((2:Int)*(↑x:Int)+1+(2:Int))))],hp:=[(2,.box [.i op,.i sub,.i t.1,.i t.2,.i v.1.1,.i v.1.2,.d (.v (.bool v.2)),.i v.3,.d (.v (.string v.4)),.d (.sl (cellsL args))]),(50005,.lst 23 2 (List.map Ty.cs (oddsT l x)++[(Ze0 n_1 n_2)]))],kn:=[],gd:=[]:St}=(Zdh l x' op sub t v args)∧inv_132 l m x')∧(decide ((2:Int)*(↑x:Int)+1<(↑es.length:Int))=false→Zc5 l fun n n_1=>(Zfa n n_1)∧(23:Nat)=(23:Nat)∧(2:Nat)=(2:Nat)∧(↑(List.map Ty.cs (oddsT l x)).length.succ:Int)*(↑(16:Nat):Int)≤140737488355328∧Q [.d (.sl (List.map Ty.cs (oddsT l x)++[(Ze0 n n_1)]))] []))):=by kernel_rfl
def arithE(op:Int)(a b:Ty)(ints:Bool):Ty×Bool:=
 bif ints then(⟨2,0⟩,true)
 else bif (bif op==6 then true else op==7)then(⟨0,0⟩,false)
 else bif op==8 then(a,s130_0 a.k a.sc)
 else bif (bif (bif s130_0 a.k a.sc then s130_0 b.k b.sc else false)then op==5 else false)then(⟨3,IntKind.i64.wrap (a.sc+b.sc)⟩,decide (IntKind.i64.wrap (a.sc+b.sc)≤18))
 else bif (bif s130_0 a.k a.sc then s130_0 b.k b.sc else false)then(⟨3,if b.sc>a.sc then b.sc else a.sc⟩,true)
 else bif op==5 then(⟨0,0⟩,false)
 else bif (bif (bif op==4 then a.k==5&&(a.sc==0&&true)else false)then b.k==5&&(b.sc==0&&true)else false)then(⟨2,0⟩,true)
 else(⟨5,0⟩,bif (bif a.k==5&&(a.sc==0&&true)then b.k==2&&(b.sc==0&&true)else false)then true else bif (bif op==3 then a.k==2&&(a.sc==0&&true)else false)then b.k==5&&(b.sc==0&&true)else false)
def Zen(a0:Int):List D:=[.i a0,.i 0]
def Ze3:List R:=[.agg (Zen (0:Int)),.d (.v (.bool false))]
def Zbk(a0:Bool)(a1:KT)(a2 a3 a4 a5 a6:Int):Prop:=(a0=true→a1 [.agg (Zen (2:Int)),.d (.v (.bool true))] [])∧(a0=false→((bif a2==6 then true else a2==7)=true→a1 Ze3 [])∧((bif a2==6 then true else a2==7)=false→((a2==8)=true→a1 [.agg (Ze0 a3 a4),.d (.v (.bool (s130_0 a3 a4)))] [])∧((a2==8)=false→((bif bif s130_0 a3 a4 then s130_0 a5 a6 else false then a2==5 else false)=true→a1 [.agg [.i 3,.i (IntKind.i64.wrap (a4+a6))],.d (.v (.bool (decide (IntKind.i64.wrap (a4+a6)≤(18:Int)))))] [])∧((bif bif s130_0 a3 a4 then s130_0 a5 a6 else false then a2==5 else false)=false→((bif s130_0 a3 a4 then s130_0 a5 a6 else false)=true→a1 [.agg [.i 3,.i (if a6>a4 then a6 else a4)],.d (.v (.bool true))] [])∧((bif s130_0 a3 a4 then s130_0 a5 a6 else false)=false→((a2==5)=true→a1 Ze3 [])∧((a2==5)=false→((bif bif a2==4 then a3==5&&(a4==0&&true)else false then a5==5&&(a6==0&&true)else false)=true→a1 [.agg (Zen (2:Int)),.d (.v (.bool true))] [])∧((bif bif a2==4 then a3==5&&(a4==0&&true)else false then a5==5&&(a6==0&&true)else false)=false→a1 [.agg (Zen (5:Int)),.d (.v (.bool (bif bif a3==5&&(a4==0&&true)then a5==2&&(a6==0&&true)else false then true else bif bif a2==3 then a3==2&&(a4==0&&true)else false then a5==5&&(a6==0&&true)else false)))] [])))))))
theorem vc133(op:Int)(l:List Ty)(b:Bool)(Q:KT):vc E_0 C_4e noI fi66 (f66.body.getD .skip) f66.results.toList [.d (.v (.int .i64 op)),.d (.sl (l.map Ty.cs)),.d (.v (.bool b))] Q=(Zc1 l fun es=>Zcw es (2:Nat) fun n n_1=>Zc5 l fun n_2 n_3=>(Zbk b Q op n n_1 n_2 n_3)∧Zbk b Q op n n_1 n_2 n_3):=by kernel_rfl
def E_7:Env:={E_0 with bw:=[29]}
theorem vc127(l:List (List D))(k:Int)(Q:KT):vc E_7 C_4e noI fi60 (f60.body.getD .skip) f60.results.toList [.d (.v (.int .i64 k)),.ptr [.sl l]] Q=(Zej fun es=>some [D.sl l]=some [D.sl es]∧Zet es fun l=>Q [.d (.v (.bool !l.any (offK k)))] []):=by kernel_rfl
theorem ty_get{l:List Ty}{i:Nat}(hi:i<l.length):(l.map Ty.cs)[i]? = some (Ty.cs l[i]):=by simp[hi]
theorem ty_all(l:List Ty):∀c∈l.map Ty.cs,c.length=2:=by
 intro c hc
 obtain⟨t,_,rfl⟩:=List.mem_map.1 hc;rfl
theorem cfold_next{a:Ty}{r:List Ty}{x:Nat}(hi:x<r.length):cfold a (r.take (x+1))=cstep (cfold a (r.take x)) r[x]:=by
 unfold cfold
 rw[List.take_add_one,List.getElem?_eq_getElem hi,List.foldl_append]
 rfl
theorem ct131(a:Ty)(r:List Ty)(hl:r.length<4611686018427387904):Ct prog gl 64 [.d (.sl ((a::r).map Ty.cs))] (gives [.agg (cfold a r).1.cs,.d (.v (.bool (cfold a r).2))]):=by
 refine ct_of_vc E_ok C_4e_ok ioK_no it_ok mixed (fn:=f64) (body:=f64.body.getD .skip) (by kernel_rfl) (by kernel_rfl) (by kernel_rfl) (fi:=fx_131 a r) (by kernel_rfl) (by kernel_rfl) ⟨_,_,rfl,rfl⟩ ?_
 rw[vc131];dsimp -eta -iota -proj only[Zej,Zcw,Zcd,Zbw,Zbr,Ze0,Zem,Zdt,Zeg,Zbo,Zcg,Zc1,Zcf,Zee]
 have hd:List.drop 1 (List.take (Ty.cs a::List.map Ty.cs r).length (Ty.cs a::List.map Ty.cs r))=r.map Ty.cs:=by rw[List.take_length];rfl
 refine⟨_,rfl,⟨by decide,by rw[List.length_cons];omega⟩,Ty.cs a,rfl,rfl,a.k,a.sc,rfl,_,rfl,1,_,rfl,rfl,by simp,Nat.le_refl _,ty_all (a::r),r.map Ty.cs,by rw[hd],(0:Nat),⟨by rw[hd];rfl,r.length,Nat.zero_le _,rfl⟩,fun m (x:Nat) hx=>⟨fun hi=>?_,fun hi=>?_⟩⟩
 ·have hi:x<r.length:=by simpa using hi
  have hg:=ty_get hi
  have hm:=hx.2
  have e0:=cfold_next (a:=a) hi
  unfold cstep at e0
  refine⟨_,rfl,⟨by omega,by simpa using hi⟩,_,hg,rfl,r[x].k,r[x].sc,rfl,fun h=>?_,fun h=>⟨fun h2=>?_,fun h2=>?_⟩⟩
  ·have h':(r[x].k==(cfold a (r.take x)).1.k&&(r[x].sc==(cfold a (r.take x)).1.sc&&true))=true:=h
   rw[h',cond_true]at e0
   exact⟨r.length-(x+1),x+1,by omega,by rw[e0,wrap_next (by omega)],hi,rfl⟩
  ·have h':(r[x].k==(cfold a (r.take x)).1.k&&(r[x].sc==(cfold a (r.take x)).1.sc&&true))=false:=h
   have h2':(bif s130_0 r[x].k r[x].sc then s130_0 (cfold a (r.take x)).1.k (cfold a (r.take x)).1.sc else false)=true:=h2
   rw[h',cond_false,h2',cond_true]at e0
   exact⟨r.length-(x+1),x+1,by omega,by rw[e0,wrap_next (by omega)],hi,rfl⟩
  ·have h':(r[x].k==(cfold a (r.take x)).1.k&&(r[x].sc==(cfold a (r.take x)).1.sc&&true))=false:=h
   have h2':(bif s130_0 r[x].k r[x].sc then s130_0 (cfold a (r.take x)).1.k (cfold a (r.take x)).1.sc else false)=false:=h2
   rw[h',cond_false,h2',cond_false]at e0
   exact⟨r.length-(x+1),x+1,by omega,by rw[e0,wrap_next (by omega)],hi,rfl⟩
 ·have hi:¬x<r.length:=by simpa using hi
  rw[List.take_of_length_le (by omega)]
  exact⟨rfl,rfl⟩
theorem odds_next{l:List Ty}{x:Nat}(hi:2*x+1<l.length):(oddsT l x).map Ty.cs++[Ty.cs l[2*x+1]]=(oddsT l (x+1)).map Ty.cs:=by
 unfold oddsT
 rw[List.range_succ,List.map_append,List.map_append]
 simp only[List.map_cons,List.map_nil,List.getD_eq_getElem?_getD,List.getElem?_eq_getElem hi,Option.getD_some]
theorem ct132(op sub:Int)(t:Ty)(v:Go.Ex.AV)(args:List EX)(l:List Ty)(hl:l.length≤1353245080300)(hn:l≠[]):Ct prog gl 65 [.agg (encX op sub t v (cellsL args)),.d (.sl (l.map Ty.cs))] (gives [.d (.sl ((resultsE op l).map Ty.cs))]):=by
 refine ct_of_vc E_ok C_4e_ok ioK_no it_ok mixed (fn:=f65) (body:=f65.body.getD .skip) (by kernel_rfl) (by kernel_rfl) (by kernel_rfl) (fi:=fx_132 op sub t v args l) (by kernel_rfl) (by kernel_rfl) ⟨_,_,rfl,rfl⟩ ?_
 rw[vc132];dsimp -eta -iota -proj only[Zdh,Zc1,Zej,Zbw,Zbr,Ze0,Zfa,Zee,Zdt,Zc5,Zcp]
 have hpos:0<l.length:=List.length_pos_iff.2 hn
 refine⟨fun ho=>?_,fun ho=>⟨(0:Nat),⟨rfl,l.length,Nat.zero_le _,rfl⟩,fun m (x:Nat) hx=>⟨_,rfl,fun hi=>?_,fun hi=>?_⟩⟩⟩
 ·have ho:op=15:=by simpa using ho
  unfold resultsE
  rw[if_pos ho]
  exact⟨rfl,rfl⟩
 ·have hi:2*x+1<l.length:=by
   have:=of_decide_eq_true hi
   rw[List.length_map]at this
   omega
  have hg:=ty_get hi
  have hi':(2*(x:Int)+1).toNat=2*x+1:=by omega
  have hm:=hx.2
  refine⟨_,rfl,⟨by omega,by rw[List.length_map];omega⟩,_,(by rw[hi'];exact hg),rfl,l[2*x+1].k,l[2*x+1].sc,rfl,by simp,rfl,rfl,?_,l.length-(x+1),x+1,by omega,?_,by show x+1≤l.length/2;omega,rfl⟩
  ·rw[List.length_map];simp only[oddsT,List.length_map,List.length_range];omega
  ·have w:IntKind.i64.wrap (2*((x:Nat):Int)+1+2)=2*((x+1:Nat):Int)+1:=by rw[wrap_i64_of (by omega) (by omega)];omega
   rw[w,←odds_next hi]
 ·have hi:¬2*x+1<l.length:=by
   have:=of_decide_eq_false hi
   rw[List.length_map]at this
   omega
  have ho:op≠15:=by simpa using ho
  have hx1:x=l.length/2:=by have:=hx.1;omega
  have hlt:l.length-1<l.length:=by omega
  have hg:=ty_get hlt
  have w:IntKind.i64.wrap (((List.map Ty.cs l).length:Int)-1)=((l.length-1:Nat):Int):=by rw[List.length_map,wrap_i64_of (by omega) (by omega)];omega
  refine⟨_,rfl,_,rfl,⟨by rw[w];omega,by rw[w,List.length_map];omega⟩,_,(by rw[w,Int.toNat_natCast];exact hg),rfl,l[l.length-1].k,l[l.length-1].sc,rfl,by simp,rfl,rfl,?_,?_,rfl⟩
  ·rw[List.length_map];simp only[oddsT,List.length_map,List.length_range];omega
  ·unfold resultsE
   rw[if_neg ho,←hx1,List.map_append]
   simp only[List.map_cons,List.map_nil,List.getD_eq_getElem?_getD,List.getElem?_eq_getElem hlt,Option.getD_some]
theorem ct133(op:Int)(l:List Ty)(b:Bool)(x y:Ty)(hx:l[0]? = some x)(hy:l[l.length-1]? = some y)(hl:l.length≤1353245080300):Ct prog gl 66 [.d (.v (.int .i64 op)),.d (.sl (l.map Ty.cs)),.d (.v (.bool b))] (gives [.agg (arithE op x y b).1.cs,.d (.v (.bool (arithE op x y b).2))]):=by
 refine ctv C_4e_ok f66 fi66 ⟨_,_,rfl,rfl⟩ ?_
 rw[vc133];dsimp -eta -iota -proj only[Zc1,Zej,Zcw,Zcd,Zbw,Zbr,Ze0,Zc5,Zcp,Zbk,Zen,Ze3]
 have h0:=(List.getElem?_eq_some_iff.1 hx).1
 have w:IntKind.i64.wrap (((List.map Ty.cs l).length:Int)-1)=((l.length-1:Nat):Int):=by rw[List.length_map,wrap_i64_of (by omega) (by omega)];omega
 have g0:(l.map Ty.cs)[Int.toNat 0]? = some (Ty.cs x):=by
  show(l.map Ty.cs)[0]? = _
  rw[List.getElem?_map,hx];rfl
 have g1:(l.map Ty.cs)[(IntKind.i64.wrap (((List.map Ty.cs l).length:Int)-1)).toNat]? = some (Ty.cs y):=by
  rw[w,Int.toNat_natCast,List.getElem?_map,hy];rfl
 have fin:∀(a a':Int) (c:Bool),arithE op x y b=(⟨a,a'⟩,c)→gives [.agg (arithE op x y b).1.cs,.d (.v (.bool (arithE op x y b).2))] [R.agg [D.v (Value.int IntKind.i64 a),D.v (Value.int IntKind.i64 a')],R.d (D.v (Value.bool c))] []:=fun a a' c h=>by rw[h];exact⟨rfl,rfl⟩
 refine⟨_,rfl,⟨by decide,by rw[List.length_map];omega⟩,_,g0,rfl,x.k,x.sc,rfl,_,rfl,_,rfl,⟨by rw[w];omega,by rw[w,List.length_map];omega⟩,_,g1,rfl,y.k,y.sc,rfl,?_⟩
 repeat' first|(refine And.intro (fun h=>?_) (fun h=>?_))|(refine And.intro ?_ (And.intro (fun h=>?_) (fun h=>?_)))|fail
 all_goals(refine fin _ _ _ ?_;clear fin;first|(simp only[arithE, *,cond_true,cond_false];done)|(simp_all only[arithE,cond_true,cond_false];done))
theorem ct127(l:List Ty)(k:Int)(hl:l.length<4611686018427387904):Ct prog gl 60 [.d (.v (.int .i64 k)),.ptr [.sl (l.map Ty.cs)]] (gives [.d (.v (.bool (!l.any (offK k))))]):=by
 refine ct_of_vc (E:=E_7) ⟨E_ok.te⟩ C_4e_ok ioK_no (fun _ _ _ h=>h.elim) mixed (fn:=f60) (body:=f60.body.getD .skip) (by kernel_rfl) (by kernel_rfl) (by kernel_rfl) (fi:=fi60) (by kernel_rfl) (by kernel_rfl) ⟨_,_,rfl,rfl⟩ ?_
 rw[vc127];dsimp -eta -iota -proj only[Zej,Zet]
 exact⟨_,rfl,l,rfl,hl,rfl,rfl⟩
end Go.Proofs.Tryz
namespace Go.Proofs.Tryz
open Go Go.Dm Go.Ex
set_option maxRecDepth 100000
variable {gl:Nat→Option Obj}
def c_127(a:List R)(K:KT):Prop:=match a with
 |[.d (.v (.int .i64 k)),.ptr [.sl x]]=>∃l:List Ty,x=l.map Ty.cs∧l.length<4611686018427387904∧K [.d (.v (.bool (!l.any (offK k))))] []
 |_=>False
theorem c_127_ok(a:List R)(K:KT)(h:c_127 a K):Ct prog gl 60 a K:=by
 unfold c_127 at h
 split at h
 ·obtain⟨l,rfl,h1,h2⟩:=h
  exact(ct127 l _ h1).gives h2
 ·exact h.elim
def c_131(a:List R)(K:KT):Prop:=match a with
 |[.d (.sl x)]=>∃(a:Ty) (r:List Ty),x=(a::r).map Ty.cs∧r.length<4611686018427387904∧K [.agg (cfold a r).1.cs,.d (.v (.bool (cfold a r).2))] []
 |_=>False
theorem c_131_ok(a:List R)(K:KT)(h:c_131 a K):Ct prog gl 64 a K:=by
 unfold c_131 at h
 split at h
 ·obtain⟨a,r,rfl,h1,h2⟩:=h
  exact(ct131 a r h1).gives h2
 ·exact h.elim
def c_132(a:List R)(K:KT):Prop:=match a with
 |[.agg x,.d (.sl y)]=>∃(op sub:Int) (t:Ty) (v:Go.Ex.AV) (args:List EX) (l:List Ty),x=encX op sub t v (cellsL args)∧y=l.map Ty.cs∧l.length≤1353245080300∧l≠[]∧K [.d (.sl ((resultsE op l).map Ty.cs))] []
 |_=>False
theorem c_132_ok(a:List R)(K:KT)(h:c_132 a K):Ct prog gl 65 a K:=by
 unfold c_132 at h
 split at h
 ·obtain⟨op,sub,t,v,args,l,rfl,rfl,h1,h2,h3⟩:=h
  exact(ct132 op sub t v args l h1 h2).gives h3
 ·exact h.elim
def c_133(a:List R)(K:KT):Prop:=match a with
 |[.d (.v (.int .i64 op)),.d (.sl y),.d (.v (.bool b))]=>∃(l:List Ty) (u w:Ty),y=l.map Ty.cs∧l[0]? = some u∧l[l.length-1]? = some w∧l.length≤1353245080300∧K [.agg (arithE op u w b).1.cs,.d (.v (.bool (arithE op u w b).2))] []
 |_=>False
theorem c_133_ok(a:List R)(K:KT)(h:c_133 a K):Ct prog gl 66 a K:=by
 unfold c_133 at h
 split at h
 ·obtain⟨l,u,w,rfl,h1,h2,h3,h4⟩:=h
  exact(ct133 _ l _ u w h1 h2 h3).gives h4
 ·exact h.elim
def C_f7:CallT:=addC (addC (addC (addC C_4e 60 c_127) 64 c_131) 65 c_132) 66 c_133
def truthT(t:Ty):Bool:=t.k==(1:Int)&&(t.sc==(0:Int)&&true)
def okJ(l:List Ty)(j:Nat):Bool:=(List.range j).all fun k=>truthT (l.getD (2*k) ⟨0,0⟩)
def typedN(cols:List Ty)(op sub:Int)(t:Ty)(v:Go.Ex.AV)(l:List Ty):Ty×Bool:=
 if op=1 then(cols.getD sub.toNat ⟨0,0⟩,true)
 else if op=2 then(v.t,true)
 else if op=9 then(⟨1,0⟩,s129_0 (l.getD 0 ⟨0,0⟩).k (l.getD 0 ⟨0,0⟩).sc (l.getD 1 ⟨0,0⟩).k (l.getD 1 ⟨0,0⟩).sc)
 else if op=10∨op=11∨op=12 then(⟨1,0⟩,!l.any (offK 1))
 else if op=13 then(⟨1,0⟩,true)
 else if op=17 then(⟨4,0⟩,!l.any (offK 4))
 else if op=18 then(⟨2,0⟩,!l.any (offK 4))
 else if op=16 then(t,bif (bif (bif t.k==(l.getD 0 ⟨0,0⟩).k then true else t.k==4)then true else(l.getD 0 ⟨0,0⟩).k==4)then true else bif s130_0 (l.getD 0 ⟨0,0⟩).k (l.getD 0 ⟨0,0⟩).sc then s130_0 t.k t.sc else false)
 else if op=14∨op=15 then
  match resultsE op l with
  |[]=>(⟨0,0⟩,false)
  |a::r=>((cfold a r).1,(cfold a r).2&&(decide (op=15)||okJ l (l.length/2)))
 else arithE op (l.getD 0 ⟨0,0⟩) (l.getD (l.length-1) ⟨0,0⟩) (!l.any (offK 2))
mutual
def typedE(cols:List Ty):EX→Ty×Bool
 | .mk op sub t v args=>match typedL cols args with
   |none=>(⟨0,0⟩,false)
   |some l=>typedN cols op sub t v l
def typedL(cols:List Ty):List EX→Option (List Ty)
 |[]=>some []
 |e::r=>match typedE cols e,typedL cols r with
  |(t,true),some l=>some (t::l)
  |_,_=>none
end
def c_64(n:Nat)(a:List R)(K:KT):Prop:=match a with
 |[.agg x,.d (.sl y)]=>∃(e:EX) (cols:List Ty),x=cells e∧y=cols.map Ty.cs∧size e<n∧fits e∧mayE cols.length e=true∧cols.length≤8796093022208∧
  (∀(t:Ty) (ok:Bool),typedE cols e=(t,ok)→K [.agg t.cs,.d (.v (.bool ok))] [])
 |_=>False
def C_f64(n:Nat):CallT:=addC C_f7 35 (c_64 n)
def E_8:Env:={E_0 with bw:=[60]}
structure TX where
 i:Nat
 l:List Ty
def st_64(op sub:Int)(t:Ty)(v:Go.Ex.AV)(args:List EX)(cols:List Ty)(x:TX):St:={tm:=[(1,.d (.sl (cols.map Ty.cs))),(2,.ref 2 0),(4,.ref 4 0),(5,.d (.v (.bool false))),(6,.ref 6 0),(20,.d (.sl (cellsL args))),(21,.d (.v (.int .i64 ((cellsL args).length:Int)))),(22,.d (.v (.int .i64 (x.i:Int))))],hp:=[(2,.box [.d (.v (.int .i64 op)),.d (.v (.int .i64 sub)),.d (.v (.int .i64 t.k)),.d (.v (.int .i64 t.sc)),.d (.v (.int .i64 v.t.k)),.d (.v (.int .i64 v.t.sc)),.d (.v (.bool v.nul)),.d (.v (.int .i64 v.n)),.d (.v (.string v.s)),.d (.sl (cellsL args))]),(4,.box [.d (.v (.int .i64 0)),.d (.v (.int .i64 0))]),(6,.box [.own 50006]),(50006,.lst 23 2 (x.l.map Ty.cs))],kn:=[],gd:=[]}
def inv_64(cols:List Ty)(args:List EX)(m:Nat)(x:TX):Prop:=(x.i≤args.length∧m=args.length-x.i)∧typedL cols (args.take x.i)=some x.l∧x.l.length=x.i
structure TY where
 l:List Ty
 t:Ty
 ok:Bool
 j:Nat
def st_64b(op sub:Int)(t:Ty)(v:Go.Ex.AV)(args:List EX)(y:TY):St:={tm:=[(2,.ref 2 0),(4,.ref 4 0),(5,.d (.v (.bool false))),(6,.ref 6 0),(11,.ref 11 0),(13,.fn 60 [.ref 6 0]),(16,.ref 16 0),(17,.d (.v (.bool (bif y.ok then okJ y.l y.j else false)))),(18,.d (.v (.int .i64 (2*(y.j:Int)))))],hp:=[(2,.box [.d (.v (.int .i64 op)),.d (.v (.int .i64 sub)),.d (.v (.int .i64 t.k)),.d (.v (.int .i64 t.sc)),.d (.v (.int .i64 v.t.k)),.d (.v (.int .i64 v.t.sc)),.d (.v (.bool v.nul)),.d (.v (.int .i64 v.n)),.d (.v (.string v.s)),.d (.sl (cellsL args))]),(4,.box [.d (.v (.int .i64 0)),.d (.v (.int .i64 0))]),(6,.box [.own 50006]),(11,.box [.d (.v (.int .i64 1)),.d (.v (.int .i64 0))]),(12,.box [.d (.v (.int .i64 2)),.d (.v (.int .i64 0))]),(16,.box [.d (.v (.int .i64 y.t.k)),.d (.v (.int .i64 y.t.sc))]),(50006,.fro 2 (y.l.map Ty.cs))],kn:=[],gd:=[]}
def inv_64b(op:Int)(y0:TY)(m:Nat)(y:TY):Prop:=y.l=y0.l∧y.t=y0.t∧y.ok=y0.ok∧y.j≤y.l.length/2∧m=y.l.length-y.j∧(op=14∨y.j=0)
def fx_64(op sub:Int)(t:Ty)(v:Go.Ex.AV)(args:List EX)(cols:List Ty):Fi:={fi35 with cv:=[(3,[⟨some 6,0,50006,23,2⟩])],lx:=[(3,{X:=TX,sh:=st_64 op sub t v args cols,P:=fun _=>inv_64 cols args}),(36,{X:=TY,sh:=st_64b op sub t v args,P:=inv_64b op})]}
def Zcn(a0:List Ty)(a1:List EX)(a2:TX)(a3 a4:Int)(a5:Ty)(a6:Go.Ex.AV):St:={tm:=[(1,.d (.sl (List.map Ty.cs a0))),(2,.ref 2 0),(4,.ref 4 0),(5,.d (.v (.bool false))),(6,.ref 6 0),(20,.d (.sl (cellsL a1))),(21,.i (↑(cellsL a1).length:Int)),(22,.i (↑a2.1:Int))],hp:=[(2,.box [.i a3,.i a4,.i a5.1,.i a5.2,.i a6.1.1,.i a6.1.2,.d (.v (.bool a6.2)),.i a6.3,.d (.v (.string a6.4)),.d (.sl (cellsL a1))]),(4,.box [.i 0,.i 0]),(6,.box [.own 50006]),(50006,.lst 23 2 (List.map Ty.cs a2.2))],kn:=[],gd:=[]:St}
def Ze7(a0:Ty):List D:=[.i a0.1,.i a0.2]
def Zdd(a0:Int)(a1:TX)(k:Int→Int→Prop):Prop:=(0≤a0∧a0<(↑(List.map Ty.cs a1.2).length:Int))∧(2:Nat)=(2:Nat)∧∃(cells:List D),(List.map Ty.cs a1.2)[Int.toNat a0]? = some cells∧Zbr cells fun n n_2=>k n n_2
def Zes(a0 a1:Int)(a2:TX)(k:Int→Int→Prop):Prop:=(a0==a1)=true→Zdd (0:Int) a2 fun n n_2=>k n n_2
def Zcl(a0 a1 a2:Int)(a3:TX)(a4:KT)(a5 a6:Int)(k:Prop):Prop:=(a0==a1)=false→((a0==a2)=true→∃(l:List Ty),List.map Ty.cs a3.2=List.map Ty.cs l∧l.length<4611686018427387904∧a4 [.agg (Zen a5),.d (.v (.bool !l.any (offK a6)))] [])∧k
def Zer(k:Int→Int→Ty→AV→(List EX)→Prop):Prop:=∃(op_1 sub_1:Int),∃(t_1:Ty),∃(v_1:AV),∃(args_1:List EX),k op_1 sub_1 t_1 v_1 args_1
def Zc3(a0 a1:Int)(a2:Ty)(a3:Go.Ex.AV)(a4:List EX)(a5 a6:Int)(a7:Ty)(a8:AV)(a9:List EX)(k:Prop):Prop:=(Z6 a0 a1 a2 a3 a4)=(Zbs a5 a6 a7 a8 a9)∧k
def Zbi(a0:TY)(a1 a2:Int)(a3:Ty)(a4:Go.Ex.AV)(a5:List EX):St:={tm:=[(2,.ref 2 0),(4,.ref 4 0),(5,.d (.v (.bool false))),(6,.ref 6 0),(11,.ref 11 0),(13,.fn (60:Nat) [.ref 6 0]),(16,.ref 16 0),(17,.d (.v (.bool (bif a0.3 then okJ a0.1 a0.4 else false)))),(18,.i ((2:Int)*(↑a0.4:Int)))],hp:=[(2,.box [.i a1,.i a2,.i a3.1,.i a3.2,.i a4.1.1,.i a4.1.2,.d (.v (.bool a4.2)),.i a4.3,.d (.v (.string a4.4)),.d (.sl (cellsL a5))]),(4,.box [.i 0,.i 0]),(6,.box [.own 50006]),(11,.box [.i 1,.i 0]),(12,.box [.i 2,.i 0]),(16,.box [.i a0.2.1,.i a0.2.2]),(50006,.fro 2 (List.map Ty.cs a0.1))],kn:=[],gd:=[]:St}
def Zx(a0 a1:Int)(a2:Ty)(a3:Go.Ex.AV)(a4:List EX)(a5:TX)(a6:KT):Prop:=Zer fun op_1 sub_1 t_1 v_1 args_1=>∃(l:List Ty),Zc3 a0 a1 a2 a3 a4 op_1 sub_1 t_1 v_1 args_1 (List.map Ty.cs a5.2=List.map Ty.cs l∧l.length≤1353245080300∧l≠[]∧∃(a:Ty),∃(r:List Ty),List.map Ty.cs (resultsE op_1 l)=a.cs::List.map Ty.cs r∧r.length<4611686018427387904∧∃(x0:TY),({tm:=[(2,.ref 2 0),(4,.ref 4 0),(5,.d (.v (.bool false))),(6,.ref 6 0),(11,.ref 11 0),(13,.fn (60:Nat) [.ref 6 0]),(16,.ref 16 0),(17,.d (.v (.bool (cfold a r).2))),(18,.i 0)],hp:=[(2,.box [.i a0,.i a1,.i a2.1,.i a2.2,.i a3.1.1,.i a3.1.2,.d (.v (.bool a3.2)),.i a3.3,.d (.v (.string a3.4)),.d (.sl (cellsL a4))]),(4,.box [.i 0,.i 0]),(6,.box [.own 50006]),(11,.box [.i 1,.i 0]),(12,.box [.i 2,.i 0]),(16,.box [.d (.v (.int .i64 (cfold a r).1.1)),.d (.v (.int .i64 (cfold a r).1.2))]),(50006,.fro 2 (List.map Ty.cs a5.2))],kn:=[],gd:=[]:St}=(Zbi x0 a0 a1 a2 a3 a4)∧∃(n:Nat),inv_64b a0 x0 n x0)∧∀(n:Nat) (x:TY),inv_64b a0 x0 n x→((bif a0==14 then decide (IntKind.i64.wrap ((2:Int)*(↑x.4:Int)+1)<(↑(List.map Ty.cs x.1).length:Int))else false)=true→((bif x.3 then okJ x.1 x.4 else false)=true→((0:Int)≤2*(↑x.4:Int)∧(2:Int)*(↑x.4:Int)<(↑(List.map Ty.cs x.1).length:Int))∧(2:Nat)=(2:Nat)∧∃(cells:List D),(List.map Ty.cs x.1)[((2:Int)*(↑x.4:Int)).toNat]? = some cells∧Zbr cells fun n_2 n_3=>∃(m:Nat),∃(x':TY),m<n∧{tm:=[(2,.ref 2 0),(4,.ref 4 0),(5,.d (.v (.bool false))),(6,.ref 6 0),(11,.ref 11 0),(13,.fn (60:Nat) [.ref 6 0]),(16,.ref 16 0),(17,.d (.v (.bool (n_2==1&&(n_3==0&&true))))),(18,.i (IntKind.i64.wrap ((2:Int)*(↑x.4:Int)+2)))],hp:=[(2,.box [.i a0,.i a1,.i a2.1,.i a2.2,.i a3.1.1,.i a3.1.2,.d (.v (.bool a3.2)),.i a3.3,.d (.v (.string a3.4)),.d (.sl (cellsL a4))]),(4,.box [.i 0,.i 0]),(6,.box [.own 50006]),(11,.box [.i 1,.i 0]),(12,.box [.i 2,.i 0]),(16,.box [.i x.2.1,.i x.2.2]),(50006,.fro 2 (List.map Ty.cs x.1))],kn:=[],gd:=[]:St}=(Zbi x' a0 a1 a2 a3 a4)∧inv_64b a0 x0 m x')∧((bif x.3 then okJ x.1 x.4 else false) = !true→∃(m:Nat),∃(x':TY),m<n∧{tm:=[(2,.ref 2 0),(4,.ref 4 0),(5,.d (.v (.bool false))),(6,.ref 6 0),(11,.ref 11 0),(13,.fn (60:Nat) [.ref 6 0]),(16,.ref 16 0),(17,.d (.v (.bool false))),(18,.i (IntKind.i64.wrap ((2:Int)*(↑x.4:Int)+2)))],hp:=[(2,.box [.i a0,.i a1,.i a2.1,.i a2.2,.i a3.1.1,.i a3.1.2,.d (.v (.bool a3.2)),.i a3.3,.d (.v (.string a3.4)),.d (.sl (cellsL a4))]),(4,.box [.i 0,.i 0]),(6,.box [.own 50006]),(11,.box [.i 1,.i 0]),(12,.box [.i 2,.i 0]),(16,.box [.i x.2.1,.i x.2.2]),(50006,.fro 2 (List.map Ty.cs x.1))],kn:=[],gd:=[]:St}=(Zbi x' a0 a1 a2 a3 a4)∧inv_64b a0 x0 m x'))∧((bif a0==14 then decide (IntKind.i64.wrap ((2:Int)*(↑x.4:Int)+1)<(↑(List.map Ty.cs x.1).length:Int))else false)=false→a6 [.agg [.i x.2.1,.i x.2.2],.d (.v (.bool (bif x.3 then okJ x.1 x.4 else false)))] []))
def Zy(a0 a1 a2:Int)(a3:Ty)(a4:Go.Ex.AV)(a5:List EX)(a6:TX)(a7:KT):Prop:=(a0==a1)=true→Zx a0 a2 a3 a4 a5 a6 a7
theorem vc64(n:Nat)(op sub:Int)(t:Ty)(v:Go.Ex.AV)(args:List EX)(cols:List Ty)(Q:KT):vc E_8 (C_f64 n) noI (fx_64 op sub t v args cols) (f35.body.getD .skip) f35.results.toList [.agg (encX op sub t v (cellsL args)),.d (.sl (cols.map Ty.cs))] Q=(Zb6 args fun es=>∃(x0:TX),({tm:=[(1,.d (.sl (List.map Ty.cs cols))),(2,.ref 2 0),(4,.ref 4 0),(5,.d (.v (.bool false))),(6,.ref 6 0),(20,.d (.sl (cellsL args))),(21,.i (↑es.length:Int)),(22,.i 0)],hp:=[(2,.box [.i op,.i sub,.i t.1,.i t.2,.i v.1.1,.i v.1.2,.d (.v (.bool v.2)),.i v.3,.d (.v (.string v.4)),.d (.sl (cellsL args))]),(4,.box [.i 0,.i 0]),(6,.box [.own 50006]),(50006,.lst 23 2 [])],kn:=[],gd:=[]:St}=(Zcn cols args x0 op sub t v)∧∃(n:Nat),inv_64 cols args n x0)∧∀(n_1:Nat) (x:TX),inv_64 cols args n_1 x→(decide ((↑x.1:Int)<(↑(cellsL args).length:Int))=true→Zb6 args fun es=>(0≤(↑x.1:Int)∧(↑x.1:Int)<(↑es.length:Int))∧∃(cells:List D),es[(↑x.1:Int).toNat]? = some cells∧Z1 cells fun n_2 n_3 n_4 n_5 n_6 n_7 b n_8 b_1 es e=>∃(cols_1:List Ty),Zdc n_2 n_3 n_4 n_5 n_6 n_7 b n_8 b_1 es e (List.map Ty.cs cols=List.map Ty.cs cols_1∧size e<n∧fits e∧mayE (↑cols_1.length:Int) e=true∧cols_1.length≤8796093022208∧∀(t_1:Ty) (ok:Bool),typedE cols_1 e=(t_1,ok)→((!ok)=true→Q Ze3 [])∧((!ok)=false→(∀(c:List D),c∈[(Ze7 t_1)]→c.length=2)∧(23:Nat)=(23:Nat)∧(2:Nat)=(2:Nat)∧(↑(List.map Ty.cs x.2).length.succ:Int)*(↑(16:Nat):Int)≤140737488355328∧∃(m:Nat),∃(x':TX),m<n_1∧{tm:=[(1,.d (.sl (List.map Ty.cs cols))),(2,.ref 2 0),(4,.ref 4 0),(5,.d (.v (.bool false))),(6,.ref 6 0),(20,.d (.sl (cellsL args))),(21,.i (↑(cellsL args).length:Int)),(22,.i (IntKind.i64.wrap ((↑x.1:Int)+1)))],hp:=[(2,.box [.i op,.i sub,.i t.1,.i t.2,.i v.1.1,.i v.1.2,.d (.v (.bool v.2)),.i v.3,.d (.v (.string v.4)),.d (.sl (cellsL args))]),(4,.box [.i 0,.i 0]),(6,.box [.own 50006]),(50006,.lst 23 2 (List.map Ty.cs x.2++[(Ze7 t_1)]))],kn:=[],gd:=[]:St}=(Zcn cols args x' op sub t v)∧inv_64 cols args m x')))∧(decide ((↑x.1:Int)<(↑(cellsL args).length:Int))=false→((op==1)=true→Zc1 cols fun es=>(0≤sub∧sub<(↑es.length:Int))∧∃(cells:List D),es[sub.toNat]? = some cells∧Zbw cells (2:Nat) fun n n_2=>Q [.agg (Ze0 n n_2),.d (.v (.bool true))] [])∧((op==1)=false→((op==2)=true→Q [.agg [.i v.1.1,.i v.1.2],.d (.v (.bool true))] [])∧((op==2)=false→(Zes op (9:Int) x fun n n_2=>Zdd (1:Int) x fun n_3 n_4=>Q [.agg (Zen (1:Int)),.d (.v (.bool (s129_0 n n_2 n_3 n_4)))] [])∧(Zcl op (9:Int) (10:Int) x Q (1:Int) (1:Int) ((Zcl op (10:Int) (11:Int) x Q (1:Int) (1:Int) ((Zcl op (11:Int) (12:Int) x Q (1:Int) (1:Int) (((op==12)=false→((op==13)=true→Q [.agg (Zen (1:Int)),.d (.v (.bool true))] [])∧(Zcl op (13:Int) (17:Int) x Q (4:Int) (4:Int) ((Zcl op (17:Int) (18:Int) x Q (2:Int) (4:Int) (((op==18)=false→(Zes op (16:Int) x fun n n_2=>Q [.agg (Ze7 t),.d (.v (.bool (bif bif bif t.1==n then true else t.1==4 then true else n==4 then true else bif s130_0 n n_2 then s130_0 t.1 t.2 else false)))] [])∧((op==16)=false→(Zy op (14:Int) sub t v args x Q)∧((op==14)=false→(Zy op (15:Int) sub t v args x Q)∧((op==15)=false→∃(l:List Ty),List.map Ty.cs x.2=List.map Ty.cs l∧l.length<4611686018427387904∧∃(l_1:List Ty),∃(u w:Ty),List.map Ty.cs x.2=List.map Ty.cs l_1∧l_1[(0:Nat)]? = some u∧l_1[l_1.length-(1:Nat)]? = some w∧l_1.length≤1353245080300∧Q [.agg [.v (.int .i64 (arithE op u w !l.any (offK (2:Int))).1.1),.v (.int .i64 (arithE op u w !l.any (offK (2:Int))).1.2)],.d (.v (.bool (arithE op u w !l.any (offK (2:Int))).2))] []))))))))))))))))))):=by kernel_rfl
theorem typedL_none{cols:List Ty}:∀{l:List EX} {e:EX},e∈l→(typedE cols e).2=false→typedL cols l=none
 |a::l,e,h,hn=>by
  simp only[typedL]
  cases h with
  |head=>
   rcases hh:typedE cols a with⟨t,ok⟩
   rw[hh]at hn
   have:ok=false:=hn
   subst this
   rfl
  |tail _ h=>
   rw[typedL_none h hn]
   rcases typedE cols a with⟨t,_|_⟩<;>rfl
theorem typedL_snoc{cols:List Ty}:∀{l:List EX} {tl:List Ty} {e:EX} {t:Ty},typedL cols l=some tl→typedE cols e=(t,true)→typedL cols (l++[e])=some (tl++[t])
 |[],tl,e,t,h,he=>by
  simp only[typedL,Option.some.injEq]at h
  subst h
  simp only[List.nil_append,typedL,he]
 |a::l,tl,e,t,h,he=>by
  simp only[typedL]at h
  rcases hh:typedE cols a with⟨u,_|_⟩
  ·rw[hh]at h;cases h
  ·rw[hh]at h
   rcases hl:typedL cols l with _|r
   ·rw[hl]at h;cases h
   ·rw[hl]at h
    simp only[Option.some.injEq]at h
    subst h
    simp only[List.cons_append,typedL,hh,typedL_snoc hl he]
theorem typedE_some{cols:List Ty}{op sub:Int}{t:Ty}{v:Go.Ex.AV}{args:List EX}{l:List Ty}(h:typedL cols args=some l):typedE cols (.mk op sub t v args)=typedN cols op sub t v l:=by
 simp only[typedE,h]
theorem typedE_none{cols:List Ty}{op sub:Int}{t:Ty}{v:Go.Ex.AV}{args:List EX}(h:typedL cols args=none):typedE cols (.mk op sub t v args)=(⟨0,0⟩,false):=by
 simp only[typedE,h]
theorem may_col{sub:Int}{t:Ty}{v:Go.Ex.AV}{m c:Int}(h:mayHd 1 sub t v m c=true):0≤sub∧sub<c:=by
 simp only[mayHd]at h
 by_cases h1:m=0<;>by_cases h2:0≤sub<;>by_cases h3:sub<c<;>simp_all
theorem may_two{sub:Int}{t:Ty}{v:Go.Ex.AV}{m c:Int}(h:mayHd 9 sub t v m c=true):m=2:=by
 simp only[mayHd]at h
 by_cases h1:m=2
 ·exact h1
 ·simp_all
theorem may_pos{op sub:Int}{t:Ty}{v:Go.Ex.AV}{m c:Int}(h:mayHd op sub t v m c=true)(h1:op≠1)(h2:op≠2):1≤m:=by
 have b1:(op==1)=false:=by simpa using h1
 have b2:(op==2)=false:=by simpa using h2
 unfold mayHd at h
 rw[b1,b2,cond_false,cond_false]at h
 by_cases hm:1≤m
 ·exact hm
 ·exfalso
  have e1:(m==1)=false:=by simp;omega
  have e2:(m==2)=false:=by simp;omega
  have e3:decide (m≥3)=false:=by simp;omega
  have e4:decide (m≥1)=false:=by simp;omega
  rw[e1,e2,e3,e4]at h
  revert h
  cases op==9<;>cases op==16<;>cases(op==8||op==12||op==13||op==18)<;>cases op==14<;>cases op==15<;>cases(op==3||op==4||op==5||op==6||op==7||op==10||op==11||op==17)<;>simp
theorem okJ_next{l:List Ty}{j:Nat}(hj:2*j<l.length):okJ l (j+1)=(okJ l j&&truthT l[2*j]):=by
 unfold okJ
 rw[List.range_succ,List.all_append]
 simp[List.getD_eq_getElem?_getD,hj]
theorem results_ne{op:Int}{l:List Ty}(h:l≠[]):∃a r,resultsE op l=a::r∧r.length≤l.length:=by
 have hp:=List.length_pos_iff.2 h
 rcases hr:resultsE op l with _|⟨a,r⟩
 ·exfalso
  unfold resultsE at hr
  split at hr
  ·exact h hr
  ·simp at hr
 ·refine⟨a,r,rfl,?_⟩
  have:(resultsE op l).length≤l.length+1:=by
   unfold resultsE
   split
   ·omega
   ·simp only[List.length_append,oddsT,List.length_map,List.length_range,List.length_singleton];omega
  rw[hr]at this
  simpa using this
theorem C_f7_ok:CallsOk prog gl C_f7:=addC_ok (addC_ok (addC_ok (addC_ok C_4e_ok c_127_ok) c_131_ok) c_132_ok) c_133_ok
theorem ct64:∀(n:Nat) (e:EX) (cols:List Ty),size e<n→fits e→mayE cols.length e=true→cols.length≤8796093022208→Ct prog gl 35 [.agg (cells e),.d (.sl (cols.map Ty.cs))] (gives [.agg (typedE cols e).1.cs,.d (.v (.bool (typedE cols e).2))])
 |0,_,_,h,_,_,_=>absurd h (Nat.not_lt_zero _)
 |n+1,.mk op sub t v args,cols,hs,hf,hm,hcl=>by
  have hC:CallsOk prog gl (C_f64 n):=addC_ok C_f7_ok (fun a K hk=>by
   unfold c_64 at hk
   split at hk
   ·obtain⟨e,cols,rfl,rfl,h1,h2,h3,h4,h5⟩:=hk
    exact(ct64 n e cols h1 h2 h3 h4).gives (h5 _ _ rfl)
   ·exact hk.elim)
  rw[cells_mk]
  refine ct_of_vc (E:=E_8) ⟨E_ok.te⟩ hC ioK_no (fun _ _ _ h=>h.elim) mixed (fn:=f35) (body:=f35.body.getD .skip) (by kernel_rfl) (by kernel_rfl) (by kernel_rfl) (fi:=fx_64 op sub t v args cols) (by kernel_rfl) (by kernel_rfl) ⟨_,_,rfl,rfl⟩ ?_
  rw[vc64];dsimp -eta -iota -proj only[Zb6,Zej,Zcn,Z1,Zcs,Zdc,Ze3,Zen,Ze7,Zc1,Zbw,Zbr,Ze0,Zes,Zdd,Zcl,Zy,Zx,Zer,Zc3,Z6,Zbs,Zbi]
  obtain⟨_,hl,hfl⟩:=fits_mk hf
  simp only[size]at hs
  have hmm:mayHd op sub t v ((cellsL args).length:Int) cols.length=true∧mayL cols.length args=true:=by
   have:(mayHd op sub t v ((cellsL args).length:Int) cols.length&&mayL cols.length args)=true:=by simpa only[mayE]using hm
   simpa using this
  obtain⟨hh,hml⟩:=hmm
  rw[mayL_all,List.all_eq_true]at hml
  refine⟨cellsL args,rfl,⟨0,[]⟩,⟨rfl,args.length,⟨Nat.zero_le _,rfl⟩,by simp only[List.take_zero,typedL],rfl⟩,fun m (x:TX) hx=>⟨fun hi=>?_,fun hi=>?_⟩⟩
  ·obtain⟨i,tl⟩:=x
   obtain⟨⟨h1,h2⟩,h4,h5⟩:=hx
   dsimp only at h1 h2 h4 h5 hi ⊢
   have hi:i<args.length:=by simpa[cellsL_len]using hi
   obtain⟨op1,sub1,t1,v1,a1,e1,g1⟩:=arg_get hi
   have hsz:=size_mem (List.getElem_mem hi)
   refine⟨cellsL args,rfl,⟨by omega,by rw[cellsL_len];omega⟩,_,g1,rfl,op1,sub1,t1.k,t1.sc,v1.t.k,v1.t.sc,v1.nul,v1.n,v1.s,cellsL a1,rfl,args[i],cols,by rw[e1,cells_mk];rfl,rfl,by omega,fitsL_mem hfl (List.getElem_mem hi),hml _ (List.getElem_mem hi),hcl,fun t2 ok he=>⟨fun ho=>?_,fun ho=>⟨by simp,rfl,rfl,?_,args.length-(i+1),⟨i+1,tl++[t2]⟩,by omega,?_,⟨hi,rfl⟩,?_,by simp[h5]⟩⟩⟩
   ·have:ok=false:=by simpa using ho
    subst this
    rw[typedE_none (typedL_none (List.getElem_mem hi) (by rw[he]))]
    exact⟨rfl,rfl⟩
   ·rw[List.length_map,h5];omega
   ·dsimp only
    rw[wrap_next (by omega),List.map_append]
    rfl
   ·have:ok=true:=by simpa using ho
    subst this
    rw[List.take_add_one,List.getElem?_eq_getElem hi]
    exact typedL_snoc h4 he
  ·obtain⟨i,tl⟩:=x
   obtain⟨⟨h1,h2⟩,h4,h5⟩:=hx
   dsimp only at h1 h2 h4 h5 hi ⊢
   have hi:¬i<args.length:=by simpa[cellsL_len]using hi
   rw[List.take_of_length_le (by omega)]at h4
   have htl:tl.length=args.length:=by omega
   rw[cellsL_len]at hh
   have fin:∀(a a':Int) (c:Bool),typedN cols op sub t v tl=(⟨a,a'⟩,c)→gives [.agg (typedE cols (.mk op sub t v args)).1.cs,.d (.v (.bool (typedE cols (.mk op sub t v args)).2))] [R.agg [D.v (Value.int IntKind.i64 a),D.v (Value.int IntKind.i64 a')],R.d (D.v (Value.bool c))] []:=fun a a' c h=>by rw[typedE_some h4,h];exact⟨rfl,rfl⟩
   have g0:∀(h:0<tl.length),(tl.map Ty.cs)[Int.toNat 0]? = some (Ty.cs tl[0]):=fun h=>ty_get h
   have g1:∀(h:1<tl.length),(tl.map Ty.cs)[Int.toNat 1]? = some (Ty.cs tl[1]):=fun h=>ty_get h
   have d0:∀(h:0<tl.length),tl.getD 0 ⟨0,0⟩=tl[0]:=fun h=>by rw[List.getD_eq_getElem?_getD,List.getElem?_eq_getElem h];rfl
   have d1:∀(h:1<tl.length),tl.getD 1 ⟨0,0⟩=tl[1]:=fun h=>by rw[List.getD_eq_getElem?_getD,List.getElem?_eq_getElem h];rfl
   refine⟨fun o1=>?_,fun o1=>⟨fun o2=>?_,fun o2=>⟨fun o9=>?_,fun o9=>⟨fun o10=>?_,fun o10=>⟨fun o11=>?_,fun o11=>⟨fun o12=>?_,fun o12=>⟨fun o13=>?_,fun o13=>⟨fun o17=>?_,fun o17=>⟨fun o18=>?_,fun o18=>⟨fun o16=>?_,fun o16=>?_⟩⟩⟩⟩⟩⟩⟩⟩⟩⟩
   ·have o1:op=1:=by simpa using o1
    subst o1
    obtain⟨c1,c2⟩:=may_col hh
    have hlt:sub.toNat<cols.length:=by omega
    refine⟨_,rfl,⟨c1,by rw[List.length_map];exact c2⟩,_,ty_get hlt,rfl,_,_,rfl,fin _ _ _ ?_⟩
    unfold typedN
    rw[if_pos rfl,List.getD_eq_getElem?_getD,List.getElem?_eq_getElem hlt]
    rfl
   all_goals have n1:op≠1:=by simpa using o1
   ·have o2:op=2:=by simpa using o2
    refine fin _ _ _ ?_
    unfold typedN
    rw[if_neg n1,if_pos o2]
   all_goals have n2:op≠2:=by simpa using o2
   all_goals have hpos:1≤args.length:=by have:=may_pos hh n1 n2;omega
   all_goals have hne:tl≠[]:=by intro h;rw[h]at htl;simp at htl;omega
   ·have o9:op=9:=by simpa using o9
    subst o9
    have h2:=may_two hh
    refine⟨⟨by decide,by rw[List.length_map];omega⟩,rfl,_,g0 (by omega),_,_,rfl,⟨by decide,by rw[List.length_map];omega⟩,rfl,_,g1 (by omega),_,_,rfl,fin _ _ _ ?_⟩
    unfold typedN
    rw[if_neg n1,if_neg n2,if_pos rfl,d0 (by omega),d1 (by omega)]
   all_goals have n9:op≠9:=by simpa using o9
   ·have o10:op=10:=by simpa using o10
    refine⟨tl,rfl,by omega,fin _ _ _ ?_⟩
    unfold typedN
    rw[if_neg n1,if_neg n2,if_neg n9,if_pos (.inl o10)]
   all_goals have n10:op≠10:=by simpa using o10
   ·have o11:op=11:=by simpa using o11
    refine⟨tl,rfl,by omega,fin _ _ _ ?_⟩
    unfold typedN
    rw[if_neg n1,if_neg n2,if_neg n9,if_pos (.inr (.inl o11))]
   all_goals have n11:op≠11:=by simpa using o11
   ·have o12:op=12:=by simpa using o12
    refine⟨tl,rfl,by omega,fin _ _ _ ?_⟩
    unfold typedN
    rw[if_neg n1,if_neg n2,if_neg n9,if_pos (.inr (.inr o12))]
   all_goals have n12:op≠12:=by simpa using o12
   all_goals have nn:¬(op=10∨op=11∨op=12):=by omega
   ·have o13:op=13:=by simpa using o13
    refine fin _ _ _ ?_
    unfold typedN
    rw[if_neg n1,if_neg n2,if_neg n9,if_neg nn,if_pos o13]
   all_goals have n13:op≠13:=by simpa using o13
   ·have o17:op=17:=by simpa using o17
    refine⟨tl,rfl,by omega,fin _ _ _ ?_⟩
    unfold typedN
    rw[if_neg n1,if_neg n2,if_neg n9,if_neg nn,if_neg n13,if_pos o17]
   all_goals have n17:op≠17:=by simpa using o17
   ·have o18:op=18:=by simpa using o18
    refine⟨tl,rfl,by omega,fin _ _ _ ?_⟩
    unfold typedN
    rw[if_neg n1,if_neg n2,if_neg n9,if_neg nn,if_neg n13,if_neg n17,if_pos o18]
   all_goals have n18:op≠18:=by simpa using o18
   ·have o16:op=16:=by simpa using o16
    refine⟨⟨by decide,by rw[List.length_map];omega⟩,rfl,_,g0 (by omega),_,_,rfl,fin _ _ _ ?_⟩
    unfold typedN
    rw[if_neg n1,if_neg n2,if_neg n9,if_neg nn,if_neg n13,if_neg n17,if_neg n18,if_pos o16,d0 (by omega)]
   have n16:op≠16:=by simpa using o16
   refine⟨fun o14=>?_,fun o14=>⟨fun o15=>?_,fun o15=>?_⟩⟩
   ·have o14:op=14:=by simpa using o14
    obtain⟨a,r,hr,hrl⟩:=results_ne (op:=op) hne
    refine⟨op,sub,t,v,args,tl,rfl,rfl,by omega,hne,a,r,by rw[hr];rfl,by omega,⟨tl,(cfold a r).1,(cfold a r).2,0⟩,⟨by
     have:(bif (cfold a r).2 then okJ tl 0 else false)=(cfold a r).2:=by cases(cfold a r).2<;>rfl
     dsimp only
     rw[this]
     rfl,tl.length,rfl,rfl,rfl,Nat.zero_le _,rfl,.inr rfl⟩,fun m2 y hy=>?_⟩
    obtain⟨yl,yt,yok,yj⟩:=y
    obtain⟨e1,e2,e3,hj,hm2,hz⟩:=hy
    dsimp only at e1 e2 e3 hj hm2 hz ⊢
    have e1':=e1.symm
    subst e1';subst e2;subst e3
    refine⟨fun hc=>?_,fun hc=>?_⟩
    ·have hc2:op=14∧2*yj+1<tl.length:=by
      by_cases h14:op=14
      ·rw[show(op==14)=true by simpa using h14,cond_true]at hc
       have:=of_decide_eq_true hc
       rw[List.length_map,wrap_i64_of (by omega) (by omega)]at this
       exact⟨h14,by omega⟩
      ·rw[show(op==14)=false by simpa using h14,cond_false]at hc;cases hc
     have h2j:2*yj<tl.length:=by omega
     have w:IntKind.i64.wrap (2*((yj:Nat):Int)+2)=2*((yj+1:Nat):Int):=by rw[wrap_i64_of (by omega) (by omega)];omega
     have hg:=ty_get h2j
     refine⟨fun hk=>⟨⟨by omega,by rw[List.length_map];omega⟩,rfl,_,(by rw[show(2*((yj:Nat):Int)).toNat=2*yj by omega];exact hg),tl[2*yj].k,tl[2*yj].sc,rfl,tl.length-(yj+1),⟨tl,(cfold a r).1,(cfold a r).2,yj+1⟩,by omega,?_,rfl,rfl,rfl,by show yj+1≤tl.length/2;omega,rfl,.inl hc2.1⟩,fun hk=>⟨tl.length-(yj+1),⟨tl,(cfold a r).1,(cfold a r).2,yj+1⟩,by omega,?_,rfl,rfl,rfl,by show yj+1≤tl.length/2;omega,rfl,.inl hc2.1⟩⟩
     ·have e:(bif (cfold a r).2 then okJ tl (yj+1)else false)=(bif (bif (cfold a r).2 then okJ tl yj else false)then truthT tl[2*yj]else false):=by
          rw[okJ_next h2j];cases(cfold a r).2<;>cases okJ tl yj<;>rfl
      rw[hk,cond_true]at e
      dsimp only
      rw[e,w]
      rfl
     ·have e:(bif (cfold a r).2 then okJ tl (yj+1)else false)=(bif (bif (cfold a r).2 then okJ tl yj else false)then truthT tl[2*yj]else false):=by
          rw[okJ_next h2j];cases(cfold a r).2<;>cases okJ tl yj<;>rfl
      have hk':(bif (cfold a r).2 then okJ tl yj else false)=false:=hk
      rw[hk',cond_false]at e
      dsimp only
      rw[e,w]
      try rw[hk']
      try rfl
    ·refine fin _ _ _ ?_
     have hjj:yj=tl.length/2:=by
      rw[show(op==14)=true by simpa using o14,cond_true]at hc
      have:=of_decide_eq_false hc
      rw[List.length_map,wrap_i64_of (by omega) (by omega)]at this
      omega
     unfold typedN
     rw[if_neg n1,if_neg n2,if_neg n9,if_neg nn,if_neg n13,if_neg n17,if_neg n18,if_neg n16,if_pos (.inl o14),hr,hjj]
     have n15:decide (op=15)=false:=decide_eq_false (by omega)
     simp only[n15]
     cases(cfold a r).2<;>simp
   ·have o15:op=15:=by simpa using o15
    obtain⟨a,r,hr,hrl⟩:=results_ne (op:=op) hne
    refine⟨op,sub,t,v,args,tl,rfl,rfl,by omega,hne,a,r,by rw[hr];rfl,by omega,⟨tl,(cfold a r).1,(cfold a r).2,0⟩,⟨by
     have:(bif (cfold a r).2 then okJ tl 0 else false)=(cfold a r).2:=by cases(cfold a r).2<;>rfl
     dsimp only
     rw[this]
     rfl,tl.length,rfl,rfl,rfl,Nat.zero_le _,rfl,.inr rfl⟩,fun m2 y hy=>?_⟩
    obtain⟨yl,yt,yok,yj⟩:=y
    obtain⟨e1,e2,e3,hj,hm2,hz⟩:=hy
    dsimp only at e1 e2 e3 hj hm2 hz ⊢
    have e1':=e1.symm
    subst e1';subst e2;subst e3
    refine⟨fun hc=>?_,fun hc=>?_⟩
    ·have hc2:op=14∧2*yj+1<tl.length:=by
      by_cases h14:op=14
      ·rw[show(op==14)=true by simpa using h14,cond_true]at hc
       have:=of_decide_eq_true hc
       rw[List.length_map,wrap_i64_of (by omega) (by omega)]at this
       exact⟨h14,by omega⟩
      ·rw[show(op==14)=false by simpa using h14,cond_false]at hc;cases hc
     have h2j:2*yj<tl.length:=by omega
     have w:IntKind.i64.wrap (2*((yj:Nat):Int)+2)=2*((yj+1:Nat):Int):=by rw[wrap_i64_of (by omega) (by omega)];omega
     have hg:=ty_get h2j
     refine⟨fun hk=>⟨⟨by omega,by rw[List.length_map];omega⟩,rfl,_,(by rw[show(2*((yj:Nat):Int)).toNat=2*yj by omega];exact hg),tl[2*yj].k,tl[2*yj].sc,rfl,tl.length-(yj+1),⟨tl,(cfold a r).1,(cfold a r).2,yj+1⟩,by omega,?_,rfl,rfl,rfl,by show yj+1≤tl.length/2;omega,rfl,.inl hc2.1⟩,fun hk=>⟨tl.length-(yj+1),⟨tl,(cfold a r).1,(cfold a r).2,yj+1⟩,by omega,?_,rfl,rfl,rfl,by show yj+1≤tl.length/2;omega,rfl,.inl hc2.1⟩⟩
     ·have e:(bif (cfold a r).2 then okJ tl (yj+1)else false)=(bif (bif (cfold a r).2 then okJ tl yj else false)then truthT tl[2*yj]else false):=by
          rw[okJ_next h2j];cases(cfold a r).2<;>cases okJ tl yj<;>rfl
      rw[hk,cond_true]at e
      dsimp only
      rw[e,w]
      rfl
     ·have e:(bif (cfold a r).2 then okJ tl (yj+1)else false)=(bif (bif (cfold a r).2 then okJ tl yj else false)then truthT tl[2*yj]else false):=by
          rw[okJ_next h2j];cases(cfold a r).2<;>cases okJ tl yj<;>rfl
      have hk':(bif (cfold a r).2 then okJ tl yj else false)=false:=hk
      rw[hk',cond_false]at e
      dsimp only
      rw[e,w]
      try rw[hk']
      try rfl
    ·refine fin _ _ _ ?_
     unfold typedN
     rw[if_neg n1,if_neg n2,if_neg n9,if_neg nn,if_neg n13,if_neg n17,if_neg n18,if_neg n16,if_pos (.inr o15),hr]
     have e15:decide (op=15)=true:=decide_eq_true o15
     have hj0:okJ tl yj=true:=by
      rw[show yj=0 by omega];rfl
     simp only[e15,hj0]
     cases(cfold a r).2<;>simp
   ·have n14:op≠14:=by simpa using o14
    have n15:op≠15:=by simpa using o15
    have hlast:tl.length-1<tl.length:=by omega
    refine⟨tl,rfl,by omega,tl,tl[0],tl[tl.length-1],rfl,List.getElem?_eq_getElem _,List.getElem?_eq_getElem _,by omega,fin _ _ _ ?_⟩
    unfold typedN
    rw[if_neg n1,if_neg n2,if_neg n9,if_neg nn,if_neg n13,if_neg n17,if_neg n18,if_neg n16,if_neg (by omega),d0 (by omega),List.getD_eq_getElem?_getD,List.getElem?_eq_getElem hlast]
    rfl
end Go.Proofs.Tryz
namespace Go.Proofs.Tryz
open Go Go.Dm Go.Ex
set_option maxRecDepth 100000
variable {gl:Nat→Option Obj}
theorem ct62:∀(n:Nat) (e:EX),size e<n→fits e→Ct prog gl 33 [.agg (cells e)] (gives [.d (.v (.int .i64 (deep e)))])
 |0,e,h,_=>absurd h (Nat.not_lt_zero _)
 |n+1,.mk op sub t v args,h,hf=>by
  have hC:CallsOk prog gl (C_f62 n):=addC_ok C_n_ok (fun a K hk=>by
   unfold c_62 at hk
   split at hk
   ·obtain⟨e,rfl,h1,h2,h3⟩:=hk
    exact(ct62 n e h1 h2).gives h3
   ·exact hk.elim)
  rw[cells_mk]
  refine ct_of_vc E_ok hC ioK_no it_ok mixed (fn:=f33) (body:=f33.body.getD .skip) (by kernel_rfl) (by kernel_rfl) (by kernel_rfl) (fi:=fx_62 op sub t v args) (by kernel_rfl) (by kernel_rfl) ⟨_,_,rfl,rfl⟩ ?_
  rw[vc62];dsimp -eta -iota -proj only[Zb6,Zej,Zdm,Zdb,Zca,Zb8,Zbj,Zep,Zcf,Z1,Zcs,Zdc,Zdt]
  obtain⟨_,hl,hfl⟩:=fits_mk hf
  have hsz:∀e∈args,size e<n:=fun e he=>by have:=size_arg (op:=op) (sub:=sub) (ty:=t) (v:=v) he;omega
  refine⟨cellsL args,rfl,(0:Nat),⟨by simp only[List.take_zero,deepL];rfl,args.length,Nat.zero_le _,rfl⟩,fun m (x:Nat) hx=>⟨fun hi=>?_,fun hi=>?_⟩⟩
  ·have hi:x<args.length:=by simpa[cellsL_len]using hi
   obtain⟨op',sub',t',v',a',he,hget⟩:=arg_get hi
   have hm:=hx.2
   refine⟨cellsL args,rfl,⟨by omega,by rw[cellsL_len];omega⟩,_,hget,rfl,op',sub',t'.k,t'.sc,v'.t.k,v'.t.sc,v'.nul,v'.n,v'.s,cellsL a',rfl,args[x],by rw[he,cells_mk];rfl,hsz _ (List.getElem_mem hi),fitsL_mem hfl (List.getElem_mem hi),args.length-(x+1),x+1,by omega,?_,hi,rfl⟩
   rw[wrap_next (by omega),List.take_add_one,List.getElem?_eq_getElem hi,Option.toList_some,deepL_snoc]
  ·have hi:¬x<args.length:=by simpa[cellsL_len]using hi
   rw[List.take_of_length_le (by omega)]
   refine⟨?_,rfl⟩
   simp only[deep]
def typesV(row:List Go.Ex.AV):List Ty:=row.map Go.Ex.AV.t
def st_53(row:List Go.Ex.AV)(x:Nat):St:={tm:=[(2,.nil),(3,.own 50003),(6,.d (.sl (row.map Go.Ex.AV.cs))),(7,.d (.v (.int .i64 ((row.map Go.Ex.AV.cs).length:Int)))),(8,.d (.v (.int .i64 (x:Int))))],hp:=[(50003,.lst 23 2 ((typesV (row.take x)).map Ty.cs))],kn:=[],gd:=[]}
def inv_53(row:List Go.Ex.AV)(m:Nat)(x:Nat):Prop:=x≤row.length∧m=row.length-x
def fx_53(row:List Go.Ex.AV):Fi:={fi14 with cv:=[(3,[⟨none,3,50003,23,2⟩])],lx:=[(3,{X:=Nat,sh:=st_53 row,P:=fun _=>inv_53 row})]}
def Zdr(a0:List Go.Ex.AV)(a1:Nat):St:={tm:=[(2,.nil),(3,.own 50003),(6,.d (.sl (List.map AV.cs a0))),(7,.i (↑(List.map AV.cs a0).length:Int)),(8,.i (↑a1:Int))],hp:=[(50003,.lst 23 2 (List.map Ty.cs (typesV (List.take a1 a0))))],kn:=[],gd:=[]:St}
theorem vc53(row:List Go.Ex.AV)(Q:KT):vc E_0 C_4e noI (fx_53 row) (f14.body.getD .skip) f14.results.toList [.d (.sl (row.map Go.Ex.AV.cs))] Q=(Zbt row fun es=>∃(x0:Nat),({tm:=[(2,.nil),(3,.own 50003),(6,.d (.sl (List.map AV.cs row))),(7,.i (↑es.length:Int)),(8,.i 0)],hp:=[(50003,.lst 23 2 [])],kn:=[],gd:=[]:St}=(Zdr row x0)∧∃(n:Nat),inv_53 row n x0)∧∀(n:Nat) (x:Nat),inv_53 row n x→(Zdg x row fun n_1 n_2 _ _ _=>(Zfa n_1 n_2)∧(23:Nat)=(23:Nat)∧(2:Nat)=(2:Nat)∧(↑(List.map Ty.cs (typesV (List.take x row))).length.succ:Int)*(↑(16:Nat):Int)≤140737488355328∧Zee n fun m x'=>{tm:=[(2,.nil),(3,.own 50003),(6,.d (.sl (List.map AV.cs row))),(7,.i (↑(List.map AV.cs row).length:Int)),(8,.i (IntKind.i64.wrap ((↑x:Int)+1)))],hp:=[(50003,.lst 23 2 (List.map Ty.cs (typesV (List.take x row))++[(Ze0 n_1 n_2)]))],kn:=[],gd:=[]:St}=(Zdr row x')∧inv_53 row m x')∧(decide ((↑x:Int)<(↑(List.map AV.cs row).length:Int))=false→Q [.d (.sl (List.map Ty.cs (typesV (List.take x row))))] [])):=by kernel_rfl
def c_61g(a:List R)(K:KT):Prop:=match a with
 |[.agg x]=>∃e:EX,x=cells e∧fits e∧K [.d (.v (.int .i64 (nodes e)))] []
 |_=>False
theorem c_61g_ok(a:List R)(K:KT)(h:c_61g a K):Ct prog gl 32 a K:=by
 unfold c_61g at h
 split at h
 ·obtain⟨e,rfl,h1,h2⟩:=h
  exact(ct61 (size e+1) e (Nat.lt_succ_self _) h1).gives h2
 ·exact h.elim
def c_62g(a:List R)(K:KT):Prop:=match a with
 |[.agg x]=>∃e:EX,x=cells e∧fits e∧K [.d (.v (.int .i64 (deep e)))] []
 |_=>False
theorem c_62g_ok(a:List R)(K:KT)(h:c_62g a K):Ct prog gl 33 a K:=by
 unfold c_62g at h
 split at h
 ·obtain⟨e,rfl,h1,h2⟩:=h
  exact(ct62 (size e+1) e (Nat.lt_succ_self _) h1).gives h2
 ·exact h.elim
def c_63g(a:List R)(K:KT):Prop:=match a with
 |[.agg x,.d (.v (.int .i64 c))]=>∃e:EX,x=cells e∧fits e∧K [.d (.v (.bool (mayE c e)))] []
 |_=>False
theorem c_63g_ok(a:List R)(K:KT)(h:c_63g a K):Ct prog gl 34 a K:=by
 unfold c_63g at h
 split at h
 ·obtain⟨e,rfl,h1,h2⟩:=h
  exact(ct63 (size e+1) e _ (Nat.lt_succ_self _) h1).gives h2
 ·exact h.elim
def c_64g(a:List R)(K:KT):Prop:=match a with
 |[.agg x,.d (.sl y)]=>∃(e:EX) (cols:List Ty),x=cells e∧y=cols.map Ty.cs∧fits e∧mayE cols.length e=true∧cols.length≤8796093022208∧(∀(t:Ty) (ok:Bool),typedE cols e=(t,ok)→K [.agg t.cs,.d (.v (.bool ok))] [])
 |_=>False
theorem c_64g_ok(a:List R)(K:KT)(h:c_64g a K):Ct prog gl 35 a K:=by
 unfold c_64g at h
 split at h
 ·obtain⟨e,cols,rfl,rfl,h1,h2,h3,h4⟩:=h
  exact(ct64 (size e+1) e cols (Nat.lt_succ_self _) h1 h2 h3).gives (h4 _ _ rfl)
 ·exact h.elim
def C_g4:CallT:=addC (addC (addC (addC C_f7 32 c_61g) 33 c_62g) 34 c_63g) 35 c_64g
theorem C_g4_ok:CallsOk prog gl C_g4:=addC_ok (addC_ok (addC_ok (addC_ok C_f7_ok c_61g_ok) c_62g_ok) c_63g_ok) c_64g_ok
def Zco(a0 a1:Int)(a2:Ty)(a3:Go.Ex.AV)(a4:List EX)(a5:EX)(k:Prop):Prop:=Z7 a0 a1 a2 a3 a4 a5 (fits a5∧k)
def Zdu(a0 a1:Int)(a2:Ty)(a3:Go.Ex.AV)(a4:List EX)(k:EX→Prop):Prop:=∃(e:EX),Zco a0 a1 a2 a3 a4 e (k e)
def Zdw(a0 a1:Int)(a2:Ty)(a3:Go.Ex.AV)(a4:List EX)(k:EX→(List Ty)→Prop):Prop:=∃(e:EX),∃(cols:List Ty),Z7 a0 a1 a2 a3 a4 e (k e cols)
def Zd3(a0 a1:Int)(a2:Ty)(a3:Go.Ex.AV)(a4:List EX)(a5:List (List D))(k:Ty→Bool→Prop):Prop:=Zdw a0 a1 a2 a3 a4 fun e cols=>a5=List.map Ty.cs cols∧fits e∧mayE (↑cols.length:Int) e=true∧cols.length≤8796093022208∧∀(t:Ty) (ok:Bool),typedE cols e=(t,ok)→k t ok
theorem vc15(op sub:Int)(t:Ty)(v:Go.Ex.AV)(args:List EX)(x:List (List D))(Q:KT):vc E_0 C_g4 noI fi13 (f13.body.getD .skip) f13.results.toList [.agg (encX op sub t v (cellsL args)),.d (.sl x)] Q=(Zet x fun l=>Zdu op sub t v args fun e=>Zdu op sub t v args fun e_1=>Zej fun es=>D.sl x=D.sl es∧Zdu op sub t v args fun e_2=>((bif bif bif l.any badT then true else decide (nodes e>256)then true else decide (deep e_1>24)then true else !mayE (↑es.length:Int) e_2)=true→Q [.agg (Zen (0:Int)),.d (.i 140)] [])∧((bif bif bif l.any badT then true else decide (nodes e>256)then true else decide (deep e_1>24)then true else !mayE (↑es.length:Int) e_2)=false→Zd3 op sub t v args x fun t ok=>((!ok)=true→Q [.agg (Zen (0:Int)),.d (.i 21)] [])∧((!ok)=false→Q [.agg (Ze7 t),.d (.i 0)] []))):=by kernel_rfl
theorem ct53(row:List Go.Ex.AV)(hl:row.length≤4398046511104):Ct prog gl 14 [.d (.sl (row.map Go.Ex.AV.cs))] (gives [.d (.sl ((typesV row).map Ty.cs))]):=by
 refine ct_of_vc E_ok C_4e_ok ioK_no it_ok mixed (fn:=f14) (body:=f14.body.getD .skip) (by kernel_rfl) (by kernel_rfl) (by kernel_rfl) (fi:=fx_53 row) (by kernel_rfl) (by kernel_rfl) ⟨_,_,rfl,rfl⟩ ?_
 rw[vc53];dsimp -eta -iota -proj only[Zbt,Zej,Zdr,Zdg,Zcf,Zbg,Zdq,Zfa,Ze0,Zee,Zdt]
 refine⟨_,rfl,(0:Nat),⟨rfl,row.length,Nat.zero_le _,rfl⟩,fun m (x:Nat) hx=>⟨fun hi=>?_,fun hi=>?_⟩⟩
 ·have hi:x<row.length:=by simpa using hi
  have hm:=hx.2
  refine⟨_,rfl,⟨by omega,by rw[List.length_map];omega⟩,(row[x]).cs,by rw[Int.toNat_natCast,List.getElem?_map,List.getElem?_eq_getElem hi];rfl,rfl,_,_,_,_,_,rfl,by simp,rfl,rfl,?_,row.length-(x+1),x+1,by omega,?_,hi,rfl⟩
  ·have:(List.map Ty.cs (typesV (List.take x row))).length≤row.length:=by simp[typesV];omega
   simp only[Nat.succ_eq_add_one];omega
  ·rw[wrap_next (by omega),List.take_add_one,List.getElem?_eq_getElem hi,Option.toList_some]
   simp only[typesV,List.map_append,List.map_cons,List.map_nil]
 ·have hi:¬x<row.length:=by simpa using hi
  rw[List.take_of_length_le (by omega)]
  exact⟨rfl,rfl⟩
def c_53(a:List R)(K:KT):Prop:=match a with
 |[.d (.sl x)]=>∃row:List Go.Ex.AV,x=row.map Go.Ex.AV.cs∧row.length≤4398046511104∧K [.d (.sl ((typesV row).map Ty.cs))] []
 |_=>False
theorem c_53_ok(a:List R)(K:KT)(h:c_53 a K):Ct prog gl 14 a K:=by
 unfold c_53 at h
 split at h
 ·obtain⟨row,rfl,h1,h2⟩:=h
  exact(ct53 row h1).gives h2
 ·exact h.elim
def checkE(cols:List Ty)(e:EX):Ty×Int:=
 bif (bif bif bif cols.any badT then true else decide (nodes e>256)then true else decide (deep e>24)then true else !mayE cols.length e)then(⟨0,0⟩,140)else(bif !(typedE cols e).2 then(⟨0,0⟩,21)else((typedE cols e).1,0))
theorem ct15:∀(e:EX) (cols:List Ty),fits e→cols.length≤8796093022208→Ct prog gl 13 [.agg (cells e),.d (.sl (cols.map Ty.cs))] (gives [.agg (checkE cols e).1.cs,.d (.v (.int .i64 (checkE cols e).2))])
 | .mk op sub t v args,cols,hf,hcl=>by
   rw[cells_mk]
   refine ctv C_g4_ok f13 fi13 ⟨_,_,rfl,rfl⟩ ?_
   rw[vc15];dsimp -eta -iota -proj only[Zet,Zdu,Zco,Z7,Z6,Zej,Zen,Zd3,Zdw,Ze7]
   have hc:encX op sub t v (cellsL args)=cells (.mk op sub t v args):=(cells_mk _ _ _ _ _).symm
   refine⟨cols,rfl,by omega,.mk op sub t v args,hc,hf,.mk op sub t v args,hc,hf,_,rfl,.mk op sub t v args,hc,hf,fun h=>?_,fun h=>?_⟩
   ·rw[List.length_map]at h
    unfold checkE
    rw[h];exact⟨rfl,rfl⟩
   ·rw[List.length_map]at h
    refine⟨.mk op sub t v args,cols,hc,rfl,hf,?_,hcl,fun t' ok ht=>⟨fun h2=>?_,fun h2=>?_⟩⟩
    ·revert h
     cases mayE (cols.length:Int) (.mk op sub t v args)<;>cases cols.any badT<;>cases decide (nodes (EX.mk op sub t v args)>256)<;>cases decide (deep (EX.mk op sub t v args)>24)<;>simp
    ·unfold checkE
     rw[h,ht]
     simp only[h2,cond_true,cond_false]
     exact⟨rfl,rfl⟩
    ·unfold checkE
     rw[h,ht]
     simp only[h2,cond_true,cond_false]
     exact⟨rfl,rfl⟩
def c_15(a:List R)(K:KT):Prop:=match a with
 |[.agg x,.d (.sl y)]=>∃(e:EX) (cols:List Ty),x=cells e∧y=cols.map Ty.cs∧fits e∧cols.length≤8796093022208∧(∀(t:Ty) (f:Int),checkE cols e=(t,f)→K [.agg t.cs,.d (.v (.int .i64 f))] [])
 |_=>False
theorem c_15_ok(a:List R)(K:KT)(h:c_15 a K):Ct prog gl 13 a K:=by
 unfold c_15 at h
 split at h
 ·obtain⟨e,cols,rfl,rfl,h1,h2,h3⟩:=h
  exact(ct15 e cols h1 h2).gives (h3 _ _ rfl)
 ·exact h.elim
def C_g5:CallT:=addC (addC C_g4 14 c_53) 13 c_15
theorem C_g5_ok:CallsOk prog gl C_g5:=addC_ok (addC_ok C_g4_ok c_53_ok) c_15_ok
end Go.Proofs.Tryz
