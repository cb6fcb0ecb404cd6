/- Part of the proof: contracts of functions; no condition. -/
import Derived.Test.YtabbmgfeemkkbaaGreatDoorB1
namespace Go.Proofs.Tryz
open Go Go.Dm
set_option maxRecDepth 100000
variable {gl:Nat→Option Obj}
def jm:aj:=fun _ _ _=>False
theorem bq:ah prog gl jm:=fun _ _ _ h=>h.elim
def WA(nu NO a2:Int)(a3:KT)(a4:Int):Prop:=((bif nu==NO then true else a2==NO)=true→a3 [.d (.i NO)] [])∧((bif nu==NO then true else a2==NO)=false→((bif nu==a4 then a2==a4 else false)=true→a3 [.d (.i a4)] [])∧((bif nu==a4 then a2==a4 else false)=false→a3 [.d (.i 2)] []))
theorem akp(a0:Int)(a1:Int)(Q:KT):vc bl jm bf Y_ (f90.body.getD .skip) f90.results.toList [.d (.v (.int .i64 a0)),.d (.v (.int .i64 a1))] Q=(WA a0 (0:Int) a1 Q (1:Int)):=by kernel_rfl
def nN(a0:Int)(a1:Int):Int:=bif bif a0==(0:Int)then true else a1==(0:Int)then(0:Int)
 else bif bif a0==(1:Int)then a1==(1:Int)else false then(1:Int)else(2:Int)
theorem akq(a0:Int)(a1:Int):Ct prog gl 90 [.d (.v (.int .i64 a0)),.d (.v (.int .i64 a1))] (gives [R.d (D.v (Value.int IntKind.i64 (nN a0 a1)))]):=
 cz bq f90 Y_ ⟨_,_,rfl,rfl⟩ (by
  rw[akp];dsimp -eta -iota -proj only[WA]
  (repeat' first|exact⟨rfl,rfl⟩|apply aS<;>intro h)
  all_goals(refine⟨?_,rfl⟩;simp only[nN, *,cond_true,cond_false]))
def Ui(a:List R)(K:KT):Prop:=match a with|[.d (.v (.int .i64 a0)),.d (.v (.int .i64 a1))]=>K [R.d (D.v (Value.int IntKind.i64 (nN a0 a1)))] []|_=>False
theorem OL:CK gl Ui 90:=fun a K h=>by
 unfold Ui at h
 split at h
 ·exact(akq _ _).gives h
 ·exact h.elim
def C_1:aj:=au jm 90 Ui
theorem Uj:ah prog gl C_1:=af bq OL
def Zja(nu:Int):List R:=[.agg [.i 2,.i 0,.v (.bool false),.i nu,.v (.string ⟨⟨[]⟩⟩)]]
theorem akr(a0:Int)(Q:KT):vc bl jm bf YA (f42.body.getD .skip) f42.results.toList [.d (.v (.int .i64 a0))] Q=(Q (Zja a0) []):=by kernel_rfl
theorem aks(a0:Int):Ct prog gl 42 [.d (.v (.int .i64 a0))] (gives [R.agg
  [D.v (Value.int IntKind.i64 (2:Int)),D.v (Value.int IntKind.i64 (0:Int)),D.v (Value.bool false),
   D.v (Value.int IntKind.i64 a0),D.v (Value.string {data:={toList:=[]:Array UInt8}:ByteArray})]]):=
 cz bq f42 YA ⟨_,_,rfl,rfl⟩ (by
  rw[akr];dsimp -eta -iota -proj only[Zja]
  (repeat' first|exact⟨rfl,rfl⟩|apply aS<;>intro h)
  all_goals(refine⟨?_,rfl⟩;simp only[*,cond_true,cond_false]))
def OM(a:List R)(K:KT):Prop:=match a with|[.d (.v (.int .i64 a0))]=>K [R.agg
 [D.v (Value.int IntKind.i64 (2:Int)),D.v (Value.int IntKind.i64 (0:Int)),D.v (Value.bool false),
  D.v (Value.int IntKind.i64 a0),D.v (Value.string {data:={toList:=[]:Array UInt8}:ByteArray})]] []|_=>False
theorem CJ:CK gl OM 42:=fun a K h=>by
 unfold OM at h
 split at h
 ·exact(aks _).gives h
 ·exact h.elim
def C_2:aj:=au C_1 42 OM
theorem Uk:ah prog gl C_2:=af Uj CJ
theorem akt(a0:Int)(a1:Int)(Q:KT):vc bl jm bf Yr (f18.body.getD .skip) f18.results.toList [.agg [.v (.int .i64 a0),.v (.int .i64 a1)]] Q=(((bif bif bif bif decide (a0<1)then true else decide (a0>5)then true else decide (a1<0)then true else decide (a1>18)then true else bif a0 != (3:Int)then a1 != (0:Int)else false)=true→Q [.d (.i 21)] [])∧((bif bif bif bif decide (a0<1)then true else decide (a0>5)then true else decide (a1<0)then true else decide (a1>18)then true else bif a0 != (3:Int)then a1 != (0:Int)else false)=false→Q [.d (.i 0)] [])):=by kernel_rfl
def dS(a0:Int)(a1:Int):Int:=bif
  bif
    bif
          bif bif decide (a0<(1:Int))then true else decide (a0>(5:Int))then true
          else decide (a1<(0:Int))then
     true
    else decide (a1>(18:Int))then
   true
  else bif a0 != (3:Int)then a1 != (0:Int)else false then
 (21:Int)
 else(0:Int)
theorem aku(a0:Int)(a1:Int):Ct prog gl 18 [.agg [.v (.int .i64 a0),.v (.int .i64 a1)]] (gives [R.d (D.v (Value.int IntKind.i64 (dS a0 a1)))]):=
 cz bq f18 Yr ⟨_,_,rfl,rfl⟩ (by
  rw[akt]
  (repeat' first|exact⟨rfl,rfl⟩|apply aS<;>intro h)
  all_goals(refine⟨?_,rfl⟩;simp only[dS, *,cond_true,cond_false]))
def Ul(a:List R)(K:KT):Prop:=match a with|[.agg [.v (.int .i64 a0),.v (.int .i64 a1)]]=>K [R.d (D.v (Value.int IntKind.i64 (dS a0 a1)))] []|_=>False
theorem ON:CK gl Ul 18:=fun a K h=>by
 unfold Ul at h
 split at h
 ·exact(aku _ _).gives h
 ·exact h.elim
def C_3:aj:=au C_2 18 Ul
theorem Um:ah prog gl C_3:=af Uk ON
theorem akv(a0:Int)(Q:KT):vc bl jm bf YI (f53.body.getD .skip) f53.results.toList [.d (.v (.int .i64 a0))] Q=(Q [.d (.v (.bool (bif decide (a0≥(-999999999999999999:Int))then decide (a0≤999999999999999999)else false)))] []):=by kernel_rfl
def eo(a0:Int):Bool:=bif decide (a0≥(-999999999999999999:Int))then decide (a0≤(999999999999999999:Int))else false
theorem akw(a0:Int):Ct prog gl 53 [.d (.v (.int .i64 a0))] (gives [R.d (D.v (Value.bool (eo a0)))]):=
 cz bq f53 YI ⟨_,_,rfl,rfl⟩ (by
  rw[akv]
  (repeat' first|exact⟨rfl,rfl⟩|apply aS<;>intro h)
  all_goals(refine⟨?_,rfl⟩;simp only[eo, *,cond_true,cond_false]))
def Un(a:List R)(K:KT):Prop:=match a with|[.d (.v (.int .i64 a0))]=>K [R.d (D.v (Value.bool (eo a0)))] []|_=>False
theorem OO:CK gl Un 53:=fun a K h=>by
 unfold Un at h
 split at h
 ·exact(akw _).gives h
 ·exact h.elim
def C_4:aj:=au C_3 53 Un
theorem Uo:ah prog gl C_4:=af Um OO
def Z8(a0 a1:Int):List D:=[.i a0,.i 0,.v (.bool false),.i a1,.v (.string ⟨⟨[]⟩⟩)]
def Zf2(a0:Int):List R:=[.agg (Z8 (1:Int) a0)]
def Zgc(a0:KT)(a1:Int):Prop:=a0 (Zf2 a1) []
def Zg5(nu:Bool)(a1:KT):Prop:=(nu=true→Zgc a1 (1:Int))∧(nu=false→Zgc a1 (0:Int))
theorem aky(a0:Bool)(Q:KT):vc bl jm bf Yq (f16.body.getD .skip) f16.results.toList [.d (.v (.bool a0))] Q=(Zg5 a0 Q):=by kernel_rfl
def nO(a0:Bool):Int:=bif a0 then(1:Int)else(0:Int)
theorem akz(a0:Bool):Ct prog gl 16 [.d (.v (.bool a0))] (gives [R.agg
  [D.v (Value.int IntKind.i64 (1:Int)),D.v (Value.int IntKind.i64 (0:Int)),D.v (Value.bool false),
   D.v (Value.int IntKind.i64 (nO a0)),D.v (Value.string {data:={toList:=[]:Array UInt8}:ByteArray})]]):=
 cz bq f16 Yq ⟨_,_,rfl,rfl⟩ (by
  rw[aky];dsimp -eta -iota -proj only[Zg5,Zgc,Zf2,Z8]
  (repeat' first|exact⟨rfl,rfl⟩|apply aS<;>intro h)
  all_goals(refine⟨?_,rfl⟩;simp only[nO, *,cond_true,cond_false]))
def OP(a:List R)(K:KT):Prop:=match a with|[.d (.v (.bool a0))]=>K [R.agg
 [D.v (Value.int IntKind.i64 (1:Int)),D.v (Value.int IntKind.i64 (0:Int)),D.v (Value.bool false),
  D.v (Value.int IntKind.i64 (nO a0)),D.v (Value.string {data:={toList:=[]:Array UInt8}:ByteArray})]] []|_=>False
theorem CL:CK gl OP 16:=fun a K h=>by
 unfold OP at h
 split at h
 ·exact(akz _).gives h
 ·exact h.elim
def C_5:aj:=au C_4 16 OP
theorem Up:ah prog gl C_5:=af Uo CL
def C_6:aj:=C_5
theorem Uq:ah prog gl C_6:=Up
def C_7:aj:=C_6
theorem Ur:ah prog gl C_7:=Uq
def C_8:aj:=C_7
theorem Us:ah prog gl C_8:=Ur
def dK(a0:KT)(a1 a2:Int):Prop:=a0 [.d (.i a1),.d (.i a2)] []
def Gn(a0:Int)(a1:KT)(a2:Int):Prop:=(a0==0)=true→dK a1 (0:Int) a2
def Zhw(nu:Int)(a1:KT)(a2':Bool)(a3':Int):Prop:=((nu != (1:Int))=true→dK a1 (0:Int) (21:Int))∧((nu != (1:Int))=false→(a2'=true→dK a1 (2:Int) (0:Int))∧(a2'=false→(Gn a3' a1 (0:Int))∧((a3'==(0:Int))=false→dK a1 (1:Int) (0:Int))))
theorem ZT(a0:Int)(a1:Int)(a2:Bool)(a3:Int)(a4:ByteArray)(Q:KT):vc bl jm bf ZA (f93.body.getD .skip) f93.results.toList [.agg [.v (.int .i64 a0),.v (.int .i64 a1),.v (.bool a2),.v (.int .i64 a3),.v (.string a4)]] Q=(Zhw a0 Q a2 a3):=by kernel_rfl
def su(a0:Int)(a1:Int)(a2:Bool)(a3:Int)(a4:ByteArray):Int:=bif a0 != (1:Int)then(0:Int)else bif a2 then(2:Int)else bif a3==(0:Int)then(0:Int)else(1:Int)
def Ao(a0:Int)(a1:Int)(a2:Bool)(a3:Int)(a4:ByteArray):Int:=bif a0 != (1:Int)then(21:Int)else(0:Int)
theorem ZU(a0:Int)(a1:Int)(a2:Bool)(a3:Int)(a4:ByteArray):Ct prog gl 93 [.agg [.v (.int .i64 a0),.v (.int .i64 a1),.v (.bool a2),.v (.int .i64 a3),.v (.string a4)]] (gives [R.d (D.v (Value.int IntKind.i64 (su a0 a1 a2 a3 a4))),R.d (D.v (Value.int IntKind.i64 (Ao a0 a1 a2 a3 a4)))]):=
 cz bq f93 ZA ⟨_,_,rfl,rfl⟩ (by
  rw[ZT];dsimp -eta -iota -proj only[Zhw,dK,Gn]
  (repeat' first|exact⟨rfl,rfl⟩|apply aS<;>intro h)
  all_goals(refine⟨?_,rfl⟩;simp only[su,Ao, *,cond_true,cond_false]))
def Gp(a:List R)(K:KT):Prop:=match a with|[.agg [.v (.int .i64 a0),.v (.int .i64 a1),.v (.bool a2),.v (.int .i64 a3),.v (.string a4)]]=>K [R.d (D.v (Value.int IntKind.i64 (su a0 a1 a2 a3 a4))),R.d (D.v (Value.int IntKind.i64 (Ao a0 a1 a2 a3 a4)))] []|_=>False
theorem Gq:CK gl Gp 93:=fun a K h=>by
 unfold Gp at h
 split at h
 ·exact(ZU _ _ _ _ _).gives h
 ·exact h.elim
def C_9:aj:=au C_8 93 Gp
theorem Ut:ah prog gl C_9:=af Us Gq
theorem ZV(a0:Int)(Q:KT):vc bl jm bf ZE (f97.body.getD .skip) f97.results.toList [.d (.v (.int .i64 a0))] Q=(Q [.d (.v (.bool (bif decide ((-999999999999999999:Int)≤a0)then decide (a0≤999999999999999999)else false)))] []):=by kernel_rfl
def bZ(a0:Int):Bool:=bif decide ((-999999999999999999:Int)≤a0)then decide (a0≤(999999999999999999:Int))else false
theorem ZW(a0:Int):Ct prog gl 97 [.d (.v (.int .i64 a0))] (gives [R.d (D.v (Value.bool (bZ a0)))]):=
 cz bq f97 ZE ⟨_,_,rfl,rfl⟩ (by
  rw[ZV]
  (repeat' first|exact⟨rfl,rfl⟩|apply aS<;>intro h)
  all_goals(refine⟨?_,rfl⟩;simp only[bZ, *,cond_true,cond_false]))
def Gr(a:List R)(K:KT):Prop:=match a with|[.d (.v (.int .i64 a0))]=>K [R.d (D.v (Value.bool (bZ a0)))] []|_=>False
theorem Gs:CK gl Gr 97:=fun a K h=>by
 unfold Gr at h
 split at h
 ·exact(ZW _).gives h
 ·exact h.elim
def ZX:aj:=au C_9 97 Gr
theorem OQ:ah prog gl ZX:=af Ut Gs
def Uu(nu a1:Int)(a2:KT)(a3:Int):Prop:=(nu==a1)=true→a2 [.d (.i a3)] []
def Fe(nu a1:Int)(a2:KT)(a3:Int)(k:Prop):Prop:=(Uu nu a1 a2 a3)∧k
def Ff(nu a1 a2:Int)(a3:KT)(a4:Int)(k:Prop):Prop:=(nu==a1)=false→Fe nu a2 a3 a4 (k)
def Zjs(nu:Int)(a1:KT):Prop:=Fe nu (0:Int) a1 (1:Int) ((Ff nu (0:Int) (1:Int) a1 (0:Int) (((nu==(1:Int))=false→a1 [.d (.i 2)] []))))
theorem ZY(a0:Int)(Q:KT):vc bl jm bf Ro (f103.body.getD .skip) f103.results.toList [.d (.v (.int .i64 a0))] Q=(Zjs a0 Q):=by kernel_rfl
def hZ(a0:Int):Int:=bif a0==(0:Int)then(1:Int)else bif a0==(1:Int)then(0:Int)else(2:Int)
theorem ZZ(a0:Int):Ct prog gl 103 [.d (.v (.int .i64 a0))] (gives [R.d (D.v (Value.int IntKind.i64 (hZ a0)))]):=
 cz bq f103 Ro ⟨_,_,rfl,rfl⟩ (by
  rw[ZY];dsimp -eta -iota -proj only[Zjs,Fe,Uu,Ff]
  (repeat' first|exact⟨rfl,rfl⟩|apply aS<;>intro h)
  all_goals(refine⟨?_,rfl⟩;simp only[hZ, *,cond_true,cond_false]))
def Gt(a:List R)(K:KT):Prop:=match a with|[.d (.v (.int .i64 a0))]=>K [R.d (D.v (Value.int IntKind.i64 (hZ a0)))] []|_=>False
theorem Gu:CK gl Gt 103:=fun a K h=>by
 unfold Gt at h
 split at h
 ·exact(ZZ _).gives h
 ·exact h.elim
def Z_:aj:=au ZX 103 Gt
theorem OR:ah prog gl Z_:=af OQ Gu
def Zjq(nu NO:Int):List R:=[.agg [.i nu,.i NO,.v (.bool true),.i 0,.v (.string ⟨⟨[]⟩⟩)]]
theorem aaa(a0:Int)(a1:Int)(Q:KT):vc bl jm bf Rq (f105.body.getD .skip) f105.results.toList [.agg [.v (.int .i64 a0),.v (.int .i64 a1)]] Q=(Q (Zjq a0 a1) []):=by kernel_rfl
theorem aab(a0:Int)(a1:Int):Ct prog gl 105 [.agg [.v (.int .i64 a0),.v (.int .i64 a1)]] (gives [R.agg
  [D.v (Value.int IntKind.i64 a0),D.v (Value.int IntKind.i64 a1),D.v (Value.bool true),
   D.v (Value.int IntKind.i64 (0:Int)),D.v (Value.string {data:={toList:=[]:Array UInt8}:ByteArray})]]):=
 cz bq f105 Rq ⟨_,_,rfl,rfl⟩ (by
  rw[aaa];dsimp -eta -iota -proj only[Zjq]
  (repeat' first|exact⟨rfl,rfl⟩|apply aS<;>intro h)
  all_goals(refine⟨?_,rfl⟩;simp only[*,cond_true,cond_false]))
def Gv(a:List R)(K:KT):Prop:=match a with|[.agg [.v (.int .i64 a0),.v (.int .i64 a1)]]=>K [R.agg
 [D.v (Value.int IntKind.i64 a0),D.v (Value.int IntKind.i64 a1),D.v (Value.bool true),
  D.v (Value.int IntKind.i64 (0:Int)),D.v (Value.string {data:={toList:=[]:Array UInt8}:ByteArray})]] []|_=>False
theorem Gw:CK gl Gv 105:=fun a K h=>by
 unfold Gv at h
 split at h
 ·exact(aab _ _).gives h
 ·exact h.elim
def aac:aj:=au Z_ 105 Gv
theorem OS:ah prog gl aac:=af OR Gw
theorem aad(a0:Int)(Q:KT):vc bl jm bf YR (f63.body.getD .skip) f63.results.toList [.d (.v (.int .i64 a0))] Q=(Q [.d (.v (.bool (bif decide (a0≥0)then decide (a0≤18)else false)))] []):=by kernel_rfl
def dZ(a0:Int):Bool:=bif decide (a0≥(0:Int))then decide (a0≤(18:Int))else false
theorem aae(a0:Int):Ct prog gl 63 [.d (.v (.int .i64 a0))] (gives [R.d (D.v (Value.bool (dZ a0)))]):=
 cz bq f63 YR ⟨_,_,rfl,rfl⟩ (by
  rw[aad]
  (repeat' first|exact⟨rfl,rfl⟩|apply aS<;>intro h)
  all_goals(refine⟨?_,rfl⟩;simp only[dZ, *,cond_true,cond_false]))
def Gx(a:List R)(K:KT):Prop:=match a with|[.d (.v (.int .i64 a0))]=>K [R.d (D.v (Value.bool (dZ a0)))] []|_=>False
theorem Gy:CK gl Gx 63:=fun a K h=>by
 unfold Gx at h
 split at h
 ·exact(aae _).gives h
 ·exact h.elim
def aaf:aj:=au aac 63 Gx
theorem OT:ah prog gl aaf:=af OS Gy
theorem aag(a0:Int)(a1:Int)(Q:KT):vc bl jm bf YX (f69.body.getD .skip) f69.results.toList [.agg [.v (.int .i64 a0),.v (.int .i64 a1)]] Q=(Q [.d (.v (.bool (bif a0==2 then true else a0==3)))] []):=by kernel_rfl
def aH(a0:Int)(a1:Int):Bool:=bif a0==(2:Int)then true else a0==(3:Int)
theorem aah(a0:Int)(a1:Int):Ct prog gl 69 [.agg [.v (.int .i64 a0),.v (.int .i64 a1)]] (gives [R.d (D.v (Value.bool (aH a0 a1)))]):=
 cz bq f69 YX ⟨_,_,rfl,rfl⟩ (by
  rw[aag]
  (repeat' first|exact⟨rfl,rfl⟩|apply aS<;>intro h)
  all_goals(refine⟨?_,rfl⟩;simp only[aH, *,cond_true,cond_false]))
def Gz(a:List R)(K:KT):Prop:=match a with|[.agg [.v (.int .i64 a0),.v (.int .i64 a1)]]=>K [R.d (D.v (Value.bool (aH a0 a1)))] []|_=>False
theorem GA:CK gl Gz 69:=fun a K h=>by
 unfold Gz at h
 split at h
 ·exact(aah _ _).gives h
 ·exact h.elim
def aai:aj:=au aaf 69 Gz
theorem OU:ah prog gl aai:=af OT GA
theorem aaj(a0:Int)(a1:Int)(a2:Int)(a3:Int)(a4:Int)(a5:Int)(a6:Bool)(a7:Int)(a8:ByteArray)(a9:List (List D))(Q:KT):vc bl jm bf OG (f34.body.getD .skip) f34.results.toList [.agg [.v (.int .i64 a0),.v (.int .i64 a1),.v (.int .i64 a2),.v (.int .i64 a3),.v (.int .i64 a4),.v (.int .i64 a5),.v (.bool a6),.v (.int .i64 a7),.v (.string a8),.sl a9]] Q=(Q [.d (.v (.bool (a0 != (2:Int))))] []):=by kernel_rfl
def Ap(a0:Int)(a1:Int)(a2:Int)(a3:Int)(a4:Int)(a5:Int)(a6:Bool)(a7:Int)(a8:ByteArray)(a9:List (List D)):Bool:=a0 != (2:Int)
theorem aak(a0:Int)(a1:Int)(a2:Int)(a3:Int)(a4:Int)(a5:Int)(a6:Bool)(a7:Int)(a8:ByteArray)(a9:List (List D)):Ct prog gl 34 [.agg [.v (.int .i64 a0),.v (.int .i64 a1),.v (.int .i64 a2),.v (.int .i64 a3),.v (.int .i64 a4),.v (.int .i64 a5),.v (.bool a6),.v (.int .i64 a7),.v (.string a8),.sl a9]] (gives [R.d (D.v (Value.bool (Ap a0 a1 a2 a3 a4 a5 a6 a7 a8 a9)))]):=
 cz bq f34 OG ⟨_,_,rfl,rfl⟩ (by
  rw[aaj]
  (repeat' first|exact⟨rfl,rfl⟩|apply aS<;>intro h)
  all_goals(refine⟨?_,rfl⟩;simp only[Ap, *,cond_true,cond_false]))
def GB(a:List R)(K:KT):Prop:=match a with|[.agg [.v (.int .i64 a0),.v (.int .i64 a1),.v (.int .i64 a2),.v (.int .i64 a3),.v (.int .i64 a4),.v (.int .i64 a5),.v (.bool a6),.v (.int .i64 a7),.v (.string a8),.sl a9]]=>K [R.d (D.v (Value.bool (Ap a0 a1 a2 a3 a4 a5 a6 a7 a8 a9)))] []|_=>False
theorem GC:CK gl GB 34:=fun a K h=>by
 unfold GB at h
 split at h
 ·exact(aak _ _ _ _ _ _ _ _ _ _).gives h
 ·exact h.elim
def aal:aj:=au aai 34 GB
theorem OV:ah prog gl aal:=af OU GC
theorem aam(a0:Int)(Q:KT):vc bl jm bf YE (f47.body.getD .skip) f47.results.toList [.d (.v (.int .i64 a0))] Q=(Q [.agg [.i a0,.i 0]] []):=by kernel_rfl
theorem aan(a0:Int):Ct prog gl 47 [.d (.v (.int .i64 a0))] (gives [R.agg [D.v (Value.int IntKind.i64 a0),D.v (Value.int IntKind.i64 (0:Int))]]):=
 cz bq f47 YE ⟨_,_,rfl,rfl⟩ (by
  rw[aam]
  (repeat' first|exact⟨rfl,rfl⟩|apply aS<;>intro h)
  all_goals(refine⟨?_,rfl⟩;simp only[*,cond_true,cond_false]))
def GD(a:List R)(K:KT):Prop:=match a with|[.d (.v (.int .i64 a0))]=>K [R.agg [D.v (Value.int IntKind.i64 a0),D.v (Value.int IntKind.i64 (0:Int))]] []|_=>False
theorem GF:CK gl GD 47:=fun a K h=>by
 unfold GD at h
 split at h
 ·exact(aan _).gives h
 ·exact h.elim
def aao:aj:=au aal 47 GD
theorem OW:ah prog gl aao:=af OV GF
theorem aap(a0:Int)(a1:Int)(Q:KT):vc bl jm bf YL (f57.body.getD .skip) f57.results.toList [.agg [.v (.int .i64 a0),.v (.int .i64 a1)]] Q=(Q (Zjq a0 a1) []):=by kernel_rfl
theorem aaq(a0:Int)(a1:Int):Ct prog gl 57 [.agg [.v (.int .i64 a0),.v (.int .i64 a1)]] (gives [R.agg
  [D.v (Value.int IntKind.i64 a0),D.v (Value.int IntKind.i64 a1),D.v (Value.bool true),
   D.v (Value.int IntKind.i64 (0:Int)),D.v (Value.string {data:={toList:=[]:Array UInt8}:ByteArray})]]):=
 cz bq f57 YL ⟨_,_,rfl,rfl⟩ (by
  rw[aap];dsimp -eta -iota -proj only[Zjq]
  (repeat' first|exact⟨rfl,rfl⟩|apply aS<;>intro h)
  all_goals(refine⟨?_,rfl⟩;simp only[*,cond_true,cond_false]))
def GG(a:List R)(K:KT):Prop:=match a with|[.agg [.v (.int .i64 a0),.v (.int .i64 a1)]]=>K [R.agg
 [D.v (Value.int IntKind.i64 a0),D.v (Value.int IntKind.i64 a1),D.v (Value.bool true),
  D.v (Value.int IntKind.i64 (0:Int)),D.v (Value.string {data:={toList:=[]:Array UInt8}:ByteArray})]] []|_=>False
theorem GH:CK gl GG 57:=fun a K h=>by
 unfold GG at h
 split at h
 ·exact(aaq _ _).gives h
 ·exact h.elim
def aar:aj:=au aao 57 GG
theorem OX:ah prog gl aar:=af OW GH
theorem aas(a0:Int)(Q:KT):vc bl jm bf YN (f59.body.getD .skip) f59.results.toList [.d (.v (.int .i64 a0))] Q=(Zjs a0 Q):=by kernel_rfl
def jc(a0:Int):Int:=bif a0==(0:Int)then(1:Int)else bif a0==(1:Int)then(0:Int)else(2:Int)
theorem aat(a0:Int):Ct prog gl 59 [.d (.v (.int .i64 a0))] (gives [R.d (D.v (Value.int IntKind.i64 (jc a0)))]):=
 cz bq f59 YN ⟨_,_,rfl,rfl⟩ (by
  rw[aas];dsimp -eta -iota -proj only[Zjs,Fe,Uu,Ff]
  (repeat' first|exact⟨rfl,rfl⟩|apply aS<;>intro h)
  all_goals(refine⟨?_,rfl⟩;simp only[jc, *,cond_true,cond_false]))
def GI(a:List R)(K:KT):Prop:=match a with|[.d (.v (.int .i64 a0))]=>K [R.d (D.v (Value.int IntKind.i64 (jc a0)))] []|_=>False
theorem GJ:CK gl GI 59:=fun a K h=>by
 unfold GI at h
 split at h
 ·exact(aat _).gives h
 ·exact h.elim
def aau:aj:=au aar 59 GI
theorem OY:ah prog gl aau:=af OX GJ
def aav:aj:=aau
theorem OZ:ah prog gl aav:=OY
theorem aaw(a0:Int)(a1:Int)(Q:KT):vc bl jm bf Y9 (f89.body.getD .skip) f89.results.toList [.agg [.v (.int .i64 a0),.v (.int .i64 a1)]] Q=(Q [.d (.v (.bool (bif a0==2 then true else a0==3)))] []):=by kernel_rfl
def cG(a0:Int)(a1:Int):Bool:=bif a0==(2:Int)then true else a0==(3:Int)
theorem aax(a0:Int)(a1:Int):Ct prog gl 89 [.agg [.v (.int .i64 a0),.v (.int .i64 a1)]] (gives [R.d (D.v (Value.bool (cG a0 a1)))]):=
 cz bq f89 Y9 ⟨_,_,rfl,rfl⟩ (by
  rw[aaw]
  (repeat' first|exact⟨rfl,rfl⟩|apply aS<;>intro h)
  all_goals(refine⟨?_,rfl⟩;simp only[cG, *,cond_true,cond_false]))
def GK(a:List R)(K:KT):Prop:=match a with|[.agg [.v (.int .i64 a0),.v (.int .i64 a1)]]=>K [R.d (D.v (Value.bool (cG a0 a1)))] []|_=>False
theorem GL:CK gl GK 89:=fun a K h=>by
 unfold GK at h
 split at h
 ·exact(aax _ _).gives h
 ·exact h.elim
def aay:aj:=au aav 89 GK
theorem O0:ah prog gl aay:=af OZ GL
theorem aaz(a0:Int)(Q:KT):vc bl jm bf Y8 (f86.body.getD .skip) f86.results.toList [.d (.v (.int .i64 a0))] Q=(Fe a0 (3:Int) Q (2:Int) (((a0==3)=false→Q [.d (.i a0)] []))):=by kernel_rfl
def fh(a0:Int):Int:=bif a0==(3:Int)then(2:Int)else a0
theorem aaA(a0:Int):Ct prog gl 86 [.d (.v (.int .i64 a0))] (gives [R.d (D.v (Value.int IntKind.i64 (fh a0)))]):=
 cz bq f86 Y8 ⟨_,_,rfl,rfl⟩ (by
  rw[aaz];dsimp -eta -iota -proj only[Fe,Uu]
  (repeat' first|exact⟨rfl,rfl⟩|apply aS<;>intro h)
  all_goals(refine⟨?_,rfl⟩;simp only[fh, *,cond_true,cond_false]))
def GM(a:List R)(K:KT):Prop:=match a with|[.d (.v (.int .i64 a0))]=>K [R.d (D.v (Value.int IntKind.i64 (fh a0)))] []|_=>False
theorem GN:CK gl GM 86:=fun a K h=>by
 unfold GM at h
 split at h
 ·exact(aaA _).gives h
 ·exact h.elim
def aaB:aj:=au aay 86 GM
theorem O1:ah prog gl aaB:=af O0 GN
def Fg:List R:=[.d (.i (-1))]
def qD(a0:KT):Prop:=a0 Fg []
theorem aaC(a0:Bool)(a1:Bool)(Q:KT):vc bl jm bf RX (f142.body.getD .skip) f142.results.toList [.d (.v (.bool a0)),.d (.v (.bool a1))] Q=((a0=true→qD Q)∧(a0=false→(a1=true→Q [.d (.i 1)] [])∧(a1=false→Q [.d (.i 0)] []))):=by kernel_rfl
def w5(a0:Bool)(a1:Bool):Int:=bif a0 then(-1:Int)else bif a1 then(1:Int)else(0:Int)
theorem aaD(a0:Bool)(a1:Bool):Ct prog gl 142 [.d (.v (.bool a0)),.d (.v (.bool a1))] (gives [R.d (D.v (Value.int IntKind.i64 (w5 a0 a1)))]):=
 cz bq f142 RX ⟨_,_,rfl,rfl⟩ (by
  rw[aaC];dsimp -eta -iota -proj only[qD,Fg]
  (repeat' first|exact⟨rfl,rfl⟩|apply aS<;>intro h)
  all_goals(refine⟨?_,rfl⟩;simp only[w5, *,cond_true,cond_false]))
def GO(a:List R)(K:KT):Prop:=match a with|[.d (.v (.bool a0)),.d (.v (.bool a1))]=>K [R.d (D.v (Value.int IntKind.i64 (w5 a0 a1)))] []|_=>False
theorem GP:CK gl GO 142:=fun a K h=>by
 unfold GO at h
 split at h
 ·exact(aaD _ _).gives h
 ·exact h.elim
def aaE:aj:=au aaB 142 GO
theorem O2:ah prog gl aaE:=af O1 GP
def Tf(nu:Int)(NO:KT)(a2:Int):Prop:=((nu != (3:Int))=true→NO [.d (.i 0)] [])∧((nu != (3:Int))=false→NO [.d (.i (if(18:Int)<if(0:Int)>a2 then(0:Int)else a2 then(18:Int)else if(0:Int)>a2 then(0:Int)else a2))] [])
theorem aaF(a0:Int)(a1:Int)(a2:Bool)(a3:Int)(a4:ByteArray)(Q:KT):vc bl jm bf Rw (f113.body.getD .skip) f113.results.toList [.agg [.v (.int .i64 a0),.v (.int .i64 a1),.v (.bool a2),.v (.int .i64 a3),.v (.string a4)]] Q=(Tf a0 Q a1):=by kernel_rfl
def bJ(a0:Int)(a1:Int)(a2:Bool)(a3:Int)(a4:ByteArray):Int:=bif a0 != (3:Int)then(0:Int)
 else
 if(18:Int)<if(0:Int)>a1 then(0:Int)else a1 then(18:Int)else if(0:Int)>a1 then(0:Int)else a1
theorem aaG(a0:Int)(a1:Int)(a2:Bool)(a3:Int)(a4:ByteArray):Ct prog gl 113 [.agg [.v (.int .i64 a0),.v (.int .i64 a1),.v (.bool a2),.v (.int .i64 a3),.v (.string a4)]] (gives [R.d (D.v (Value.int IntKind.i64 (bJ a0 a1 a2 a3 a4)))]):=
 cz bq f113 Rw ⟨_,_,rfl,rfl⟩ (by
  rw[aaF];dsimp -eta -iota -proj only[Tf]
  (repeat' first|exact⟨rfl,rfl⟩|apply aS<;>intro h)
  all_goals(refine⟨?_,rfl⟩;simp only[bJ, *,cond_true,cond_false]))
def GQ(a:List R)(K:KT):Prop:=match a with|[.agg [.v (.int .i64 a0),.v (.int .i64 a1),.v (.bool a2),.v (.int .i64 a3),.v (.string a4)]]=>K [R.d (D.v (Value.int IntKind.i64 (bJ a0 a1 a2 a3 a4)))] []|_=>False
theorem GR:CK gl GQ 113:=fun a K h=>by
 unfold GQ at h
 split at h
 ·exact(aaG _ _ _ _ _).gives h
 ·exact h.elim
def aaH:aj:=au aaE 113 GQ
theorem O3:ah prog gl aaH:=af O2 GR
theorem aaI(a0:Int)(a1:Int)(a2:Int)(a3:Int)(Q:KT):vc bl jm bf RZ (f143.body.getD .skip) f143.results.toList [.agg [.v (.int .i64 a0),.v (.int .u64 a1)],.agg [.v (.int .i64 a2),.v (.int .u64 a3)]] Q=(((bif decide (a0<a2)then true else bif a0==a2 then decide (a1<a3)else false)=true→qD Q)∧((bif decide (a0<a2)then true else bif a0==a2 then decide (a1<a3)else false)=false→((a0==a2&&(a1==a3&&true))=true→Q [.d (.i 0)] [])∧((a0==a2&&(a1==a3&&true))=false→Q [.d (.i 1)] []))):=by kernel_rfl
def mN(a0:Int)(a1:Int)(a2:Int)(a3:Int):Int:=bif bif decide (a0<a2)then true else bif a0==a2 then decide (a1<a3)else false then(-1:Int)
 else bif a0==a2&&(a1==a3&&true)then(0:Int)else(1:Int)
theorem aaJ(a0:Int)(a1:Int)(a2:Int)(a3:Int):Ct prog gl 143 [.agg [.v (.int .i64 a0),.v (.int .u64 a1)],.agg [.v (.int .i64 a2),.v (.int .u64 a3)]] (gives [R.d (D.v (Value.int IntKind.i64 (mN a0 a1 a2 a3)))]):=
 cz bq f143 RZ ⟨_,_,rfl,rfl⟩ (by
  rw[aaI];dsimp -eta -iota -proj only[qD,Fg]
  (repeat' first|exact⟨rfl,rfl⟩|apply aS<;>intro h)
  all_goals(refine⟨?_,rfl⟩;simp only[mN, *,cond_true,cond_false]))
def GS(a:List R)(K:KT):Prop:=match a with|[.agg [.v (.int .i64 a0),.v (.int .u64 a1)],.agg [.v (.int .i64 a2),.v (.int .u64 a3)]]=>K [R.d (D.v (Value.int IntKind.i64 (mN a0 a1 a2 a3)))] []|_=>False
theorem GU:CK gl GS 143:=fun a K h=>by
 unfold GS at h
 split at h
 ·exact(aaJ _ _ _ _).gives h
 ·exact h.elim
def aaK:aj:=au aaH 143 GS
theorem O4:ah prog gl aaK:=af O3 GU
theorem aaL(a0:Int)(a1:Int)(Q:KT):vc bl jm bf RE (f121.body.getD .skip) f121.results.toList [.d (.v (.int .i64 a0)),.d (.v (.int .i64 a1))] Q=(WA a0 (0:Int) a1 Q (1:Int)):=by kernel_rfl
def gw(a0:Int)(a1:Int):Int:=bif bif a0==(0:Int)then true else a1==(0:Int)then(0:Int)
 else bif bif a0==(1:Int)then a1==(1:Int)else false then(1:Int)else(2:Int)
theorem aaM(a0:Int)(a1:Int):Ct prog gl 121 [.d (.v (.int .i64 a0)),.d (.v (.int .i64 a1))] (gives [R.d (D.v (Value.int IntKind.i64 (gw a0 a1)))]):=
 cz bq f121 RE ⟨_,_,rfl,rfl⟩ (by
  rw[aaL];dsimp -eta -iota -proj only[WA]
  (repeat' first|exact⟨rfl,rfl⟩|apply aS<;>intro h)
  all_goals(refine⟨?_,rfl⟩;simp only[gw, *,cond_true,cond_false]))
def GV(a:List R)(K:KT):Prop:=match a with|[.d (.v (.int .i64 a0)),.d (.v (.int .i64 a1))]=>K [R.d (D.v (Value.int IntKind.i64 (gw a0 a1)))] []|_=>False
theorem GW:CK gl GV 121:=fun a K h=>by
 unfold GV at h
 split at h
 ·exact(aaM _ _).gives h
 ·exact h.elim
def aaN:aj:=au aaK 121 GV
theorem O5:ah prog gl aaN:=af O4 GW
theorem aaO(a0:Int)(a1:Int)(Q:KT):vc bl jm bf RF (f122.body.getD .skip) f122.results.toList [.d (.v (.int .i64 a0)),.d (.v (.int .i64 a1))] Q=(WA a0 (1:Int) a1 Q (0:Int)):=by kernel_rfl
def fT(a0:Int)(a1:Int):Int:=bif bif a0==(1:Int)then true else a1==(1:Int)then(1:Int)
 else bif bif a0==(0:Int)then a1==(0:Int)else false then(0:Int)else(2:Int)
theorem aaP(a0:Int)(a1:Int):Ct prog gl 122 [.d (.v (.int .i64 a0)),.d (.v (.int .i64 a1))] (gives [R.d (D.v (Value.int IntKind.i64 (fT a0 a1)))]):=
 cz bq f122 RF ⟨_,_,rfl,rfl⟩ (by
  rw[aaO];dsimp -eta -iota -proj only[WA]
  (repeat' first|exact⟨rfl,rfl⟩|apply aS<;>intro h)
  all_goals(refine⟨?_,rfl⟩;simp only[fT, *,cond_true,cond_false]))
def GX(a:List R)(K:KT):Prop:=match a with|[.d (.v (.int .i64 a0)),.d (.v (.int .i64 a1))]=>K [R.d (D.v (Value.int IntKind.i64 (fT a0 a1)))] []|_=>False
theorem GY:CK gl GX 122:=fun a K h=>by
 unfold GX at h
 split at h
 ·exact(aaP _ _).gives h
 ·exact h.elim
def aaQ:aj:=au aaN 122 GX
theorem O6:ah prog gl aaQ:=af O5 GY
theorem aaR(a0:Int)(a1:Int)(a2:Bool)(a3:Int)(a4:ByteArray)(Q:KT):vc bl jm bf RG (f123.body.getD .skip) f123.results.toList [.agg [.v (.int .i64 a0),.v (.int .i64 a1),.v (.bool a2),.v (.int .i64 a3),.v (.string a4)]] Q=(Zhw a0 Q a2 a3):=by kernel_rfl
def o4(a0:Int)(a1:Int)(a2:Bool)(a3:Int)(a4:ByteArray):Int:=bif a0 != (1:Int)then(0:Int)else bif a2 then(2:Int)else bif a3==(0:Int)then(0:Int)else(1:Int)
def Aq(a0:Int)(a1:Int)(a2:Bool)(a3:Int)(a4:ByteArray):Int:=bif a0 != (1:Int)then(21:Int)else(0:Int)
theorem aaS(a0:Int)(a1:Int)(a2:Bool)(a3:Int)(a4:ByteArray):Ct prog gl 123 [.agg [.v (.int .i64 a0),.v (.int .i64 a1),.v (.bool a2),.v (.int .i64 a3),.v (.string a4)]] (gives [R.d (D.v (Value.int IntKind.i64 (o4 a0 a1 a2 a3 a4))),R.d (D.v (Value.int IntKind.i64 (Aq a0 a1 a2 a3 a4)))]):=
 cz bq f123 RG ⟨_,_,rfl,rfl⟩ (by
  rw[aaR];dsimp -eta -iota -proj only[Zhw,dK,Gn]
  (repeat' first|exact⟨rfl,rfl⟩|apply aS<;>intro h)
  all_goals(refine⟨?_,rfl⟩;simp only[o4,Aq, *,cond_true,cond_false]))
def GZ(a:List R)(K:KT):Prop:=match a with|[.agg [.v (.int .i64 a0),.v (.int .i64 a1),.v (.bool a2),.v (.int .i64 a3),.v (.string a4)]]=>K [R.d (D.v (Value.int IntKind.i64 (o4 a0 a1 a2 a3 a4))),R.d (D.v (Value.int IntKind.i64 (Aq a0 a1 a2 a3 a4)))] []|_=>False
theorem G0:CK gl GZ 123:=fun a K h=>by
 unfold GZ at h
 split at h
 ·exact(aaS _ _ _ _ _).gives h
 ·exact h.elim
def aaT:aj:=au aaQ 123 GZ
theorem O7:ah prog gl aaT:=af O6 G0
theorem aaU(a0:Int)(a1:Int)(Q:KT):vc bl jm bf RM (f128.body.getD .skip) f128.results.toList [.d (.v (.int .i64 a0)),.d (.v (.int .i64 a1))] Q=(((decide (IntKind.i64.wrap (a0+a1)>a0)==decide (a1>0))=true→Q [.d (.i (IntKind.i64.wrap (a0+a1))),.d (.i 0)] [])∧((decide (IntKind.i64.wrap (a0+a1)>a0)==decide (a1>0))=false→dK Q (0:Int) (10:Int))):=by kernel_rfl
def h_(a0:Int)(a1:Int):Int:=bif decide (IntKind.i64.wrap (a0+a1)>a0)==decide (a1>(0:Int))then IntKind.i64.wrap (a0+a1)else(0:Int)
def lh(a0:Int)(a1:Int):Int:=bif decide (IntKind.i64.wrap (a0+a1)>a0)==decide (a1>(0:Int))then(0:Int)else(10:Int)
theorem aaV(a0:Int)(a1:Int):Ct prog gl 128 [.d (.v (.int .i64 a0)),.d (.v (.int .i64 a1))] (gives [R.d (D.v (Value.int IntKind.i64 (h_ a0 a1))),R.d (D.v (Value.int IntKind.i64 (lh a0 a1)))]):=
 cz bq f128 RM ⟨_,_,rfl,rfl⟩ (by
  rw[aaU];dsimp -eta -iota -proj only[dK]
  (repeat' first|exact⟨rfl,rfl⟩|apply aS<;>intro h)
  all_goals(refine⟨?_,rfl⟩;simp only[h_,lh, *,cond_true,cond_false]))
def G1(a:List R)(K:KT):Prop:=match a with|[.d (.v (.int .i64 a0)),.d (.v (.int .i64 a1))]=>K [R.d (D.v (Value.int IntKind.i64 (h_ a0 a1))),R.d (D.v (Value.int IntKind.i64 (lh a0 a1)))] []|_=>False
theorem G2:CK gl G1 128:=fun a K h=>by
 unfold G1 at h
 split at h
 ·exact(aaV _ _).gives h
 ·exact h.elim
def aaW:aj:=au aaT 128 G1
theorem O8:ah prog gl aaW:=af O7 G2
theorem aaX(a0:Int)(a1:Int)(Q:KT):vc bl jm bf RN (f129.body.getD .skip) f129.results.toList [.d (.v (.int .i64 a0)),.d (.v (.int .i64 a1))] Q=(((decide (IntKind.i64.wrap (a0-a1)<a0)==decide (a1>0))=true→Q [.d (.i (IntKind.i64.wrap (a0-a1))),.d (.i 0)] [])∧((decide (IntKind.i64.wrap (a0-a1)<a0)==decide (a1>0))=false→dK Q (0:Int) (10:Int))):=by kernel_rfl
def eT(a0:Int)(a1:Int):Int:=bif decide (IntKind.i64.wrap (a0-a1)<a0)==decide (a1>(0:Int))then IntKind.i64.wrap (a0-a1)else(0:Int)
def ic(a0:Int)(a1:Int):Int:=bif decide (IntKind.i64.wrap (a0-a1)<a0)==decide (a1>(0:Int))then(0:Int)else(10:Int)
theorem aaY(a0:Int)(a1:Int):Ct prog gl 129 [.d (.v (.int .i64 a0)),.d (.v (.int .i64 a1))] (gives [R.d (D.v (Value.int IntKind.i64 (eT a0 a1))),R.d (D.v (Value.int IntKind.i64 (ic a0 a1)))]):=
 cz bq f129 RN ⟨_,_,rfl,rfl⟩ (by
  rw[aaX];dsimp -eta -iota -proj only[dK]
  (repeat' first|exact⟨rfl,rfl⟩|apply aS<;>intro h)
  all_goals(refine⟨?_,rfl⟩;simp only[eT,ic, *,cond_true,cond_false]))
def G3(a:List R)(K:KT):Prop:=match a with|[.d (.v (.int .i64 a0)),.d (.v (.int .i64 a1))]=>K [R.d (D.v (Value.int IntKind.i64 (eT a0 a1))),R.d (D.v (Value.int IntKind.i64 (ic a0 a1)))] []|_=>False
theorem G4:CK gl G3 129:=fun a K h=>by
 unfold G3 at h
 split at h
 ·exact(aaY _ _).gives h
 ·exact h.elim
def aaZ:aj:=au aaW 129 G3
theorem O9:ah prog gl aaZ:=af O8 G4
theorem aa0(a0:Int)(Q:KT):vc bl jm bf ZF (f98.body.getD .skip) f98.results.toList [.d (.v (.int .i64 a0))] Q=(Fe a0 (3:Int) Q (2:Int) (((a0==3)=false→Q [.d (.i a0)] []))):=by kernel_rfl
def bG(a0:Int):Int:=bif a0==(3:Int)then(2:Int)else a0
theorem aa1(a0:Int):Ct prog gl 98 [.d (.v (.int .i64 a0))] (gives [R.d (D.v (Value.int IntKind.i64 (bG a0)))]):=
 cz bq f98 ZF ⟨_,_,rfl,rfl⟩ (by
  rw[aa0];dsimp -eta -iota -proj only[Fe,Uu]
  (repeat' first|exact⟨rfl,rfl⟩|apply aS<;>intro h)
  all_goals(refine⟨?_,rfl⟩;simp only[bG, *,cond_true,cond_false]))
def G5(a:List R)(K:KT):Prop:=match a with|[.d (.v (.int .i64 a0))]=>K [R.d (D.v (Value.int IntKind.i64 (bG a0)))] []|_=>False
theorem G6:CK gl G5 98:=fun a K h=>by
 unfold G5 at h
 split at h
 ·exact(aa1 _).gives h
 ·exact h.elim
def aa2:aj:=au aaZ 98 G5
theorem O_:ah prog gl aa2:=af O9 G6
theorem aa3(a0:Int)(Q:KT):vc bl jm bf Y4 (f81.body.getD .skip) f81.results.toList [.d (.v (.int .i64 a0))] Q=(Fe a0 (1:Int) Q (2:Int) ((Ff a0 (1:Int) (2:Int) Q (1:Int) ((Ff a0 (2:Int) (3:Int) Q (6:Int) ((Ff a0 (3:Int) (6:Int) Q (3:Int) ((Ff a0 (6:Int) (4:Int) Q (5:Int) (((a0==4)=false→Q [.d (.i 4)] []))))))))))):=by kernel_rfl
def jd(a0:Int):Int:=bif a0==(1:Int)then(2:Int)
 else
 bif a0==(2:Int)then(1:Int)
 else
  bif a0==(3:Int)then(6:Int)
  else bif a0==(6:Int)then(3:Int)else bif a0==(4:Int)then(5:Int)else(4:Int)
theorem aa4(a0:Int):Ct prog gl 81 [.d (.v (.int .i64 a0))] (gives [R.d (D.v (Value.int IntKind.i64 (jd a0)))]):=
 cz bq f81 Y4 ⟨_,_,rfl,rfl⟩ (by
  rw[aa3];dsimp -eta -iota -proj only[Fe,Uu,Ff]
  (repeat' first|exact⟨rfl,rfl⟩|apply aS<;>intro h)
  all_goals(refine⟨?_,rfl⟩;simp only[jd, *,cond_true,cond_false]))
def G7(a:List R)(K:KT):Prop:=match a with|[.d (.v (.int .i64 a0))]=>K [R.d (D.v (Value.int IntKind.i64 (jd a0)))] []|_=>False
theorem G8:CK gl G7 81:=fun a K h=>by
 unfold G7 at h
 split at h
 ·exact(aa4 _).gives h
 ·exact h.elim
def aa5:aj:=au aa2 81 G7
theorem O':ah prog gl aa5:=af O_ G8
theorem aa6(a0:Int)(Q:KT):vc bl jm bf Y5 (f83.body.getD .skip) f83.results.toList [.d (.v (.int .i64 a0))] Q=((decide (a0<0)=true→Q [.d (.v (.int .u64 (IntKind.u64.wrap ((0:Int)-IntKind.u64.wrap a0))))] [])∧(decide (a0<0)=false→Q [.d (.v (.int .u64 (IntKind.u64.wrap a0)))] [])):=by kernel_rfl
def aQ(a0:Int):Int:=bif decide (a0<(0:Int))then IntKind.u64.wrap ((0:Int)-IntKind.u64.wrap a0)else IntKind.u64.wrap a0
theorem aa7(a0:Int):Ct prog gl 83 [.d (.v (.int .i64 a0))] (gives [R.d (D.v (Value.int IntKind.u64 (aQ a0)))]):=
 cz bq f83 Y5 ⟨_,_,rfl,rfl⟩ (by
  rw[aa6]
  (repeat' first|exact⟨rfl,rfl⟩|apply aS<;>intro h)
  all_goals(refine⟨?_,rfl⟩;simp only[aQ, *,cond_true,cond_false]))
def G9(a:List R)(K:KT):Prop:=match a with|[.d (.v (.int .i64 a0))]=>K [R.d (D.v (Value.int IntKind.u64 (aQ a0)))] []|_=>False
theorem G_:CK gl G9 83:=fun a K h=>by
 unfold G9 at h
 split at h
 ·exact(aa7 _).gives h
 ·exact h.elim
def aa8:aj:=au aa5 83 G9
theorem Pa:ah prog gl aa8:=af O' G_
theorem aa9(a0:Int)(a1:Int)(a2:Bool)(a3:Int)(a4:ByteArray)(Q:KT):vc bl jm bf R5 (f149.body.getD .skip) f149.results.toList [.agg [.v (.int .i64 a0),.v (.int .i64 a1),.v (.bool a2),.v (.int .i64 a3),.v (.string a4)]] Q=(Tf a0 Q a1):=by kernel_rfl
def bU(a0:Int)(a1:Int)(a2:Bool)(a3:Int)(a4:ByteArray):Int:=bif a0 != (3:Int)then(0:Int)
 else
 if(18:Int)<if(0:Int)>a1 then(0:Int)else a1 then(18:Int)else if(0:Int)>a1 then(0:Int)else a1
theorem aa_(a0:Int)(a1:Int)(a2:Bool)(a3:Int)(a4:ByteArray):Ct prog gl 149 [.agg [.v (.int .i64 a0),.v (.int .i64 a1),.v (.bool a2),.v (.int .i64 a3),.v (.string a4)]] (gives [R.d (D.v (Value.int IntKind.i64 (bU a0 a1 a2 a3 a4)))]):=
 cz bq f149 R5 ⟨_,_,rfl,rfl⟩ (by
  rw[aa9];dsimp -eta -iota -proj only[Tf]
  (repeat' first|exact⟨rfl,rfl⟩|apply aS<;>intro h)
  all_goals(refine⟨?_,rfl⟩;simp only[bU, *,cond_true,cond_false]))
def G'(a:List R)(K:KT):Prop:=match a with|[.agg [.v (.int .i64 a0),.v (.int .i64 a1),.v (.bool a2),.v (.int .i64 a3),.v (.string a4)]]=>K [R.d (D.v (Value.int IntKind.i64 (bU a0 a1 a2 a3 a4)))] []|_=>False
theorem Ha:CK gl G' 149:=fun a K h=>by
 unfold G' at h
 split at h
 ·exact(aa_ _ _ _ _ _).gives h
 ·exact h.elim
def aa':aj:=au aa8 149 G'
theorem Pb:ah prog gl aa':=af Pa Ha
theorem aba(a0:Int)(Q:KT):vc bl jm bf Sd (f162.body.getD .skip) f162.results.toList [.d (.v (.int .i64 a0))] Q=(Q [.d (.v (.bool (bif decide (a0≥0)then decide (a0≤18)else false)))] []):=by kernel_rfl
def b7(a0:Int):Bool:=bif decide (a0≥(0:Int))then decide (a0≤(18:Int))else false
theorem abb(a0:Int):Ct prog gl 162 [.d (.v (.int .i64 a0))] (gives [R.d (D.v (Value.bool (b7 a0)))]):=
 cz bq f162 Sd ⟨_,_,rfl,rfl⟩ (by
  rw[aba]
  (repeat' first|exact⟨rfl,rfl⟩|apply aS<;>intro h)
  all_goals(refine⟨?_,rfl⟩;simp only[b7, *,cond_true,cond_false]))
def Hb(a:List R)(K:KT):Prop:=match a with|[.d (.v (.int .i64 a0))]=>K [R.d (D.v (Value.bool (b7 a0)))] []|_=>False
theorem Hc:CK gl Hb 162:=fun a K h=>by
 unfold Hb at h
 split at h
 ·exact(abb _).gives h
 ·exact h.elim
def abc:aj:=au aa' 162 Hb
theorem Pc:ah prog gl abc:=af Pb Hc
theorem abd(a0:Int)(a1:Int)(Q:KT):vc bl jm bf Ry (f115.body.getD .skip) f115.results.toList [.d (.v (.int .i64 a0)),.d (.v (.int .i64 a1))] Q=(((bif bif decide (a1>0)then decide (a0>IntKind.i64.wrap ((9223372036854775807:Int)-a1))else false then true else bif decide (a1<0)then decide (a0<IntKind.i64.wrap ((-9223372036854775808:Int)-a1))else false)=true→dK Q (0:Int) (10:Int))∧((bif bif decide (a1>0)then decide (a0>IntKind.i64.wrap ((9223372036854775807:Int)-a1))else false then true else bif decide (a1<0)then decide (a0<IntKind.i64.wrap ((-9223372036854775808:Int)-a1))else false)=false→Q [.d (.i (IntKind.i64.wrap (a0+a1))),.d (.i 0)] [])):=by kernel_rfl
def mO(a0:Int)(a1:Int):Int:=bif
  bif
    bif decide (a1>(0:Int))then decide (a0>IntKind.i64.wrap ((9223372036854775807:Int)-a1))
    else false then
   true
  else
   bif decide (a1<(0:Int))then decide (a0<IntKind.i64.wrap ((-9223372036854775808:Int)-a1))
   else false then
 (0:Int)
 else IntKind.i64.wrap (a0+a1)
def mS(a0:Int)(a1:Int):Int:=bif
  bif
    bif decide (a1>(0:Int))then decide (a0>IntKind.i64.wrap ((9223372036854775807:Int)-a1))
    else false then
   true
  else
   bif decide (a1<(0:Int))then decide (a0<IntKind.i64.wrap ((-9223372036854775808:Int)-a1))
   else false then
 (10:Int)
 else(0:Int)
theorem abe(a0:Int)(a1:Int):Ct prog gl 115 [.d (.v (.int .i64 a0)),.d (.v (.int .i64 a1))] (gives [R.d (D.v (Value.int IntKind.i64 (mO a0 a1))),R.d (D.v (Value.int IntKind.i64 (mS a0 a1)))]):=
 cz bq f115 Ry ⟨_,_,rfl,rfl⟩ (by
  rw[abd];dsimp -eta -iota -proj only[dK]
  (repeat' first|exact⟨rfl,rfl⟩|apply aS<;>intro h)
  all_goals(refine⟨?_,rfl⟩;simp only[mO,mS, *,cond_true,cond_false]))
def Hd(a:List R)(K:KT):Prop:=match a with|[.d (.v (.int .i64 a0)),.d (.v (.int .i64 a1))]=>K [R.d (D.v (Value.int IntKind.i64 (mO a0 a1))),R.d (D.v (Value.int IntKind.i64 (mS a0 a1)))] []|_=>False
theorem He:CK gl Hd 115:=fun a K h=>by
 unfold Hd at h
 split at h
 ·exact(abe _ _).gives h
 ·exact h.elim
def abf:aj:=au abc 115 Hd
theorem Pd:ah prog gl abf:=af Pc He
theorem abg(a0:Int)(a1:Int)(Q:KT):vc bl jm bf Rz (f116.body.getD .skip) f116.results.toList [.d (.v (.int .i64 a0)),.d (.v (.int .i64 a1))] Q=(((bif bif decide (a1<0)then decide (a0>IntKind.i64.wrap ((9223372036854775807:Int)+a1))else false then true else bif decide (a1>0)then decide (a0<IntKind.i64.wrap ((-9223372036854775808:Int)+a1))else false)=true→dK Q (0:Int) (10:Int))∧((bif bif decide (a1<0)then decide (a0>IntKind.i64.wrap ((9223372036854775807:Int)+a1))else false then true else bif decide (a1>0)then decide (a0<IntKind.i64.wrap ((-9223372036854775808:Int)+a1))else false)=false→Q [.d (.i (IntKind.i64.wrap (a0-a1))),.d (.i 0)] [])):=by kernel_rfl
def jD(a0:Int)(a1:Int):Int:=bif
  bif
    bif decide (a1<(0:Int))then decide (a0>IntKind.i64.wrap ((9223372036854775807:Int)+a1))
    else false then
   true
  else
   bif decide (a1>(0:Int))then decide (a0<IntKind.i64.wrap ((-9223372036854775808:Int)+a1))
   else false then
 (0:Int)
 else IntKind.i64.wrap (a0-a1)
def jE(a0:Int)(a1:Int):Int:=bif
  bif
    bif decide (a1<(0:Int))then decide (a0>IntKind.i64.wrap ((9223372036854775807:Int)+a1))
    else false then
   true
  else
   bif decide (a1>(0:Int))then decide (a0<IntKind.i64.wrap ((-9223372036854775808:Int)+a1))
   else false then
 (10:Int)
 else(0:Int)
theorem abh(a0:Int)(a1:Int):Ct prog gl 116 [.d (.v (.int .i64 a0)),.d (.v (.int .i64 a1))] (gives [R.d (D.v (Value.int IntKind.i64 (jD a0 a1))),R.d (D.v (Value.int IntKind.i64 (jE a0 a1)))]):=
 cz bq f116 Rz ⟨_,_,rfl,rfl⟩ (by
  rw[abg];dsimp -eta -iota -proj only[dK]
  (repeat' first|exact⟨rfl,rfl⟩|apply aS<;>intro h)
  all_goals(refine⟨?_,rfl⟩;simp only[jD,jE, *,cond_true,cond_false]))
def Hf(a:List R)(K:KT):Prop:=match a with|[.d (.v (.int .i64 a0)),.d (.v (.int .i64 a1))]=>K [R.d (D.v (Value.int IntKind.i64 (jD a0 a1))),R.d (D.v (Value.int IntKind.i64 (jE a0 a1)))] []|_=>False
theorem Hg:CK gl Hf 116:=fun a K h=>by
 unfold Hf at h
 split at h
 ·exact(abh _ _).gives h
 ·exact h.elim
def abi:aj:=au abf 116 Hf
theorem Pf:ah prog gl abi:=af Pd Hg
theorem abj(a0:Int)(a1:Int)(a2:Int)(a3:Int)(Q:KT):vc bl jm bf Sf (f165.body.getD .skip) f165.results.toList [.agg [.v (.int .i64 a0),.v (.int .u64 a1)],.agg [.v (.int .i64 a2),.v (.int .u64 a3)]] Q=(((a0==a2&&(a1==a3&&true))=true→Q [.d (.i 0)] [])∧((a0==a2&&(a1==a3&&true))=false→((bif decide (a0<a2)then true else bif a0==a2 then decide (a1<a3)else false)=true→qD Q)∧((bif decide (a0<a2)then true else bif a0==a2 then decide (a1<a3)else false)=false→Q [.d (.i 1)] []))):=by kernel_rfl
def mT(a0:Int)(a1:Int)(a2:Int)(a3:Int):Int:=bif a0==a2&&(a1==a3&&true)then(0:Int)
 else
 bif bif decide (a0<a2)then true else bif a0==a2 then decide (a1<a3)else false then(-1:Int)else(1:Int)
theorem abk(a0:Int)(a1:Int)(a2:Int)(a3:Int):Ct prog gl 165 [.agg [.v (.int .i64 a0),.v (.int .u64 a1)],.agg [.v (.int .i64 a2),.v (.int .u64 a3)]] (gives [R.d (D.v (Value.int IntKind.i64 (mT a0 a1 a2 a3)))]):=
 cz bq f165 Sf ⟨_,_,rfl,rfl⟩ (by
  rw[abj];dsimp -eta -iota -proj only[qD,Fg]
  (repeat' first|exact⟨rfl,rfl⟩|apply aS<;>intro h)
  all_goals(refine⟨?_,rfl⟩;simp only[mT, *,cond_true,cond_false]))
def Hh(a:List R)(K:KT):Prop:=match a with|[.agg [.v (.int .i64 a0),.v (.int .u64 a1)],.agg [.v (.int .i64 a2),.v (.int .u64 a3)]]=>K [R.d (D.v (Value.int IntKind.i64 (mT a0 a1 a2 a3)))] []|_=>False
theorem Hi:CK gl Hh 165:=fun a K h=>by
 unfold Hh at h
 split at h
 ·exact(abk _ _ _ _).gives h
 ·exact h.elim
def abl:aj:=au abi 165 Hh
theorem Pg:ah prog gl abl:=af Pf Hi
theorem abm(a0:Int)(a1:Int)(Q:KT):vc bl jm bf Sh (f167.body.getD .skip) f167.results.toList [.d (.v (.int .i64 a0)),.d (.v (.int .i64 a1))] Q=((decide (a0<a1)=true→qD Q)∧(decide (a0<a1)=false→(decide (a0>a1)=true→Q [.d (.i 1)] [])∧(decide (a0>a1)=false→Q [.d (.i 0)] []))):=by kernel_rfl
def mU(a0:Int)(a1:Int):Int:=bif decide (a0<a1)then(-1:Int)else bif decide (a0>a1)then(1:Int)else(0:Int)
theorem abn(a0:Int)(a1:Int):Ct prog gl 167 [.d (.v (.int .i64 a0)),.d (.v (.int .i64 a1))] (gives [R.d (D.v (Value.int IntKind.i64 (mU a0 a1)))]):=
 cz bq f167 Sh ⟨_,_,rfl,rfl⟩ (by
  rw[abm];dsimp -eta -iota -proj only[qD,Fg]
  (repeat' first|exact⟨rfl,rfl⟩|apply aS<;>intro h)
  all_goals(refine⟨?_,rfl⟩;simp only[mU, *,cond_true,cond_false]))
def Hj(a:List R)(K:KT):Prop:=match a with|[.d (.v (.int .i64 a0)),.d (.v (.int .i64 a1))]=>K [R.d (D.v (Value.int IntKind.i64 (mU a0 a1)))] []|_=>False
theorem Hk:CK gl Hj 167:=fun a K h=>by
 unfold Hj at h
 split at h
 ·exact(abn _ _).gives h
 ·exact h.elim
def abo:aj:=au abl 167 Hj
theorem Ph:ah prog gl abo:=af Pg Hk
theorem abp(a0:Int)(a1:Bool)(Q:KT):vc bl jm bf RW (f141.body.getD .skip) f141.results.toList [.d (.v (.int .u64 a0)),.d (.v (.bool a1))] Q=(((bif a1 then decide (a0≤9223372036854775808)else false)=true→Q [.d (.i (IntKind.i64.wrap (IntKind.u64.wrap ((0:Int)-a0)))),.d (.i 0)] [])∧((bif a1 then decide (a0≤9223372036854775808)else false)=false→(decide (a0>9223372036854775807)=true→dK Q (0:Int) (10:Int))∧(decide (a0>9223372036854775807)=false→Q [.d (.i (IntKind.i64.wrap a0)),.d (.i 0)] []))):=by kernel_rfl
def dL(a0:Int)(a1:Bool):Int:=bif bif a1 then decide (a0≤(9223372036854775808:Int))else false then
 IntKind.i64.wrap (IntKind.u64.wrap ((0:Int)-a0))
 else bif decide (a0>(9223372036854775807:Int))then(0:Int)else IntKind.i64.wrap a0
def dM(a0:Int)(a1:Bool):Int:=bif bif a1 then decide (a0≤(9223372036854775808:Int))else false then(0:Int)
 else bif decide (a0>(9223372036854775807:Int))then(10:Int)else(0:Int)
theorem abq(a0:Int)(a1:Bool):Ct prog gl 141 [.d (.v (.int .u64 a0)),.d (.v (.bool a1))] (gives [R.d (D.v (Value.int IntKind.i64 (dL a0 a1))),R.d (D.v (Value.int IntKind.i64 (dM a0 a1)))]):=
 cz bq f141 RW ⟨_,_,rfl,rfl⟩ (by
  rw[abp];dsimp -eta -iota -proj only[dK]
  (repeat' first|exact⟨rfl,rfl⟩|apply aS<;>intro h)
  all_goals(refine⟨?_,rfl⟩;simp only[dL,dM, *,cond_true,cond_false]))
def Hl(a:List R)(K:KT):Prop:=match a with|[.d (.v (.int .u64 a0)),.d (.v (.bool a1))]=>K [R.d (D.v (Value.int IntKind.i64 (dL a0 a1))),R.d (D.v (Value.int IntKind.i64 (dM a0 a1)))] []|_=>False
theorem Hm:CK gl Hl 141:=fun a K h=>by
 unfold Hl at h
 split at h
 ·exact(abq _ _).gives h
 ·exact h.elim
def abr:aj:=au abo 141 Hl
theorem Pj:ah prog gl abr:=af Ph Hm
theorem abt(a0:Int)(Q:KT):vc bl jm bf Sl (f173.body.getD .skip) f173.results.toList [.d (.v (.int .i32 a0))] Q=(((bif decide (a0≥97)then decide (a0≤122)else false)=true→Q [.d (.v (.int .i32 (IntKind.i32.wrap (a0-32))))] [])∧((bif decide (a0≥97)then decide (a0≤122)else false)=false→Q [.d (.v (.int .i32 a0))] [])):=by kernel_rfl
def fj(a0:Int):Int:=bif bif decide (a0≥(97:Int))then decide (a0≤(122:Int))else false then IntKind.i32.wrap (a0-(32:Int))
 else a0
theorem SI(a0:Int):Ct prog gl 173 [.d (.v (.int .i32 a0))] (gives [R.d (D.v (Value.int IntKind.i32 (fj a0)))]):=
 cz bq f173 Sl ⟨_,_,rfl,rfl⟩ (by
  rw[abt]
  (repeat' first|exact⟨rfl,rfl⟩|apply aS<;>intro h)
  all_goals(refine⟨?_,rfl⟩;simp only[fj, *,cond_true,cond_false]))
def Hn(a:List R)(K:KT):Prop:=match a with|[.d (.v (.int .i32 a0))]=>K [R.d (D.v (Value.int IntKind.i32 (fj a0)))] []|_=>False
theorem Ho:CK gl Hn 173:=fun a K h=>by
 unfold Hn at h
 split at h
 ·exact(SI _).gives h
 ·exact h.elim
def abu:aj:=au abr 173 Hn
theorem Pk:ah prog gl abu:=af Pj Ho
theorem abv(a0:Bool)(Q:KT):vc bl jm bf SA (f252.body.getD .skip) f252.results.toList [.d (.v (.bool a0))] Q=((a0=true→Q [.d (.i 1)] [])∧(a0=false→Q [.d (.i 0)] [])):=by kernel_rfl
def Ar(a0:Bool):Int:=bif a0 then(1:Int)else(0:Int)
theorem abw(a0:Bool):Ct prog gl 252 [.d (.v (.bool a0))] (gives [R.d (D.v (Value.int IntKind.i64 (Ar a0)))]):=
 cz bq f252 SA ⟨_,_,rfl,rfl⟩ (by
  rw[abv]
  (repeat' first|exact⟨rfl,rfl⟩|apply aS<;>intro h)
  all_goals(refine⟨?_,rfl⟩;simp only[Ar, *,cond_true,cond_false]))
def Hp(a:List R)(K:KT):Prop:=match a with|[.d (.v (.bool a0))]=>K [R.d (D.v (Value.int IntKind.i64 (Ar a0)))] []|_=>False
theorem Hq:CK gl Hp 252:=fun a K h=>by
 unfold Hp at h
 split at h
 ·exact(abw _).gives h
 ·exact h.elim
def abx:aj:=au abu 252 Hp
theorem Pl:ah prog gl abx:=af Pk Hq
theorem aby(a0:Int)(Q:KT):vc bl jm bf SB (f253.body.getD .skip) f253.results.toList [.d (.v (.int .i64 a0))] Q=(Q [.d (.v (.bool (aB.bits BinOp.and IntKind.i64 a0 (IntKind.i64.wrap (a0-1))==(0:Int))))] []):=by kernel_rfl
def As(a0:Int):Bool:=aB.bits BinOp.and IntKind.i64 a0 (IntKind.i64.wrap (a0-(1:Int)))==(0:Int)
theorem abz(a0:Int):Ct prog gl 253 [.d (.v (.int .i64 a0))] (gives [R.d (D.v (Value.bool (As a0)))]):=
 cz bq f253 SB ⟨_,_,rfl,rfl⟩ (by
  rw[aby]
  (repeat' first|exact⟨rfl,rfl⟩|apply aS<;>intro h)
  all_goals(refine⟨?_,rfl⟩;simp only[As, *,cond_true,cond_false]))
def Hr(a:List R)(K:KT):Prop:=match a with|[.d (.v (.int .i64 a0))]=>K [R.d (D.v (Value.bool (As a0)))] []|_=>False
theorem Hs:CK gl Hr 253:=fun a K h=>by
 unfold Hr at h
 split at h
 ·exact(abz _).gives h
 ·exact h.elim
def abA:aj:=au abx 253 Hr
theorem Pm:ah prog gl abA:=af Pl Hs
def abB:aj:=abA
theorem Pn:ah prog gl abB:=Pm
def abC:aj:=abB
theorem Po:ah prog gl abC:=Pn
def abD:aj:=abC
theorem Pp:ah prog gl abD:=Po
theorem abE(a0:Int)(Q:KT):vc bl jm bf Sr (f187.body.getD .skip) f187.results.toList [.d (.v (.int .i32 a0))] Q=((decide (a0<0)=true→qD Q)∧(decide (a0<0)=false→(decide (a0≤127)=true→Q [.d (.i 1)] [])∧(decide (a0≤127)=false→(decide (a0≤2047)=true→Q [.d (.i 2)] [])∧(decide (a0≤2047)=false→((bif decide ((55296:Int)≤a0)then decide (a0≤57343)else false)=true→qD Q)∧((bif decide ((55296:Int)≤a0)then decide (a0≤57343)else false)=false→(decide (a0≤65535)=true→Q [.d (.i 3)] [])∧(decide (a0≤65535)=false→(decide (a0≤1114111)=true→Q [.d (.i 4)] [])∧(decide (a0≤1114111)=false→qD Q))))))):=by kernel_rfl
def At(a0:Int):Int:=bif decide (a0<(0:Int))then(-1:Int)
 else
 bif decide (a0≤(127:Int))then(1:Int)
 else
  bif decide (a0≤(2047:Int))then(2:Int)
  else
   bif bif decide ((55296:Int)≤a0)then decide (a0≤(57343:Int))else false then(-1:Int)
   else
    bif decide (a0≤(65535:Int))then(3:Int)
    else bif decide (a0≤(1114111:Int))then(4:Int)else(-1:Int)
theorem abF(a0:Int):Ct prog gl 187 [.d (.v (.int .i32 a0))] (gives [R.d (D.v (Value.int IntKind.i64 (At a0)))]):=
 cz bq f187 Sr ⟨_,_,rfl,rfl⟩ (by
  rw[abE];dsimp -eta -iota -proj only[qD,Fg]
  (repeat' first|exact⟨rfl,rfl⟩|apply aS<;>intro h)
  all_goals(refine⟨?_,rfl⟩;simp only[At, *,cond_true,cond_false]))
def Ht(a:List R)(K:KT):Prop:=match a with|[.d (.v (.int .i32 a0))]=>K [R.d (D.v (Value.int IntKind.i64 (At a0)))] []|_=>False
theorem Hu:CK gl Ht 187:=fun a K h=>by
 unfold Ht at h
 split at h
 ·exact(abF _).gives h
 ·exact h.elim
def abG:aj:=au abD 187 Ht
theorem Pq:ah prog gl abG:=af Pp Hu
def abH:aj:=abG
theorem Pr:ah prog gl abH:=Pq
theorem abI(a0:Int)(Q:KT):vc bl jm bf Sz (f242.body.getD .skip) f242.results.toList [.d (.v (.int .u8 a0))] Q=(Q [.d (.v (.int .u8 (aB.bits BinOp.or IntKind.u8 a0 (32:Int))))] []):=by kernel_rfl
def Au(a0:Int):Int:=aB.bits BinOp.or IntKind.u8 a0 (32:Int)
theorem abJ(a0:Int):Ct prog gl 242 [.d (.v (.int .u8 a0))] (gives [R.d (D.v (Value.int IntKind.u8 (Au a0)))]):=
 cz bq f242 Sz ⟨_,_,rfl,rfl⟩ (by
  rw[abI]
  (repeat' first|exact⟨rfl,rfl⟩|apply aS<;>intro h)
  all_goals(refine⟨?_,rfl⟩;simp only[Au, *,cond_true,cond_false]))
def Hv(a:List R)(K:KT):Prop:=match a with|[.d (.v (.int .u8 a0))]=>K [R.d (D.v (Value.int IntKind.u8 (Au a0)))] []|_=>False
theorem Hw:CK gl Hv 242:=fun a K h=>by
 unfold Hv at h
 split at h
 ·exact(abJ _).gives h
 ·exact h.elim
def abK:aj:=au abH 242 Hv
theorem Ps:ah prog gl abK:=af Pr Hw
theorem abL(a0:Int)(Q:KT):vc bl jm bf SC (f258.body.getD .skip) f258.results.toList [.d (.v (.int .u8 a0))] Q=(Q [.d (.v (.bool (aB.bits BinOp.and IntKind.u8 a0 (192:Int) != (128:Int))))] []):=by kernel_rfl
def Av(a0:Int):Bool:=aB.bits BinOp.and IntKind.u8 a0 (192:Int) != (128:Int)
theorem abM(a0:Int):Ct prog gl 258 [.d (.v (.int .u8 a0))] (gives [R.d (D.v (Value.bool (Av a0)))]):=
 cz bq f258 SC ⟨_,_,rfl,rfl⟩ (by
  rw[abL]
  (repeat' first|exact⟨rfl,rfl⟩|apply aS<;>intro h)
  all_goals(refine⟨?_,rfl⟩;simp only[Av, *,cond_true,cond_false]))
def Hx(a:List R)(K:KT):Prop:=match a with|[.d (.v (.int .u8 a0))]=>K [R.d (D.v (Value.bool (Av a0)))] []|_=>False
theorem Hy:CK gl Hx 258:=fun a K h=>by
 unfold Hx at h
 split at h
 ·exact(abM _).gives h
 ·exact h.elim
def abN:aj:=au abK 258 Hx
theorem Pt:ah prog gl abN:=af Ps Hy
def Hz:List R:=[.d (.v (.bool true))]
def mu(a0:KT):Prop:=a0 [.d (.v (.bool false))] []
theorem abO(a0:Int)(Q:KT):vc bl jm bf SD (f264.body.getD .skip) f264.results.toList [.d (.v (.int .i32 a0))] Q=(((bif decide ((0:Int)≤a0)then decide (a0<55296)else false)=true→Q Hz [])∧((bif decide ((0:Int)≤a0)then decide (a0<55296)else false)=false→((bif decide ((57343:Int)<a0)then decide (a0≤1114111)else false)=true→Q Hz [])∧((bif decide ((57343:Int)<a0)then decide (a0≤1114111)else false)=false→mu Q))):=by kernel_rfl
def Aw(a0:Int):Bool:=bif bif decide ((0:Int)≤a0)then decide (a0<(55296:Int))else false then true
 else bif bif decide ((57343:Int)<a0)then decide (a0≤(1114111:Int))else false then true else false
theorem abP(a0:Int):Ct prog gl 264 [.d (.v (.int .i32 a0))] (gives [R.d (D.v (Value.bool (Aw a0)))]):=
 cz bq f264 SD ⟨_,_,rfl,rfl⟩ (by
  rw[abO];dsimp -eta -iota -proj only[Hz,mu]
  (repeat' first|exact⟨rfl,rfl⟩|apply aS<;>intro h)
  all_goals(refine⟨?_,rfl⟩;simp only[Aw, *,cond_true,cond_false]))
def HA(a:List R)(K:KT):Prop:=match a with|[.d (.v (.int .i32 a0))]=>K [R.d (D.v (Value.bool (Aw a0)))] []|_=>False
theorem HB:CK gl HA 264:=fun a K h=>by
 unfold HA at h
 split at h
 ·exact(abP _).gives h
 ·exact h.elim
def abQ:aj:=au abN 264 HA
theorem Pu:ah prog gl abQ:=af Pt HB
def abR:aj:=abQ
theorem Pv:ah prog gl abR:=Pu
def qk:aj:=abR
theorem fU:ah prog gl qk:=Pv
theorem akA(a0:Int)(a1:Int)(Q:KT):vc bl qk bf Yt (f27.body.getD .skip) f27.results.toList [.agg [.v (.int .i64 a0),.v (.int .i64 a1)]] Q=(((bif bif bif decide (a0<1)then true else decide (a0>5)then true else !dZ a1 then true else bif a1 != (0:Int)then a0 != (3:Int)else false)=true→Q [.d (.i 21)] [])∧((bif bif bif decide (a0<1)then true else decide (a0>5)then true else !dZ a1 then true else bif a1 != (0:Int)then a0 != (3:Int)else false)=false→Q [.d (.i 0)] [])):=by kernel_rfl
def cf(a0:Int)(a1:Int):Int:=bif
  bif bif bif decide (a0<(1:Int))then true else decide (a0>(5:Int))then true else !dZ a1 then true
  else bif a1 != (0:Int)then a0 != (3:Int)else false then
 (21:Int)
 else(0:Int)
theorem akB(a0:Int)(a1:Int):Ct prog gl 27 [.agg [.v (.int .i64 a0),.v (.int .i64 a1)]] (gives [R.d (D.v (Value.int IntKind.i64 (cf a0 a1)))]):=
 cz fU f27 Yt ⟨_,_,rfl,rfl⟩ (by
  rw[akA]
  (repeat' first|exact⟨rfl,rfl⟩|apply aS<;>intro h)
  all_goals(refine⟨?_,rfl⟩;simp only[cf, *,cond_true,cond_false]))
def Uv(a:List R)(K:KT):Prop:=match a with|[.agg [.v (.int .i64 a0),.v (.int .i64 a1)]]=>K [R.d (D.v (Value.int IntKind.i64 (cf a0 a1)))] []|_=>False
theorem Pw:CK gl Uv 27:=fun a K h=>by
 unfold Uv at h
 split at h
 ·exact(akB _ _).gives h
 ·exact h.elim
def abS:aj:=au qk 27 Uv
theorem Px:ah prog gl abS:=af fU Pw
theorem abT(a0:Int)(a1:Int)(a2:Int)(a3:Int)(Q:KT):vc bl qk bf YF (f48.body.getD .skip) f48.results.toList [.agg [.v (.int .i64 a0),.v (.int .i64 a1)],.agg [.v (.int .i64 a2),.v (.int .i64 a3)]] Q=(Q [.d (.v (.bool (bif bif fh a0==fh a2 then decide (a0≥1)else false then decide (a0≤5)else false)))] []):=by kernel_rfl
def gx(a0:Int)(a1:Int)(a2:Int)(a3:Int):Bool:=bif bif fh a0==fh a2 then decide (a0≥(1:Int))else false then decide (a0≤(5:Int))else false
theorem abU(a0:Int)(a1:Int)(a2:Int)(a3:Int):Ct prog gl 48 [.agg [.v (.int .i64 a0),.v (.int .i64 a1)],.agg [.v (.int .i64 a2),.v (.int .i64 a3)]] (gives [R.d (D.v (Value.bool (gx a0 a1 a2 a3)))]):=
 cz fU f48 YF ⟨_,_,rfl,rfl⟩ (by
  rw[abT]
  (repeat' first|exact⟨rfl,rfl⟩|apply aS<;>intro h)
  all_goals(refine⟨?_,rfl⟩;simp only[gx, *,cond_true,cond_false]))
def HC(a:List R)(K:KT):Prop:=match a with|[.agg [.v (.int .i64 a0),.v (.int .i64 a1)],.agg [.v (.int .i64 a2),.v (.int .i64 a3)]]=>K [R.d (D.v (Value.bool (gx a0 a1 a2 a3)))] []|_=>False
theorem HD:CK gl HC 48:=fun a K h=>by
 unfold HC at h
 split at h
 ·exact(abU _ _ _ _).gives h
 ·exact h.elim
def abV:aj:=au abS 48 HC
theorem Py:ah prog gl abV:=af Px HD
theorem abW(a0:Int)(a1:Int)(a2:Int)(a3:Int)(Q:KT):vc bl qk bf YW (f68.body.getD .skip) f68.results.toList [.agg [.v (.int .i64 a0),.v (.int .i64 a1)],.agg [.v (.int .i64 a2),.v (.int .i64 a3)]] Q=(Q [.d (.v (.bool (bif bif decide (a0≥1)then decide (a0≤5)else false then bG a0==bG a2 else false)))] []):=by kernel_rfl
def ie(a0:Int)(a1:Int)(a2:Int)(a3:Int):Bool:=bif bif decide (a0≥(1:Int))then decide (a0≤(5:Int))else false then bG a0==bG a2 else false
theorem abX(a0:Int)(a1:Int)(a2:Int)(a3:Int):Ct prog gl 68 [.agg [.v (.int .i64 a0),.v (.int .i64 a1)],.agg [.v (.int .i64 a2),.v (.int .i64 a3)]] (gives [R.d (D.v (Value.bool (ie a0 a1 a2 a3)))]):=
 cz fU f68 YW ⟨_,_,rfl,rfl⟩ (by
  rw[abW]
  (repeat' first|exact⟨rfl,rfl⟩|apply aS<;>intro h)
  all_goals(refine⟨?_,rfl⟩;simp only[ie, *,cond_true,cond_false]))
def HE(a:List R)(K:KT):Prop:=match a with|[.agg [.v (.int .i64 a0),.v (.int .i64 a1)],.agg [.v (.int .i64 a2),.v (.int .i64 a3)]]=>K [R.d (D.v (Value.bool (ie a0 a1 a2 a3)))] []|_=>False
theorem HF:CK gl HE 68:=fun a K h=>by
 unfold HE at h
 split at h
 ·exact(abX _ _ _ _).gives h
 ·exact h.elim
def abY:aj:=au abV 68 HE
theorem Pz:ah prog gl abY:=af Py HF
theorem abZ(a0:Int)(a1:Int)(a2:Int)(Q:KT):vc bl qk bf YG (f51.body.getD .skip) f51.results.toList [.agg [.v (.int .i64 a0),.v (.int .i64 a1)],.d (.v (.int .i64 a2))] Q=(Q [.d (.v (.bool (bif bif bif a0==a2 then true else a0==4 then true else a2==4 then true else bif cG a0 a1 then bif a2==2 then true else a2==3 else false)))] []):=by kernel_rfl
def sv(a0:Int)(a1:Int)(a2:Int):Bool:=bif bif bif a0==a2 then true else a0==(4:Int)then true else a2==(4:Int)then true
 else bif cG a0 a1 then bif a2==(2:Int)then true else a2==(3:Int)else false
theorem ab0(a0:Int)(a1:Int)(a2:Int):Ct prog gl 51 [.agg [.v (.int .i64 a0),.v (.int .i64 a1)],.d (.v (.int .i64 a2))] (gives [R.d (D.v (Value.bool (sv a0 a1 a2)))]):=
 cz fU f51 YG ⟨_,_,rfl,rfl⟩ (by
  rw[abZ]
  (repeat' first|exact⟨rfl,rfl⟩|apply aS<;>intro h)
  all_goals(refine⟨?_,rfl⟩;simp only[sv, *,cond_true,cond_false]))
def HG(a:List R)(K:KT):Prop:=match a with|[.agg [.v (.int .i64 a0),.v (.int .i64 a1)],.d (.v (.int .i64 a2))]=>K [R.d (D.v (Value.bool (sv a0 a1 a2)))] []|_=>False
theorem HI:CK gl HG 51:=fun a K h=>by
 unfold HG at h
 split at h
 ·exact(ab0 _ _ _).gives h
 ·exact h.elim
def ab1:aj:=au abY 51 HG
theorem PA:ah prog gl ab1:=af Pz HI
def Zi2:List R:=[.agg [.i 1,.i 0,.v (.bool true),.i 0,.v (.string ⟨⟨[]⟩⟩)]]
def Zj4(nu:Int)(a1:KT):Prop:=(nu==(2:Int))=true→a1 Zi2 []
theorem ab2(a0:Int)(Q:KT):vc bl qk bf YM (f58.body.getD .skip) f58.results.toList [.d (.v (.int .i64 a0))] Q=((Zj4 a0 Q)∧((a0==2)=false→Q [.agg [.i 1,.i 0,.v (.bool false),.i (nO (a0==1)),.v (.string ⟨⟨[]⟩⟩)]] [])):=by kernel_rfl
def jF(a0:Int):Bool:=bif a0==(2:Int)then true else false
def jG(a0:Int):Int:=bif a0==(2:Int)then(0:Int)else nO (a0==(1:Int))
theorem ab3(a0:Int):Ct prog gl 58 [.d (.v (.int .i64 a0))] (gives [R.agg
  [D.v (Value.int IntKind.i64 (1:Int)),D.v (Value.int IntKind.i64 (0:Int)),D.v (Value.bool (jF a0)),
   D.v (Value.int IntKind.i64 (jG a0)),D.v (Value.string {data:={toList:=[]:Array UInt8}:ByteArray})]]):=
 cz fU f58 YM ⟨_,_,rfl,rfl⟩ (by
  rw[ab2];dsimp -eta -iota -proj only[Zj4,Zi2]
  (repeat' first|exact⟨rfl,rfl⟩|apply aS<;>intro h)
  all_goals(refine⟨?_,rfl⟩;simp only[jF,jG, *,cond_true,cond_false]))
def HJ(a:List R)(K:KT):Prop:=match a with|[.d (.v (.int .i64 a0))]=>K [R.agg
 [D.v (Value.int IntKind.i64 (1:Int)),D.v (Value.int IntKind.i64 (0:Int)),D.v (Value.bool (jF a0)),
  D.v (Value.int IntKind.i64 (jG a0)),D.v (Value.string {data:={toList:=[]:Array UInt8}:ByteArray})]] []|_=>False
theorem HK:CK gl HJ 58:=fun a K h=>by
 unfold HJ at h
 split at h
 ·exact(ab3 _).gives h
 ·exact h.elim
def ab4:aj:=au ab1 58 HJ
theorem PB:ah prog gl ab4:=af PA HK
theorem ab5(a0:Int)(a1:Int)(a2:Bool)(a3:Int)(a4:ByteArray)(Q:KT):vc bl qk bf YO (f60.body.getD .skip) f60.results.toList [.agg [.v (.int .i64 a0),.v (.int .i64 a1),.v (.bool a2),.v (.int .i64 a3),.v (.string a4)]] Q=(Q [.d (.i (su a0 a1 a2 a3 a4))] []):=by kernel_rfl
def dd(a0:Int)(a1:Int)(a2:Bool)(a3:Int)(a4:ByteArray):Int:=su a0 a1 a2 a3 a4
theorem ab6(a0:Int)(a1:Int)(a2:Bool)(a3:Int)(a4:ByteArray):Ct prog gl 60 [.agg [.v (.int .i64 a0),.v (.int .i64 a1),.v (.bool a2),.v (.int .i64 a3),.v (.string a4)]] (gives [R.d (D.v (Value.int IntKind.i64 (dd a0 a1 a2 a3 a4)))]):=
 cz fU f60 YO ⟨_,_,rfl,rfl⟩ (by
  rw[ab5]
  (repeat' first|exact⟨rfl,rfl⟩|apply aS<;>intro h)
  all_goals(refine⟨?_,rfl⟩;simp only[dd, *,cond_true,cond_false]))
def HL(a:List R)(K:KT):Prop:=match a with|[.agg [.v (.int .i64 a0),.v (.int .i64 a1),.v (.bool a2),.v (.int .i64 a3),.v (.string a4)]]=>K [R.d (D.v (Value.int IntKind.i64 (dd a0 a1 a2 a3 a4)))] []|_=>False
theorem HM:CK gl HL 60:=fun a K h=>by
 unfold HL at h
 split at h
 ·exact(ab6 _ _ _ _ _).gives h
 ·exact h.elim
def ab7:aj:=au ab4 60 HL
theorem PC:ah prog gl ab7:=af PB HM
theorem ab8(a0:Int)(Q:KT):vc bl qk bf RR (f133.body.getD .skip) f133.results.toList [.d (.v (.int .i64 a0))] Q=(Q [.d (.i (eT (0:Int) a0)),.d (.i (ic (0:Int) a0))] []):=by kernel_rfl
def je(a0:Int):Int:=eT (0:Int) a0
def kp(a0:Int):Int:=ic (0:Int) a0
theorem ab9(a0:Int):Ct prog gl 133 [.d (.v (.int .i64 a0))] (gives [R.d (D.v (Value.int IntKind.i64 (je a0))),R.d (D.v (Value.int IntKind.i64 (kp a0)))]):=
 cz fU f133 RR ⟨_,_,rfl,rfl⟩ (by
  rw[ab8]
  (repeat' first|exact⟨rfl,rfl⟩|apply aS<;>intro h)
  all_goals(refine⟨?_,rfl⟩;simp only[je,kp, *,cond_true,cond_false]))
def HN(a:List R)(K:KT):Prop:=match a with|[.d (.v (.int .i64 a0))]=>K [R.d (D.v (Value.int IntKind.i64 (je a0))),R.d (D.v (Value.int IntKind.i64 (kp a0)))] []|_=>False
theorem HO:CK gl HN 133:=fun a K h=>by
 unfold HN at h
 split at h
 ·exact(ab9 _).gives h
 ·exact h.elim
def ab_:aj:=au ab7 133 HN
theorem PD:ah prog gl ab_:=af PC HO
theorem ab'(a0:Int)(a1:Int)(Q:KT):vc bl qk bf Y' (f91.body.getD .skip) f91.results.toList [.d (.v (.int .i64 a0)),.d (.v (.int .i64 a1))] Q=(Q [.d (.i (jc (nN (jc a0) (jc a1))))] []):=by kernel_rfl
def mV(a0:Int)(a1:Int):Int:=jc (nN (jc a0) (jc a1))
theorem aca(a0:Int)(a1:Int):Ct prog gl 91 [.d (.v (.int .i64 a0)),.d (.v (.int .i64 a1))] (gives [R.d (D.v (Value.int IntKind.i64 (mV a0 a1)))]):=
 cz fU f91 Y' ⟨_,_,rfl,rfl⟩ (by
  rw[ab']
  (repeat' first|exact⟨rfl,rfl⟩|apply aS<;>intro h)
  all_goals(refine⟨?_,rfl⟩;simp only[mV, *,cond_true,cond_false]))
def HP(a:List R)(K:KT):Prop:=match a with|[.d (.v (.int .i64 a0)),.d (.v (.int .i64 a1))]=>K [R.d (D.v (Value.int IntKind.i64 (mV a0 a1)))] []|_=>False
theorem HQ:CK gl HP 91:=fun a K h=>by
 unfold HP at h
 split at h
 ·exact(aca _ _).gives h
 ·exact h.elim
def acb:aj:=au ab_ 91 HP
theorem PE:ah prog gl acb:=af PD HQ
theorem acd(a0:Int)(a1:Int)(Q:KT):vc bl qk bf Rt (f110.body.getD .skip) f110.results.toList [.d (.v (.int .i64 a0)),.d (.v (.int .i64 a1))] Q=(Q [.d (.v (.bool (bif bif decide (a0≥1)then decide (a0≤5)else false then bif bif bif a0==a1 then true else a1==4 then true else a0==4 then true else fh a0==fh a1 else false)))] []):=by kernel_rfl
def mW(a0:Int)(a1:Int):Bool:=bif bif decide (a0≥(1:Int))then decide (a0≤(5:Int))else false then
 bif bif bif a0==a1 then true else a1==(4:Int)then true else a0==(4:Int)then true
 else fh a0==fh a1
 else false
theorem ace(a0:Int)(a1:Int):Ct prog gl 110 [.d (.v (.int .i64 a0)),.d (.v (.int .i64 a1))] (gives [R.d (D.v (Value.bool (mW a0 a1)))]):=
 cz fU f110 Rt ⟨_,_,rfl,rfl⟩ (by
  rw[acd]
  (repeat' first|exact⟨rfl,rfl⟩|apply aS<;>intro h)
  all_goals(refine⟨?_,rfl⟩;simp only[mW, *,cond_true,cond_false]))
def HR(a:List R)(K:KT):Prop:=match a with|[.d (.v (.int .i64 a0)),.d (.v (.int .i64 a1))]=>K [R.d (D.v (Value.bool (mW a0 a1)))] []|_=>False
theorem HS:CK gl HR 110:=fun a K h=>by
 unfold HR at h
 split at h
 ·exact(ace _ _).gives h
 ·exact h.elim
def acf:aj:=au acb 110 HR
theorem PF:ah prog gl acf:=af PE HS
theorem acg(a0:Int)(Q:KT):vc bl qk bf RD (f120.body.getD .skip) f120.results.toList [.d (.v (.int .i64 a0))] Q=(Q [.d (.i (jD (0:Int) a0)),.d (.i (jE (0:Int) a0))] []):=by kernel_rfl
def o5(a0:Int):Int:=jD (0:Int) a0
def o6(a0:Int):Int:=jE (0:Int) a0
theorem ach(a0:Int):Ct prog gl 120 [.d (.v (.int .i64 a0))] (gives [R.d (D.v (Value.int IntKind.i64 (o5 a0))),R.d (D.v (Value.int IntKind.i64 (o6 a0)))]):=
 cz fU f120 RD ⟨_,_,rfl,rfl⟩ (by
  rw[acg]
  (repeat' first|exact⟨rfl,rfl⟩|apply aS<;>intro h)
  all_goals(refine⟨?_,rfl⟩;simp only[o5,o6, *,cond_true,cond_false]))
def HT(a:List R)(K:KT):Prop:=match a with|[.d (.v (.int .i64 a0))]=>K [R.d (D.v (Value.int IntKind.i64 (o5 a0))),R.d (D.v (Value.int IntKind.i64 (o6 a0)))] []|_=>False
theorem HU:CK gl HT 120:=fun a K h=>by
 unfold HT at h
 split at h
 ·exact(ach _).gives h
 ·exact h.elim
def aci:aj:=au acf 120 HT
theorem PG:ah prog gl aci:=af PF HU
def PH:aj:=aci
theorem w6:ah prog gl PH:=PG
theorem akD(a0:Int)(a1:Int)(a2:Bool)(a3:Int)(a4:ByteArray)(Q:KT):vc bl PH bf YS (f64.body.getD .skip) f64.results.toList [.agg [.v (.int .i64 a0),.v (.int .i64 a1),.v (.bool a2),.v (.int .i64 a3),.v (.string a4)]] Q=(((cf a0 a1 != (0:Int))=true→Q [.d (.i (cf a0 a1))] [])∧((cf a0 a1 != (0:Int))=false→(a2=true→((!bif a4=={data:={toList:=[]:Array UInt8}:ByteArray} then a3==0 else false)=true→Q [.d (.i 20)] [])∧((!bif a4=={data:={toList:=[]:Array UInt8}:ByteArray} then a3==0 else false)=false→Q [.d (.i 0)] []))∧(a2=false→((a0==1)=true→((!bif a4=={data:={toList:=[]:Array UInt8}:ByteArray} then bif a3==0 then true else a3==1 else false)=true→Q [.d (.i 20)] [])∧((!bif a4=={data:={toList:=[]:Array UInt8}:ByteArray} then bif a3==0 then true else a3==1 else false)=false→Q [.d (.i 0)] []))∧((a0==1)=false→((a0==3)=true→((!bif a4=={data:={toList:=[]:Array UInt8}:ByteArray} then bZ a3 else false)=true→Q [.d (.i 20)] [])∧((!bif a4=={data:={toList:=[]:Array UInt8}:ByteArray} then bZ a3 else false)=false→Q [.d (.i 0)] []))∧((a0==3)=false→((a0==5)=true→((!bif bif a4=={data:={toList:=[]:Array UInt8}:ByteArray} then decide (a3≥(-719162:Int))else false then decide (a3≤2932896)else false)=true→Q [.d (.i 20)] [])∧((!bif bif a4=={data:={toList:=[]:Array UInt8}:ByteArray} then decide (a3≥(-719162:Int))else false then decide (a3≤2932896)else false)=false→Q [.d (.i 0)] []))∧((a0==5)=false→((a0==4)=true→((!bif a3==0 then decide ((↑a4.size:Int)≤256)else false)=true→Q [.d (.i 20)] [])∧((!bif a3==0 then decide ((↑a4.size:Int)≤256)else false)=false→Q [.d (.i 0)] []))∧((a0==4)=false→((!a4=={data:={toList:=[]:Array UInt8}:ByteArray})=true→Q [.d (.i 20)] [])∧((!a4=={data:={toList:=[]:Array UInt8}:ByteArray})=false→Q [.d (.i 0)] [])))))))):=by kernel_rfl
def bL(a0:Int)(a1:Int)(a2:Bool)(a3:Int)(a4:ByteArray):Int:=bif cf a0 a1 != (0:Int)then cf a0 a1
 else
 bif a2 then
  bif !bif a4=={data:={toList:=[]:Array UInt8}:ByteArray} then a3==(0:Int)else false then
     (20:Int)
  else(0:Int)
 else
  bif a0==(1:Int)then
   bif
     !bif a4=={data:={toList:=[]:Array UInt8}:ByteArray} then
          bif a3==(0:Int)then true else a3==(1:Int)
      else false then
      (20:Int)
   else(0:Int)
  else
   bif a0==(3:Int)then
    bif !bif a4=={data:={toList:=[]:Array UInt8}:ByteArray} then bZ a3 else false then(20:Int)
    else(0:Int)
   else
    bif a0==(5:Int)then
     bif
       !bif
          bif a4=={data:={toList:=[]:Array UInt8}:ByteArray} then decide (a3≥(-719162:Int))
          else false then
            decide (a3≤(2932896:Int))
        else false then
        (20:Int)
     else(0:Int)
    else
     bif a0==(4:Int)then
      bif !bif a3==(0:Int)then decide ((↑a4.size:Int)≤(256:Int))else false then(20:Int)
      else(0:Int)
     else bif !a4=={data:={toList:=[]:Array UInt8}:ByteArray} then(20:Int)else(0:Int)
theorem akE(a0:Int)(a1:Int)(a2:Bool)(a3:Int)(a4:ByteArray):Ct prog gl 64 [.agg [.v (.int .i64 a0),.v (.int .i64 a1),.v (.bool a2),.v (.int .i64 a3),.v (.string a4)]] (gives [R.d (D.v (Value.int IntKind.i64 (bL a0 a1 a2 a3 a4)))]):=
 cz w6 f64 YS ⟨_,_,rfl,rfl⟩ (by
  rw[akD]
  (repeat' first|exact⟨rfl,rfl⟩|apply aS<;>intro h)
  all_goals(refine⟨?_,rfl⟩;simp only[bL, *,cond_true,cond_false]))
def Uw(a:List R)(K:KT):Prop:=match a with|[.agg [.v (.int .i64 a0),.v (.int .i64 a1),.v (.bool a2),.v (.int .i64 a3),.v (.string a4)]]=>K [R.d (D.v (Value.int IntKind.i64 (bL a0 a1 a2 a3 a4)))] []|_=>False
theorem PI:CK gl Uw 64:=fun a K h=>by
 unfold Uw at h
 split at h
 ·exact(akE _ _ _ _ _).gives h
 ·exact h.elim
def acj:aj:=au PH 64 Uw
theorem PJ:ah prog gl acj:=af w6 PI
theorem akF(a0:Int)(a1:Int)(Q:KT):vc bl PH bf Ys (f26.body.getD .skip) f26.results.toList [.agg [.v (.int .i64 a0),.v (.int .i64 a1)]] Q=(Q [.d (.v (.bool (cf a0 a1 != (0:Int))))] []):=by kernel_rfl
def sw(a0:Int)(a1:Int):Bool:=cf a0 a1 != (0:Int)
theorem akG(a0:Int)(a1:Int):Ct prog gl 26 [.agg [.v (.int .i64 a0),.v (.int .i64 a1)]] (gives [R.d (D.v (Value.bool (sw a0 a1)))]):=
 cz w6 f26 Ys ⟨_,_,rfl,rfl⟩ (by
  rw[akF]
  (repeat' first|exact⟨rfl,rfl⟩|apply aS<;>intro h)
  all_goals(refine⟨?_,rfl⟩;simp only[sw, *,cond_true,cond_false]))
def Ux(a:List R)(K:KT):Prop:=match a with|[.agg [.v (.int .i64 a0),.v (.int .i64 a1)]]=>K [R.d (D.v (Value.bool (sw a0 a1)))] []|_=>False
theorem PK:CK gl Ux 26:=fun a K h=>by
 unfold Ux at h
 split at h
 ·exact(akG _ _).gives h
 ·exact h.elim
def Uy:aj:=au acj 26 Ux
theorem CM:ah prog gl Uy:=af PJ PK
theorem akH(a0:Int)(a1:Int)(a2:Bool)(a3:Int)(a4:ByteArray)(Q:KT):vc bl Uy bf Y1 (f76.body.getD .skip) f76.results.toList [.agg [.v (.int .i64 a0),.v (.int .i64 a1),.v (.bool a2),.v (.int .i64 a3),.v (.string a4)]] Q=(Q [.d (.v (.bool (bL a0 a1 a2 a3 a4 != (0:Int))))] []):=by kernel_rfl
def sx(a0:Int)(a1:Int)(a2:Bool)(a3:Int)(a4:ByteArray):Bool:=bL a0 a1 a2 a3 a4 != (0:Int)
theorem akI(a0:Int)(a1:Int)(a2:Bool)(a3:Int)(a4:ByteArray):Ct prog gl 76 [.agg [.v (.int .i64 a0),.v (.int .i64 a1),.v (.bool a2),.v (.int .i64 a3),.v (.string a4)]] (gives [R.d (D.v (Value.bool (sx a0 a1 a2 a3 a4)))]):=
 cz CM f76 Y1 ⟨_,_,rfl,rfl⟩ (by
  rw[akH]
  (repeat' first|exact⟨rfl,rfl⟩|apply aS<;>intro h)
  all_goals(refine⟨?_,rfl⟩;simp only[sx, *,cond_true,cond_false]))
def Uz(a:List R)(K:KT):Prop:=match a with|[.agg [.v (.int .i64 a0),.v (.int .i64 a1),.v (.bool a2),.v (.int .i64 a3),.v (.string a4)]]=>K [R.d (D.v (Value.bool (sx a0 a1 a2 a3 a4)))] []|_=>False
theorem PL:CK gl Uz 76:=fun a K h=>by
 unfold Uz at h
 split at h
 ·exact(akI _ _ _ _ _).gives h
 ·exact h.elim
def Ec:aj:=au Uy 76 Uz
theorem nP:ah prog gl Ec:=af CM PL
end Go.Proofs.Tryz
