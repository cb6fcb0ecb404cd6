/- A part of the proof: contracts of functions, by a verified generator of conditions; no condition of its own. -/
import Derived.Test.YthhomimmnogngaaGreatDoorB1
namespace Go.Proofs.Tryz
open Go Go.Dm
set_option maxRecDepth 100000
variable {gl:Nat→Option Obj}
def C_0:CallT:=fun _ _ _=>False
theorem C_0_ok:CallsOk prog gl C_0:=fun _ _ _ h=>h.elim
def C_1:CallT:=C_0
theorem C_1_ok:CallsOk prog gl C_1:=C_0_ok
def Zex(a0':Int):List R:=[.agg [.i 2,.i 0,.v (.bool false),.i a0',.v (.string ⟨⟨[]⟩⟩)]]
theorem vc65(a0:Int)(Q:KT):vc E_0 C_0 noI fi10 (f10.body.getD .skip) f10.results.toList [.d (.v (.int .i64 a0))] Q=(Q (Zex a0) []):=by kernel_rfl
theorem ct65(a0:Int):Ct prog gl 10 [.d (.v (.int .i64 a0))] (gives [R.agg
  [D.v (Value.int IntKind.i64 (2:Int)),D.v (Value.int IntKind.i64 (0:Int)),D.v (Value.bool false),
   D.v (Value.int IntKind.i64 a0),D.v (Value.string {data:={toList:=[]:Array UInt8}:ByteArray})]]):=
 ctv C_0_ok f10 fi10 ⟨_,_,rfl,rfl⟩ (by
  rw[vc65];dsimp -eta -iota -proj only[Zex]
  (repeat' first|exact⟨rfl,rfl⟩|apply gsplit<;>intro h)
  all_goals(refine⟨?_,rfl⟩;simp only[*,cond_true,cond_false]))
def c_65(a:List R)(K:KT):Prop:=match a with|[.d (.v (.int .i64 a0))]=>K [R.agg
 [D.v (Value.int IntKind.i64 (2:Int)),D.v (Value.int IntKind.i64 (0:Int)),D.v (Value.bool false),
  D.v (Value.int IntKind.i64 a0),D.v (Value.string {data:={toList:=[]:Array UInt8}:ByteArray})]] []|_=>False
theorem c_65_ok(a:List R)(K:KT)(h:c_65 a K):Ct prog gl 10 a K:=by
 unfold c_65 at h
 split at h
 ·exact(ct65 _).gives h
 ·exact h.elim
def C_2:CallT:=addC C_1 10 c_65
theorem C_2_ok:CallsOk prog gl C_2:=addC_ok C_1_ok c_65_ok
theorem vc67(a0:Int)(a1:Int)(Q:KT):vc E_0 C_0 noI fi22 (f22.body.getD .skip) f22.results.toList [.agg [.v (.int .i64 a0),.v (.int .i64 a1)]] Q=(((bif bif bif bif decide (a0<1)then true else decide (a0>5)then true else decide (a1<0)then true else decide (a1>18)then true else bif a0 != (3:Int)then a1 != (0:Int)else false)=true→Q [.d (.i 21)] [])∧((bif bif bif bif decide (a0<1)then true else decide (a0>5)then true else decide (a1<0)then true else decide (a1>18)then true else bif a0 != (3:Int)then a1 != (0:Int)else false)=false→Q [.d (.i 0)] [])):=by kernel_rfl
def s67_0(a0:Int)(a1:Int):Int:=bif
  bif
    bif
          bif bif decide (a0<(1:Int))then true else decide (a0>(5:Int))then true
          else decide (a1<(0:Int))then
     true
    else decide (a1>(18:Int))then
   true
  else bif a0 != (3:Int)then a1 != (0:Int)else false then
 (21:Int)
 else(0:Int)
theorem ct67(a0:Int)(a1:Int):Ct prog gl 22 [.agg [.v (.int .i64 a0),.v (.int .i64 a1)]] (gives [R.d (D.v (Value.int IntKind.i64 (s67_0 a0 a1)))]):=
 ctv C_0_ok f22 fi22 ⟨_,_,rfl,rfl⟩ (by
  rw[vc67]
  (repeat' first|exact⟨rfl,rfl⟩|apply gsplit<;>intro h)
  all_goals(refine⟨?_,rfl⟩;simp only[s67_0, *,cond_true,cond_false]))
def c_67(a:List R)(K:KT):Prop:=match a with|[.agg [.v (.int .i64 a0),.v (.int .i64 a1)]]=>K [R.d (D.v (Value.int IntKind.i64 (s67_0 a0 a1)))] []|_=>False
theorem c_67_ok(a:List R)(K:KT)(h:c_67 a K):Ct prog gl 22 a K:=by
 unfold c_67 at h
 split at h
 ·exact(ct67 _ _).gives h
 ·exact h.elim
def C_3:CallT:=addC C_2 22 c_67
theorem C_3_ok:CallsOk prog gl C_3:=addC_ok C_2_ok c_67_ok
theorem vc68(a0:Int)(Q:KT):vc E_0 C_0 noI fi23 (f23.body.getD .skip) f23.results.toList [.d (.v (.int .i64 a0))] Q=(Q [.d (.v (.bool (bif decide (a0≥(-999999999999999999:Int))then decide (a0≤999999999999999999)else false)))] []):=by kernel_rfl
def s68_0(a0:Int):Bool:=bif decide (a0≥(-999999999999999999:Int))then decide (a0≤(999999999999999999:Int))else false
theorem ct68(a0:Int):Ct prog gl 23 [.d (.v (.int .i64 a0))] (gives [R.d (D.v (Value.bool (s68_0 a0)))]):=
 ctv C_0_ok f23 fi23 ⟨_,_,rfl,rfl⟩ (by
  rw[vc68]
  (repeat' first|exact⟨rfl,rfl⟩|apply gsplit<;>intro h)
  all_goals(refine⟨?_,rfl⟩;simp only[s68_0, *,cond_true,cond_false]))
def c_68(a:List R)(K:KT):Prop:=match a with|[.d (.v (.int .i64 a0))]=>K [R.d (D.v (Value.bool (s68_0 a0)))] []|_=>False
theorem c_68_ok(a:List R)(K:KT)(h:c_68 a K):Ct prog gl 23 a K:=by
 unfold c_68 at h
 split at h
 ·exact(ct68 _).gives h
 ·exact h.elim
def C_4:CallT:=addC C_3 23 c_68
theorem C_4_ok:CallsOk prog gl C_4:=addC_ok C_3_ok c_68_ok
def C_5:CallT:=C_4
theorem C_5_ok:CallsOk prog gl C_5:=C_4_ok
def C_6:CallT:=C_5
theorem C_6_ok:CallsOk prog gl C_6:=C_5_ok
def C_7:CallT:=C_6
theorem C_7_ok:CallsOk prog gl C_7:=C_6_ok
def C_8:CallT:=C_7
theorem C_8_ok:CallsOk prog gl C_8:=C_7_ok
def C_9:CallT:=C_8
theorem C_9_ok:CallsOk prog gl C_9:=C_8_ok
theorem vc114(a0:Int)(Q:KT):vc E_0 C_0 noI fi37 (f37.body.getD .skip) f37.results.toList [.d (.v (.int .i64 a0))] Q=(Q [.d (.v (.bool (bif decide ((-999999999999999999:Int)≤a0)then decide (a0≤999999999999999999)else false)))] []):=by kernel_rfl
def s114_0(a0:Int):Bool:=bif decide ((-999999999999999999:Int)≤a0)then decide (a0≤(999999999999999999:Int))else false
theorem ct114(a0:Int):Ct prog gl 37 [.d (.v (.int .i64 a0))] (gives [R.d (D.v (Value.bool (s114_0 a0)))]):=
 ctv C_0_ok f37 fi37 ⟨_,_,rfl,rfl⟩ (by
  rw[vc114]
  (repeat' first|exact⟨rfl,rfl⟩|apply gsplit<;>intro h)
  all_goals(refine⟨?_,rfl⟩;simp only[s114_0, *,cond_true,cond_false]))
def c_114(a:List R)(K:KT):Prop:=match a with|[.d (.v (.int .i64 a0))]=>K [R.d (D.v (Value.bool (s114_0 a0)))] []|_=>False
theorem c_114_ok(a:List R)(K:KT)(h:c_114 a K):Ct prog gl 37 a K:=by
 unfold c_114 at h
 split at h
 ·exact(ct114 _).gives h
 ·exact h.elim
def C_10:CallT:=addC C_9 37 c_114
theorem C_10_ok:CallsOk prog gl C_10:=addC_ok C_9_ok c_114_ok
theorem vc118(a0:Int)(Q:KT):vc E_0 C_0 noI fi41 (f41.body.getD .skip) f41.results.toList [.d (.v (.int .i64 a0))] Q=(((a0==0)=true→Q [.d (.i 1)] [])∧((a0==0)=false→((a0==1)=true→Q [.d (.i 0)] [])∧((a0==1)=false→Q [.d (.i 2)] []))):=by kernel_rfl
def s118_0(a0:Int):Int:=bif a0==(0:Int)then(1:Int)else bif a0==(1:Int)then(0:Int)else(2:Int)
theorem ct118(a0:Int):Ct prog gl 41 [.d (.v (.int .i64 a0))] (gives [R.d (D.v (Value.int IntKind.i64 (s118_0 a0)))]):=
 ctv C_0_ok f41 fi41 ⟨_,_,rfl,rfl⟩ (by
  rw[vc118]
  (repeat' first|exact⟨rfl,rfl⟩|apply gsplit<;>intro h)
  all_goals(refine⟨?_,rfl⟩;simp only[s118_0, *,cond_true,cond_false]))
def c_118(a:List R)(K:KT):Prop:=match a with|[.d (.v (.int .i64 a0))]=>K [R.d (D.v (Value.int IntKind.i64 (s118_0 a0)))] []|_=>False
theorem c_118_ok(a:List R)(K:KT)(h:c_118 a K):Ct prog gl 41 a K:=by
 unfold c_118 at h
 split at h
 ·exact(ct118 _).gives h
 ·exact h.elim
def C_11:CallT:=addC C_10 41 c_118
theorem C_11_ok:CallsOk prog gl C_11:=addC_ok C_10_ok c_118_ok
theorem vc120(a0:Int)(a1:Int)(Q:KT):vc E_0 C_0 noI fi43 (f43.body.getD .skip) f43.results.toList [.agg [.v (.int .i64 a0),.v (.int .i64 a1)]] Q=(Q [.agg [.i a0,.i a1,.v (.bool true),.i 0,.v (.string ⟨⟨[]⟩⟩)]] []):=by kernel_rfl
theorem ct120(a0:Int)(a1:Int):Ct prog gl 43 [.agg [.v (.int .i64 a0),.v (.int .i64 a1)]] (gives [R.agg
  [D.v (Value.int IntKind.i64 a0),D.v (Value.int IntKind.i64 a1),D.v (Value.bool true),
   D.v (Value.int IntKind.i64 (0:Int)),D.v (Value.string {data:={toList:=[]:Array UInt8}:ByteArray})]]):=
 ctv C_0_ok f43 fi43 ⟨_,_,rfl,rfl⟩ (by
  rw[vc120]
  (repeat' first|exact⟨rfl,rfl⟩|apply gsplit<;>intro h)
  all_goals(refine⟨?_,rfl⟩;simp only[*,cond_true,cond_false]))
def c_120(a:List R)(K:KT):Prop:=match a with|[.agg [.v (.int .i64 a0),.v (.int .i64 a1)]]=>K [R.agg
 [D.v (Value.int IntKind.i64 a0),D.v (Value.int IntKind.i64 a1),D.v (Value.bool true),
  D.v (Value.int IntKind.i64 (0:Int)),D.v (Value.string {data:={toList:=[]:Array UInt8}:ByteArray})]] []|_=>False
theorem c_120_ok(a:List R)(K:KT)(h:c_120 a K):Ct prog gl 43 a K:=by
 unfold c_120 at h
 split at h
 ·exact(ct120 _ _).gives h
 ·exact h.elim
def C_12:CallT:=addC C_11 43 c_120
theorem C_12_ok:CallsOk prog gl C_12:=addC_ok C_11_ok c_120_ok
theorem vc124(a0:Int)(Q:KT):vc E_0 C_0 noI fi57 (f57.body.getD .skip) f57.results.toList [.d (.v (.int .i64 a0))] Q=(Q [.d (.v (.bool (bif decide (a0≥0)then decide (a0≤18)else false)))] []):=by kernel_rfl
def s124_0(a0:Int):Bool:=bif decide (a0≥(0:Int))then decide (a0≤(18:Int))else false
theorem ct124(a0:Int):Ct prog gl 57 [.d (.v (.int .i64 a0))] (gives [R.d (D.v (Value.bool (s124_0 a0)))]):=
 ctv C_0_ok f57 fi57 ⟨_,_,rfl,rfl⟩ (by
  rw[vc124]
  (repeat' first|exact⟨rfl,rfl⟩|apply gsplit<;>intro h)
  all_goals(refine⟨?_,rfl⟩;simp only[s124_0, *,cond_true,cond_false]))
def c_124(a:List R)(K:KT):Prop:=match a with|[.d (.v (.int .i64 a0))]=>K [R.d (D.v (Value.bool (s124_0 a0)))] []|_=>False
theorem c_124_ok(a:List R)(K:KT)(h:c_124 a K):Ct prog gl 57 a K:=by
 unfold c_124 at h
 split at h
 ·exact(ct124 _).gives h
 ·exact h.elim
def C_13:CallT:=addC C_12 57 c_124
theorem C_13_ok:CallsOk prog gl C_13:=addC_ok C_12_ok c_124_ok
theorem vc130(a0:Int)(a1:Int)(Q:KT):vc E_0 C_0 noI fi63 (f63.body.getD .skip) f63.results.toList [.agg [.v (.int .i64 a0),.v (.int .i64 a1)]] Q=(Q [.d (.v (.bool (bif a0==2 then true else a0==3)))] []):=by kernel_rfl
def s130_0(a0:Int)(a1:Int):Bool:=bif a0==(2:Int)then true else a0==(3:Int)
theorem ct130(a0:Int)(a1:Int):Ct prog gl 63 [.agg [.v (.int .i64 a0),.v (.int .i64 a1)]] (gives [R.d (D.v (Value.bool (s130_0 a0 a1)))]):=
 ctv C_0_ok f63 fi63 ⟨_,_,rfl,rfl⟩ (by
  rw[vc130]
  (repeat' first|exact⟨rfl,rfl⟩|apply gsplit<;>intro h)
  all_goals(refine⟨?_,rfl⟩;simp only[s130_0, *,cond_true,cond_false]))
def c_130(a:List R)(K:KT):Prop:=match a with|[.agg [.v (.int .i64 a0),.v (.int .i64 a1)]]=>K [R.d (D.v (Value.bool (s130_0 a0 a1)))] []|_=>False
theorem c_130_ok(a:List R)(K:KT)(h:c_130 a K):Ct prog gl 63 a K:=by
 unfold c_130 at h
 split at h
 ·exact(ct130 _ _).gives h
 ·exact h.elim
def C_14:CallT:=addC C_13 63 c_130
theorem C_14_ok:CallsOk prog gl C_14:=addC_ok C_13_ok c_130_ok
def C_15:CallT:=C_14
theorem C_15_ok:CallsOk prog gl C_15:=C_14_ok
def C_16:CallT:=C_15
theorem C_16_ok:CallsOk prog gl C_16:=C_15_ok
def C_17:CallT:=C_16
theorem C_17_ok:CallsOk prog gl C_17:=C_16_ok
def C_18:CallT:=C_17
theorem C_18_ok:CallsOk prog gl C_18:=C_17_ok
def C_19:CallT:=C_18
theorem C_19_ok:CallsOk prog gl C_19:=C_18_ok
def C_20:CallT:=C_19
theorem C_20_ok:CallsOk prog gl C_20:=C_19_ok
def C_21:CallT:=C_20
theorem C_21_ok:CallsOk prog gl C_21:=C_20_ok
def C_22:CallT:=C_21
theorem C_22_ok:CallsOk prog gl C_22:=C_21_ok
def C_23:CallT:=C_22
theorem C_23_ok:CallsOk prog gl C_23:=C_22_ok
def C_24:CallT:=C_23
theorem C_24_ok:CallsOk prog gl C_24:=C_23_ok
def Zeh(a0' a1' a2:Int)(a3:KT)(a4:Int):Prop:=((bif a0'==a1' then true else a2==a1')=true→a3 [.d (.i a1')] [])∧((bif a0'==a1' then true else a2==a1')=false→((bif a0'==a4 then a2==a4 else false)=true→a3 [.d (.i a4)] [])∧((bif a0'==a4 then a2==a4 else false)=false→a3 [.d (.i 2)] []))
theorem vc194(a0:Int)(a1:Int)(Q:KT):vc E_0 C_0 noI fi67 (f67.body.getD .skip) f67.results.toList [.d (.v (.int .i64 a0)),.d (.v (.int .i64 a1))] Q=(Zeh a0 (0:Int) a1 Q (1:Int)):=by kernel_rfl
def s194_0(a0:Int)(a1:Int):Int:=bif bif a0==(0:Int)then true else a1==(0:Int)then(0:Int)
 else bif bif a0==(1:Int)then a1==(1:Int)else false then(1:Int)else(2:Int)
theorem ct194(a0:Int)(a1:Int):Ct prog gl 67 [.d (.v (.int .i64 a0)),.d (.v (.int .i64 a1))] (gives [R.d (D.v (Value.int IntKind.i64 (s194_0 a0 a1)))]):=
 ctv C_0_ok f67 fi67 ⟨_,_,rfl,rfl⟩ (by
  rw[vc194];dsimp -eta -iota -proj only[Zeh]
  (repeat' first|exact⟨rfl,rfl⟩|apply gsplit<;>intro h)
  all_goals(refine⟨?_,rfl⟩;simp only[s194_0, *,cond_true,cond_false]))
def c_194(a:List R)(K:KT):Prop:=match a with|[.d (.v (.int .i64 a0)),.d (.v (.int .i64 a1))]=>K [R.d (D.v (Value.int IntKind.i64 (s194_0 a0 a1)))] []|_=>False
theorem c_194_ok(a:List R)(K:KT)(h:c_194 a K):Ct prog gl 67 a K:=by
 unfold c_194 at h
 split at h
 ·exact(ct194 _ _).gives h
 ·exact h.elim
def C_25:CallT:=addC C_24 67 c_194
theorem C_25_ok:CallsOk prog gl C_25:=addC_ok C_24_ok c_194_ok
theorem vc195(a0:Int)(a1:Int)(Q:KT):vc E_0 C_0 noI fi68 (f68.body.getD .skip) f68.results.toList [.d (.v (.int .i64 a0)),.d (.v (.int .i64 a1))] Q=(Zeh a0 (1:Int) a1 Q (0:Int)):=by kernel_rfl
def s195_0(a0:Int)(a1:Int):Int:=bif bif a0==(1:Int)then true else a1==(1:Int)then(1:Int)
 else bif bif a0==(0:Int)then a1==(0:Int)else false then(0:Int)else(2:Int)
theorem ct195(a0:Int)(a1:Int):Ct prog gl 68 [.d (.v (.int .i64 a0)),.d (.v (.int .i64 a1))] (gives [R.d (D.v (Value.int IntKind.i64 (s195_0 a0 a1)))]):=
 ctv C_0_ok f68 fi68 ⟨_,_,rfl,rfl⟩ (by
  rw[vc195];dsimp -eta -iota -proj only[Zeh]
  (repeat' first|exact⟨rfl,rfl⟩|apply gsplit<;>intro h)
  all_goals(refine⟨?_,rfl⟩;simp only[s195_0, *,cond_true,cond_false]))
def c_195(a:List R)(K:KT):Prop:=match a with|[.d (.v (.int .i64 a0)),.d (.v (.int .i64 a1))]=>K [R.d (D.v (Value.int IntKind.i64 (s195_0 a0 a1)))] []|_=>False
theorem c_195_ok(a:List R)(K:KT)(h:c_195 a K):Ct prog gl 68 a K:=by
 unfold c_195 at h
 split at h
 ·exact(ct195 _ _).gives h
 ·exact h.elim
def C_26:CallT:=addC C_25 68 c_195
theorem C_26_ok:CallsOk prog gl C_26:=addC_ok C_25_ok c_195_ok
def Zci(a0:KT)(a1 a2:Int):Prop:=a0 [.d (.i a1),.d (.i a2)] []
theorem vc196(a0:Int)(a1:Int)(a2:Bool)(a3:Int)(a4:ByteArray)(Q:KT):vc E_0 C_0 noI fi69 (f69.body.getD .skip) f69.results.toList [.agg [.v (.int .i64 a0),.v (.int .i64 a1),.v (.bool a2),.v (.int .i64 a3),.v (.string a4)]] Q=(((a0 != (1:Int))=true→Zci Q (0:Int) (21:Int))∧((a0 != (1:Int))=false→(a2=true→Zci Q (2:Int) (0:Int))∧(a2=false→((a3==0)=true→Zci Q (0:Int) (0:Int))∧((a3==0)=false→Zci Q (1:Int) (0:Int))))):=by kernel_rfl
def s196_0(a0:Int)(a1:Int)(a2:Bool)(a3:Int)(a4:ByteArray):Int:=bif a0 != (1:Int)then(0:Int)else bif a2 then(2:Int)else bif a3==(0:Int)then(0:Int)else(1:Int)
def s196_1(a0:Int)(a1:Int)(a2:Bool)(a3:Int)(a4:ByteArray):Int:=bif a0 != (1:Int)then(21:Int)else(0:Int)
theorem ct196(a0:Int)(a1:Int)(a2:Bool)(a3:Int)(a4:ByteArray):Ct prog gl 69 [.agg [.v (.int .i64 a0),.v (.int .i64 a1),.v (.bool a2),.v (.int .i64 a3),.v (.string a4)]] (gives [R.d (D.v (Value.int IntKind.i64 (s196_0 a0 a1 a2 a3 a4))),R.d (D.v (Value.int IntKind.i64 (s196_1 a0 a1 a2 a3 a4)))]):=
 ctv C_0_ok f69 fi69 ⟨_,_,rfl,rfl⟩ (by
  rw[vc196];dsimp -eta -iota -proj only[Zci]
  (repeat' first|exact⟨rfl,rfl⟩|apply gsplit<;>intro h)
  all_goals(refine⟨?_,rfl⟩;simp only[s196_0,s196_1, *,cond_true,cond_false]))
def c_196(a:List R)(K:KT):Prop:=match a with|[.agg [.v (.int .i64 a0),.v (.int .i64 a1),.v (.bool a2),.v (.int .i64 a3),.v (.string a4)]]=>K [R.d (D.v (Value.int IntKind.i64 (s196_0 a0 a1 a2 a3 a4))),R.d (D.v (Value.int IntKind.i64 (s196_1 a0 a1 a2 a3 a4)))] []|_=>False
theorem c_196_ok(a:List R)(K:KT)(h:c_196 a K):Ct prog gl 69 a K:=by
 unfold c_196 at h
 split at h
 ·exact(ct196 _ _ _ _ _).gives h
 ·exact h.elim
def C_27:CallT:=addC C_26 69 c_196
theorem C_27_ok:CallsOk prog gl C_27:=addC_ok C_26_ok c_196_ok
theorem vc202(a0:Int)(a1:Int)(Q:KT):vc E_0 C_0 noI fi75 (f75.body.getD .skip) f75.results.toList [.d (.v (.int .i64 a0)),.d (.v (.int .i64 a1))] Q=(((decide (IntKind.i64.wrap (a0+a1)>a0)==decide (a1>0))=true→Q [.d (.i (IntKind.i64.wrap (a0+a1))),.d (.i 0)] [])∧((decide (IntKind.i64.wrap (a0+a1)>a0)==decide (a1>0))=false→Zci Q (0:Int) (10:Int))):=by kernel_rfl
def s202_0(a0:Int)(a1:Int):Int:=bif decide (IntKind.i64.wrap (a0+a1)>a0)==decide (a1>(0:Int))then IntKind.i64.wrap (a0+a1)else(0:Int)
def s202_1(a0:Int)(a1:Int):Int:=bif decide (IntKind.i64.wrap (a0+a1)>a0)==decide (a1>(0:Int))then(0:Int)else(10:Int)
theorem ct202(a0:Int)(a1:Int):Ct prog gl 75 [.d (.v (.int .i64 a0)),.d (.v (.int .i64 a1))] (gives [R.d (D.v (Value.int IntKind.i64 (s202_0 a0 a1))),R.d (D.v (Value.int IntKind.i64 (s202_1 a0 a1)))]):=
 ctv C_0_ok f75 fi75 ⟨_,_,rfl,rfl⟩ (by
  rw[vc202];dsimp -eta -iota -proj only[Zci]
  (repeat' first|exact⟨rfl,rfl⟩|apply gsplit<;>intro h)
  all_goals(refine⟨?_,rfl⟩;simp only[s202_0,s202_1, *,cond_true,cond_false]))
def c_202(a:List R)(K:KT):Prop:=match a with|[.d (.v (.int .i64 a0)),.d (.v (.int .i64 a1))]=>K [R.d (D.v (Value.int IntKind.i64 (s202_0 a0 a1))),R.d (D.v (Value.int IntKind.i64 (s202_1 a0 a1)))] []|_=>False
theorem c_202_ok(a:List R)(K:KT)(h:c_202 a K):Ct prog gl 75 a K:=by
 unfold c_202 at h
 split at h
 ·exact(ct202 _ _).gives h
 ·exact h.elim
def C_28:CallT:=addC C_27 75 c_202
theorem C_28_ok:CallsOk prog gl C_28:=addC_ok C_27_ok c_202_ok
theorem vc203(a0:Int)(a1:Int)(Q:KT):vc E_0 C_0 noI fi76 (f76.body.getD .skip) f76.results.toList [.d (.v (.int .i64 a0)),.d (.v (.int .i64 a1))] Q=(((decide (IntKind.i64.wrap (a0-a1)<a0)==decide (a1>0))=true→Q [.d (.i (IntKind.i64.wrap (a0-a1))),.d (.i 0)] [])∧((decide (IntKind.i64.wrap (a0-a1)<a0)==decide (a1>0))=false→Zci Q (0:Int) (10:Int))):=by kernel_rfl
def s203_0(a0:Int)(a1:Int):Int:=bif decide (IntKind.i64.wrap (a0-a1)<a0)==decide (a1>(0:Int))then IntKind.i64.wrap (a0-a1)else(0:Int)
def s203_1(a0:Int)(a1:Int):Int:=bif decide (IntKind.i64.wrap (a0-a1)<a0)==decide (a1>(0:Int))then(0:Int)else(10:Int)
theorem ct203(a0:Int)(a1:Int):Ct prog gl 76 [.d (.v (.int .i64 a0)),.d (.v (.int .i64 a1))] (gives [R.d (D.v (Value.int IntKind.i64 (s203_0 a0 a1))),R.d (D.v (Value.int IntKind.i64 (s203_1 a0 a1)))]):=
 ctv C_0_ok f76 fi76 ⟨_,_,rfl,rfl⟩ (by
  rw[vc203];dsimp -eta -iota -proj only[Zci]
  (repeat' first|exact⟨rfl,rfl⟩|apply gsplit<;>intro h)
  all_goals(refine⟨?_,rfl⟩;simp only[s203_0,s203_1, *,cond_true,cond_false]))
def c_203(a:List R)(K:KT):Prop:=match a with|[.d (.v (.int .i64 a0)),.d (.v (.int .i64 a1))]=>K [R.d (D.v (Value.int IntKind.i64 (s203_0 a0 a1))),R.d (D.v (Value.int IntKind.i64 (s203_1 a0 a1)))] []|_=>False
theorem c_203_ok(a:List R)(K:KT)(h:c_203 a K):Ct prog gl 76 a K:=by
 unfold c_203 at h
 split at h
 ·exact(ct203 _ _).gives h
 ·exact h.elim
def C_29:CallT:=addC C_28 76 c_203
theorem C_29_ok:CallsOk prog gl C_29:=addC_ok C_28_ok c_203_ok
theorem vc209(a0:Int)(Q:KT):vc E_0 C_0 noI fi94 (f94.body.getD .skip) f94.results.toList [.d (.v (.int .i64 a0))] Q=(((a0==3)=true→Q [.d (.i 2)] [])∧((a0==3)=false→Q [.d (.i a0)] [])):=by kernel_rfl
def s209_0(a0:Int):Int:=bif a0==(3:Int)then(2:Int)else a0
theorem ct209(a0:Int):Ct prog gl 94 [.d (.v (.int .i64 a0))] (gives [R.d (D.v (Value.int IntKind.i64 (s209_0 a0)))]):=
 ctv C_0_ok f94 fi94 ⟨_,_,rfl,rfl⟩ (by
  rw[vc209]
  (repeat' first|exact⟨rfl,rfl⟩|apply gsplit<;>intro h)
  all_goals(refine⟨?_,rfl⟩;simp only[s209_0, *,cond_true,cond_false]))
def c_209(a:List R)(K:KT):Prop:=match a with|[.d (.v (.int .i64 a0))]=>K [R.d (D.v (Value.int IntKind.i64 (s209_0 a0)))] []|_=>False
theorem c_209_ok(a:List R)(K:KT)(h:c_209 a K):Ct prog gl 94 a K:=by
 unfold c_209 at h
 split at h
 ·exact(ct209 _).gives h
 ·exact h.elim
def C_30:CallT:=addC C_29 94 c_209
theorem C_30_ok:CallsOk prog gl C_30:=addC_ok C_29_ok c_209_ok
def C_31:CallT:=C_30
theorem C_31_ok:CallsOk prog gl C_31:=C_30_ok
def C_32:CallT:=C_31
theorem C_32_ok:CallsOk prog gl C_32:=C_31_ok
theorem vc270(a0:Int)(a1:Int)(a2:Bool)(a3:Int)(a4:ByteArray)(Q:KT):vc E_0 C_0 noI fi98 (f98.body.getD .skip) f98.results.toList [.agg [.v (.int .i64 a0),.v (.int .i64 a1),.v (.bool a2),.v (.int .i64 a3),.v (.string a4)]] Q=(((a0 != (3:Int))=true→Q [.d (.i 0)] [])∧((a0 != (3:Int))=false→Q [.d (.i (if(18:Int)<if(0:Int)>a1 then(0:Int)else a1 then(18:Int)else if(0:Int)>a1 then(0:Int)else a1))] [])):=by kernel_rfl
def s270_0(a0:Int)(a1:Int)(a2:Bool)(a3:Int)(a4:ByteArray):Int:=bif a0 != (3:Int)then(0:Int)
 else
 if(18:Int)<if(0:Int)>a1 then(0:Int)else a1 then(18:Int)else if(0:Int)>a1 then(0:Int)else a1
theorem ct270(a0:Int)(a1:Int)(a2:Bool)(a3:Int)(a4:ByteArray):Ct prog gl 98 [.agg [.v (.int .i64 a0),.v (.int .i64 a1),.v (.bool a2),.v (.int .i64 a3),.v (.string a4)]] (gives [R.d (D.v (Value.int IntKind.i64 (s270_0 a0 a1 a2 a3 a4)))]):=
 ctv C_0_ok f98 fi98 ⟨_,_,rfl,rfl⟩ (by
  rw[vc270]
  (repeat' first|exact⟨rfl,rfl⟩|apply gsplit<;>intro h)
  all_goals(refine⟨?_,rfl⟩;simp only[s270_0, *,cond_true,cond_false]))
def c_270(a:List R)(K:KT):Prop:=match a with|[.agg [.v (.int .i64 a0),.v (.int .i64 a1),.v (.bool a2),.v (.int .i64 a3),.v (.string a4)]]=>K [R.d (D.v (Value.int IntKind.i64 (s270_0 a0 a1 a2 a3 a4)))] []|_=>False
theorem c_270_ok(a:List R)(K:KT)(h:c_270 a K):Ct prog gl 98 a K:=by
 unfold c_270 at h
 split at h
 ·exact(ct270 _ _ _ _ _).gives h
 ·exact h.elim
def C_33:CallT:=addC C_32 98 c_270
theorem C_33_ok:CallsOk prog gl C_33:=addC_ok C_32_ok c_270_ok
theorem vc276(a0:Int)(Q:KT):vc E_0 C_0 noI fi86 (f86.body.getD .skip) f86.results.toList [.d (.v (.int .i64 a0))] Q=(Q [.d (.v (.bool (bif decide (a0≥0)then decide (a0≤18)else false)))] []):=by kernel_rfl
def s276_0(a0:Int):Bool:=bif decide (a0≥(0:Int))then decide (a0≤(18:Int))else false
theorem ct276(a0:Int):Ct prog gl 86 [.d (.v (.int .i64 a0))] (gives [R.d (D.v (Value.bool (s276_0 a0)))]):=
 ctv C_0_ok f86 fi86 ⟨_,_,rfl,rfl⟩ (by
  rw[vc276]
  (repeat' first|exact⟨rfl,rfl⟩|apply gsplit<;>intro h)
  all_goals(refine⟨?_,rfl⟩;simp only[s276_0, *,cond_true,cond_false]))
def c_276(a:List R)(K:KT):Prop:=match a with|[.d (.v (.int .i64 a0))]=>K [R.d (D.v (Value.bool (s276_0 a0)))] []|_=>False
theorem c_276_ok(a:List R)(K:KT)(h:c_276 a K):Ct prog gl 86 a K:=by
 unfold c_276 at h
 split at h
 ·exact(ct276 _).gives h
 ·exact h.elim
def C_34:CallT:=addC C_33 86 c_276
theorem C_34_ok:CallsOk prog gl C_34:=addC_ok C_33_ok c_276_ok
def C_35:CallT:=C_34
theorem C_35_ok:CallsOk prog gl C_35:=C_34_ok
def C_36:CallT:=C_35
theorem C_36_ok:CallsOk prog gl C_36:=C_35_ok
def Zdn:List R:=[.d (.i (-1))]
def Zdp(a0:KT):Prop:=a0 Zdn []
theorem vc331(a0:Int)(a1:Int)(a2:Int)(a3:Int)(Q:KT):vc E_0 C_0 noI fi133 (f133.body.getD .skip) f133.results.toList [.agg [.v (.int .i64 a0),.v (.int .u64 a1)],.agg [.v (.int .i64 a2),.v (.int .u64 a3)]] Q=(((a0==a2&&(a1==a3&&true))=true→Q [.d (.i 0)] [])∧((a0==a2&&(a1==a3&&true))=false→((bif decide (a0<a2)then true else bif a0==a2 then decide (a1<a3)else false)=true→Zdp Q)∧((bif decide (a0<a2)then true else bif a0==a2 then decide (a1<a3)else false)=false→Q [.d (.i 1)] []))):=by kernel_rfl
def s331_0(a0:Int)(a1:Int)(a2:Int)(a3:Int):Int:=bif a0==a2&&(a1==a3&&true)then(0:Int)
 else
 bif bif decide (a0<a2)then true else bif a0==a2 then decide (a1<a3)else false then(-1:Int)else(1:Int)
theorem ct331(a0:Int)(a1:Int)(a2:Int)(a3:Int):Ct prog gl 133 [.agg [.v (.int .i64 a0),.v (.int .u64 a1)],.agg [.v (.int .i64 a2),.v (.int .u64 a3)]] (gives [R.d (D.v (Value.int IntKind.i64 (s331_0 a0 a1 a2 a3)))]):=
 ctv C_0_ok f133 fi133 ⟨_,_,rfl,rfl⟩ (by
  rw[vc331];dsimp -eta -iota -proj only[Zdp,Zdn]
  (repeat' first|exact⟨rfl,rfl⟩|apply gsplit<;>intro h)
  all_goals(refine⟨?_,rfl⟩;simp only[s331_0, *,cond_true,cond_false]))
def c_331(a:List R)(K:KT):Prop:=match a with|[.agg [.v (.int .i64 a0),.v (.int .u64 a1)],.agg [.v (.int .i64 a2),.v (.int .u64 a3)]]=>K [R.d (D.v (Value.int IntKind.i64 (s331_0 a0 a1 a2 a3)))] []|_=>False
theorem c_331_ok(a:List R)(K:KT)(h:c_331 a K):Ct prog gl 133 a K:=by
 unfold c_331 at h
 split at h
 ·exact(ct331 _ _ _ _).gives h
 ·exact h.elim
def C_37:CallT:=addC C_36 133 c_331
theorem C_37_ok:CallsOk prog gl C_37:=addC_ok C_36_ok c_331_ok
theorem vc333(a0:Int)(a1:Int)(Q:KT):vc E_0 C_0 noI fi135 (f135.body.getD .skip) f135.results.toList [.d (.v (.int .i64 a0)),.d (.v (.int .i64 a1))] Q=((decide (a0<a1)=true→Zdp Q)∧(decide (a0<a1)=false→(decide (a0>a1)=true→Q [.d (.i 1)] [])∧(decide (a0>a1)=false→Q [.d (.i 0)] []))):=by kernel_rfl
def s333_0(a0:Int)(a1:Int):Int:=bif decide (a0<a1)then(-1:Int)else bif decide (a0>a1)then(1:Int)else(0:Int)
theorem ct333(a0:Int)(a1:Int):Ct prog gl 135 [.d (.v (.int .i64 a0)),.d (.v (.int .i64 a1))] (gives [R.d (D.v (Value.int IntKind.i64 (s333_0 a0 a1)))]):=
 ctv C_0_ok f135 fi135 ⟨_,_,rfl,rfl⟩ (by
  rw[vc333];dsimp -eta -iota -proj only[Zdp,Zdn]
  (repeat' first|exact⟨rfl,rfl⟩|apply gsplit<;>intro h)
  all_goals(refine⟨?_,rfl⟩;simp only[s333_0, *,cond_true,cond_false]))
def c_333(a:List R)(K:KT):Prop:=match a with|[.d (.v (.int .i64 a0)),.d (.v (.int .i64 a1))]=>K [R.d (D.v (Value.int IntKind.i64 (s333_0 a0 a1)))] []|_=>False
theorem c_333_ok(a:List R)(K:KT)(h:c_333 a K):Ct prog gl 135 a K:=by
 unfold c_333 at h
 split at h
 ·exact(ct333 _ _).gives h
 ·exact h.elim
def C_38:CallT:=addC C_37 135 c_333
theorem C_38_ok:CallsOk prog gl C_38:=addC_ok C_37_ok c_333_ok
def C_39:CallT:=C_38
theorem C_39_ok:CallsOk prog gl C_39:=C_38_ok
theorem vc376(a0:Int)(Q:KT):vc E_0 C_0 noI fi156 (f156.body.getD .skip) f156.results.toList [.d (.v (.int .i32 a0))] Q=(((bif decide (a0≥97)then decide (a0≤122)else false)=true→Q [.d (.v (.int .i32 (IntKind.i32.wrap (a0-32))))] [])∧((bif decide (a0≥97)then decide (a0≤122)else false)=false→Q [.d (.v (.int .i32 a0))] [])):=by kernel_rfl
def s376_0(a0:Int):Int:=bif bif decide (a0≥(97:Int))then decide (a0≤(122:Int))else false then IntKind.i32.wrap (a0-(32:Int))
 else a0
theorem ct376(a0:Int):Ct prog gl 156 [.d (.v (.int .i32 a0))] (gives [R.d (D.v (Value.int IntKind.i32 (s376_0 a0)))]):=
 ctv C_0_ok f156 fi156 ⟨_,_,rfl,rfl⟩ (by
  rw[vc376]
  (repeat' first|exact⟨rfl,rfl⟩|apply gsplit<;>intro h)
  all_goals(refine⟨?_,rfl⟩;simp only[s376_0, *,cond_true,cond_false]))
def c_376(a:List R)(K:KT):Prop:=match a with|[.d (.v (.int .i32 a0))]=>K [R.d (D.v (Value.int IntKind.i32 (s376_0 a0)))] []|_=>False
theorem c_376_ok(a:List R)(K:KT)(h:c_376 a K):Ct prog gl 156 a K:=by
 unfold c_376 at h
 split at h
 ·exact(ct376 _).gives h
 ·exact h.elim
def C_40:CallT:=addC C_39 156 c_376
theorem C_40_ok:CallsOk prog gl C_40:=addC_ok C_39_ok c_376_ok
theorem vc385(a0:Bool)(Q:KT):vc E_0 C_0 noI fi143 (f143.body.getD .skip) f143.results.toList [.d (.v (.bool a0))] Q=((a0=true→Q [.d (.i 1)] [])∧(a0=false→Q [.d (.i 0)] [])):=by kernel_rfl
def s385_0(a0:Bool):Int:=bif a0 then(1:Int)else(0:Int)
theorem ct385(a0:Bool):Ct prog gl 143 [.d (.v (.bool a0))] (gives [R.d (D.v (Value.int IntKind.i64 (s385_0 a0)))]):=
 ctv C_0_ok f143 fi143 ⟨_,_,rfl,rfl⟩ (by
  rw[vc385]
  (repeat' first|exact⟨rfl,rfl⟩|apply gsplit<;>intro h)
  all_goals(refine⟨?_,rfl⟩;simp only[s385_0, *,cond_true,cond_false]))
def c_385(a:List R)(K:KT):Prop:=match a with|[.d (.v (.bool a0))]=>K [R.d (D.v (Value.int IntKind.i64 (s385_0 a0)))] []|_=>False
theorem c_385_ok(a:List R)(K:KT)(h:c_385 a K):Ct prog gl 143 a K:=by
 unfold c_385 at h
 split at h
 ·exact(ct385 _).gives h
 ·exact h.elim
def C_41:CallT:=addC C_40 143 c_385
theorem C_41_ok:CallsOk prog gl C_41:=addC_ok C_40_ok c_385_ok
theorem vc386(a0:Int)(Q:KT):vc E_0 C_0 noI fi144 (f144.body.getD .skip) f144.results.toList [.d (.v (.int .i64 a0))] Q=(Q [.d (.v (.bool (aInt.bits BinOp.and IntKind.i64 a0 (IntKind.i64.wrap (a0-1))==(0:Int))))] []):=by kernel_rfl
def s386_0(a0:Int):Bool:=aInt.bits BinOp.and IntKind.i64 a0 (IntKind.i64.wrap (a0-(1:Int)))==(0:Int)
theorem ct386(a0:Int):Ct prog gl 144 [.d (.v (.int .i64 a0))] (gives [R.d (D.v (Value.bool (s386_0 a0)))]):=
 ctv C_0_ok f144 fi144 ⟨_,_,rfl,rfl⟩ (by
  rw[vc386]
  (repeat' first|exact⟨rfl,rfl⟩|apply gsplit<;>intro h)
  all_goals(refine⟨?_,rfl⟩;simp only[s386_0, *,cond_true,cond_false]))
def c_386(a:List R)(K:KT):Prop:=match a with|[.d (.v (.int .i64 a0))]=>K [R.d (D.v (Value.bool (s386_0 a0)))] []|_=>False
theorem c_386_ok(a:List R)(K:KT)(h:c_386 a K):Ct prog gl 144 a K:=by
 unfold c_386 at h
 split at h
 ·exact(ct386 _).gives h
 ·exact h.elim
def C_42:CallT:=addC C_41 144 c_386
theorem C_42_ok:CallsOk prog gl C_42:=addC_ok C_41_ok c_386_ok
def C_43:CallT:=C_42
theorem C_43_ok:CallsOk prog gl C_43:=C_42_ok
def C_44:CallT:=C_43
theorem C_44_ok:CallsOk prog gl C_44:=C_43_ok
def C_45:CallT:=C_44
theorem C_45_ok:CallsOk prog gl C_45:=C_44_ok
theorem vc421(a0:Int)(Q:KT):vc E_0 C_0 noI fi172 (f172.body.getD .skip) f172.results.toList [.d (.v (.int .i32 a0))] Q=((decide (a0<0)=true→Zdp Q)∧(decide (a0<0)=false→(decide (a0≤127)=true→Q [.d (.i 1)] [])∧(decide (a0≤127)=false→(decide (a0≤2047)=true→Q [.d (.i 2)] [])∧(decide (a0≤2047)=false→((bif decide ((55296:Int)≤a0)then decide (a0≤57343)else false)=true→Zdp Q)∧((bif decide ((55296:Int)≤a0)then decide (a0≤57343)else false)=false→(decide (a0≤65535)=true→Q [.d (.i 3)] [])∧(decide (a0≤65535)=false→(decide (a0≤1114111)=true→Q [.d (.i 4)] [])∧(decide (a0≤1114111)=false→Zdp Q))))))):=by kernel_rfl
def s421_0(a0:Int):Int:=bif decide (a0<(0:Int))then(-1:Int)
 else
 bif decide (a0≤(127:Int))then(1:Int)
 else
  bif decide (a0≤(2047:Int))then(2:Int)
  else
   bif bif decide ((55296:Int)≤a0)then decide (a0≤(57343:Int))else false then(-1:Int)
   else
    bif decide (a0≤(65535:Int))then(3:Int)
    else bif decide (a0≤(1114111:Int))then(4:Int)else(-1:Int)
theorem ct421(a0:Int):Ct prog gl 172 [.d (.v (.int .i32 a0))] (gives [R.d (D.v (Value.int IntKind.i64 (s421_0 a0)))]):=
 ctv C_0_ok f172 fi172 ⟨_,_,rfl,rfl⟩ (by
  rw[vc421];dsimp -eta -iota -proj only[Zdp,Zdn]
  (repeat' first|exact⟨rfl,rfl⟩|apply gsplit<;>intro h)
  all_goals(refine⟨?_,rfl⟩;simp only[s421_0, *,cond_true,cond_false]))
def c_421(a:List R)(K:KT):Prop:=match a with|[.d (.v (.int .i32 a0))]=>K [R.d (D.v (Value.int IntKind.i64 (s421_0 a0)))] []|_=>False
theorem c_421_ok(a:List R)(K:KT)(h:c_421 a K):Ct prog gl 172 a K:=by
 unfold c_421 at h
 split at h
 ·exact(ct421 _).gives h
 ·exact h.elim
def C_46:CallT:=addC C_45 172 c_421
theorem C_46_ok:CallsOk prog gl C_46:=addC_ok C_45_ok c_421_ok
theorem vc445(a0:Int)(Q:KT):vc E_0 C_0 noI fi141 (f141.body.getD .skip) f141.results.toList [.d (.v (.int .i64 a0))] Q=(Q [.d (.v (.bool (a0 != a0)))] []):=by kernel_rfl
def s445_0(a0:Int):Bool:=a0 != a0
theorem ct445(a0:Int):Ct prog gl 141 [.d (.v (.int .i64 a0))] (gives [R.d (D.v (Value.bool (s445_0 a0)))]):=
 ctv C_0_ok f141 fi141 ⟨_,_,rfl,rfl⟩ (by
  rw[vc445]
  (repeat' first|exact⟨rfl,rfl⟩|apply gsplit<;>intro h)
  all_goals(refine⟨?_,rfl⟩;simp only[s445_0, *,cond_true,cond_false]))
def c_445(a:List R)(K:KT):Prop:=match a with|[.d (.v (.int .i64 a0))]=>K [R.d (D.v (Value.bool (s445_0 a0)))] []|_=>False
theorem c_445_ok(a:List R)(K:KT)(h:c_445 a K):Ct prog gl 141 a K:=by
 unfold c_445 at h
 split at h
 ·exact(ct445 _).gives h
 ·exact h.elim
def C_47:CallT:=addC C_46 141 c_445
theorem C_47_ok:CallsOk prog gl C_47:=addC_ok C_46_ok c_445_ok
theorem vc467(a0:Int)(Q:KT):vc E_0 C_0 noI fi201 (f201.body.getD .skip) f201.results.toList [.d (.v (.int .u8 a0))] Q=(Q [.d (.v (.int .u8 (aInt.bits BinOp.or IntKind.u8 a0 (32:Int))))] []):=by kernel_rfl
def s467_0(a0:Int):Int:=aInt.bits BinOp.or IntKind.u8 a0 (32:Int)
theorem ct467(a0:Int):Ct prog gl 201 [.d (.v (.int .u8 a0))] (gives [R.d (D.v (Value.int IntKind.u8 (s467_0 a0)))]):=
 ctv C_0_ok f201 fi201 ⟨_,_,rfl,rfl⟩ (by
  rw[vc467]
  (repeat' first|exact⟨rfl,rfl⟩|apply gsplit<;>intro h)
  all_goals(refine⟨?_,rfl⟩;simp only[s467_0, *,cond_true,cond_false]))
def c_467(a:List R)(K:KT):Prop:=match a with|[.d (.v (.int .u8 a0))]=>K [R.d (D.v (Value.int IntKind.u8 (s467_0 a0)))] []|_=>False
theorem c_467_ok(a:List R)(K:KT)(h:c_467 a K):Ct prog gl 201 a K:=by
 unfold c_467 at h
 split at h
 ·exact(ct467 _).gives h
 ·exact h.elim
def C_48:CallT:=addC C_47 201 c_467
theorem C_48_ok:CallsOk prog gl C_48:=addC_ok C_47_ok c_467_ok
theorem vc473(a0:Int)(Q:KT):vc E_0 C_0 noI fi206 (f206.body.getD .skip) f206.results.toList [.d (.v (.int .u8 a0))] Q=(Q [.d (.v (.bool (aInt.bits BinOp.and IntKind.u8 a0 (192:Int) != (128:Int))))] []):=by kernel_rfl
def s473_0(a0:Int):Bool:=aInt.bits BinOp.and IntKind.u8 a0 (192:Int) != (128:Int)
theorem ct473(a0:Int):Ct prog gl 206 [.d (.v (.int .u8 a0))] (gives [R.d (D.v (Value.bool (s473_0 a0)))]):=
 ctv C_0_ok f206 fi206 ⟨_,_,rfl,rfl⟩ (by
  rw[vc473]
  (repeat' first|exact⟨rfl,rfl⟩|apply gsplit<;>intro h)
  all_goals(refine⟨?_,rfl⟩;simp only[s473_0, *,cond_true,cond_false]))
def c_473(a:List R)(K:KT):Prop:=match a with|[.d (.v (.int .u8 a0))]=>K [R.d (D.v (Value.bool (s473_0 a0)))] []|_=>False
theorem c_473_ok(a:List R)(K:KT)(h:c_473 a K):Ct prog gl 206 a K:=by
 unfold c_473 at h
 split at h
 ·exact(ct473 _).gives h
 ·exact h.elim
def C_49:CallT:=addC C_48 206 c_473
theorem C_49_ok:CallsOk prog gl C_49:=addC_ok C_48_ok c_473_ok
def Zcv(a0:KT):Prop:=a0 [.d (.v (.bool false))] []
theorem vc476(a0:Int)(Q:KT):vc E_0 C_0 noI fi208 (f208.body.getD .skip) f208.results.toList [.d (.v (.int .i32 a0))] Q=(((bif decide ((0:Int)≤a0)then decide (a0<55296)else false)=true→Q [.d (.v (.bool true))] [])∧((bif decide ((0:Int)≤a0)then decide (a0<55296)else false)=false→((bif decide ((57343:Int)<a0)then decide (a0≤1114111)else false)=true→Q [.d (.v (.bool true))] [])∧((bif decide ((57343:Int)<a0)then decide (a0≤1114111)else false)=false→Zcv Q))):=by kernel_rfl
def s476_0(a0:Int):Bool:=bif bif decide ((0:Int)≤a0)then decide (a0<(55296:Int))else false then true
 else bif bif decide ((57343:Int)<a0)then decide (a0≤(1114111:Int))else false then true else false
theorem ct476(a0:Int):Ct prog gl 208 [.d (.v (.int .i32 a0))] (gives [R.d (D.v (Value.bool (s476_0 a0)))]):=
 ctv C_0_ok f208 fi208 ⟨_,_,rfl,rfl⟩ (by
  rw[vc476];dsimp -eta -iota -proj only[Zcv]
  (repeat' first|exact⟨rfl,rfl⟩|apply gsplit<;>intro h)
  all_goals(refine⟨?_,rfl⟩;simp only[s476_0, *,cond_true,cond_false]))
def c_476(a:List R)(K:KT):Prop:=match a with|[.d (.v (.int .i32 a0))]=>K [R.d (D.v (Value.bool (s476_0 a0)))] []|_=>False
theorem c_476_ok(a:List R)(K:KT)(h:c_476 a K):Ct prog gl 208 a K:=by
 unfold c_476 at h
 split at h
 ·exact(ct476 _).gives h
 ·exact h.elim
def C_50:CallT:=addC C_49 208 c_476
theorem C_50_ok:CallsOk prog gl C_50:=addC_ok C_49_ok c_476_ok
def C_51:CallT:=C_50
theorem C_51_ok:CallsOk prog gl C_51:=C_50_ok
def C_52:CallT:=C_51
theorem C_52_ok:CallsOk prog gl C_52:=C_51_ok
theorem vc60(a0:Int)(a1:Int)(Q:KT):vc E_0 C_52 noI fi31 (f31.body.getD .skip) f31.results.toList [.agg [.v (.int .i64 a0),.v (.int .i64 a1)]] Q=(((bif bif bif decide (a0<1)then true else decide (a0>5)then true else !s124_0 a1 then true else bif a1 != (0:Int)then a0 != (3:Int)else false)=true→Q [.d (.i 21)] [])∧((bif bif bif decide (a0<1)then true else decide (a0>5)then true else !s124_0 a1 then true else bif a1 != (0:Int)then a0 != (3:Int)else false)=false→Q [.d (.i 0)] [])):=by kernel_rfl
def s60_0(a0:Int)(a1:Int):Int:=bif
  bif bif bif decide (a0<(1:Int))then true else decide (a0>(5:Int))then true else !s124_0 a1 then true
  else bif a1 != (0:Int)then a0 != (3:Int)else false then
 (21:Int)
 else(0:Int)
theorem ct60(a0:Int)(a1:Int):Ct prog gl 31 [.agg [.v (.int .i64 a0),.v (.int .i64 a1)]] (gives [R.d (D.v (Value.int IntKind.i64 (s60_0 a0 a1)))]):=
 ctv C_52_ok f31 fi31 ⟨_,_,rfl,rfl⟩ (by
  rw[vc60]
  (repeat' first|exact⟨rfl,rfl⟩|apply gsplit<;>intro h)
  all_goals(refine⟨?_,rfl⟩;simp only[s60_0, *,cond_true,cond_false]))
def c_60(a:List R)(K:KT):Prop:=match a with|[.agg [.v (.int .i64 a0),.v (.int .i64 a1)]]=>K [R.d (D.v (Value.int IntKind.i64 (s60_0 a0 a1)))] []|_=>False
theorem c_60_ok(a:List R)(K:KT)(h:c_60 a K):Ct prog gl 31 a K:=by
 unfold c_60 at h
 split at h
 ·exact(ct60 _ _).gives h
 ·exact h.elim
def C_53:CallT:=addC C_52 31 c_60
theorem C_53_ok:CallsOk prog gl C_53:=addC_ok C_52_ok c_60_ok
def C_54:CallT:=C_53
theorem C_54_ok:CallsOk prog gl C_54:=C_53_ok
theorem vc129(a0:Int)(a1:Int)(a2:Int)(a3:Int)(Q:KT):vc E_0 C_52 noI fi62 (f62.body.getD .skip) f62.results.toList [.agg [.v (.int .i64 a0),.v (.int .i64 a1)],.agg [.v (.int .i64 a2),.v (.int .i64 a3)]] Q=(Q [.d (.v (.bool (bif bif decide (a0≥1)then decide (a0≤5)else false then s209_0 a0==s209_0 a2 else false)))] []):=by kernel_rfl
def s129_0(a0:Int)(a1:Int)(a2:Int)(a3:Int):Bool:=bif bif decide (a0≥(1:Int))then decide (a0≤(5:Int))else false then s209_0 a0==s209_0 a2 else false
theorem ct129(a0:Int)(a1:Int)(a2:Int)(a3:Int):Ct prog gl 62 [.agg [.v (.int .i64 a0),.v (.int .i64 a1)],.agg [.v (.int .i64 a2),.v (.int .i64 a3)]] (gives [R.d (D.v (Value.bool (s129_0 a0 a1 a2 a3)))]):=
 ctv C_52_ok f62 fi62 ⟨_,_,rfl,rfl⟩ (by
  rw[vc129]
  (repeat' first|exact⟨rfl,rfl⟩|apply gsplit<;>intro h)
  all_goals(refine⟨?_,rfl⟩;simp only[s129_0, *,cond_true,cond_false]))
def c_129(a:List R)(K:KT):Prop:=match a with|[.agg [.v (.int .i64 a0),.v (.int .i64 a1)],.agg [.v (.int .i64 a2),.v (.int .i64 a3)]]=>K [R.d (D.v (Value.bool (s129_0 a0 a1 a2 a3)))] []|_=>False
theorem c_129_ok(a:List R)(K:KT)(h:c_129 a K):Ct prog gl 62 a K:=by
 unfold c_129 at h
 split at h
 ·exact(ct129 _ _ _ _).gives h
 ·exact h.elim
def C_55:CallT:=addC C_54 62 c_129
theorem C_55_ok:CallsOk prog gl C_55:=addC_ok C_54_ok c_129_ok
def C_56:CallT:=C_55
theorem C_56_ok:CallsOk prog gl C_56:=C_55_ok
def C_57:CallT:=C_56
theorem C_57_ok:CallsOk prog gl C_57:=C_56_ok
def C_58:CallT:=C_57
theorem C_58_ok:CallsOk prog gl C_58:=C_57_ok
theorem vc207(a0:Int)(Q:KT):vc E_0 C_52 noI fi80 (f80.body.getD .skip) f80.results.toList [.d (.v (.int .i64 a0))] Q=(Q [.d (.i (s203_0 (0:Int) a0)),.d (.i (s203_1 (0:Int) a0))] []):=by kernel_rfl
def s207_0(a0:Int):Int:=s203_0 (0:Int) a0
def s207_1(a0:Int):Int:=s203_1 (0:Int) a0
theorem ct207(a0:Int):Ct prog gl 80 [.d (.v (.int .i64 a0))] (gives [R.d (D.v (Value.int IntKind.i64 (s207_0 a0))),R.d (D.v (Value.int IntKind.i64 (s207_1 a0)))]):=
 ctv C_52_ok f80 fi80 ⟨_,_,rfl,rfl⟩ (by
  rw[vc207]
  (repeat' first|exact⟨rfl,rfl⟩|apply gsplit<;>intro h)
  all_goals(refine⟨?_,rfl⟩;simp only[s207_0,s207_1, *,cond_true,cond_false]))
def c_207(a:List R)(K:KT):Prop:=match a with|[.d (.v (.int .i64 a0))]=>K [R.d (D.v (Value.int IntKind.i64 (s207_0 a0))),R.d (D.v (Value.int IntKind.i64 (s207_1 a0)))] []|_=>False
theorem c_207_ok(a:List R)(K:KT)(h:c_207 a K):Ct prog gl 80 a K:=by
 unfold c_207 at h
 split at h
 ·exact(ct207 _).gives h
 ·exact h.elim
def C_59:CallT:=addC C_58 80 c_207
theorem C_59_ok:CallsOk prog gl C_59:=addC_ok C_58_ok c_207_ok
def C_60:CallT:=C_59
theorem C_60_ok:CallsOk prog gl C_60:=C_59_ok
def C_61:CallT:=C_60
theorem C_61_ok:CallsOk prog gl C_61:=C_60_ok
def C_62:CallT:=C_61
theorem C_62_ok:CallsOk prog gl C_62:=C_61_ok
theorem vc416(a0:Int)(a1:Int)(Q:KT):vc E_0 C_52 noI fi108 (f108.body.getD .skip) f108.results.toList [.d (.v (.int .i64 a0)),.d (.v (.int .i64 a1))] Q=(Q [.d (.v (.bool (bif bif s445_0 a0 then !s445_0 a1 else false then true else decide (a0<a1))))] []):=by kernel_rfl
def s416_0(a0:Int)(a1:Int):Bool:=bif bif s445_0 a0 then !s445_0 a1 else false then true else decide (a0<a1)
theorem ct416(a0:Int)(a1:Int):Ct prog gl 108 [.d (.v (.int .i64 a0)),.d (.v (.int .i64 a1))] (gives [R.d (D.v (Value.bool (s416_0 a0 a1)))]):=
 ctv C_52_ok f108 fi108 ⟨_,_,rfl,rfl⟩ (by
  rw[vc416]
  (repeat' first|exact⟨rfl,rfl⟩|apply gsplit<;>intro h)
  all_goals(refine⟨?_,rfl⟩;simp only[s416_0, *,cond_true,cond_false]))
def c_416(a:List R)(K:KT):Prop:=match a with|[.d (.v (.int .i64 a0)),.d (.v (.int .i64 a1))]=>K [R.d (D.v (Value.bool (s416_0 a0 a1)))] []|_=>False
theorem c_416_ok(a:List R)(K:KT)(h:c_416 a K):Ct prog gl 108 a K:=by
 unfold c_416 at h
 split at h
 ·exact(ct416 _ _).gives h
 ·exact h.elim
def C_63:CallT:=addC C_62 108 c_416
theorem C_63_ok:CallsOk prog gl C_63:=addC_ok C_62_ok c_416_ok
theorem vc56(a0:Int)(a1:Int)(a2:Bool)(a3:Int)(a4:ByteArray)(Q:KT):vc E_0 C_63 noI fi17 (f17.body.getD .skip) f17.results.toList [.agg [.v (.int .i64 a0),.v (.int .i64 a1),.v (.bool a2),.v (.int .i64 a3),.v (.string a4)]] Q=(((s60_0 a0 a1 != (0:Int))=true→Q [.d (.i (s60_0 a0 a1))] [])∧((s60_0 a0 a1 != (0:Int))=false→(a2=true→((!bif a4=={data:={toList:=[]:Array UInt8}:ByteArray} then a3==0 else false)=true→Q [.d (.i 20)] [])∧((!bif a4=={data:={toList:=[]:Array UInt8}:ByteArray} then a3==0 else false)=false→Q [.d (.i 0)] []))∧(a2=false→((a0==1)=true→((!bif a4=={data:={toList:=[]:Array UInt8}:ByteArray} then bif a3==0 then true else a3==1 else false)=true→Q [.d (.i 20)] [])∧((!bif a4=={data:={toList:=[]:Array UInt8}:ByteArray} then bif a3==0 then true else a3==1 else false)=false→Q [.d (.i 0)] []))∧((a0==1)=false→((a0==3)=true→((!bif a4=={data:={toList:=[]:Array UInt8}:ByteArray} then s114_0 a3 else false)=true→Q [.d (.i 20)] [])∧((!bif a4=={data:={toList:=[]:Array UInt8}:ByteArray} then s114_0 a3 else false)=false→Q [.d (.i 0)] []))∧((a0==3)=false→((a0==5)=true→((!bif bif a4=={data:={toList:=[]:Array UInt8}:ByteArray} then decide (a3≥(-719162:Int))else false then decide (a3≤2932896)else false)=true→Q [.d (.i 20)] [])∧((!bif bif a4=={data:={toList:=[]:Array UInt8}:ByteArray} then decide (a3≥(-719162:Int))else false then decide (a3≤2932896)else false)=false→Q [.d (.i 0)] []))∧((a0==5)=false→((a0==4)=true→((!bif a3==0 then decide ((↑a4.size:Int)≤256)else false)=true→Q [.d (.i 20)] [])∧((!bif a3==0 then decide ((↑a4.size:Int)≤256)else false)=false→Q [.d (.i 0)] []))∧((a0==4)=false→((!a4=={data:={toList:=[]:Array UInt8}:ByteArray})=true→Q [.d (.i 20)] [])∧((!a4=={data:={toList:=[]:Array UInt8}:ByteArray})=false→Q [.d (.i 0)] [])))))))):=by kernel_rfl
def s56_0(a0:Int)(a1:Int)(a2:Bool)(a3:Int)(a4:ByteArray):Int:=bif s60_0 a0 a1 != (0:Int)then s60_0 a0 a1
 else
 bif a2 then
  bif !bif a4=={data:={toList:=[]:Array UInt8}:ByteArray} then a3==(0:Int)else false then
     (20:Int)
  else(0:Int)
 else
  bif a0==(1:Int)then
   bif
     !bif a4=={data:={toList:=[]:Array UInt8}:ByteArray} then
          bif a3==(0:Int)then true else a3==(1:Int)
      else false then
      (20:Int)
   else(0:Int)
  else
   bif a0==(3:Int)then
    bif !bif a4=={data:={toList:=[]:Array UInt8}:ByteArray} then s114_0 a3 else false then(20:Int)
    else(0:Int)
   else
    bif a0==(5:Int)then
     bif
       !bif
          bif a4=={data:={toList:=[]:Array UInt8}:ByteArray} then decide (a3≥(-719162:Int))
          else false then
            decide (a3≤(2932896:Int))
        else false then
        (20:Int)
     else(0:Int)
    else
     bif a0==(4:Int)then
      bif !bif a3==(0:Int)then decide ((↑a4.size:Int)≤(256:Int))else false then(20:Int)
      else(0:Int)
     else bif !a4=={data:={toList:=[]:Array UInt8}:ByteArray} then(20:Int)else(0:Int)
theorem ct56(a0:Int)(a1:Int)(a2:Bool)(a3:Int)(a4:ByteArray):Ct prog gl 17 [.agg [.v (.int .i64 a0),.v (.int .i64 a1),.v (.bool a2),.v (.int .i64 a3),.v (.string a4)]] (gives [R.d (D.v (Value.int IntKind.i64 (s56_0 a0 a1 a2 a3 a4)))]):=
 ctv C_63_ok f17 fi17 ⟨_,_,rfl,rfl⟩ (by
  rw[vc56]
  (repeat' first|exact⟨rfl,rfl⟩|apply gsplit<;>intro h)
  all_goals(refine⟨?_,rfl⟩;simp only[s56_0, *,cond_true,cond_false]))
def c_56(a:List R)(K:KT):Prop:=match a with|[.agg [.v (.int .i64 a0),.v (.int .i64 a1),.v (.bool a2),.v (.int .i64 a3),.v (.string a4)]]=>K [R.d (D.v (Value.int IntKind.i64 (s56_0 a0 a1 a2 a3 a4)))] []|_=>False
theorem c_56_ok(a:List R)(K:KT)(h:c_56 a K):Ct prog gl 17 a K:=by
 unfold c_56 at h
 split at h
 ·exact(ct56 _ _ _ _ _).gives h
 ·exact h.elim
def C_64:CallT:=addC C_63 17 c_56
theorem C_64_ok:CallsOk prog gl C_64:=addC_ok C_63_ok c_56_ok
theorem vc59(a0:Int)(a1:Int)(Q:KT):vc E_0 C_63 noI fi30 (f30.body.getD .skip) f30.results.toList [.agg [.v (.int .i64 a0),.v (.int .i64 a1)]] Q=(Q [.d (.v (.bool (s60_0 a0 a1 != (0:Int))))] []):=by kernel_rfl
def s59_0(a0:Int)(a1:Int):Bool:=s60_0 a0 a1 != (0:Int)
theorem ct59(a0:Int)(a1:Int):Ct prog gl 30 [.agg [.v (.int .i64 a0),.v (.int .i64 a1)]] (gives [R.d (D.v (Value.bool (s59_0 a0 a1)))]):=
 ctv C_63_ok f30 fi30 ⟨_,_,rfl,rfl⟩ (by
  rw[vc59]
  (repeat' first|exact⟨rfl,rfl⟩|apply gsplit<;>intro h)
  all_goals(refine⟨?_,rfl⟩;simp only[s59_0, *,cond_true,cond_false]))
def c_59(a:List R)(K:KT):Prop:=match a with|[.agg [.v (.int .i64 a0),.v (.int .i64 a1)]]=>K [R.d (D.v (Value.bool (s59_0 a0 a1)))] []|_=>False
theorem c_59_ok(a:List R)(K:KT)(h:c_59 a K):Ct prog gl 30 a K:=by
 unfold c_59 at h
 split at h
 ·exact(ct59 _ _).gives h
 ·exact h.elim
def C_65:CallT:=addC C_64 30 c_59
theorem C_65_ok:CallsOk prog gl C_65:=addC_ok C_64_ok c_59_ok
theorem vc55(a0:Int)(a1:Int)(a2:Bool)(a3:Int)(a4:ByteArray)(Q:KT):vc E_0 C_65 noI fi16 (f16.body.getD .skip) f16.results.toList [.agg [.v (.int .i64 a0),.v (.int .i64 a1),.v (.bool a2),.v (.int .i64 a3),.v (.string a4)]] Q=(Q [.d (.v (.bool (s56_0 a0 a1 a2 a3 a4 != (0:Int))))] []):=by kernel_rfl
def s55_0(a0:Int)(a1:Int)(a2:Bool)(a3:Int)(a4:ByteArray):Bool:=s56_0 a0 a1 a2 a3 a4 != (0:Int)
theorem ct55(a0:Int)(a1:Int)(a2:Bool)(a3:Int)(a4:ByteArray):Ct prog gl 16 [.agg [.v (.int .i64 a0),.v (.int .i64 a1),.v (.bool a2),.v (.int .i64 a3),.v (.string a4)]] (gives [R.d (D.v (Value.bool (s55_0 a0 a1 a2 a3 a4)))]):=
 ctv C_65_ok f16 fi16 ⟨_,_,rfl,rfl⟩ (by
  rw[vc55]
  (repeat' first|exact⟨rfl,rfl⟩|apply gsplit<;>intro h)
  all_goals(refine⟨?_,rfl⟩;simp only[s55_0, *,cond_true,cond_false]))
def c_55(a:List R)(K:KT):Prop:=match a with|[.agg [.v (.int .i64 a0),.v (.int .i64 a1),.v (.bool a2),.v (.int .i64 a3),.v (.string a4)]]=>K [R.d (D.v (Value.bool (s55_0 a0 a1 a2 a3 a4)))] []|_=>False
theorem c_55_ok(a:List R)(K:KT)(h:c_55 a K):Ct prog gl 16 a K:=by
 unfold c_55 at h
 split at h
 ·exact(ct55 _ _ _ _ _).gives h
 ·exact h.elim
def C_66:CallT:=addC C_65 16 c_55
theorem C_66_ok:CallsOk prog gl C_66:=addC_ok C_65_ok c_55_ok
end Go.Proofs.Tryz
namespace Go.Proofs.Tryz
open Go Go.Dm Go.Ex
set_option maxRecDepth 100000
variable {gl:Nat→Option Obj}
def encI(l:List Int):List (List D):=l.map fun n=>[.v (.int .i64 n)]
end Go.Proofs.Tryz
namespace Go.Proofs.Tryz
open Go Go.Dm Go.Ex
set_option maxRecDepth 100000
variable {gl:Nat→Option Obj}
def encO(o:Option EX):List R:=match o with
 |some x=>[.agg (cells x),.d (.v (.int .i64 0))]
 |none=>[.agg [.v (.int .i64 0),.v (.int .i64 0),.v (.int .i64 0),.v (.int .i64 0),.v (.int .i64 0),.v (.int .i64 0),.v (.bool false),.v (.int .i64 0),.v (.string ⟨#[]⟩),.sl []],.d (.v (.int .i64 140))]
def c_25(n:Nat)(a:List R)(K:KT):Prop:=match a with
 |[.agg x,.d (.sl y)]=>∃(e:EX) (to:List Int),x=cells e∧y=encI to∧size e<n∧fits e∧to.length≤17592186043904∧
  (shiftE to e=none→K [.agg [.v (.int .i64 0),.v (.int .i64 0),.v (.int .i64 0),.v (.int .i64 0),.v (.int .i64 0),.v (.int .i64 0),.v (.bool false),.v (.int .i64 0),.v (.string ⟨#[]⟩),.sl []],.d (.v (.int .i64 140))] [])∧
  (∀(op sub:Int) (t:Ty) (v:Go.Ex.AV) (l:List EX),shiftE to e=some (.mk op sub t v l)→K [.agg (encX op sub t v (cellsL l)),.d (.v (.int .i64 0))] [])
 |_=>False
def C_f25(n:Nat):CallT:=addC C_66 11 (c_25 n)
structure SX where
 i:Nat
 s:Int
 acc:List EX
def st_25(op sub:Int)(t:Ty)(v:Go.Ex.AV)(args:List EX)(to:List Int)(x:SX):St:={tm:=[(1,.d (.sl (encI to))),(2,.ref 2 0),(4,.ref 4 0),(5,.d (.v (.int .i64 0))),(6,.own 50006),(40,.d (.sl (cellsL args))),(41,.d (.v (.int .i64 ((cellsL args).length:Int)))),(42,.d (.v (.int .i64 (x.i:Int))))],hp:=[(2,.box [.d (.v (.int .i64 op)),.d (.v (.int .i64 x.s)),.d (.v (.int .i64 t.k)),.d (.v (.int .i64 t.sc)),.d (.v (.int .i64 v.t.k)),.d (.v (.int .i64 v.t.sc)),.d (.v (.bool v.nul)),.d (.v (.int .i64 v.n)),.d (.v (.string v.s)),.d (.sl (cellsL args))]),(4,.box [.d (.v (.int .i64 0)),.d (.v (.int .i64 0)),.d (.v (.int .i64 0)),.d (.v (.int .i64 0)),.d (.v (.int .i64 0)),.d (.v (.int .i64 0)),.d (.v (.bool false)),.d (.v (.int .i64 0)),.d (.v (.string ⟨#[]⟩)),.nil]),(50006,.lst 28 10 (cellsL x.acc))],kn:=[],gd:=[]}
def inv_25(args:List EX)(to:List Int)(x0:SX)(m:Nat)(x:SX):Prop:=(x.i≤args.length∧m=args.length-x.i)∧x.s=x0.s∧shiftL to (args.take x.i)=some x.acc∧x.acc.length=x.i
def fx_25(op sub:Int)(t:Ty)(v:Go.Ex.AV)(args:List EX)(to:List Int):Fi:={fi11 with cv:=[(7,[⟨none,6,50006,28,10⟩])],lx:=[(7,{X:=SX,sh:=st_25 op sub t v args to,P:=inv_25 args to})]}
def Zds(a0:List Int)(k:(List (List D))→Prop):Prop:=Zej fun es=>D.sl (List.map (fun(n:Int)=>[D.i n]) a0)=D.sl es∧k es
def Zeb(a0:List Int)(a1:Int)(k:Int→Prop):Prop:=Zds a0 fun es=>(0≤a1∧a1<(↑es.length:Int))∧∃(cells:List D),es[a1.toNat]? = some cells∧cells.length=1∧∃(n_1:Int),cut 0 1 cells=some [D.i n_1]∧k n_1
def Zbv:List D:=[.i 0,.i 0,.i 0,.i 0,.i 0,.i 0,.v (.bool false),.i 0,.v (.string ⟨⟨[]⟩⟩),.sl []]
def Zch(a0:Int):List R:=[.agg Zbv,.d (.i a0)]
def Zck(a0:KT)(a1:Int):Prop:=a0 (Zch a1) []
def Zef(a0:Int)(a1:KT):Prop:=(a0 != (0:Int))=true→Zck a1 a0
def Zeq(a0:Int)(a1:KT)(k:Prop):Prop:=(Zef a0 a1)∧k
def Zbs(a0 a1:Int)(a2:Ty)(a3:AV)(a4:List EX):List D:=[.i a0,.i a1,.i a2.1,.i a2.2,.i a3.1.1,.i a3.1.2,.v (.bool a3.2),.i a3.3,.v (.string a3.4),.sl (cellsL a4)]
def Zj(a0:List EX)(a1:List Int)(a2 a3:Int)(a4:Ty)(a5:Go.Ex.AV)(a6:Nat)(a7:KT):Prop:=Zb6 a0 fun es=>∃(x0:SX),({tm:=[(1,.d (.sl (List.map (fun(n:Int)=>[D.i n]) a1))),(2,.ref 2 0),(4,.ref 4 0),(5,.i 0),(6,.own 50006),(40,.d (.sl (cellsL a0))),(41,.i (↑es.length:Int)),(42,.i 0)],hp:=[(2,.box [.i a2,.i a3,.i a4.1,.i a4.2,.i a5.1.1,.i a5.1.2,.d (.v (.bool a5.2)),.i a5.3,.d (.v (.string a5.4)),.d (.sl (cellsL a0))]),(4,.box [.i 0,.i 0,.i 0,.i 0,.i 0,.i 0,.d (.v (.bool false)),.i 0,.d (.v (.string ⟨⟨[]⟩⟩)),.nil]),(50006,.lst 28 10 [])],kn:=[],gd:=[]:St}={tm:=[(1,.d (.sl (List.map (fun(n:Int)=>[D.i n]) a1))),(2,.ref 2 0),(4,.ref 4 0),(5,.i 0),(6,.own 50006),(40,.d (.sl (cellsL a0))),(41,.i (↑(cellsL a0).length:Int)),(42,.i (↑x0.1:Int))],hp:=[(2,.box [.i a2,.i x0.2,.i a4.1,.i a4.2,.i a5.1.1,.i a5.1.2,.d (.v (.bool a5.2)),.i a5.3,.d (.v (.string a5.4)),.d (.sl (cellsL a0))]),(4,.box [.i 0,.i 0,.i 0,.i 0,.i 0,.i 0,.d (.v (.bool false)),.i 0,.d (.v (.string ⟨⟨[]⟩⟩)),.nil]),(50006,.lst 28 10 (cellsL x0.3))],kn:=[],gd:=[]:St}∧∃(n:Nat),inv_25 a0 a1 x0 n x0)∧∀(n_3:Nat) (x:SX),inv_25 a0 a1 x0 n_3 x→(decide ((↑x.1:Int)<(↑(cellsL a0).length:Int))=true→Zb6 a0 fun es=>(0≤(↑x.1:Int)∧(↑x.1:Int)<(↑es.length:Int))∧∃(cells:List D),es[(↑x.1:Int).toNat]? = some cells∧Z1 cells fun n_4 n_5 n_6 n_7 n_8 n_9 b n_10 b_1 es e=>∃(to_1:List Int),Zdc n_4 n_5 n_6 n_7 n_8 n_9 b n_10 b_1 es e (List.map (fun(n:Int)=>[D.i n]) a1=List.map (fun(n:Int)=>[D.i n]) to_1∧size e<a6∧fits e∧to_1.length≤17592186043904∧(shiftE to_1 e=none→Zeq (140:Int) a7 ((((140:Int) != (0:Int))=false→(∀(c:List D),c∈[Zbv]→c.length=10)∧(28:Nat)=(28:Nat)∧(10:Nat)=(10:Nat)∧(↑(cellsL x.3).length.succ:Int)*(↑(104:Nat):Int)≤140737488355328∧∃(m:Nat),∃(x':SX),m<n_3∧{tm:=[(1,.d (.sl (List.map (fun(n:Int)=>[D.i n]) a1))),(2,.ref 2 0),(4,.ref 4 0),(5,.i 0),(6,.own 50006),(40,.d (.sl (cellsL a0))),(41,.i (↑(cellsL a0).length:Int)),(42,.i (IntKind.i64.wrap ((↑x.1:Int)+1)))],hp:=[(2,.box [.i a2,.i x.2,.i a4.1,.i a4.2,.i a5.1.1,.i a5.1.2,.d (.v (.bool a5.2)),.i a5.3,.d (.v (.string a5.4)),.d (.sl (cellsL a0))]),(4,.box [.i 0,.i 0,.i 0,.i 0,.i 0,.i 0,.d (.v (.bool false)),.i 0,.d (.v (.string ⟨⟨[]⟩⟩)),.nil]),(50006,.lst 28 10 (cellsL x.3++[Zbv]))],kn:=[],gd:=[]:St}={tm:=[(1,.d (.sl (List.map (fun(n:Int)=>[D.i n]) a1))),(2,.ref 2 0),(4,.ref 4 0),(5,.i 0),(6,.own 50006),(40,.d (.sl (cellsL a0))),(41,.i (↑(cellsL a0).length:Int)),(42,.i (↑x'.1:Int))],hp:=[(2,.box [.i a2,.i x'.2,.i a4.1,.i a4.2,.i a5.1.1,.i a5.1.2,.d (.v (.bool a5.2)),.i a5.3,.d (.v (.string a5.4)),.d (.sl (cellsL a0))]),(4,.box [.i 0,.i 0,.i 0,.i 0,.i 0,.i 0,.d (.v (.bool false)),.i 0,.d (.v (.string ⟨⟨[]⟩⟩)),.nil]),(50006,.lst 28 10 (cellsL x'.3))],kn:=[],gd:=[]:St}∧inv_25 a0 a1 x0 m x')))∧∀(op_1 sub_1:Int) (t_1:Ty) (v_1:AV) (l:List EX),shiftE to_1 e=some (EX.mk op_1 sub_1 t_1 v_1 l)→Zeq (0:Int) a7 ((((0:Int) != (0:Int))=false→(∀(c:List D),c∈[(Zbs op_1 sub_1 t_1 v_1 l)]→c.length=10)∧(28:Nat)=(28:Nat)∧(10:Nat)=(10:Nat)∧(↑(cellsL x.3).length.succ:Int)*(↑(104:Nat):Int)≤140737488355328∧∃(m:Nat),∃(x':SX),m<n_3∧{tm:=[(1,.d (.sl (List.map (fun(n:Int)=>[D.i n]) a1))),(2,.ref 2 0),(4,.ref 4 0),(5,.i 0),(6,.own 50006),(40,.d (.sl (cellsL a0))),(41,.i (↑(cellsL a0).length:Int)),(42,.i (IntKind.i64.wrap ((↑x.1:Int)+1)))],hp:=[(2,.box [.i a2,.i x.2,.i a4.1,.i a4.2,.i a5.1.1,.i a5.1.2,.d (.v (.bool a5.2)),.i a5.3,.d (.v (.string a5.4)),.d (.sl (cellsL a0))]),(4,.box [.i 0,.i 0,.i 0,.i 0,.i 0,.i 0,.d (.v (.bool false)),.i 0,.d (.v (.string ⟨⟨[]⟩⟩)),.nil]),(50006,.lst 28 10 (cellsL x.3++[(Zbs op_1 sub_1 t_1 v_1 l)]))],kn:=[],gd:=[]:St}={tm:=[(1,.d (.sl (List.map (fun(n:Int)=>[D.i n]) a1))),(2,.ref 2 0),(4,.ref 4 0),(5,.i 0),(6,.own 50006),(40,.d (.sl (cellsL a0))),(41,.i (↑(cellsL a0).length:Int)),(42,.i (↑x'.1:Int))],hp:=[(2,.box [.i a2,.i x'.2,.i a4.1,.i a4.2,.i a5.1.1,.i a5.1.2,.d (.v (.bool a5.2)),.i a5.3,.d (.v (.string a5.4)),.d (.sl (cellsL a0))]),(4,.box [.i 0,.i 0,.i 0,.i 0,.i 0,.i 0,.d (.v (.bool false)),.i 0,.d (.v (.string ⟨⟨[]⟩⟩)),.nil]),(50006,.lst 28 10 (cellsL x'.3))],kn:=[],gd:=[]:St}∧inv_25 a0 a1 x0 m x'))))∧(decide ((↑x.1:Int)<(↑(cellsL a0).length:Int))=false→a7 [.agg [.i a2,.i x.2,.i a4.1,.i a4.2,.i a5.1.1,.i a5.1.2,.v (.bool a5.2),.i a5.3,.v (.string a5.4),.sl (cellsL x.3)],.d (.i 0)] [])
def Zs(a0:List Int)(a1:Int)(a2:List EX)(a3:Int)(a4:Ty)(a5:Go.Ex.AV)(a6:Nat)(a7:KT):Prop:=Zeb a0 a1 fun n_2=>Zj a2 a0 a3 n_2 a4 a5 a6 a7
theorem vc25(n:Nat)(op sub:Int)(t:Ty)(v:Go.Ex.AV)(args:List EX)(to:List Int)(Q:KT):vc E_0 (C_f25 n) noI (fx_25 op sub t v args to) (f11.body.getD .skip) f11.results.toList [.agg (encX op sub t v (cellsL args)),.d (.sl (encI to))] Q=(((op==1)=true→Zds to fun es=>((bif decide (sub<0)then true else decide (sub≥(↑es.length:Int)))=false→Zeb to sub fun n_1=>(decide (n_1<0)=true→Zck Q (140:Int))∧(decide (n_1<0)=false→Zs to sub args op t v n Q))∧((bif decide (sub<0)then true else decide (sub≥(↑es.length:Int))) = !false→(true=true→Zck Q (140:Int))∧(true=false→Zs to sub args op t v n Q)))∧((op==1)=false→Zj args to op sub t v n Q)):=by kernel_rfl
theorem shiftL_none{to:List Int}:∀{l:List EX} {e:EX},e∈l→shiftE to e=none→shiftL to l=none
 |a::l,e,h,hn=>by
  simp only[shiftL]
  cases h with
  |head=>rw[hn]
  |tail _ h=>rw[shiftL_none h hn];cases shiftE to a<;>rfl
theorem shiftE_none{to:List Int}{op sub:Int}{t:Ty}{v:Go.Ex.AV}{args:List EX}(h:shiftL to args=none):shiftE to (.mk op sub t v args)=none:=by
 simp only[shiftE,h]
 split
 ·rename_i h2;cases h2
 ·rfl
theorem shiftE_other{to:List Int}{op sub:Int}{t:Ty}{v:Go.Ex.AV}{args acc:List EX}(ho:op≠1)(h:shiftL to args=some acc):shiftE to (.mk op sub t v args)=some (.mk op sub t v acc):=by
 have:newSub to op sub=some sub:=by unfold newSub;rw[if_neg ho]
 simp only[shiftE,h,this]
theorem shiftE_col{to:List Int}{op sub s:Int}{t:Ty}{v:Go.Ex.AV}{args acc:List EX}(ho:op=1)(h0:0≤sub)(hg:to[sub.toNat]? = some s)(hs:0≤s)(h:shiftL to args=some acc):shiftE to (.mk op sub t v args)=some (.mk op s t v acc):=by
 have:newSub to op sub=some s:=by unfold newSub;rw[if_pos ho,if_neg (by omega),hg];simp only[if_neg (show¬s<0 by omega)]
 simp only[shiftE,h,this]
theorem shiftE_bad{to:List Int}{op sub:Int}{t:Ty}{v:Go.Ex.AV}{args:List EX}(ho:op=1)(h0:sub<0∨(to.length:Int)≤sub∨∃s,to[sub.toNat]? = some s∧s<0):shiftE to (.mk op sub t v args)=none:=by
 have:newSub to op sub=none:=by
  unfold newSub
  rw[if_pos ho]
  by_cases h1:sub<0
  ·rw[if_pos h1]
  ·rw[if_neg h1]
   rcases h0 with h|h|⟨s,h,hs⟩
   ·omega
   ·rw[List.getElem?_eq_none (by omega)]
   ·rw[h];simp only[if_pos hs]
 simp only[shiftE,this]
theorem encI_get{to:List Int}{sub:Int}(h0:0≤sub)(h1:sub<to.length):∃s,to[sub.toNat]? = some s∧(encI to)[sub.toNat]? = some [.v (.int .i64 s)]:=by
 have hlt:sub.toNat<to.length:=by omega
 refine⟨to[sub.toNat],List.getElem?_eq_getElem hlt,?_⟩
 unfold encI
 rw[List.getElem?_map,List.getElem?_eq_getElem hlt];rfl
theorem encI_len(to:List Int):(encI to).length=to.length:=by simp[encI]
theorem snoc_cells(acc:List EX)(op sub:Int)(t:Ty)(v:Go.Ex.AV)(l:List EX):cellsL acc++[encX op sub t v (cellsL l)]=cellsL (acc++[.mk op sub t v l]):=by
 rw[cellsL_append];simp only[cellsL,cells_mk]
theorem ct25:∀(n:Nat) (e:EX) (to:List Int),size e<n→fits e→to.length≤17592186043904→Ct prog gl 11 [.agg (cells e),.d (.sl (encI to))] (gives (encO (shiftE to e)))
 |0,_,_,h,_,_=>absurd h (Nat.not_lt_zero _)
 |n+1,.mk op sub t v args,to,hs,hf,hto=>by
  have hC:CallsOk prog gl (C_f25 n):=addC_ok C_66_ok (fun a K hk=>by
   unfold c_25 at hk
   split at hk
   ·obtain⟨e,to,rfl,rfl,h1,h2,h3,h4,h5⟩:=hk
    refine(ct25 n e to h1 h2 h3).gives ?_
    rcases h:shiftE to e with _|⟨op,sub,t,v,l⟩
    ·exact h4 h
    ·simp only[encO,cells_mk];exact h5 _ _ _ _ _ h
   ·exact hk.elim)
  rw[cells_mk]
  refine ct_of_vc E_ok hC ioK_no it_ok mixed (fn:=f11) (body:=f11.body.getD .skip) (by kernel_rfl) (by kernel_rfl) (by kernel_rfl) (fi:=fx_25 op sub t v args to) (by kernel_rfl) (by kernel_rfl) ⟨_,_,rfl,rfl⟩ ?_
  rw[vc25];dsimp -eta -iota -proj only[Zds,Zej,Zeb,Zck,Zch,Zbv,Zs,Zj,Zb6,Z1,Zcs,Zdc,Zeq,Zef,Zbs]
  obtain⟨_,hl,hfl⟩:=fits_mk hf
  simp only[size]at hs
  refine⟨fun ho=>⟨encI to,rfl,fun hc=>?_,fun hc=>⟨fun _=>?_,fun h=>(by cases h)⟩⟩,fun ho=>?_⟩
  ·have ho:op=1:=by simpa using ho
   have hc:0≤sub∧sub<to.length:=by
    rw[encI_len]at hc
    by_cases h1:sub<0
    ·rw[decide_eq_true h1]at hc;cases hc
    ·rw[decide_eq_false h1]at hc
     have:=of_decide_eq_false hc
     omega
   obtain⟨s0,g0,g1⟩:=encI_get hc.1 hc.2
   refine⟨encI to,rfl,⟨hc.1,by rw[encI_len];exact hc.2⟩,_,g1,rfl,s0,rfl,fun hn=>?_,fun hn=>⟨encI to,rfl,⟨hc.1,by rw[encI_len];exact hc.2⟩,_,g1,rfl,s0,rfl,?_⟩⟩
   ·rw[shiftE_bad ho (.inr (.inr ⟨s0,g0,of_decide_eq_true hn⟩))]
    exact⟨rfl,rfl⟩
   ·have hn:=of_decide_eq_false hn
    refine⟨cellsL args,rfl,⟨0,s0,[]⟩,⟨rfl,args.length,⟨Nat.zero_le _,rfl⟩,rfl,by simp only[List.take_zero,shiftL],rfl⟩,fun m (x:SX) hx=>⟨fun hi=>?_,fun hi=>?_⟩⟩
    ·obtain⟨i,s,acc⟩:=x
     obtain⟨⟨h1,h2⟩,h3,h4,h5⟩:=hx
     dsimp only at h1 h2 h3 h4 h5 hi ⊢
     have hi:i<args.length:=by simpa[cellsL_len]using hi
     obtain⟨op1,sub1,t1,v1,a1,e1,g1⟩:=arg_get hi
     have hsz:=size_mem (List.getElem_mem hi)
     refine⟨cellsL args,rfl,⟨by omega,by rw[cellsL_len];omega⟩,_,g1,rfl,op1,sub1,t1.k,t1.sc,v1.t.k,v1.t.sc,v1.nul,v1.n,v1.s,cellsL a1,rfl,args[i],to,by rw[e1,cells_mk];rfl,rfl,by omega,fitsL_mem hfl (List.getElem_mem hi),hto,fun hn=>⟨fun _=>?_,fun h=>absurd h (by decide)⟩,fun op2 sub2 t2 v2 l2 hs=>⟨fun h=>absurd h (by decide),fun _=>⟨by simp,rfl,rfl,?_,args.length-(i+1),⟨i+1,s,acc++[.mk op2 sub2 t2 v2 l2]⟩,by omega,?_,⟨hi,rfl⟩,h3,?_,by simp[h5]⟩⟩⟩
     ·rw[shiftE_none (shiftL_none (List.getElem_mem hi) hn)]
      exact⟨rfl,rfl⟩
     ·rw[cellsL_len,h5];omega
     ·dsimp only
      rw[wrap_next (by omega),←snoc_cells]
      rfl
     ·rw[List.take_add_one,List.getElem?_eq_getElem hi,shiftL_append,h4]
      simp only[Option.toList_some,shiftL,hs]
    ·obtain⟨i,s,acc⟩:=x
     obtain⟨⟨h1,h2⟩,h3,h4,h5⟩:=hx
     dsimp only at h1 h2 h3 h4 h5 hi ⊢
     have hi:¬i<args.length:=by simpa[cellsL_len]using hi
     rw[List.take_of_length_le (by omega)]at h4
     subst h3
     rw[shiftE_col ho hc.1 g0 (by omega) h4]
     refine⟨?_,rfl⟩
     simp only[encO,cells_mk]
     rfl
  ·have ho:op=1:=by simpa using ho
   have hc:sub<0∨(to.length:Int)≤sub:=by
    rw[encI_len]at hc
    by_cases h1:sub<0
    ·exact .inl h1
    ·rw[decide_eq_false h1]at hc
     exact .inr (of_decide_eq_true hc)
   rw[shiftE_bad ho (hc.imp (fun h=>h) (fun h=>.inl h))]
   exact⟨rfl,rfl⟩
  ·have ho:op≠1:=by simpa using ho
   refine⟨cellsL args,rfl,⟨0,sub,[]⟩,⟨rfl,args.length,⟨Nat.zero_le _,rfl⟩,rfl,by simp only[List.take_zero,shiftL],rfl⟩,fun m (x:SX) hx=>⟨fun hi=>?_,fun hi=>?_⟩⟩
   ·obtain⟨i,s,acc⟩:=x
    obtain⟨⟨h1,h2⟩,h3,h4,h5⟩:=hx
    dsimp only at h1 h2 h3 h4 h5 hi ⊢
    have hi:i<args.length:=by simpa[cellsL_len]using hi
    obtain⟨op1,sub1,t1,v1,a1,e1,g1⟩:=arg_get hi
    have hsz:=size_mem (List.getElem_mem hi)
    refine⟨cellsL args,rfl,⟨by omega,by rw[cellsL_len];omega⟩,_,g1,rfl,op1,sub1,t1.k,t1.sc,v1.t.k,v1.t.sc,v1.nul,v1.n,v1.s,cellsL a1,rfl,args[i],to,by rw[e1,cells_mk];rfl,rfl,by omega,fitsL_mem hfl (List.getElem_mem hi),hto,fun hn=>⟨fun _=>?_,fun h=>absurd h (by decide)⟩,fun op2 sub2 t2 v2 l2 hs=>⟨fun h=>absurd h (by decide),fun _=>⟨by simp,rfl,rfl,?_,args.length-(i+1),⟨i+1,s,acc++[.mk op2 sub2 t2 v2 l2]⟩,by omega,?_,⟨hi,rfl⟩,h3,?_,by simp[h5]⟩⟩⟩
    ·rw[shiftE_none (shiftL_none (List.getElem_mem hi) hn)]
     exact⟨rfl,rfl⟩
    ·rw[cellsL_len,h5];omega
    ·dsimp only
     rw[wrap_next (by omega),←snoc_cells]
     rfl
    ·rw[List.take_add_one,List.getElem?_eq_getElem hi,shiftL_append,h4]
     simp only[Option.toList_some,shiftL,hs]
   ·obtain⟨i,s,acc⟩:=x
    obtain⟨⟨h1,h2⟩,h3,h4,h5⟩:=hx
    dsimp only at h1 h2 h3 h4 h5 hi ⊢
    have hi:¬i<args.length:=by simpa[cellsL_len]using hi
    rw[List.take_of_length_le (by omega)]at h4
    subst h3
    rw[shiftE_other ho h4]
    refine⟨?_,rfl⟩
    simp only[encO,cells_mk]
    rfl
end Go.Proofs.Tryz
namespace Go.Proofs.Tryz
open Go Go.Dm Go.Ex
set_option maxRecDepth 100000
variable {gl:Nat→Option Obj}
theorem vc128(a b k:Int)(Q:KT):vc E_0 C_66 noI fi61 (f61.body.getD .skip) f61.results.toList [.agg [.v (.int .i64 a),.v (.int .i64 b)],.ptr [.v (.int .i64 k)]] Q=(∃(n:Int),some [D.i k]=some [D.i n]∧Q [.d (.v (.bool (a != n)))] []):=by kernel_rfl
def c_128(a:List R)(K:KT):Prop:=match a with
 |[.agg [.v (.int .i64 a),.v (.int .i64 b)],.ptr [.v (.int .i64 k)]]=>K [.d (.v (.bool (a != k)))] []
 |_=>False
theorem c_128_ok(a:List R)(K:KT)(h:c_128 a K):Ct prog gl 61 a K:=by
 unfold c_128 at h
 split at h
 ·rename_i a b k
  refine Ct.gives (r:=[.d (.v (.bool (a != k)))]) (ctv C_66_ok f61 fi61 ⟨_,_,rfl,rfl⟩ ?_) h
  rw[vc128]
  exact⟨k,rfl,rfl,rfl⟩
 ·exact h.elim
def C_4a:CallT:=addC C_66 61 c_128
theorem C_4a_ok:CallsOk prog gl C_4a:=addC_ok C_66_ok c_128_ok
theorem any_take{α:Type}{p:α→Bool}{l:List α}{i:Nat}(hi:i<l.length)(h:∀v∈l.take i,p v=false)(hb:p l[i]=false):∀v∈l.take (i+1),p v=false:=by
 intro v hv
 rw[List.take_add_one,List.getElem?_eq_getElem hi]at hv
 rcases List.mem_append.1 hv with hv|hv
 ·exact h v hv
 ·simp at hv;subst hv;exact hb
theorem any_none{α:Type}{p:α→Bool}{l:List α}(h:∀v∈l,p v=false):l.any p=false:=by
 rw[List.any_eq_false];intro v hv;rw[h v hv];simp
def badT(t:Ty):Bool:=s59_0 t.k t.sc
def offK(k:Int)(t:Ty):Bool:=t.k != k
def badV(v:Go.Ex.AV):Bool:=s55_0 v.t.k v.t.sc v.nul v.n v.s
def st_123a(l:List Ty)(x:Nat):St:={tm:=[(0,.d (.sl (l.map Ty.cs))),(1,.fn 30 []),(4,.d (.v (.int .i64 0))),(7,.d (.v (.int .i64 ((l.map Ty.cs).length:Int)))),(8,.d (.v (.int .i64 (x:Int))))],hp:=[],kn:=[],gd:=[]}
def inv_123a(l:List Ty)(m:Nat)(x:Nat):Prop:=(x≤l.length∧m=l.length-x)∧∀v∈l.take x,badT v=false
def fx_123a(l:List Ty):Fi:={fi56 with lx:=[(2,{X:=Nat,sh:=st_123a l,P:=fun _=>inv_123a l})]}
def Zc1(a0:List Ty)(k:(List (List D))→Prop):Prop:=Zej fun es=>D.sl (List.map Ty.cs a0)=D.sl es∧k es
def Zd8(a0:List Ty)(a1:Nat):St:={tm:=[(0,.d (.sl (List.map Ty.cs a0))),(1,.fn (30:Nat) []),(4,.i 0),(7,.i (↑(List.map Ty.cs a0).length:Int)),(8,.i (↑a1:Int))],hp:=[],kn:=[],gd:=[]:St}
def Ze0(a0 a1:Int):List D:=[.i a0,.i a1]
def Zbr(a0:List D)(k:Int→Int→Prop):Prop:=∃(n_1 n_2:Int),cut 0 2 a0=some (Ze0 n_1 n_2)∧k n_1 n_2
def Zbw(a0:List D)(a1:Nat)(k:Int→Int→Prop):Prop:=a0.length=a1∧Zbr a0 fun n_1 n_2=>k n_1 n_2
def Zcg(a0:Nat)(a1:List Ty)(k:Int→Int→Prop):Prop:=decide ((↑a0:Int)<(↑(List.map Ty.cs a1).length:Int))=true→Zc1 a1 fun es=>Zcf a0 es fun cells=>Zbw cells (2:Nat) fun n_1 n_2=>k n_1 n_2
def Zee(a0:Nat)(k:Nat→Nat→Prop):Prop:=Zdt fun m x'=>m<a0∧k m x'
theorem vc123a(l:List Ty)(Q:KT):vc E_0 C_4a noI (fx_123a l) (f56.body.getD .skip) f56.results.toList [.d (.sl (l.map Ty.cs)),.fn 30 []] Q=(Zc1 l fun es=>∃(x0:Nat),({tm:=[(0,.d (.sl (List.map Ty.cs l))),(1,.fn (30:Nat) []),(4,.i 0),(7,.i (↑es.length:Int)),(8,.i 0)],hp:=[],kn:=[],gd:=[]:St}=(Zd8 l x0)∧∃(n:Nat),inv_123a l n x0)∧∀(n:Nat) (x:Nat),inv_123a l n x→(Zcg x l fun n_1 n_2=>(s59_0 n_1 n_2=true→Q [.d (.i (↑x:Int))] [])∧(s59_0 n_1 n_2=false→Zee n fun m x'=>{tm:=[(0,.d (.sl (List.map Ty.cs l))),(1,.fn (30:Nat) []),(4,.i 0),(7,.i (↑(List.map Ty.cs l).length:Int)),(8,.i (IntKind.i64.wrap ((↑x:Int)+1)))],hp:=[],kn:=[],gd:=[]:St}=(Zd8 l x')∧inv_123a l m x'))∧(decide ((↑x:Int)<(↑(List.map Ty.cs l).length:Int))=false→Zdp Q)):=by kernel_rfl
theorem ct123a(l:List Ty)(hl:l.length<4611686018427387904):Ct prog gl 56 [.d (.sl (l.map Ty.cs)),.fn 30 []] (fun res fin=>fin=[]∧∃r:Int,res=[.d (.v (.int .i64 r))]∧decide (r≥0)=l.any (badT)):=
 ct_of_vc E_ok C_4a_ok ioK_no it_ok mixed (fn:=f56) (body:=f56.body.getD .skip) (by kernel_rfl) (by kernel_rfl) (by kernel_rfl) (fi:=fx_123a l) (by kernel_rfl) (by kernel_rfl) (by
  cases h:l.any (badT)
  ·exact⟨_,_,rfl,-1,rfl,rfl⟩
  ·exact⟨_,_,rfl,0,rfl,rfl⟩) (by
  rw[vc123a];dsimp -eta -iota -proj only[Zc1,Zej,Zd8,Zcg,Zcf,Zbw,Zbr,Ze0,Zee,Zdt,Zdp,Zdn]
  refine⟨_,rfl,(0:Nat),⟨rfl,l.length,⟨Nat.zero_le _,rfl⟩,by simp⟩,fun m (x:Nat) hx=>⟨fun hi=>?_,fun hi=>?_⟩⟩
  ·have hi:x<l.length:=by simpa using hi
   have hg:(l.map Ty.cs)[((x:Nat):Int).toNat]? = some (Ty.cs l[x]):=by simp[hi]
   have hm:=hx.1.2
   refine⟨_,rfl,⟨by omega,by simpa using hi⟩,_,hg,rfl,_,_,rfl,fun hb=>?_,fun hb=>?_⟩
   ·refine⟨rfl,(x:Int),rfl,?_⟩
    rw[decide_eq_true (by omega)]
    exact(List.any_eq_true.2 ⟨l[x],List.getElem_mem hi,hb⟩).symm
   ·exact⟨l.length-(x+1),x+1,by omega,by rw[wrap_next (by omega)],⟨hi,rfl⟩,any_take hi hx.2 hb⟩
  ·have hi:¬x<l.length:=by simpa using hi
   have h:=hx.2
   rw[List.take_of_length_le (by omega)]at h
   refine⟨rfl,-1,rfl,?_⟩
   rw[any_none h];rfl)
def st_123b(k:Int)(l:List Ty)(x:Nat):St:={tm:=[(0,.d (.sl (l.map Ty.cs))),(1,.fn 61 [.dptr [.v (.int .i64 k)]]),(4,.d (.v (.int .i64 0))),(7,.d (.v (.int .i64 ((l.map Ty.cs).length:Int)))),(8,.d (.v (.int .i64 (x:Int))))],hp:=[],kn:=[],gd:=[]}
def inv_123b(k:Int)(l:List Ty)(m:Nat)(x:Nat):Prop:=(x≤l.length∧m=l.length-x)∧∀v∈l.take x,offK k v=false
def fx_123b(k:Int)(l:List Ty):Fi:={fi56 with lx:=[(2,{X:=Nat,sh:=st_123b k l,P:=fun _=>inv_123b k l})]}
def Zd4(a0:List Ty)(a1:Int)(a2:Nat):St:={tm:=[(0,.d (.sl (List.map Ty.cs a0))),(1,.fn (61:Nat) [.dptr [.i a1]]),(4,.i 0),(7,.i (↑(List.map Ty.cs a0).length:Int)),(8,.i (↑a2:Int))],hp:=[],kn:=[],gd:=[]:St}
theorem vc123b(k:Int)(l:List Ty)(Q:KT):vc E_0 C_4a noI (fx_123b k l) (f56.body.getD .skip) f56.results.toList [.d (.sl (l.map Ty.cs)),.fn 61 [.ptr [.v (.int .i64 k)]]] Q=(Zc1 l fun es=>∃(x0:Nat),({tm:=[(0,.d (.sl (List.map Ty.cs l))),(1,.fn (61:Nat) [.dptr [.i k]]),(4,.i 0),(7,.i (↑es.length:Int)),(8,.i 0)],hp:=[],kn:=[],gd:=[]:St}=(Zd4 l k x0)∧∃(n:Nat),inv_123b k l n x0)∧∀(n:Nat) (x:Nat),inv_123b k l n x→(Zcg x l fun n_1 _=>((n_1 != k)=true→Q [.d (.i (↑x:Int))] [])∧((n_1 != k)=false→Zee n fun m x'=>{tm:=[(0,.d (.sl (List.map Ty.cs l))),(1,.fn (61:Nat) [.dptr [.i k]]),(4,.i 0),(7,.i (↑(List.map Ty.cs l).length:Int)),(8,.i (IntKind.i64.wrap ((↑x:Int)+1)))],hp:=[],kn:=[],gd:=[]:St}=(Zd4 l k x')∧inv_123b k l m x'))∧(decide ((↑x:Int)<(↑(List.map Ty.cs l).length:Int))=false→Zdp Q)):=by kernel_rfl
theorem ct123b(k:Int)(l:List Ty)(hl:l.length<4611686018427387904):Ct prog gl 56 [.d (.sl (l.map Ty.cs)),.fn 61 [.ptr [.v (.int .i64 k)]]] (fun res fin=>fin=[]∧∃r:Int,res=[.d (.v (.int .i64 r))]∧decide (r≥0)=l.any (offK k)):=
 ct_of_vc E_ok C_4a_ok ioK_no it_ok mixed (fn:=f56) (body:=f56.body.getD .skip) (by kernel_rfl) (by kernel_rfl) (by kernel_rfl) (fi:=fx_123b k l) (by kernel_rfl) (by kernel_rfl) (by
  cases h:l.any (offK k)
  ·exact⟨_,_,rfl,-1,rfl,rfl⟩
  ·exact⟨_,_,rfl,0,rfl,rfl⟩) (by
  rw[vc123b];dsimp -eta -iota -proj only[Zc1,Zej,Zd4,Zcg,Zcf,Zbw,Zbr,Ze0,Zee,Zdt,Zdp,Zdn]
  refine⟨_,rfl,(0:Nat),⟨rfl,l.length,⟨Nat.zero_le _,rfl⟩,by simp⟩,fun m (x:Nat) hx=>⟨fun hi=>?_,fun hi=>?_⟩⟩
  ·have hi:x<l.length:=by simpa using hi
   have hg:(l.map Ty.cs)[((x:Nat):Int).toNat]? = some (Ty.cs l[x]):=by simp[hi]
   have hm:=hx.1.2
   refine⟨_,rfl,⟨by omega,by simpa using hi⟩,_,hg,rfl,_,_,rfl,fun hb=>?_,fun hb=>?_⟩
   ·refine⟨rfl,(x:Int),rfl,?_⟩
    rw[decide_eq_true (by omega)]
    exact(List.any_eq_true.2 ⟨l[x],List.getElem_mem hi,hb⟩).symm
   ·exact⟨l.length-(x+1),x+1,by omega,by rw[wrap_next (by omega)],⟨hi,rfl⟩,any_take hi hx.2 hb⟩
  ·have hi:¬x<l.length:=by simpa using hi
   have h:=hx.2
   rw[List.take_of_length_le (by omega)]at h
   refine⟨rfl,-1,rfl,?_⟩
   rw[any_none h];rfl)
def c_123(a:List R)(K:KT):Prop:=match a with
 |[.d (.sl x),.fn 30 []]=>∃l:List Ty,x=l.map Ty.cs∧l.length<4611686018427387904∧∀r:Int,decide (r≥0)=l.any (badT)→K [.d (.v (.int .i64 r))] []
 |[.d (.sl x),.fn 61 [.ptr [.v (.int .i64 k)]]]=>∃l:List Ty,x=l.map Ty.cs∧l.length<4611686018427387904∧∀r:Int,decide (r≥0)=l.any (offK k)→K [.d (.v (.int .i64 r))] []
 |_=>False
theorem c_123_ok(a:List R)(K:KT)(h:c_123 a K):Ct prog gl 56 a K:=by
 unfold c_123 at h
 split at h
 ·obtain⟨l,rfl,h1,h2⟩:=h
  exact(ct123a l h1).mono fun res fin ⟨e1,r,e2,e3⟩=>by subst e1;subst e2;exact h2 r e3
 ·obtain⟨l,rfl,h1,h2⟩:=h
  exact(ct123b _ l h1).mono fun res fin ⟨e1,r,e2,e3⟩=>by subst e1;subst e2;exact h2 r e3
 ·exact h.elim
def C_4b:CallT:=addC C_4a 56 c_123
theorem C_4b_ok:CallsOk prog gl C_4b:=addC_ok C_4a_ok c_123_ok
def Zet(a0:List (List D))(k:(List Ty)→Prop):Prop:=∃(l:List Ty),a0=List.map Ty.cs l∧l.length<4611686018427387904∧k l
theorem vc58a(x:List (List D))(Q:KT):vc E_0 C_4b noI fi29 (f29.body.getD .skip) f29.results.toList [.d (.sl x),.fn 30 []] Q=(Zet x fun l=>∀(r:Int),decide (r≥0)=l.any badT→Q [.d (.v (.bool (decide (r≥0))))] []):=by kernel_rfl
theorem vc58b(k:Int)(x:List (List D))(Q:KT):vc E_0 C_4b noI fi29 (f29.body.getD .skip) f29.results.toList [.d (.sl x),.fn 61 [.ptr [.v (.int .i64 k)]]] Q=(Zet x fun l=>∀(r:Int),decide (r≥0)=l.any (offK k)→Q [.d (.v (.bool (decide (r≥0))))] []):=by kernel_rfl
def c_58(a:List R)(K:KT):Prop:=match a with
 |[.d (.sl x),.fn 30 []]=>∃l:List Ty,x=l.map Ty.cs∧l.length<4611686018427387904∧K [.d (.v (.bool (l.any (badT))))] []
 |[.d (.sl x),.fn 61 [.ptr [.v (.int .i64 k)]]]=>∃l:List Ty,x=l.map Ty.cs∧l.length<4611686018427387904∧K [.d (.v (.bool (l.any (offK k))))] []
 |_=>False
theorem c_58_ok(a:List R)(K:KT)(h:c_58 a K):Ct prog gl 29 a K:=by
 unfold c_58 at h
 split at h
 ·obtain⟨l,rfl,h1,h2⟩:=h
  refine Ct.gives (r:=[.d (.v (.bool (l.any (badT))))]) (ctv C_4b_ok f29 fi29 ⟨_,_,rfl,rfl⟩ ?_) h2
  rw[vc58a];dsimp -eta -iota -proj only[Zet]
  exact⟨l,rfl,h1,fun r hr=>⟨by rw[hr],rfl⟩⟩
 ·rename_i x k
  obtain⟨l,rfl,h1,h2⟩:=h
  refine Ct.gives (r:=[.d (.v (.bool (l.any (offK k))))]) (ctv C_4b_ok f29 fi29 ⟨_,_,rfl,rfl⟩ ?_) h2
  rw[vc58b];dsimp -eta -iota -proj only[Zet]
  exact⟨l,rfl,h1,fun r hr=>⟨by rw[hr],rfl⟩⟩
 ·exact h.elim
def C_4c:CallT:=addC C_4b 29 c_58
theorem C_4c_ok:CallsOk prog gl C_4c:=addC_ok C_4b_ok c_58_ok
def st_113(l:List Go.Ex.AV)(x:Nat):St:={tm:=[(0,.d (.sl (l.map Go.Ex.AV.cs))),(1,.fn 16 []),(4,.d (.v (.int .i64 0))),(7,.d (.v (.int .i64 ((l.map Go.Ex.AV.cs).length:Int)))),(8,.d (.v (.int .i64 (x:Int))))],hp:=[],kn:=[],gd:=[]}
def inv_113(l:List Go.Ex.AV)(m:Nat)(x:Nat):Prop:=(x≤l.length∧m=l.length-x)∧∀v∈l.take x,badV v=false
def fx_113(l:List Go.Ex.AV):Fi:={fi36 with lx:=[(2,{X:=Nat,sh:=st_113 l,P:=fun _=>inv_113 l})]}
def Zbt(a0:List Go.Ex.AV)(k:(List (List D))→Prop):Prop:=Zej fun es=>D.sl (List.map AV.cs a0)=D.sl es∧k es
def Zea(a0:List Go.Ex.AV)(a1:Nat):St:={tm:=[(0,.d (.sl (List.map AV.cs a0))),(1,.fn (16:Nat) []),(4,.i 0),(7,.i (↑(List.map AV.cs a0).length:Int)),(8,.i (↑a1:Int))],hp:=[],kn:=[],gd:=[]:St}
def Zdq(a0 a1:Int)(a2:Bool)(a3:Int)(a4:ByteArray):List D:=[.i a0,.i a1,.v (.bool a2),.i a3,.v (.string a4)]
def Zbg(a0:List D)(k:Int→Int→Bool→Int→ByteArray→Prop):Prop:=a0.length=5∧∃(n_1 n_2:Int),∃(b:Bool),∃(n_3:Int),∃(b_1:ByteArray),cut 0 5 a0=some (Zdq n_1 n_2 b n_3 b_1)∧k n_1 n_2 b n_3 b_1
def Zdg(a0:Nat)(a1:List Go.Ex.AV)(k:Int→Int→Bool→Int→ByteArray→Prop):Prop:=decide ((↑a0:Int)<(↑(List.map AV.cs a1).length:Int))=true→Zbt a1 fun es=>Zcf a0 es fun cells=>Zbg cells fun n_1 n_2 b n_3 b_1=>k n_1 n_2 b n_3 b_1
theorem vc113(l:List Go.Ex.AV)(Q:KT):vc E_0 C_4c noI (fx_113 l) (f36.body.getD .skip) f36.results.toList [.d (.sl (l.map Go.Ex.AV.cs)),.fn 16 []] Q=(Zbt l fun es=>∃(x0:Nat),({tm:=[(0,.d (.sl (List.map AV.cs l))),(1,.fn (16:Nat) []),(4,.i 0),(7,.i (↑es.length:Int)),(8,.i 0)],hp:=[],kn:=[],gd:=[]:St}=(Zea l x0)∧∃(n:Nat),inv_113 l n x0)∧∀(n:Nat) (x:Nat),inv_113 l n x→(Zdg x l fun n_1 n_2 b n_3 b_1=>(s55_0 n_1 n_2 b n_3 b_1=true→Q [.d (.i (↑x:Int))] [])∧(s55_0 n_1 n_2 b n_3 b_1=false→Zee n fun m x'=>{tm:=[(0,.d (.sl (List.map AV.cs l))),(1,.fn (16:Nat) []),(4,.i 0),(7,.i (↑(List.map AV.cs l).length:Int)),(8,.i (IntKind.i64.wrap ((↑x:Int)+1)))],hp:=[],kn:=[],gd:=[]:St}=(Zea l x')∧inv_113 l m x'))∧(decide ((↑x:Int)<(↑(List.map AV.cs l).length:Int))=false→Zdp Q)):=by kernel_rfl
theorem ct113(l:List Go.Ex.AV)(hl:l.length<4611686018427387904):Ct prog gl 36 [.d (.sl (l.map Go.Ex.AV.cs)),.fn 16 []] (fun res fin=>fin=[]∧∃r:Int,res=[.d (.v (.int .i64 r))]∧decide (r≥0)=l.any (badV)):=
 ct_of_vc E_ok C_4c_ok ioK_no it_ok mixed (fn:=f36) (body:=f36.body.getD .skip) (by kernel_rfl) (by kernel_rfl) (by kernel_rfl) (fi:=fx_113 l) (by kernel_rfl) (by kernel_rfl) (by
  cases h:l.any (badV)
  ·exact⟨_,_,rfl,-1,rfl,rfl⟩
  ·exact⟨_,_,rfl,0,rfl,rfl⟩) (by
  rw[vc113];dsimp -eta -iota -proj only[Zbt,Zej,Zea,Zdg,Zcf,Zbg,Zdq,Zee,Zdt,Zdp,Zdn]
  refine⟨_,rfl,(0:Nat),⟨rfl,l.length,⟨Nat.zero_le _,rfl⟩,by simp⟩,fun m (x:Nat) hx=>⟨fun hi=>?_,fun hi=>?_⟩⟩
  ·have hi:x<l.length:=by simpa using hi
   have hg:(l.map Go.Ex.AV.cs)[((x:Nat):Int).toNat]? = some (Go.Ex.AV.cs l[x]):=by simp[hi]
   have hm:=hx.1.2
   refine⟨_,rfl,⟨by omega,by simpa using hi⟩,_,hg,rfl,_,_,_,_,_,rfl,fun hb=>?_,fun hb=>?_⟩
   ·refine⟨rfl,(x:Int),rfl,?_⟩
    rw[decide_eq_true (by omega)]
    exact(List.any_eq_true.2 ⟨l[x],List.getElem_mem hi,hb⟩).symm
   ·exact⟨l.length-(x+1),x+1,by omega,by rw[wrap_next (by omega)],⟨hi,rfl⟩,any_take hi hx.2 hb⟩
  ·have hi:¬x<l.length:=by simpa using hi
   have h:=hx.2
   rw[List.take_of_length_le (by omega)]at h
   refine⟨rfl,-1,rfl,?_⟩
   rw[any_none h];rfl)
def c_113(a:List R)(K:KT):Prop:=match a with
 |[.d (.sl x),.fn 16 []]=>∃l:List Go.Ex.AV,x=l.map Go.Ex.AV.cs∧l.length<4611686018427387904∧∀r:Int,decide (r≥0)=l.any (badV)→K [.d (.v (.int .i64 r))] []
 |_=>False
theorem c_113_ok(a:List R)(K:KT)(h:c_113 a K):Ct prog gl 36 a K:=by
 unfold c_113 at h
 split at h
 ·obtain⟨l,rfl,h1,h2⟩:=h
  exact(ct113 l h1).mono fun res fin ⟨e1,r,e2,e3⟩=>by subst e1;subst e2;exact h2 r e3
 ·exact h.elim
def C_4d:CallT:=addC C_4c 36 c_113
theorem C_4d_ok:CallsOk prog gl C_4d:=addC_ok C_4c_ok c_113_ok
theorem vc54(x:List (List D))(Q:KT):vc E_0 C_4d noI fi15 (f15.body.getD .skip) f15.results.toList [.d (.sl x),.fn 16 []] Q=(∃(l:List AV),x=List.map AV.cs l∧l.length<4611686018427387904∧∀(r:Int),decide (r≥0)=l.any badV→Q [.d (.v (.bool (decide (r≥0))))] []):=by kernel_rfl
def c_54(a:List R)(K:KT):Prop:=match a with
 |[.d (.sl x),.fn 16 []]=>∃l:List Go.Ex.AV,x=l.map Go.Ex.AV.cs∧l.length<4611686018427387904∧K [.d (.v (.bool (l.any (badV))))] []
 |_=>False
theorem c_54_ok(a:List R)(K:KT)(h:c_54 a K):Ct prog gl 15 a K:=by
 unfold c_54 at h
 split at h
 ·obtain⟨l,rfl,h1,h2⟩:=h
  refine Ct.gives (r:=[.d (.v (.bool (l.any (badV))))]) (ctv C_4d_ok f15 fi15 ⟨_,_,rfl,rfl⟩ ?_) h2
  rw[vc54]
  exact⟨l,rfl,h1,fun r hr=>⟨by rw[hr],rfl⟩⟩
 ·exact h.elim
def C_4e:CallT:=addC C_4d 15 c_54
theorem C_4e_ok:CallsOk prog gl C_4e:=addC_ok C_4d_ok c_54_ok
end Go.Proofs.Tryz
