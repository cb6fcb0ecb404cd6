/- A part of the proof: contracts of functions, by a verified generator of conditions; no condition of its own. -/
import Derived.Test.YthhomimmnogngaaGreatDoorE2
import Derived.Test.YthhomimmnogngaaGreatDoorVc
import Derived.Shelf.Strings.MapGrows
namespace Go.Proofs.Tryz
open Go Go.Dm Go.Ex
set_option maxRecDepth 100000
variable {gl:Nat→Option Obj}
theorem vc392(s p:ByteArray)(Q:KT):vc E_c C_t381 noI fi150 (f150.body.getD .skip) f150.results.toList [.d (.v (.string s)),.d (.v (.string p))] Q=((decide ((↑s.size:Int)≥(↑p.size:Int))=true→Zdt fun l h=>l=(0:Nat)∧V.i (↑p.size:Int)=V.i (↑h:Int)∧l≤h∧h≤s.size∧True∧Q [.d (.v (.bool (s.extract l h==p)))] [])∧(decide ((↑s.size:Int)≥(↑p.size:Int)) = !true→Zcv Q)):=by kernel_rfl
theorem ct392(G:GlOk gl)(s p:ByteArray):Ct prog gl 150 [.d (.v (.string s)),.d (.v (.string p))] (gives [.d (.v (.bool (Lib.hasPrefix s.data.toList p.data.toList)))]):=by
 refine ct_of_vc (E:=E_c) ⟨E_ok.te⟩ (C_t381_ok G) ioK_no (fun _ _ _ h=>h.elim) mixed (fn:=f150) (body:=f150.body.getD .skip) (by kernel_rfl) (by kernel_rfl) (by kernel_rfl) (fi:=fi150) (by kernel_rfl) (by kernel_rfl) ⟨_,_,rfl,rfl⟩ ?_
 rw[vc392];dsimp -eta -iota -proj only[Zdt,Zcv]
 refine⟨fun h=>?_,fun h=>?_⟩
 ·have h:=of_decide_eq_true h
  refine⟨0,p.size,rfl,rfl,Nat.zero_le _,by omega,trivial,?_⟩
  rw[pre_eq (by omega)]
  exact⟨rfl,rfl⟩
 ·have h:=of_decide_eq_false h
  rw[pre_no (by omega)]
  exact⟨rfl,rfl⟩
def c_392(a:List R)(K:KT):Prop:=match a with
 |[.d (.v (.string s)),.d (.v (.string p))]=>K [.d (.v (.bool (Lib.hasPrefix s.data.toList p.data.toList)))] []
 |_=>False
theorem c_392_ok(G:GlOk gl)(a:List R)(K:KT)(h:c_392 a K):Ct prog gl 150 a K:=by
 unfold c_392 at h
 split at h
 ·exact(ct392 G _ _).gives h
 ·exact h.elim
def C_t392:CallT:=addC C_t381 150 c_392
theorem C_t392_ok(G:GlOk gl):CallsOk prog gl C_t392:=addC_ok (C_t381_ok G) (c_392_ok G)
theorem vc426(s p:ByteArray)(Q:KT):vc E_0 C_t392 noI fi177 (f177.body.getD .skip) f177.results.toList [.d (.v (.string s)),.d (.v (.string p))] Q=((Lib.hasPrefix s.data.1 p.data.1=true→Zdt fun l h=>V.i (↑p.size:Int)=V.i (↑l:Int)∧h=s.size∧l≤h∧h≤s.size∧True∧Q [.d (.v (.string (s.extract l h)))] [])∧(Lib.hasPrefix s.data.1 p.data.1=false→Q [.d (.v (.string s))] [])):=by kernel_rfl
theorem ct426(G:GlOk gl)(s p:ByteArray):Ct prog gl 177 [.d (.v (.string s)),.d (.v (.string p))] (gives [.d (.v (.string (tx (Lib.trimPrefix s.data.toList p.data.toList))))]):=by
 refine ct_of_vc E_ok (C_t392_ok G) ioK_no it_ok mixed (fn:=f177) (body:=f177.body.getD .skip) (by kernel_rfl) (by kernel_rfl) (by kernel_rfl) (fi:=fi177) (by kernel_rfl) (by kernel_rfl) ⟨_,_,rfl,rfl⟩ ?_
 rw[vc426];dsimp -eta -iota -proj only[Zdt]
 refine⟨fun h=>?_,fun h=>?_⟩
 ·have hl:p.size≤s.size:=by
   rcases Nat.lt_or_ge s.size p.size with h1|h1
   ·rw[pre_no (by omega)]at h;cases h
   ·exact h1
  refine⟨p.size,s.size,rfl,rfl,hl,Nat.le_refl _,trivial,?_⟩
  unfold Lib.trimPrefix
  rw[if_pos h,drop_tx,size_data]
  exact⟨rfl,rfl⟩
 ·unfold Lib.trimPrefix
  rw[if_neg (by rw[h];decide),tx_of]
  exact⟨rfl,rfl⟩
def c_426(a:List R)(K:KT):Prop:=match a with
 |[.d (.v (.string s)),.d (.v (.string p))]=>K [.d (.v (.string (tx (Lib.trimPrefix s.data.toList p.data.toList))))] []
 |_=>False
theorem c_426_ok(G:GlOk gl)(a:List R)(K:KT)(h:c_426 a K):Ct prog gl 177 a K:=by
 unfold c_426 at h
 split at h
 ·exact(ct426 G _ _).gives h
 ·exact h.elim
def C_t426:CallT:=addC C_t392 177 c_426
theorem C_t426_ok(G:GlOk gl):CallsOk prog gl C_t426:=addC_ok (C_t392_ok G) (c_426_ok G)
theorem vc341(s p:ByteArray)(Q:KT):vc E_0 C_t426 noI fi120 (f120.body.getD .skip) f120.results.toList [.d (.v (.string s)),.d (.v (.string p))] Q=(((!Lib.hasPrefix s.data.1 p.data.1)=true→Q [.d (.v (.string s)),.d (.v (.bool false))] [])∧((!Lib.hasPrefix s.data.1 p.data.1)=false→Zdt fun l h=>V.i (↑p.size:Int)=V.i (↑l:Int)∧h=s.size∧l≤h∧h≤s.size∧True∧Q [.d (.v (.string (s.extract l h))),.d (.v (.bool true))] [])):=by kernel_rfl
theorem ct341(G:GlOk gl)(s p:ByteArray):Ct prog gl 120 [.d (.v (.string s)),.d (.v (.string p))] (gives [.d (.v (.string (tx (Lib.trimPrefix s.data.toList p.data.toList)))),.d (.v (.bool (Lib.hasPrefix s.data.toList p.data.toList)))]):=by
 refine ct_of_vc E_ok (C_t426_ok G) ioK_no it_ok mixed (fn:=f120) (body:=f120.body.getD .skip) (by kernel_rfl) (by kernel_rfl) (by kernel_rfl) (fi:=fi120) (by kernel_rfl) (by kernel_rfl) ⟨_,_,rfl,rfl⟩ ?_
 rw[vc341];dsimp -eta -iota -proj only[Zdt]
 refine⟨fun h=>?_,fun h=>?_⟩
 ·have h:Lib.hasPrefix s.data.toList p.data.toList=false:=by simpa using h
  unfold Lib.trimPrefix
  rw[h,if_neg (by decide),tx_of]
  exact⟨rfl,rfl⟩
 ·have h:Lib.hasPrefix s.data.toList p.data.toList=true:=by simpa using h
  have hl:p.size≤s.size:=by
   rcases Nat.lt_or_ge s.size p.size with h1|h1
   ·rw[pre_no (by omega)]at h;cases h
   ·exact h1
  refine⟨p.size,s.size,rfl,rfl,hl,Nat.le_refl _,trivial,?_⟩
  unfold Lib.trimPrefix
  rw[if_pos h,drop_tx,size_data,h]
  exact⟨rfl,rfl⟩
def c_341(a:List R)(K:KT):Prop:=match a with
 |[.d (.v (.string s)),.d (.v (.string p))]=>K [.d (.v (.string (tx (Lib.trimPrefix s.data.toList p.data.toList)))),.d (.v (.bool (Lib.hasPrefix s.data.toList p.data.toList)))] []
 |_=>False
theorem c_341_ok(G:GlOk gl)(a:List R)(K:KT)(h:c_341 a K):Ct prog gl 120 a K:=by
 unfold c_341 at h
 split at h
 ·exact(ct341 G _ _).gives h
 ·exact h.elim
def C_t341:CallT:=addC C_t426 120 c_341
theorem C_t341_ok(G:GlOk gl):CallsOk prog gl C_t341:=addC_ok (C_t426_ok G) (c_341_ok G)
theorem vc378(s p:ByteArray)(Q:KT):vc E_0 C_t341 noI fi158 (f158.body.getD .skip) f158.results.toList [.d (.v (.string s)),.d (.v (.string p))] Q=(Q [.d (.v (.string (tx (Lib.trimPrefix s.data.1 p.data.1))))] []):=by kernel_rfl
theorem ct378(G:GlOk gl)(s p:ByteArray):Ct prog gl 158 [.d (.v (.string s)),.d (.v (.string p))] (gives [.d (.v (.string (tx (Lib.trimPrefix s.data.toList p.data.toList))))]):=by
 refine ct_of_vc E_ok (C_t341_ok G) ioK_no it_ok mixed (fn:=f158) (body:=f158.body.getD .skip) (by kernel_rfl) (by kernel_rfl) (by kernel_rfl) (fi:=fi158) (by kernel_rfl) (by kernel_rfl) ⟨_,_,rfl,rfl⟩ ?_
 rw[vc378]
 exact⟨rfl,rfl⟩
def c_378(a:List R)(K:KT):Prop:=match a with
 |[.d (.v (.string s)),.d (.v (.string p))]=>K [.d (.v (.string (tx (Lib.trimPrefix s.data.toList p.data.toList))))] []
 |_=>False
theorem c_378_ok(G:GlOk gl)(a:List R)(K:KT)(h:c_378 a K):Ct prog gl 158 a K:=by
 unfold c_378 at h
 split at h
 ·exact(ct378 G _ _).gives h
 ·exact h.elim
def C_t378:CallT:=addC C_t341 158 c_378
theorem C_t378_ok(G:GlOk gl):CallsOk prog gl C_t378:=addC_ok (C_t341_ok G) (c_378_ok G)
theorem vc277(s p:ByteArray)(Q:KT):vc E_0 C_t378 noI fi87 (f87.body.getD .skip) f87.results.toList [.d (.v (.string s)),.d (.v (.string p))] Q=(Q [.d (.v (.string (tx (Lib.trimPrefix s.data.1 p.data.1)))),.d (.v (.bool (Lib.hasPrefix s.data.1 p.data.1)))] []):=by kernel_rfl
theorem ct277(G:GlOk gl)(s p:ByteArray):Ct prog gl 87 [.d (.v (.string s)),.d (.v (.string p))] (gives [.d (.v (.string (tx (Lib.trimPrefix s.data.toList p.data.toList)))),.d (.v (.bool (Lib.hasPrefix s.data.toList p.data.toList)))]):=by
 refine ct_of_vc E_ok (C_t378_ok G) ioK_no it_ok mixed (fn:=f87) (body:=f87.body.getD .skip) (by kernel_rfl) (by kernel_rfl) (by kernel_rfl) (fi:=fi87) (by kernel_rfl) (by kernel_rfl) ⟨_,_,rfl,rfl⟩ ?_
 rw[vc277]
 exact⟨rfl,rfl⟩
def c_277(a:List R)(K:KT):Prop:=match a with
 |[.d (.v (.string s)),.d (.v (.string p))]=>K [.d (.v (.string (tx (Lib.trimPrefix s.data.toList p.data.toList)))),.d (.v (.bool (Lib.hasPrefix s.data.toList p.data.toList)))] []
 |_=>False
theorem c_277_ok(G:GlOk gl)(a:List R)(K:KT)(h:c_277 a K):Ct prog gl 87 a K:=by
 unfold c_277 at h
 split at h
 ·exact(ct277 G _ _).gives h
 ·exact h.elim
def C_t277:CallT:=addC C_t378 87 c_277
theorem C_t277_ok(G:GlOk gl):CallsOk prog gl C_t277:=addC_ok (C_t378_ok G) (c_277_ok G)
theorem vc377(s:ByteArray)(Q:KT):vc E_c C_t277 noI fi157 (f157.body.getD .skip) f157.results.toList [.d (.v (.string s))] Q=(((!s=={data:={toList:=[]:Array UInt8}:ByteArray})=true→{data:={toList:=[(48:UInt8),(49:UInt8),(50:UInt8),(51:UInt8),(52:UInt8),(53:UInt8),(54:UInt8),(55:UInt8),(56:UInt8),(57:UInt8)]:Array UInt8}:ByteArray}=tx digL∧s.size≤(9223372036854775807:Nat)∧Q [.d (.v (.bool (tx (Lib.trimS s.data.1 digL)=={data:={toList:=[]:Array UInt8}:ByteArray})))] [])∧((!s=={data:={toList:=[]:Array UInt8}:ByteArray}) = !true→Zcv Q)):=by kernel_rfl
theorem ct377(G:GlOk gl)(s:ByteArray)(h1:s.size≤1000):Ct prog gl 157 [.d (.v (.string s))] (gives [.d (.v (.bool (digP s.data.toList)))]):=by
 refine ct_of_vc (E:=E_c) ⟨E_ok.te⟩ (C_t277_ok G) ioK_no (fun _ _ _ h=>h.elim) mixed (fn:=f157) (body:=f157.body.getD .skip) (by kernel_rfl) (by kernel_rfl) (by kernel_rfl) (fi:=fi157) (by kernel_rfl) (by kernel_rfl) ⟨_,_,rfl,rfl⟩ ?_
 rw[vc377];dsimp -eta -iota -proj only[Zcv]
 have e:=digP_trim s.data.toList
 rw[tx_of]at e
 refine⟨fun h=>⟨rfl,by omega,?_⟩,fun h=>?_⟩
 ·have h:(s != tx [])=true:=h
  rw[h,cond_true]at e
  rw[←e]
  exact⟨rfl,rfl⟩
 ·have h:(s != tx [])=false:=h
  rw[h,cond_false]at e
  rw[←e]
  exact⟨rfl,rfl⟩
def c_377(a:List R)(K:KT):Prop:=match a with
 |[.d (.v (.string s))]=>s.size≤1000∧K [.d (.v (.bool (digP s.data.toList)))] []
 |_=>False
theorem c_377_ok(G:GlOk gl)(a:List R)(K:KT)(h:c_377 a K):Ct prog gl 157 a K:=by
 unfold c_377 at h
 split at h
 ·obtain⟨h0,hk⟩:=h
  exact(ct377 G _ h0).gives hk
 ·exact h.elim
def C_t377:CallT:=addC C_t277 157 c_377
theorem C_t377_ok(G:GlOk gl):CallsOk prog gl C_t377:=addC_ok (C_t277_ok G) (c_377_ok G)
theorem vc278(s:ByteArray)(n:Int)(Q:KT):vc E_0 C_t377 noI fi88 (f88.body.getD .skip) f88.results.toList [.d (.v (.string s)),.d (.v (.int .i64 n))] Q=(((0:Int)≤if IntKind.i64.wrap (n-(↑s.size:Int))>(0:Int)then IntKind.i64.wrap (n-(↑s.size:Int))else(0:Int))∧(if IntKind.i64.wrap (n-(↑s.size:Int))>(0:Int)then IntKind.i64.wrap (n-(↑s.size:Int))else(0:Int))≤(1000:Int)∧{data:={toList:=[(48:UInt8)]:Array UInt8}:ByteArray}.size≤(1000:Nat)∧(tx (Lib.repeatL [(48:UInt8)] (if IntKind.i64.wrap (n-(↑s.size:Int))>(0:Int)then IntKind.i64.wrap (n-(↑s.size:Int))else(0:Int)).toNat)).size.add s.size≤(9223372036854775807:Nat)∧Q [.d (.v (.string (tx (Lib.repeatL [(48:UInt8)] (if IntKind.i64.wrap (n-(↑s.size:Int))>(0:Int)then IntKind.i64.wrap (n-(↑s.size:Int))else(0:Int)).toNat)++s)))] []):=by kernel_rfl
theorem ct278(G:GlOk gl)(s:ByteArray)(n:Int)(h1:s.size≤100)(h2:0≤n)(h3:n≤100):Ct prog gl 88 [.d (.v (.string s)),.d (.v (.int .i64 n))] (gives [.d (.v (.string (tx (padL s.data.toList n))))]):=by
 refine ct_of_vc E_ok (C_t377_ok G) ioK_no it_ok mixed (fn:=f88) (body:=f88.body.getD .skip) (by kernel_rfl) (by kernel_rfl) (by kernel_rfl) (fi:=fi88) (by kernel_rfl) (by kernel_rfl) ⟨_,_,rfl,rfl⟩ ?_
 rw[vc278]
 rw[wrap_in (by omega)]
 have hx:(if n-(s.size:Int)>0 then n-(s.size:Int)else 0)≤100∧0≤(if n-(s.size:Int)>0 then n-(s.size:Int)else 0):=by split<;>omega
 refine⟨hx.2,by omega,by decide,?_,?_,rfl⟩
 ·show(tx _).size+s.size≤_
  rw[tx_size,repeat_len]
  omega
 ·unfold padL
  rw[←tx_append,tx_of,size_data]
def c_278(a:List R)(K:KT):Prop:=match a with
 |[.d (.v (.string s)),.d (.v (.int .i64 n))]=>s.size≤100∧0≤n∧n≤100∧K [.d (.v (.string (tx (padL s.data.toList n))))] []
 |_=>False
theorem c_278_ok(G:GlOk gl)(a:List R)(K:KT)(h:c_278 a K):Ct prog gl 88 a K:=by
 unfold c_278 at h
 split at h
 ·obtain⟨h0,h1,h2,hk⟩:=h
  exact(ct278 G _ _ h0 h1 h2).gives hk
 ·exact h.elim
def C_t278:CallT:=addC C_t377 88 c_278
theorem C_t278_ok(G:GlOk gl):CallsOk prog gl C_t278:=addC_ok (C_t377_ok G) (c_278_ok G)
theorem vc134i(n:Int)(Q:KT):vc E_0 C_t278 noI fi25 (f25.body.getD .skip) f25.results.toList [.d (.v (.int .i64 n))] Q=((10:Int)=(10:Int)∧in64 n∧Q [.d (.v (.string (tx (Lib.itoa n))))] []):=by kernel_rfl
theorem ct134i(G:GlOk gl)(n:Int)(h1:in64 n):Ct prog gl 25 [.d (.v (.int .i64 n))] (gives [.d (.v (.string (tx (Lib.itoa n))))]):=by
 refine ct_of_vc E_ok (C_t278_ok G) ioK_no it_ok mixed (fn:=f25) (body:=f25.body.getD .skip) (by kernel_rfl) (by kernel_rfl) (by kernel_rfl) (fi:=fi25) (by kernel_rfl) (by kernel_rfl) ⟨_,_,rfl,rfl⟩ ?_
 rw[vc134i]
 exact⟨rfl,h1,rfl,rfl⟩
def c_134i(a:List R)(K:KT):Prop:=match a with
 |[.d (.v (.int .i64 n))]=>in64 n∧K [.d (.v (.string (tx (Lib.itoa n))))] []
 |_=>False
theorem c_134i_ok(G:GlOk gl)(a:List R)(K:KT)(h:c_134i a K):Ct prog gl 25 a K:=by
 unfold c_134i at h
 split at h
 ·obtain⟨h0,hk⟩:=h
  exact(ct134i G _ h0).gives hk
 ·exact h.elim
def C_t134i:CallT:=addC C_t278 25 c_134i
theorem C_t134i_ok(G:GlOk gl):CallsOk prog gl C_t134i:=addC_ok (C_t278_ok G) (c_134i_ok G)
def Ze5(a0 a1:Int)(a2:Nat)(k:Prop):Prop:=V.i (IntKind.i64.wrap ((↑(tx (padL (Lib.trimPrefix (Lib.itoa a0) [(45:UInt8)]) (IntKind.i64.wrap (a1+1)))).size:Int)-a1))=V.i (↑a2:Int)∧k
theorem vc212(v n:Int)(Q:KT):vc E_0 C_t134i noI fi51 (f51.body.getD .skip) f51.results.toList [.d (.v (.int .i64 v)),.d (.v (.int .i64 n))] Q=(((!s276_0 n)=true→Q [.d (.v (.string ⟨⟨[]⟩⟩)),.d (.i 1)] [])∧((!s276_0 n)=false→in64 v∧(tx (Lib.trimPrefix (Lib.itoa v) [(45:UInt8)])).size≤(100:Nat)∧(0:Int)≤IntKind.i64.wrap (n+1)∧IntKind.i64.wrap (n+1)≤(100:Int)∧(decide (n>0)=true→Zdt fun l h=>l=(0:Nat)∧Ze5 v n h (l≤h∧h≤(tx (padL (Lib.trimPrefix (Lib.itoa v) [(45:UInt8)]) (IntKind.i64.wrap (n+1)))).size∧True∧((tx (padL (Lib.trimPrefix (Lib.itoa v) [(45:UInt8)]) (IntKind.i64.wrap (n+1)))).extract l h).size.succ≤(9223372036854775807:Nat)∧Zdt fun l_1 h_1=>Ze5 v n l_1 (h_1=(tx (padL (Lib.trimPrefix (Lib.itoa v) [(45:UInt8)]) (IntKind.i64.wrap (n+1)))).size∧l_1≤h_1∧h_1≤(tx (padL (Lib.trimPrefix (Lib.itoa v) [(45:UInt8)]) (IntKind.i64.wrap (n+1)))).size∧True∧((tx (padL (Lib.trimPrefix (Lib.itoa v) [(45:UInt8)]) (IntKind.i64.wrap (n+1)))).extract l h++{data:={toList:=[(46:UInt8)]:Array UInt8}:ByteArray}).size.add ((tx (padL (Lib.trimPrefix (Lib.itoa v) [(45:UInt8)]) (IntKind.i64.wrap (n+1)))).extract l_1 h_1).size≤(9223372036854775807:Nat)∧(Lib.hasPrefix (Lib.itoa v) [(45:UInt8)]=true→{data:={toList:=[(45:UInt8)]:Array UInt8}:ByteArray}.size.add ((tx (padL (Lib.trimPrefix (Lib.itoa v) [(45:UInt8)]) (IntKind.i64.wrap (n+1)))).extract l h++{data:={toList:=[(46:UInt8)]:Array UInt8}:ByteArray}++(tx (padL (Lib.trimPrefix (Lib.itoa v) [(45:UInt8)]) (IntKind.i64.wrap (n+1)))).extract l_1 h_1).size≤(9223372036854775807:Nat)∧Q [.d (.v (.string ({data:={toList:=[(45:UInt8)]:Array UInt8}:ByteArray}++((tx (padL (Lib.trimPrefix (Lib.itoa v) [(45:UInt8)]) (IntKind.i64.wrap (n+1)))).extract l h++{data:={toList:=[(46:UInt8)]:Array UInt8}:ByteArray}++(tx (padL (Lib.trimPrefix (Lib.itoa v) [(45:UInt8)]) (IntKind.i64.wrap (n+1)))).extract l_1 h_1)))),.d (.i 0)] [])∧(Lib.hasPrefix (Lib.itoa v) [(45:UInt8)]=false→Q [.d (.v (.string ((tx (padL (Lib.trimPrefix (Lib.itoa v) [(45:UInt8)]) (IntKind.i64.wrap (n+1)))).extract l h++{data:={toList:=[(46:UInt8)]:Array UInt8}:ByteArray}++(tx (padL (Lib.trimPrefix (Lib.itoa v) [(45:UInt8)]) (IntKind.i64.wrap (n+1)))).extract l_1 h_1))),.d (.i 0)] []))))∧(decide (n>0)=false→(Lib.hasPrefix (Lib.itoa v) [(45:UInt8)]=true→{data:={toList:=[(45:UInt8)]:Array UInt8}:ByteArray}.size.add (tx (padL (Lib.trimPrefix (Lib.itoa v) [(45:UInt8)]) (IntKind.i64.wrap (n+1)))).size≤(9223372036854775807:Nat)∧Q [.d (.v (.string ({data:={toList:=[(45:UInt8)]:Array UInt8}:ByteArray}++tx (padL (Lib.trimPrefix (Lib.itoa v) [(45:UInt8)]) (IntKind.i64.wrap (n+1)))))),.d (.i 0)] [])∧(Lib.hasPrefix (Lib.itoa v) [(45:UInt8)]=false→Q [.d (.v (.string (tx (padL (Lib.trimPrefix (Lib.itoa v) [(45:UInt8)]) (IntKind.i64.wrap (n+1)))))),.d (.i 0)] [])))):=by kernel_rfl
theorem ct212(G:GlOk gl)(v n:Int)(h1:in64 v)(h2:0≤n)(h3:n≤18):Ct prog gl 51 [.d (.v (.int .i64 v)),.d (.v (.int .i64 n))] (gives [.d (.v (.string (tx (decT v n)))),.d (.v (.int .i64 0))]):=by
 refine ct_of_vc E_ok (C_t134i_ok G) ioK_no it_ok mixed (fn:=f51) (body:=f51.body.getD .skip) (by kernel_rfl) (by kernel_rfl) (by kernel_rfl) (fi:=fi51) (by kernel_rfl) (by kernel_rfl) ⟨_,_,rfl,rfl⟩ ?_
 rw[vc212];dsimp -eta -iota -proj only[Zdt,Ze5]
 have hs:s276_0 n=true:=s276_iff.2 ⟨h2,h3⟩
 rw[hs]
 refine⟨fun h=>(by cases h),fun _=>⟨h1,?_,?_⟩⟩
 ·rw[tx_size];have:=itoa_len h1;have:=trimPrefix_len (Lib.itoa v) [45];omega
 rw[wrap_in (n:=n+1) (by omega)]
 refine⟨by omega,by omega,?_⟩
 have hp:(padL (Lib.trimPrefix (Lib.itoa v) [45]) (n+1)).length≤21:=padL_le (Nat.le_trans (trimPrefix_len _ _) (itoa_len h1)) (by omega)
 have hq:=padL_len (Lib.trimPrefix (Lib.itoa v) [45]) (n+1)
 have hq:n+1≤((padL (Lib.trimPrefix (Lib.itoa v) [45]) (n+1)).length:Int):=by split at hq<;>omega
 unfold decT
 dsimp only
 generalize padL (Lib.trimPrefix (Lib.itoa v) [45]) (n+1)=s at *
 refine⟨fun h=>?_,fun h=>?_⟩
 ·have h:=of_decide_eq_true h
  have e1:(tx s).extract 0 (s.length-n.toNat)=tx (s.take (s.length-n.toNat)):=take_tx _ _
  have e2:(tx s).extract (s.length-n.toNat) (tx s).size=tx (s.drop (s.length-n.toNat)):=drop_tx _ _
  have e3:IntKind.i64.wrap (((tx s).size:Int)-n)=((s.length-n.toNat:Nat):Int):=by rw[tx_size,wrap_in (by omega)];omega
  refine⟨0,s.length-n.toNat,rfl,by rw[e3],Nat.zero_le _,by rw[tx_size];omega,trivial,?_,s.length-n.toNat,(tx s).size,by rw[e3],rfl,by rw[tx_size];omega,Nat.le_refl _,trivial,?_,?_⟩
  ·rw[e1,tx_size,List.length_take];omega
  ·rw[e1,e2]
   show ByteArray.size (tx _++tx [46])+ByteArray.size (tx _)≤_
   rw[tx_append,tx_size,tx_size]
   simp;omega
  ·rw[e1,e2,if_pos h]
   refine⟨fun h'=>⟨?_,?_,rfl⟩,fun h'=>⟨?_,rfl⟩⟩
   ·show ByteArray.size (tx [45])+ByteArray.size (tx _++tx [46]++tx _)≤_
    rw[tx_append,tx_append,tx_size,tx_size]
    simp;omega
   ·rw[if_pos h']
    show [R.d (D.v (Value.string (tx [45]++(tx _++tx [46]++tx _)))),_]=_
    rw[tx_append,tx_append,tx_append]
    rfl
   ·rw[if_neg (by rw[h'];decide)]
    show [R.d (D.v (Value.string (tx _++tx [46]++tx _))),_]=_
    rw[tx_append,tx_append]
 ·have h:=of_decide_eq_false h
  rw[if_neg h]
  refine⟨fun h'=>⟨?_,?_,rfl⟩,fun h'=>⟨?_,rfl⟩⟩
  ·show ByteArray.size (tx [45])+ByteArray.size (tx _)≤_
   rw[tx_size,tx_size]
   simp;omega
  ·rw[if_pos h']
   show [R.d (D.v (Value.string (tx [45]++tx _))),_]=_
   rw[tx_append]
   rfl
  ·rw[if_neg (by rw[h'];decide)]
def c_212(a:List R)(K:KT):Prop:=match a with
 |[.d (.v (.int .i64 v)),.d (.v (.int .i64 n))]=>in64 v∧0≤n∧n≤18∧K [.d (.v (.string (tx (decT v n)))),.d (.v (.int .i64 0))] []
 |_=>False
theorem c_212_ok(G:GlOk gl)(a:List R)(K:KT)(h:c_212 a K):Ct prog gl 51 a K:=by
 unfold c_212 at h
 split at h
 ·obtain⟨h0,h1,h2,hk⟩:=h
  exact(ct212 G _ _ h0 h1 h2).gives hk
 ·exact h.elim
def C_t212:CallT:=addC C_t134i 51 c_212
theorem C_t212_ok(G:GlOk gl):CallsOk prog gl C_t212:=addC_ok (C_t134i_ok G) (c_212_ok G)
structure CX where
 y:Int
 m:Nat
 d:Int
def st_279a(n:Int)(x:CX):St:={tm:=[(0,.d (.v (.int .i64 (n+719162)))),(2,.d (.v (.int .i64 0))),(3,.d (.v (.int .i64 0))),(4,.d (.v (.int .i64 0))),(5,.d (.v (.int .i64 0))),(6,.d (.v (.int .i64 x.y)))],hp:=[],kn:=[],gd:=[]}
def st_279b(n:Int)(x:CX):St:={tm:=[(2,.d (.v (.int .i64 0))),(3,.d (.v (.int .i64 0))),(4,.d (.v (.int .i64 0))),(5,.d (.v (.int .i64 0))),(6,.d (.v (.int .i64 x.y))),(7,.d (.v (.int .i64 x.d))),(8,.d (.v (.int .i64 ((x.m:Int)+1))))],hp:=[],kn:=[],gd:=[]}
def fx_279(n:Int):Fi:={fi89 with lx:=[(5,{X:=CX,sh:=st_279a n,P:=fun _ k x=>1≤x.y∧x.y≤10001∧k=x.y.toNat}),(7,{X:=CX,sh:=st_279a n,P:=fun _ k x=>1≤x.y∧x.y≤9999∧yearsP x.y≤n+719162∧k=10001-x.y.toNat}),(11,{X:=CX,sh:=st_279b n,P:=fun _ k x=>1≤x.y∧x.y≤9999∧x.m<12∧0≤x.d∧x.d≤366∧x.d+sumM x.y x.m=n+719162-yearsP x.y∧n+719162<yearsP (x.y+1)∧k=12-x.m})]}
def Zb7(a0:Int)(a1:CX):St:={tm:=[(0,.i (a0+719162)),(2,.i 0),(3,.i 0),(4,.i 0),(5,.i 0),(6,.i a1.1)],hp:=[],kn:=[],gd:=[]:St}
def Zdy(a0:CX):St:={tm:=[(2,.i 0),(3,.i 0),(4,.i 0),(5,.i 0),(6,.i a0.1),(7,.i a0.3),(8,.i ((↑a0.2:Int)+1))],hp:=[],kn:=[],gd:=[]:St}
def Ze1(a0:CX)(a1:Int)(a2:Nat):Prop:=(1:Int)≤a0.1∧a0.1≤9999∧a0.2<(12:Nat)∧(0:Int)≤a0.3∧a0.3≤366∧a0.3+sumM a0.1 a0.2=a1+719162-yearsP a0.1∧a1+719162<yearsP (a0.1+1)∧a2=(12:Nat)-a0.2
theorem vc279(n:Int)(Q:KT):vc E_0 C_t212 noI (fx_279 n) (f89.body.getD .skip) f89.results.toList [.d (.v (.int .i64 n))] Q=(((bif decide (n<(-719162:Int))then true else decide (n>2932896))=true→Q [.d (.i 0),.d (.i 0),.d (.i 0),.d (.i 13)] [])∧((bif decide (n<(-719162:Int))then true else decide (n>2932896))=false→(146097:Int)≠(0:Int)∧∃(x0:CX),({tm:=[(0,.i (IntKind.i64.wrap (n-(-719162:Int)))),(2,.i 0),(3,.i 0),(4,.i 0),(5,.i 0),(6,.i (IntKind.i64.wrap (IntKind.i64.wrap ((IntKind.i64.wrap (IntKind.i64.wrap (n-(-719162:Int))*(400:Int))).tdiv (146097:Int))+(1:Int))))],hp:=[],kn:=[],gd:=[]:St}=(Zb7 n x0)∧∃(n:Nat),(1:Int)≤x0.1∧x0.1≤10001∧n=x0.1.toNat)∧∀(n_1:Nat) (x:CX),(1:Int)≤x.1∧x.1≤10001∧n_1=x.1.toNat→(1:Int)≤x.1∧x.1≤100000∧(decide (yearsP x.1>n+719162)=true→∃(m:Nat),∃(x':CX),m<n_1∧{tm:=[(0,.i (n+719162)),(2,.i 0),(3,.i 0),(4,.i 0),(5,.i 0),(6,.i (IntKind.i64.wrap (x.1-1)))],hp:=[],kn:=[],gd:=[]:St}=(Zb7 n x')∧(1:Int)≤x'.1∧x'.1≤(10001:Int)∧m=x'.1.toNat)∧(decide (yearsP x.1>n+719162)=false→∃(x0:CX),((Zb7 n x)=(Zb7 n x0)∧∃(n_2:Nat),(1:Int)≤x0.1∧x0.1≤9999∧yearsP x0.1≤n+719162∧n_2=(10001:Nat)-x0.1.toNat)∧∀(n_2:Nat) (x:CX),(1:Int)≤x.1∧x.1≤9999∧yearsP x.1≤n+719162∧n_2=(10001:Nat)-x.1.toNat→(1:Int)≤IntKind.i64.wrap (x.1+1)∧IntKind.i64.wrap (x.1+1)≤(100000:Int)∧(decide (yearsP (IntKind.i64.wrap (x.1+1))≤n+719162)=true→∃(m:Nat),∃(x':CX),m<n_2∧{tm:=[(0,.i (n+719162)),(2,.i 0),(3,.i 0),(4,.i 0),(5,.i 0),(6,.i (IntKind.i64.wrap (x.1+1)))],hp:=[],kn:=[],gd:=[]:St}=(Zb7 n x')∧(1:Int)≤x'.1∧x'.1≤(9999:Int)∧yearsP x'.1≤n+719162∧m=(10001:Nat)-x'.1.toNat)∧(decide (yearsP (IntKind.i64.wrap (x.1+1))≤n+719162)=false→(1:Int)≤x.1∧x.1≤100000∧∃(x0:CX),({tm:=[(2,.i 0),(3,.i 0),(4,.i 0),(5,.i 0),(6,.i x.1),(7,.i (IntKind.i64.wrap (n+719162-yearsP x.1))),(8,.i 1)],hp:=[],kn:=[],gd:=[]:St}=(Zdy x0)∧∃(n_3:Nat),Ze1 x0 n n_3)∧∀(n_3:Nat) (x:CX),(1:Int)≤x.1∧x.1≤9999∧x.2<(12:Nat)∧(0:Int)≤x.3∧x.3≤366∧x.3+sumM x.1 x.2=n+719162-yearsP x.1∧n+719162<yearsP (x.1+1)∧n_3=(12:Nat)-x.2→1≤(↑x.2:Int)+1∧(↑x.2:Int)+1≤(12:Int)∧(decide (x.3≥monthP x.1 ((↑x.2:Int)+1))=true→1≤(↑x.2:Int)+1∧(↑x.2:Int)+1≤(12:Int)∧∃(m:Nat),∃(x':CX),m<n_3∧{tm:=[(2,.i 0),(3,.i 0),(4,.i 0),(5,.i 0),(6,.i x.1),(7,.i (IntKind.i64.wrap (x.3-monthP x.1 ((↑x.2:Int)+1)))),(8,.i (IntKind.i64.wrap ((↑x.2:Int)+1+(1:Int))))],hp:=[],kn:=[],gd:=[]:St}=(Zdy x')∧Ze1 x' n m)∧(decide (x.3≥monthP x.1 ((↑x.2:Int)+1))=false→Q [.d (.i x.1),.d (.i ((↑x.2:Int)+1)),.d (.i (IntKind.i64.wrap (x.3+1))),.d (.i 0)] []))))):=by kernel_rfl
theorem ct279(G:GlOk gl)(n:Int)(h1:-719162≤n)(h2:n≤2932896):Ct prog gl 89 [.d (.v (.int .i64 n))] (fun res fin=>fin=[]∧∃y m d,IsCiv n y m d∧res=[.d (.v (.int .i64 y)),.d (.v (.int .i64 m)),.d (.v (.int .i64 d)),.d (.v (.int .i64 0))]):=by
 refine ct_of_vc E_ok (C_t212_ok G) ioK_no it_ok mixed (fn:=f89) (body:=f89.body.getD .skip) (by kernel_rfl) (by kernel_rfl) (by kernel_rfl) (fi:=fx_279 n) (by kernel_rfl) (by kernel_rfl) (let ⟨y,m,d,h⟩:=civ_exists h1 h2;⟨_,_,rfl,y,m,d,h,rfl⟩) ?_
 rw[vc279];dsimp -eta -iota -proj only[Zb7,Zdy,Ze1]
 have e0:(bif decide (n < -719162)then true else decide (n>2932896))=false:=by
  rw[decide_eq_false (by omega),decide_eq_false (by omega)];rfl
 rw[e0]
 refine⟨fun h=>(by cases h),fun _=>⟨by decide,⟨(n+719162)*400/146097+1,0,0⟩,⟨?_,_,?_,?_,rfl⟩,fun k x hx=>⟨by omega,by omega,fun hi=>?_,fun hi=>?_⟩⟩⟩
 ·rw[wrap_in (n:=n - -719162) (by omega),wrap_i64_of (n:=(n - -719162)*400) (by omega) (by omega),Int.tdiv_eq_ediv_of_nonneg (by omega),wrap_in (n:=(n - -719162)*400/146097) (by omega),wrap_in (n:=(n - -719162)*400/146097+1) (by omega)]
  all_goals(try(show _=St.mk _ _ _ _ _))
  all_goals(try rw[show n - -719162=n+719162 by omega])
  all_goals(try rfl)
 ·show 1≤(n+719162)*400/146097+1;omega
 ·show(n+719162)*400/146097+1≤10001;omega
 ·obtain⟨x1,x2,x3⟩:=hx
  have hi:=of_decide_eq_true hi
  have hne:x.y≠1:=by
   intro e
   rw[e]at hi
   have:yearsP 1=0:=rfl
   omega
  refine⟨k-1,⟨x.y-1,0,0⟩,by omega,?_,?_,?_,?_⟩
  ·rw[wrap_in (n:=x.y-1) (by omega)]
   all_goals(try rfl)
  ·show 1≤x.y-1;omega
  ·show x.y-1≤10001;omega
  ·show k-1=(x.y-1).toNat;omega
 ·obtain⟨x1,x2,x3⟩:=hx
  have hi:=of_decide_eq_false hi
  have hy9:x.y≤9999:=by
   unfold yearsP at hi;omega
  refine⟨x,⟨rfl,_,x1,hy9,by omega,rfl⟩,fun k2 z hz=>?_⟩
  obtain⟨z1,z2,z3,z4⟩:=hz
  rw[wrap_in (n:=z.y+1) (by omega)]
  refine⟨by omega,by omega,fun hi=>?_,fun hi=>?_⟩
  ·have hi:=of_decide_eq_true hi
   have:z.y+1≤9999:=by unfold yearsP at hi;omega
   exact⟨k2-1,⟨z.y+1,0,0⟩,by omega,rfl,by show 1≤z.y+1;omega,this,hi,by show k2-1=10001-(z.y+1).toNat;omega⟩
  ·have hi:=of_decide_eq_false hi
   have hs:=years_step z1
   have hl:=leap01 z.y
   have hyb:=years_bound (y:=z.y) z1 (by omega)
   refine⟨by omega,by omega,⟨z.y,0,n+719162-yearsP z.y⟩,⟨?_,_,z1,z2,(by show 0<12;decide),?_,?_,?_,?_,rfl⟩,fun k3 u hu=>?_⟩
   ·rw[wrap_in (n:=n+719162-yearsP z.y) (by omega)]
    rfl
   ·show 0≤n+719162-yearsP z.y;omega
   ·show n+719162-yearsP z.y≤366;omega
   ·show n+719162-yearsP z.y+sumM z.y 0=n+719162-yearsP z.y
    have:sumM z.y 0=0:=rfl
    omega
   ·show n+719162<yearsP (z.y+1);omega
   ·obtain⟨u1,u2,u3,u4,u5,u6,u7,u8⟩:=hu
    have hm:=month_pos (y:=u.y) (m:=(u.m:Int)+1) (by omega) (by omega) (by omega)
    have hsu:=years_step u1
    have h12:=sumM_mono (y:=u.y) (j:=u.m+1) (k:=12) (by omega) (by omega) (by omega)
    refine⟨by omega,by omega,fun hi=>?_,fun hi=>?_⟩
    ·have hi:=of_decide_eq_true hi
     have hlt:u.m+1<12:=by
         rcases Nat.lt_or_ge (u.m+1) 12 with h|h
         ·exact h
         ·have e:u.m=11:=by omega
          have e12:=sumM_12 u.y (by omega)
          have:sumM u.y 12=sumM u.y 11+monthP u.y ((11:Nat)+1):=rfl
          rw[e]at hi u6
          omega
     refine⟨by omega,by omega,k3-1,⟨u.y,u.m+1,u.d-monthP u.y ((u.m:Int)+1)⟩,by omega,?_,u1,u2,hlt,?_,?_,?_,u7,?_⟩
     ·rw[wrap_in (n:=u.d-monthP u.y ((u.m:Int)+1)) (by omega),wrap_in (n:=(u.m:Int)+1+1) (by omega)]
      all_goals(try rw[show((u.m:Int)+1+1)=((u.m+1:Nat):Int)+1 by omega])
      all_goals(try rfl)
     ·show 0≤u.d-monthP u.y ((u.m:Int)+1);omega
     ·show u.d-monthP u.y ((u.m:Int)+1)≤366;omega
     ·show u.d-monthP u.y ((u.m:Int)+1)+sumM u.y (u.m+1)=_
      simp only[sumM];omega
     ·show k3-1=12-(u.m+1);omega
    ·have hi:=of_decide_eq_false hi
     rw[wrap_in (n:=u.d+1) (by omega)]
     refine⟨rfl,u.y,(u.m:Int)+1,u.d+1,⟨u1,u2,by omega,by omega,by omega,by omega,?_⟩,rfl⟩
     rw[show((u.m:Int)+1-1).toNat=u.m by omega]
     omega
def c_279(a:List R)(K:KT):Prop:=match a with
 |[.d (.v (.int .i64 n))]=>-719162≤n∧n≤2932896∧∀y m d:Int,IsCiv n y m d→K [.d (.v (.int .i64 y)),.d (.v (.int .i64 m)),.d (.v (.int .i64 d)),.d (.v (.int .i64 0))] []
 |_=>False
theorem c_279_ok(G:GlOk gl)(a:List R)(K:KT)(h:c_279 a K):Ct prog gl 89 a K:=by
 unfold c_279 at h
 split at h
 ·obtain⟨h1,h2,h3⟩:=h
  exact(ct279 G _ h1 h2).mono fun res fin ⟨e1,y,m,d,h,e2⟩=>by subst e1;subst e2;exact h3 y m d h
 ·exact h.elim
def C_t279:CallT:=addC C_t212 89 c_279
theorem C_t279_ok(G:GlOk gl):CallsOk prog gl C_t279:=addC_ok (C_t212_ok G) (c_279_ok G)
theorem vc213(n:Int)(Q:KT):vc E_0 C_t279 noI fi52 (f52.body.getD .skip) f52.results.toList [.d (.v (.int .i64 n))] Q=((-719162:Int)≤n∧n≤2932896∧∀(y m d:Int),IsCiv n y m d→(((0:Int) != (0:Int))=true→Q [.d (.v (.string ⟨⟨[]⟩⟩)),.d (.i 0)] [])∧(((0:Int) != (0:Int))=false→in64 y∧(tx (Lib.itoa y)).size≤(100:Nat)∧(0:Int)≤4∧(4:Int)≤100∧(tx (padL (Lib.itoa y) (4:Int))).size.succ≤(9223372036854775807:Nat)∧in64 m∧(tx (Lib.itoa m)).size≤(100:Nat)∧(0:Int)≤2∧(2:Int)≤100∧(tx (padL (Lib.itoa y) (4:Int))++{data:={toList:=[(45:UInt8)]:Array UInt8}:ByteArray}).size.add (tx (padL (Lib.itoa m) (2:Int))).size≤(9223372036854775807:Nat)∧(tx (padL (Lib.itoa y) (4:Int))++{data:={toList:=[(45:UInt8)]:Array UInt8}:ByteArray}++tx (padL (Lib.itoa m) (2:Int))).size.succ≤(9223372036854775807:Nat)∧in64 d∧(tx (Lib.itoa d)).size≤(100:Nat)∧(0:Int)≤2∧(2:Int)≤100∧(tx (padL (Lib.itoa y) (4:Int))++{data:={toList:=[(45:UInt8)]:Array UInt8}:ByteArray}++tx (padL (Lib.itoa m) (2:Int))++{data:={toList:=[(45:UInt8)]:Array UInt8}:ByteArray}).size.add (tx (padL (Lib.itoa d) (2:Int))).size≤(9223372036854775807:Nat)∧Q [.d (.v (.string (tx (padL (Lib.itoa y) (4:Int))++{data:={toList:=[(45:UInt8)]:Array UInt8}:ByteArray}++tx (padL (Lib.itoa m) (2:Int))++{data:={toList:=[(45:UInt8)]:Array UInt8}:ByteArray}++tx (padL (Lib.itoa d) (2:Int))))),.d (.i 0)] [])):=by kernel_rfl
theorem ct213(G:GlOk gl)(n:Int)(h1:-719162≤n)(h2:n≤2932896):Ct prog gl 52 [.d (.v (.int .i64 n))] (gives [.d (.v (.string (tx (dayTx n)))),.d (.v (.int .i64 0))]):=by
 refine ct_of_vc E_ok (C_t279_ok G) ioK_no it_ok mixed (fn:=f52) (body:=f52.body.getD .skip) (by kernel_rfl) (by kernel_rfl) (by kernel_rfl) (fi:=fi52) (by kernel_rfl) (by kernel_rfl) ⟨_,_,rfl,rfl⟩ ?_
 rw[vc213]
 refine⟨h1,h2,fun y m d hc=>⟨fun h=>(by cases h),fun _=>?_⟩⟩
 rw[dayTx_of hc]
 obtain⟨c1,c2,c3,c4,c5,c6,c7⟩:=hc
 have hm:=month_pos (y:=y) (m:=m) (by omega) c3 c4
 have iy:in64 y:=⟨by omega,by omega⟩
 have im:in64 m:=⟨by omega,by omega⟩
 have id:in64 d:=⟨by omega,by omega⟩
 have ly:=itoa_len iy
 have lm:=itoa_len im
 have ld:=itoa_len id
 have py:=padL_le ly (show(4:Int)≤((21:Nat):Int) by decide)
 have pm:=padL_le lm (show(2:Int)≤((21:Nat):Int) by decide)
 have pd:=padL_le ld (show(2:Int)≤((21:Nat):Int) by decide)
 have h45:({data:={toList:=[45]}}:ByteArray)=tx [45]:=rfl
 rw[h45]
 unfold dayT
 refine⟨iy,by rw[tx_size];omega,by decide,by decide,?_,im,by rw[tx_size];omega,by decide,by decide,?_,?_,id,by rw[tx_size];omega,by decide,by decide,?_,?_,rfl⟩
 ·rw[tx_size];omega
 ·rw[tx_append,tx_size,tx_size];simp;omega
 ·rw[tx_append,tx_append,tx_size];simp;omega
 ·rw[tx_append,tx_append,tx_append,tx_size,tx_size];simp;omega
 ·rw[tx_append,tx_append,tx_append,tx_append]
def c_213(a:List R)(K:KT):Prop:=match a with
 |[.d (.v (.int .i64 n))]=>-719162≤n∧n≤2932896∧K [.d (.v (.string (tx (dayTx n)))),.d (.v (.int .i64 0))] []
 |_=>False
theorem c_213_ok(G:GlOk gl)(a:List R)(K:KT)(h:c_213 a K):Ct prog gl 52 a K:=by
 unfold c_213 at h
 split at h
 ·obtain⟨h0,h1,hk⟩:=h
  exact(ct213 G _ h0 h1).gives hk
 ·exact h.elim
def C_t213:CallT:=addC C_t279 52 c_213
theorem C_t213_ok(G:GlOk gl):CallsOk prog gl C_t213:=addC_ok (C_t279_ok G) (c_213_ok G)
end Go.Proofs.Tryz
namespace Go.Proofs.Tryz
open Go Go.Dm Go.Ex
set_option maxRecDepth 100000
variable {gl:Nat→Option Obj}
def capL(l:List UInt8):List UInt8:=Lib.mapD (fun x=>s376_0 x) l
theorem cap_rng(x:Nat)(h:x≤1114111):-2147483648≤s376_0 (x:Int)∧s376_0 (x:Int)≤2147483647:=by
 unfold s376_0
 cases hb:(bif decide ((x:Int)≥97)then decide ((x:Int)≤122)else false)
 ·simp only[cond_false];omega
 ·simp only[cond_true]
  have h1:(97:Int)≤x:=by
   revert hb
   by_cases h1:(x:Int)≥97<;>simp[h1]
  rw[show IntKind.i32.wrap ((x:Int)-32)=(x:Int)-32 by simp[IntKind.wrap,IntKind.signed,IntKind.bits];omega]
  omega
theorem map_grows(G:GlOk gl)(w:World)(hg:∀b o,gl b=some o→w.heap[b]? = some o):MapGrows prog 156 #[] (fun x=>s376_0 x) w:=by
 intro W x hx hb
 have hlt:∀b o,gl b=some o→b<w.heap.size:=fun b o h=>by
  rcases Nat.lt_or_ge b w.heap.size with h1|h1
  ·exact h1
  ·have:=hg b o h
   rw[Array.getElem?_eq_none h1]at this
   cases this
 have hgW:∀b o,gl b=some o→W.heap[b]? = some o:=fun b o h=>(hb.block b (hlt b o h)).trans (hg b o h)
 refine((ct376 (gl:=gl) (x:Int)).run W (fun b=>∃o,gl b=some o) [.int .i32 (x:Int)] [] (fun b o h=>⟨⟨o,h⟩,hgW b o h⟩) (fun b ⟨o,h⟩=>Nat.lt_of_lt_of_le (hlt b o h) hb.size) (by intro b h;cases h) List.nodup_nil (.d (.v rfl) .nil)).mono fun e w' hp=>?_
 obtain⟨res,fin,vs,ok',bn,he,⟨rfl,rfl⟩,_,_,_,hu,hr,_⟩:=hp
 cases hr with
 |d hd hr=>
  cases hr
  cases hd
  exact⟨he,hu.os,hu.tape,hu.output,hu.size,fun k hk=>hu.block k hk (by simp)⟩
def c_375(a:List R)(K:KT):Prop:=match a with
 |[.fn f [],.d (.v (.string s))]=>f=156∧s.size≤1000∧K [.d (.v (.string (tx (capL s.data.toList))))] []
 |_=>False
theorem c_375_ok(G:GlOk gl)(a:List R)(K:KT)(h:c_375 a K):Ct prog gl 155 a K:=by
 unfold c_375 at h
 split at h
 ·rename_i f s
  obtain⟨rfl,h1,h2⟩:=h
  refine Ct.gives (ct_lib (fnOk_of func155 (by kernel_rfl) (by kernel_rfl)) (.f (.v .nil)) (ds:=[.v (.string (tx (capL s.data.toList)))]) fun w hg=>?_) h2
  refine(Any.strings_Map_grows Tryz.lays230 Tryz.Builder_Extra_230 156 #[] (enters_of func156 (by kernel_rfl) rfl) (fun x=>s376_0 x) s w (by omega) (map_grows G w hg) cap_rng (G.utf w hg)).mono fun e w' ⟨he,hw⟩=>⟨[_],he,rfl,one (rdA_v rfl),Below.upd hw⟩
 ·exact h.elim
def C_t375:CallT:=addC C_t213 155 c_375
theorem C_t375_ok(G:GlOk gl):CallsOk prog gl C_t375:=addC_ok (C_t213_ok G) (c_375_ok G)
theorem vc325(s:ByteArray)(Q:KT):vc E_0 C_t375 noI fi127 (f127.body.getD .skip) f127.results.toList [.d (.v (.string s))] Q=((156:Nat)=(156:Nat)∧s.size≤(1000:Nat)∧Q [.d (.v (.string (tx (capL s.data.1))))] []):=by kernel_rfl
theorem ct325(G:GlOk gl)(s:ByteArray)(h1:s.size≤1000):Ct prog gl 127 [.d (.v (.string s))] (gives [.d (.v (.string (tx (capL s.data.toList))))]):=by
 refine ct_of_vc E_ok (C_t375_ok G) ioK_no it_ok mixed (fn:=f127) (body:=f127.body.getD .skip) (by kernel_rfl) (by kernel_rfl) (by kernel_rfl) (fi:=fi127) (by kernel_rfl) (by kernel_rfl) ⟨_,_,rfl,rfl⟩ ?_
 rw[vc325]
 exact⟨rfl,h1,rfl,rfl⟩
def c_325(a:List R)(K:KT):Prop:=match a with
 |[.d (.v (.string s))]=>s.size≤1000∧K [.d (.v (.string (tx (capL s.data.toList))))] []
 |_=>False
theorem c_325_ok(G:GlOk gl)(a:List R)(K:KT)(h:c_325 a K):Ct prog gl 127 a K:=by
 unfold c_325 at h
 split at h
 ·obtain⟨h0,hk⟩:=h
  exact(ct325 G _ h0).gives hk
 ·exact h.elim
def C_t325:CallT:=addC C_t375 127 c_325
theorem C_t325_ok(G:GlOk gl):CallsOk prog gl C_t325:=addC_ok (C_t375_ok G) (c_325_ok G)
theorem vc326(s:ByteArray)(Q:KT):vc E_0 C_t325 noI fi128 (f128.body.getD .skip) f128.results.toList [.d (.v (.string s))] Q=((tx (Lib.trimPrefix s.data.1 [(45:UInt8)])).size≤(1000:Nat)∧((!digP (Lib.trimPrefix s.data.1 [(45:UInt8)]))=true→Zci Q (0:Int) (12:Int))∧((!digP (Lib.trimPrefix s.data.1 [(45:UInt8)]))=false→(10:Int)=(10:Int)∧(64:Int)=(64:Int)∧s.size≤(1000:Nat)∧(pOk s.data.1=true→(false=true→Zci Q (0:Int) (10:Int))∧(false=false→Q [.d (.i (pVal s.data.1)),.d (.i 0)] []))∧(pOk s.data.1=false→(true=true→Zci Q (0:Int) (10:Int))∧(true=false→Q [.d (.i (pVal s.data.1)),.d (.i 0)] [])))):=by kernel_rfl
theorem ct326(G:GlOk gl)(s:ByteArray)(h1:s.size≤1000):Ct prog gl 128 [.d (.v (.string s))] (gives [.d (.v (.int .i64 (Go.Ex.intOf s.data.toList).1)),.d (.v (.int .i64 (Go.Ex.intOf s.data.toList).2))]):=by
 refine ct_of_vc E_ok (C_t325_ok G) ioK_no it_ok mixed (fn:=f128) (body:=f128.body.getD .skip) (by kernel_rfl) (by kernel_rfl) (by kernel_rfl) (fi:=fi128) (by kernel_rfl) (by kernel_rfl) ⟨_,_,rfl,rfl⟩ ?_
 rw[vc326];dsimp -eta -iota -proj only[Zci]
 have hl:=trimPrefix_len s.data.toList [45]
 rw[size_data]at hl
 refine⟨by rw[tx_size];omega,fun h=>?_,fun h=>⟨rfl,rfl,h1,fun hp=>⟨fun e=>(by cases e),fun _=>?_⟩,fun hp=>⟨fun _=>?_,fun e=>(by cases e)⟩⟩⟩
 ·have h:digP (Lib.trimPrefix s.data.toList [45])=false:=by simpa using h
  rw[intOf_eq,h]
  exact⟨rfl,rfl⟩
 ·have h:digP (Lib.trimPrefix s.data.toList [45])=true:=by simpa using h
  rw[intOf_eq,h,hp]
  exact⟨rfl,rfl⟩
 ·have h:digP (Lib.trimPrefix s.data.toList [45])=true:=by simpa using h
  rw[intOf_eq,h,hp]
  exact⟨rfl,rfl⟩
def c_326(a:List R)(K:KT):Prop:=match a with
 |[.d (.v (.string s))]=>s.size≤1000∧K [.d (.v (.int .i64 (Go.Ex.intOf s.data.toList).1)),.d (.v (.int .i64 (Go.Ex.intOf s.data.toList).2))] []
 |_=>False
theorem c_326_ok(G:GlOk gl)(a:List R)(K:KT)(h:c_326 a K):Ct prog gl 128 a K:=by
 unfold c_326 at h
 split at h
 ·obtain⟨h0,hk⟩:=h
  exact(ct326 G _ h0).gives hk
 ·exact h.elim
def C_t326:CallT:=addC C_t325 128 c_326
theorem C_t326_ok(G:GlOk gl):CallsOk prog gl C_t326:=addC_ok (C_t325_ok G) (c_326_ok G)
def Zeu(a0:Int):List R:=[.d (.i 0),.d (.i 0),.d (.i a0)]
def Ze8(a0:KT)(a1:Int):Prop:=a0 (Zeu a1) []
def Zb5(a0:ByteArray)(a1:KT):Prop:=(0:Int)≤0∧True∧∃(c:UInt8),a0[Int.toNat (0:Int)]? = some c∧(((↑c.toNat:Int)==45)=true→a1 [.d (.i (IntKind.i64.wrap ((0:Int)-pVal ((Lib.cut (Lib.trimPrefix a0.data.1 [(45:UInt8)]) [(46:UInt8)]).1++(Lib.cut (Lib.trimPrefix a0.data.1 [(45:UInt8)]) [(46:UInt8)]).2.1)))),.d (.i (↑(tx (Lib.cut (Lib.trimPrefix a0.data.1 [(45:UInt8)]) [(46:UInt8)]).2.1).size:Int)),.d (.i 0)] [])∧(((↑c.toNat:Int)==45)=false→a1 [.d (.i (pVal ((Lib.cut (Lib.trimPrefix a0.data.1 [(45:UInt8)]) [(46:UInt8)]).1++(Lib.cut (Lib.trimPrefix a0.data.1 [(45:UInt8)]) [(46:UInt8)]).2.1))),.d (.i (↑(tx (Lib.cut (Lib.trimPrefix a0.data.1 [(45:UInt8)]) [(46:UInt8)]).2.1).size:Int)),.d (.i 0)] [])
theorem vc327(s:ByteArray)(Q:KT):vc E_0 C_t326 noI fi129 (f129.body.getD .skip) f129.results.toList [.d (.v (.string s))] Q=((tx (Lib.trimPrefix s.data.1 [(45:UInt8)])).size≤(1000:Nat)∧(tx (Lib.cut (Lib.trimPrefix s.data.1 [(45:UInt8)]) [(46:UInt8)]).1).size≤(1000:Nat)∧(tx (Lib.cut (Lib.trimPrefix s.data.1 [(45:UInt8)]) [(46:UInt8)]).2.1).size≤(1000:Nat)∧((bif !digP (Lib.cut (Lib.trimPrefix s.data.1 [(45:UInt8)]) [(46:UInt8)]).1 then true else bif (Lib.cut (Lib.trimPrefix s.data.1 [(45:UInt8)]) [(46:UInt8)]).2.2 then !digP (Lib.cut (Lib.trimPrefix s.data.1 [(45:UInt8)]) [(46:UInt8)]).2.1 else false)=true→Ze8 Q (12:Int))∧((bif !digP (Lib.cut (Lib.trimPrefix s.data.1 [(45:UInt8)]) [(46:UInt8)]).1 then true else bif (Lib.cut (Lib.trimPrefix s.data.1 [(45:UInt8)]) [(46:UInt8)]).2.2 then !digP (Lib.cut (Lib.trimPrefix s.data.1 [(45:UInt8)]) [(46:UInt8)]).2.1 else false)=false→(decide ((↑(tx (Lib.cut (Lib.trimPrefix s.data.1 [(45:UInt8)]) [(46:UInt8)]).2.1).size:Int)>18)=true→Ze8 Q (10:Int))∧(decide ((↑(tx (Lib.cut (Lib.trimPrefix s.data.1 [(45:UInt8)]) [(46:UInt8)]).2.1).size:Int)>18)=false→(tx (Lib.cut (Lib.trimPrefix s.data.1 [(45:UInt8)]) [(46:UInt8)]).1).size.add (tx (Lib.cut (Lib.trimPrefix s.data.1 [(45:UInt8)]) [(46:UInt8)]).2.1).size≤(9223372036854775807:Nat)∧(10:Int)=(10:Int)∧(64:Int)=(64:Int)∧(tx (Lib.cut (Lib.trimPrefix s.data.1 [(45:UInt8)]) [(46:UInt8)]).1++tx (Lib.cut (Lib.trimPrefix s.data.1 [(45:UInt8)]) [(46:UInt8)]).2.1).size≤(1000:Nat)∧(pOk ((Lib.cut (Lib.trimPrefix s.data.1 [(45:UInt8)]) [(46:UInt8)]).1++(Lib.cut (Lib.trimPrefix s.data.1 [(45:UInt8)]) [(46:UInt8)]).2.1)=true→((bif false then true else !s114_0 (pVal ((Lib.cut (Lib.trimPrefix s.data.1 [(45:UInt8)]) [(46:UInt8)]).1++(Lib.cut (Lib.trimPrefix s.data.1 [(45:UInt8)]) [(46:UInt8)]).2.1)))=true→Ze8 Q (10:Int))∧((bif false then true else !s114_0 (pVal ((Lib.cut (Lib.trimPrefix s.data.1 [(45:UInt8)]) [(46:UInt8)]).1++(Lib.cut (Lib.trimPrefix s.data.1 [(45:UInt8)]) [(46:UInt8)]).2.1)))=false→Zb5 s Q))∧(pOk ((Lib.cut (Lib.trimPrefix s.data.1 [(45:UInt8)]) [(46:UInt8)]).1++(Lib.cut (Lib.trimPrefix s.data.1 [(45:UInt8)]) [(46:UInt8)]).2.1)=false→((bif true then true else !s114_0 (pVal ((Lib.cut (Lib.trimPrefix s.data.1 [(45:UInt8)]) [(46:UInt8)]).1++(Lib.cut (Lib.trimPrefix s.data.1 [(45:UInt8)]) [(46:UInt8)]).2.1)))=true→Ze8 Q (10:Int))∧((bif true then true else !s114_0 (pVal ((Lib.cut (Lib.trimPrefix s.data.1 [(45:UInt8)]) [(46:UInt8)]).1++(Lib.cut (Lib.trimPrefix s.data.1 [(45:UInt8)]) [(46:UInt8)]).2.1)))=false→Zb5 s Q))))):=by kernel_rfl
theorem ct327(G:GlOk gl)(s:ByteArray)(h1:s.size≤1000):Ct prog gl 129 [.d (.v (.string s))] (gives [.d (.v (.int .i64 (decOf s.data.toList).1)),.d (.v (.int .i64 (decOf s.data.toList).2.1)),.d (.v (.int .i64 (decOf s.data.toList).2.2))]):=by
 refine ct_of_vc E_ok (C_t326_ok G) ioK_no it_ok mixed (fn:=f129) (body:=f129.body.getD .skip) (by kernel_rfl) (by kernel_rfl) (by kernel_rfl) (fi:=fi129) (by kernel_rfl) (by kernel_rfl) ⟨_,_,rfl,rfl⟩ ?_
 rw[vc327];dsimp -eta -iota -proj only[Ze8,Zeu,Zb5]
 have hl:=trimPrefix_len s.data.toList [45]
 rw[size_data]at hl
 have hc:=cut_len (Lib.trimPrefix s.data.toList [45]) [46]
 have hne:digP (Lib.cut (Lib.trimPrefix s.data.toList [45]) [46]).1=true→∃c,s[(0:Int).toNat]? = some c∧s.data.toList.head? = some c:=by
  intro hd
  have:0<s.size:=by
   rcases Nat.eq_zero_or_pos s.size with h0|h0
   ·have e0:(Lib.cut (Lib.trimPrefix s.data.toList [45]) [46]).1=[]:=List.eq_nil_of_length_eq_zero (by omega)
    rw[e0]at hd
    cases hd
   ·exact h0
  have hz:s[(0:Int).toNat]? = some s[0]:=by
   show s[0]? = _
   exact getElem?_pos s 0 this
  refine⟨s[0],hz,?_⟩
  rw[List.head?_eq_getElem?]
  have:s.data.toList[0]? = some s.data.toList[0]:=List.getElem?_eq_getElem (by rw[size_data];omega)
  rw[this]
  rfl
 generalize hQ:gives [.d (.v (.int .i64 (decOf s.data.toList).1)),.d (.v (.int .i64 (decOf s.data.toList).2.1)),.d (.v (.int .i64 (decOf s.data.toList).2.2))]=Q'
 have hdec:decOf s.data.toList=decOf s.data.toList:=rfl
 conv at hdec=>rhs;unfold decOf
 dsimp only at hdec
 rw[hdec]at hQ
 generalize Lib.cut (Lib.trimPrefix s.data.toList [45]) [46]=c at *
 refine⟨by rw[tx_size];omega,by rw[tx_size];omega,by rw[tx_size];omega,fun h=>?_,fun h=>⟨fun h2=>?_,fun h2=>⟨?_,rfl,rfl,?_,fun hp=>⟨fun h3=>?_,fun h3=>⟨by decide,trivial,?_⟩⟩,fun hp=>⟨fun _=>?_,fun e=>(by cases e)⟩⟩⟩⟩
 ·rw[if_pos (by revert h;cases digP c.1<;>cases c.2.2<;>cases digP c.2.1<;>simp)]at hQ
  rw[←hQ];exact⟨rfl,rfl⟩
 all_goals(rw[if_neg (by revert h;cases digP c.1<;>cases c.2.2<;>cases digP c.2.1<;>simp)]at hQ)
 ·have h2:=of_decide_eq_true h2
  rw[tx_size]at h2
  rw[if_pos h2]at hQ
  rw[←hQ];exact⟨rfl,rfl⟩
 all_goals(have h2:=of_decide_eq_false h2;rw[tx_size]at h2;rw[if_neg h2]at hQ)
 ·show(tx _).size+(tx _).size≤_
  rw[tx_size,tx_size];omega
 ·rw[tx_append,tx_size,List.length_append];omega
 ·have h3:fitsD (pVal (c.1++c.2.1))=false:=by
   have:(!s114_0 (pVal (c.1++c.2.1)))=true:=h3
   have e:s114_0 (pVal (c.1++c.2.1))=fitsD (pVal (c.1++c.2.1)):=rfl
   rw[e]at this
   simpa using this
  rw[if_pos (by rw[h3];simp)]at hQ
  rw[←hQ];exact⟨rfl,rfl⟩
 ·have h3:fitsD (pVal (c.1++c.2.1))=true:=by
   have:(!s114_0 (pVal (c.1++c.2.1)))=false:=h3
   have e:s114_0 (pVal (c.1++c.2.1))=fitsD (pVal (c.1++c.2.1)):=rfl
   rw[e]at this
   simpa using this
  rw[hp,h3,if_neg (by decide)]at hQ
  have hr:=fitsD_iff.1 h3
  obtain⟨b,hb1,hb2⟩:=hne (by revert h;cases digP c.1<;>cases c.2.2<;>cases digP c.2.1<;>simp)
  refine⟨b,hb1,fun h4=>?_,fun h4=>?_⟩
  ·have h4:(b.toNat:Int)=45:=eq_of_beq h4
   have:b=45:=by apply UInt8.toNat_inj.1;show b.toNat=45;omega
   subst this
   rw[hb2,if_pos rfl]at hQ
   rw[←hQ,tx_size,wrap_i64_of (by omega) (by omega)]
   refine⟨?_,rfl⟩
   rw[Int.zero_sub]
  ·have h4:(b.toNat:Int)≠45:=ne_of_beq_false h4
   rw[hb2,if_neg (by intro e;simp only[Option.some.injEq]at e;subst e;exact h4 rfl)]at hQ
   rw[←hQ,tx_size]
   exact⟨rfl,rfl⟩
 ·rw[if_pos (by rw[hp];rfl)]at hQ
  rw[←hQ];exact⟨rfl,rfl⟩
def c_327(a:List R)(K:KT):Prop:=match a with
 |[.d (.v (.string s))]=>s.size≤1000∧K [.d (.v (.int .i64 (decOf s.data.toList).1)),.d (.v (.int .i64 (decOf s.data.toList).2.1)),.d (.v (.int .i64 (decOf s.data.toList).2.2))] []
 |_=>False
theorem c_327_ok(G:GlOk gl)(a:List R)(K:KT)(h:c_327 a K):Ct prog gl 129 a K:=by
 unfold c_327 at h
 split at h
 ·obtain⟨h0,hk⟩:=h
  exact(ct327 G _ h0).gives hk
 ·exact h.elim
def C_t327:CallT:=addC C_t326 129 c_327
theorem C_t327_ok(G:GlOk gl):CallsOk prog gl C_t327:=addC_ok (C_t326_ok G) (c_327_ok G)
def Zek(a0 a1:Nat)(a2:ByteArray)(k:Int→Prop):Prop:=a0≤a1∧a1≤a2.size∧True∧∃(v:Int),(a2.extract a0 a1).size≤(1000:Nat)∧Lib.atoiAll (a2.extract a0 a1).data.1=Lib.NumEnd.ok v∧k v
def Zfc(a0:Int)(a1 a2:Nat)(a3:ByteArray)(a4:Int)(k:Int→Nat→Nat→Prop):Prop:=Zeg a0 a1 (Zek a2 a1 a3 fun v=>Zem a4 fun l h=>k v l h)
def Zz(a0:ByteArray)(a1:KT):Prop:=Zdt fun l h=>l=(0:Nat)∧Zfc (4:Int) h l a0 (5:Int) fun v l h=>Zfc (7:Int) h l a0 (8:Int) fun v_1 l h=>h=a0.size∧Zek l h a0 fun v_2=>a1 [.d (.v (.int .i64 (dayOf v v_1 v_2).1)),.d (.v (.int .i64 (dayOf v v_1 v_2).2))] []
def Z0(a0:ByteArray)(a1:KT):Prop:=Zdt fun l h=>l=(0:Nat)∧Zeg (4:Int) h (l≤h∧h≤a0.size∧True∧Zem (5:Int) fun l_1 h_1=>Zeg (7:Int) h_1 (l_1≤h_1∧h_1≤a0.size∧True∧(a0.extract l h).size.add (a0.extract l_1 h_1).size≤(9223372036854775807:Nat)∧Zem (8:Int) fun l_2 h_2=>h_2=a0.size∧l_2≤h_2∧h_2≤a0.size∧True∧(a0.extract l h++a0.extract l_1 h_1).size.add (a0.extract l_2 h_2).size≤(9223372036854775807:Nat)∧(a0.extract l h++a0.extract l_1 h_1++a0.extract l_2 h_2).size≤(1000:Nat)∧((!digP ((a0.extract l h).data.1++(a0.extract l_1 h_1).data.1++(a0.extract l_2 h_2).data.1))=true→Zci a1 (0:Int) (12:Int))∧((!digP ((a0.extract l h).data.1++(a0.extract l_1 h_1).data.1++(a0.extract l_2 h_2).data.1))=false→Zz a0 a1)))
def Zb0(a0:KT)(a1:ByteArray):Prop:=(true=true→Zci a0 (0:Int) (12:Int))∧(true=false→Zz a1 a0)
def Z8(a0:ByteArray)(a1:KT):Prop:=(0:Int)≤7∧True∧∃(c:UInt8),a0[Int.toNat (7:Int)]? = some c∧(((↑c.toNat:Int) != (45:Int))=false→Z0 a0 a1)∧(((↑c.toNat:Int) != (45:Int)) = !false→Zb0 a1 a0)
def Z9(a0:ByteArray)(a1:KT):Prop:=(true=false→Z0 a0 a1)∧(true = !false→Zb0 a1 a0)
theorem vc328(s:ByteArray)(Q:KT):vc E_c C_t327 noI fi130 (f130.body.getD .skip) f130.results.toList [.d (.v (.string s))] Q=((((↑s.size:Int) != (10:Int))=false→(0:Int)≤4∧True∧∃(c:UInt8),s[Int.toNat (4:Int)]? = some c∧(((↑c.toNat:Int) != (45:Int))=false→Z8 s Q)∧(((↑c.toNat:Int) != (45:Int)) = !false→Z9 s Q))∧(((↑s.size:Int) != (10:Int)) = !false→(true=false→Z8 s Q)∧(true = !false→Z9 s Q))):=by kernel_rfl
theorem ct328(G:GlOk gl)(s:ByteArray)(h1:s.size≤1000):Ct prog gl 130 [.d (.v (.string s))] (gives [.d (.v (.int .i64 (dayL s.data.toList).1)),.d (.v (.int .i64 (dayL s.data.toList).2))]):=by
 refine ct_of_vc (E:=E_c) ⟨E_ok.te⟩ (C_t327_ok G) ioK_no (fun _ _ _ h=>h.elim) mixed (fn:=f130) (body:=f130.body.getD .skip) (by kernel_rfl) (by kernel_rfl) (by kernel_rfl) (fi:=fi130) (by kernel_rfl) (by kernel_rfl) ⟨_,_,rfl,rfl⟩ ?_
 rw[vc328];dsimp -eta -iota -proj only[Z8,Z0,Zdt,Zeg,Zem,Zci,Zz,Zfc,Zek,Zb0,Z9]
 generalize hQ:gives [.d (.v (.int .i64 (dayL s.data.toList).1)),.d (.v (.int .i64 (dayL s.data.toList).2))]=Q'
 have at':∀(i:Nat) (h:i<s.size),s.data.toList[i]? = some (s[i]'h):=fun i h=>by
  rw[List.getElem?_eq_getElem (by rw[size_data];exact h)];rfl
 have gt:∀(i:Nat) (h:i<s.size),s[(i:Int).toNat]? = some (s[i]'h):=fun i h=>by
  rw[Int.toNat_natCast];exact getElem?_pos s i h
 have b45:∀b:UInt8,((b.toNat:Int) != 45)=false→b=45:=fun b h=>by
  have:(b.toNat:Int)=45:=by simpa using h
  apply UInt8.toNat_inj.1;show b.toNat=45;omega
 have n45:∀b:UInt8,((b.toNat:Int) != 45)=true→b≠45:=fun b h e=>by
  subst e;cases h
 refine⟨fun hA=>?_,fun hA=>?_⟩
 ·have hA:s.size=10:=by have:(s.size:Int)=10:=by simpa using hA
                        omega
  have hL:s.data.toList.length=10:=by rw[size_data];exact hA
  refine⟨by decide,trivial,s[4]'(by omega),gt 4 (by omega),fun hB=>?_,fun hB=>?_⟩
  ·refine⟨by decide,trivial,s[7]'(by omega),gt 7 (by omega),fun hC=>?_,fun hC=>?_⟩
   ·have e1:s.extract 0 4=tx (s.data.toList.take 4):=take_tx _ _
    have e2:s.extract 5 7=tx ((s.data.toList.take 7).drop 5):=ext_tx _ _ _
    have e3:s.extract 8 s.size=tx (s.data.toList.drop 8):=drop_tx _ _
    have l1:(s.data.toList.take 4).length=4:=by rw[List.length_take];omega
    have l2:((s.data.toList.take 7).drop 5).length=2:=by rw[List.length_drop,List.length_take];omega
    have l3:(s.data.toList.drop 8).length=2:=by rw[List.length_drop];omega
    have c4:=(at' 4 (by omega)).trans (congrArg some (b45 _ hB))
    have c7:=(at' 7 (by omega)).trans (congrArg some (b45 _ hC))
    unfold dayL at hQ
    refine⟨0,4,rfl,rfl,by omega,by omega,trivial,5,7,rfl,rfl,by omega,by omega,trivial,?_,8,s.size,rfl,rfl,by omega,by omega,trivial,?_,?_,fun hD=>?_,fun hD=>?_⟩
    ·rw[e1,e2,tx_size,tx_size,l1,l2];decide
    ·rw[e1,e2,e3,tx_append,tx_size,tx_size,List.length_append,l1,l2,l3];decide
    ·rw[e1,e2,e3,tx_append,tx_append,tx_size,List.length_append,List.length_append,l1,l2,l3];decide
    ·rw[e1,e2,e3,tx_data,tx_data,tx_data]at hD
     have hD:digP ((s.data.toList.take 4++(s.data.toList.take 7).drop 5)++s.data.toList.drop 8)=false:=by simpa using hD
     rw[if_neg (by rw[hD];simp)]at hQ
     rw[←hQ];exact⟨rfl,rfl⟩
    ·rw[e1,e2,e3,tx_data,tx_data,tx_data]at hD
     have hD:digP ((s.data.toList.take 4++(s.data.toList.take 7).drop 5)++s.data.toList.drop 8)=true:=by simpa using hD
     rw[if_pos ⟨hL,c4,c7,hD⟩]at hQ
     have hp:=digP_part hD
     have hp2:=digP_part (hp.1 (by intro e;have:=congrArg List.length e;rw[List.length_append,l1]at this;simp at this))
     have ne:∀{l:List UInt8} {n:Nat},l.length=n+1→l≠[]:=fun h e=>by rw[e]at h;simp at h
     have a1:=atoi_dig (hp2.1 (ne l1)) (by omega)
     have a2:=atoi_dig (hp2.2 (ne l2)) (by omega)
     have a3:=atoi_dig (hp.2 (ne l3)) (by omega)
     refine⟨0,4,rfl,rfl,by omega,by omega,trivial,numOf (s.data.toList.take 4),by rw[e1,tx_size];omega,by rw[e1,tx_data];exact a1.1,5,7,rfl,rfl,by omega,by omega,trivial,numOf ((s.data.toList.take 7).drop 5),by rw[e2,tx_size];omega,by rw[e2,tx_data];exact a2.1,8,s.size,rfl,rfl,by omega,by omega,trivial,numOf (s.data.toList.drop 8),by rw[e3,tx_size];omega,by rw[e3,tx_data];exact a3.1,?_⟩
     rw[←hQ];exact⟨rfl,rfl⟩
   ·have:dayL s.data.toList=(0,12):=by
     unfold dayL
     rw[if_neg]
     intro⟨_,_,h,_⟩
     rw[at' 7 (by omega)]at h
     exact n45 _ hC (Option.some.inj h)
    rw[this]at hQ
    (repeat' (first|(with_reducible refine And.intro ?_ ?_)|(intro hh;first|(exact absurd hh (by decide))|(have hd:=of_decide_eq_true hh)|(have hd:=of_decide_eq_false hh)|(have hd:=eq_of_beq hh)|(have hd:=ne_of_beq_false hh)|(have hd:=bne_iff_ne.1 hh)|(have hd:=bne_eq_false_iff_eq.1 hh)|skip)))
    rw[←hQ];exact⟨rfl,rfl⟩
  ·have:dayL s.data.toList=(0,12):=by
    unfold dayL
    rw[if_neg]
    intro⟨_,h,_⟩
    rw[at' 4 (by omega)]at h
    exact n45 _ hB (Option.some.inj h)
   rw[this]at hQ
   (repeat' (first|(with_reducible refine And.intro ?_ ?_)|(intro hh;first|(exact absurd hh (by decide))|(have hd:=of_decide_eq_true hh)|(have hd:=of_decide_eq_false hh)|(have hd:=eq_of_beq hh)|(have hd:=ne_of_beq_false hh)|(have hd:=bne_iff_ne.1 hh)|(have hd:=bne_eq_false_iff_eq.1 hh)|skip)))
   rw[←hQ];exact⟨rfl,rfl⟩
 ·have:dayL s.data.toList=(0,12):=by
   unfold dayL
   rw[if_neg]
   intro⟨h,_⟩
   rw[size_data]at h
   rw[h]at hA
   cases hA
  rw[this]at hQ
  (repeat' (first|(with_reducible refine And.intro ?_ ?_)|(intro hh;first|(exact absurd hh (by decide))|(have hd:=of_decide_eq_true hh)|(have hd:=of_decide_eq_false hh)|(have hd:=eq_of_beq hh)|(have hd:=ne_of_beq_false hh)|(have hd:=bne_iff_ne.1 hh)|(have hd:=bne_eq_false_iff_eq.1 hh)|skip)))
  rw[←hQ];exact⟨rfl,rfl⟩
def c_328(a:List R)(K:KT):Prop:=match a with
 |[.d (.v (.string s))]=>s.size≤1000∧K [.d (.v (.int .i64 (dayL s.data.toList).1)),.d (.v (.int .i64 (dayL s.data.toList).2))] []
 |_=>False
theorem c_328_ok(G:GlOk gl)(a:List R)(K:KT)(h:c_328 a K):Ct prog gl 130 a K:=by
 unfold c_328 at h
 split at h
 ·obtain⟨h0,hk⟩:=h
  exact(ct328 G _ h0).gives hk
 ·exact h.elim
def C_t328:CallT:=addC C_t327 130 c_328
theorem C_t328_ok(G:GlOk gl):CallsOk prog gl C_t328:=addC_ok (C_t327_ok G) (c_328_ok G)
theorem replaceK_len(o n:List UInt8)(hn:n.length=2):∀(k:Nat) (s:List UInt8),(Lib.replaceK o n k s).length≤s.length+2*k
 |0,s=>by simp[Lib.replaceK]
 |k+1,s=>by
  simp only[Lib.replaceK]
  split
  ·omega
  ·have:=replaceK_len o n hn k (s.drop ((Lib.index s o).toNat+o.length))
   rw[List.length_append,List.length_append,List.length_take,hn]
   rw[List.length_drop]at this
   omega
theorem replace_len(s:ByteArray):(Lib.replaceAll s.data.toList [39] [39,39]).length≤3*s.size+2:=by
 unfold Lib.replaceAll Lib.replace
 split
 ·rw[size_data];omega
 ·have h:=replaceK_len [39] [39,39] rfl (Lib.replaceNum s.data.toList [39] (-1)) s.data.toList
  have h2:Lib.replaceNum s.data.toList [39] (-1)=Lib.count s.data.toList [39]:=by
   unfold Lib.replaceNum;rw[if_pos (.inl (by decide))]
  have h3:Lib.count s.data.toList [39]≤s.size:=count_le s (tx [39]) rfl
  rw[size_data]at h
  omega
def ShowOk(v:Go.Ex.AV):Prop:=in64 v.n∧1≤v.t.k∧v.t.k≤5∧0≤v.t.sc∧v.t.sc≤18∧(v.t.k=5→v.nul=false→-719162≤v.n∧v.n≤2932896)∧v.s.size≤256
def Ze9(a0:Go.Ex.AV):List R:=[.d (.v (.string (tx (Lib.itoa a0.3))))]
theorem vc135(v:Go.Ex.AV)(Q:KT):vc E_0 C_t328 noI fi26 (f26.body.getD .skip) f26.results.toList [.agg v.cs] Q=(in64 v.3∧(v.2=true→Q [.d (.v (.string {data:={toList:=[(78:UInt8),(85:UInt8),(76:UInt8),(76:UInt8)]:Array UInt8}:ByteArray}))] [])∧(v.2=false→((bif v.1.1==1 then v.3==0 else false)=true→Q [.d (.v (.string {data:={toList:=[(70:UInt8),(65:UInt8),(76:UInt8),(83:UInt8),(69:UInt8)]:Array UInt8}:ByteArray}))] [])∧((bif v.1.1==1 then v.3==0 else false)=false→((v.1.1==1)=true→Q [.d (.v (.string {data:={toList:=[(84:UInt8),(82:UInt8),(85:UInt8),(69:UInt8)]:Array UInt8}:ByteArray}))] [])∧((v.1.1==1)=false→((v.1.1==4)=true→v.4.size≤(1000:Nat)∧{data:={toList:=[(39:UInt8)]:Array UInt8}:ByteArray}.size=(1:Nat)∧{data:={toList:=[(39:UInt8),(39:UInt8)]:Array UInt8}:ByteArray}.size=(2:Nat)∧{data:={toList:=[(39:UInt8)]:Array UInt8}:ByteArray}.size.add (tx (Lib.replaceAll v.4.data.1 [(39:UInt8)] [(39:UInt8),(39:UInt8)])).size≤(9223372036854775807:Nat)∧({data:={toList:=[(39:UInt8)]:Array UInt8}:ByteArray}++tx (Lib.replaceAll v.4.data.1 [(39:UInt8)] [(39:UInt8),(39:UInt8)])).size.succ≤(9223372036854775807:Nat)∧Q [.d (.v (.string ({data:={toList:=[(39:UInt8)]:Array UInt8}:ByteArray}++tx (Lib.replaceAll v.4.data.1 [(39:UInt8)] [(39:UInt8),(39:UInt8)])++{data:={toList:=[(39:UInt8)]:Array UInt8}:ByteArray})))] [])∧((v.1.1==4)=false→((v.1.1==3)=true→in64 v.3∧(0:Int)≤v.1.2∧v.1.2≤18∧(((0:Int) != (0:Int))=true→in64 v.3∧Q (Ze9 v) [])∧(((0:Int) != (0:Int))=false→Q [.d (.v (.string (tx (decT v.3 v.1.2))))] []))∧((v.1.1==3)=false→((v.1.1==5)=true→(-719162:Int)≤v.3∧v.3≤2932896∧(((0:Int) != (0:Int))=true→in64 v.3∧Q (Ze9 v) [])∧(((0:Int) != (0:Int))=false→Q [.d (.v (.string (tx (dayTx v.3))))] []))∧((v.1.1==5)=false→((v.1.1 != (2:Int))=true→Zcz Q)∧((v.1.1 != (2:Int))=false→(((0:Int) != (0:Int))=true→in64 v.3∧Q (Ze9 v) [])∧(((0:Int) != (0:Int))=false→Q (Ze9 v) []))))))))):=by kernel_rfl
theorem ct135(G:GlOk gl)(v:Go.Ex.AV)(h1:ShowOk v):Ct prog gl 26 [.agg v.cs] (gives [.d (.v (.string (tx (showL v))))]):=by
 refine ct_of_vc E_ok (C_t328_ok G) ioK_no it_ok mixed (fn:=f26) (body:=f26.body.getD .skip) (by kernel_rfl) (by kernel_rfl) (by kernel_rfl) (fi:=fi26) (by kernel_rfl) (by kernel_rfl) ⟨_,_,rfl,rfl⟩ ?_
 rw[vc135];dsimp -eta -iota -proj only[Ze9,Zcz,Zcu]
 obtain⟨a1,a2,a3,a4,a5,a6,a7⟩:=h1
 have h39:({data:={toList:=[39]}}:ByteArray)=tx [39]:=rfl
 generalize hQ:gives [.d (.v (.string (tx (showL v))))]=Q'
 (repeat' (first|(with_reducible refine And.intro ?_ ?_)|(intro hh;first|(exact absurd hh (by decide))|(have hd:=of_decide_eq_true hh)|(have hd:=of_decide_eq_false hh)|(have hd:=eq_of_beq hh)|(have hd:=ne_of_beq_false hh)|(have hd:=bne_iff_ne.1 hh)|(have hd:=bne_eq_false_iff_eq.1 hh)|skip)))
 all_goals first
  |(exact a1)
  |(rw[←hQ];refine⟨?_,rfl⟩;simp only[showL, *,cond_true,cond_false,←tx_append];first|done|rfl)
  |(rw[←hQ];refine⟨?_,rfl⟩;simp_all only[showL,cond_true,cond_false,←tx_append];first|done|rfl)
  |(exfalso;omega)
  |omega
  |rfl
  |(have:=a6 (by omega) (by assumption);omega)
  |skip
 ·show(tx [39]).size+(tx _).size≤_
  rw[tx_size,tx_size]
  have:=replace_len v.s
  simp;omega
 ·rw[h39,tx_append,tx_size]
  have:=replace_len v.s
  simp;omega
def c_135(a:List R)(K:KT):Prop:=match a with
 |[.agg [.v (.int .i64 v_k),.v (.int .i64 v_sc),.v (.bool v_b),.v (.int .i64 v_n),.v (.string v_s)]]=>ShowOk (⟨⟨v_k,v_sc⟩,v_b,v_n,v_s⟩:Go.Ex.AV)∧K [.d (.v (.string (tx (showL (⟨⟨v_k,v_sc⟩,v_b,v_n,v_s⟩:Go.Ex.AV)))))] []
 |_=>False
theorem c_135_ok(G:GlOk gl)(a:List R)(K:KT)(h:c_135 a K):Ct prog gl 26 a K:=by
 unfold c_135 at h
 split at h
 ·obtain⟨h0,hk⟩:=h
  exact(ct135 G (⟨⟨_,_⟩,_,_,_⟩:Go.Ex.AV) h0).gives hk
 ·exact h.elim
def C_t135:CallT:=addC C_t328 26 c_135
theorem C_t135_ok(G:GlOk gl):CallsOk prog gl C_t135:=addC_ok (C_t328_ok G) (c_135_ok G)
noncomputable def textedV(v:Go.Ex.AV):Go.Ex.AV×Int:=
 bif v.t.k != 4 then(bif decide (((tx (showL v)).size:Int)>256)then(zeroV,10)else(textV (tx (showL v)),0))
 else(bif decide ((v.s.size:Int)>256)then(zeroV,10)else(textV v.s,0))
def Zbl(a0:Int):List R:=[.agg (Z3 (0:Int) (0:Int)),.d (.i a0)]
def Zbm(a0:KT)(a1:Int):Prop:=a0 (Zbl a1) []
theorem vc267(v:Go.Ex.AV)(Q:KT):vc E_0 C_t135 noI fi95 (f95.body.getD .skip) f95.results.toList [.agg v.cs] Q=(((v.1.1 != (4:Int))=true→ShowOk {t:={k:=v.1.1,sc:=v.1.2:Ty},nul:=v.2,n:=v.3,s:=v.4:AV}∧(decide ((↑(tx (showL {t:={k:=v.1.1,sc:=v.1.2:Ty},nul:=v.2,n:=v.3,s:=v.4:AV})).size:Int)>256)=true→Zbm Q (10:Int))∧(decide ((↑(tx (showL {t:={k:=v.1.1,sc:=v.1.2:Ty},nul:=v.2,n:=v.3,s:=v.4:AV})).size:Int)>256)=false→Q [.agg [.i 4,.i 0,.v (.bool false),.i 0,.v (.string (tx (showL {t:={k:=v.1.1,sc:=v.1.2:Ty},nul:=v.2,n:=v.3,s:=v.4:AV})))],.d (.i 0)] []))∧((v.1.1 != (4:Int))=false→(decide ((↑v.4.size:Int)>256)=true→Zbm Q (10:Int))∧(decide ((↑v.4.size:Int)>256)=false→Q [.agg [.i 4,.i 0,.v (.bool false),.i 0,.v (.string v.4)],.d (.i 0)] []))):=by kernel_rfl
theorem ct267(G:GlOk gl)(v:Go.Ex.AV)(h1:ShowOk v):Ct prog gl 95 [.agg v.cs] (gives [.agg (textedV v).1.cs,.d (.v (.int .i64 (textedV v).2))]):=by
 refine ct_of_vc E_ok (C_t135_ok G) ioK_no it_ok mixed (fn:=f95) (body:=f95.body.getD .skip) (by kernel_rfl) (by kernel_rfl) (by kernel_rfl) (fi:=fi95) (by kernel_rfl) (by kernel_rfl) ⟨_,_,rfl,rfl⟩ ?_
 rw[vc267];dsimp -eta -iota -proj only[Zbm,Zbl,Z3]
 generalize hQ:gives [.agg (textedV v).1.cs,.d (.v (.int .i64 (textedV v).2))]=Q'
 (repeat' (first|(with_reducible refine And.intro ?_ ?_)|(intro hh;first|(exact absurd hh (by decide))|(have hd:=of_decide_eq_true hh)|(have hd:=of_decide_eq_false hh)|(have hd:=eq_of_beq hh)|(have hd:=ne_of_beq_false hh)|(have hd:=bne_iff_ne.1 hh)|(have hd:=bne_eq_false_iff_eq.1 hh)|skip)))
 all_goals first
  |(exact h1)
  |(rw[←hQ];refine⟨?_,rfl⟩;simp only[textedV, *,cond_true,cond_false];first|done|rfl)
def c_267(a:List R)(K:KT):Prop:=match a with
 |[.agg [.v (.int .i64 v_k),.v (.int .i64 v_sc),.v (.bool v_b),.v (.int .i64 v_n),.v (.string v_s)]]=>ShowOk (⟨⟨v_k,v_sc⟩,v_b,v_n,v_s⟩:Go.Ex.AV)∧K [.agg (textedV (⟨⟨v_k,v_sc⟩,v_b,v_n,v_s⟩:Go.Ex.AV)).1.cs,.d (.v (.int .i64 (textedV (⟨⟨v_k,v_sc⟩,v_b,v_n,v_s⟩:Go.Ex.AV)).2))] []
 |_=>False
theorem c_267_ok(G:GlOk gl)(a:List R)(K:KT)(h:c_267 a K):Ct prog gl 95 a K:=by
 unfold c_267 at h
 split at h
 ·obtain⟨h0,hk⟩:=h
  exact(ct267 G (⟨⟨_,_⟩,_,_,_⟩:Go.Ex.AV) h0).gives hk
 ·exact h.elim
def C_t267:CallT:=addC C_t135 95 c_267
theorem C_t267_ok(G:GlOk gl):CallsOk prog gl C_t267:=addC_ok (C_t135_ok G) (c_267_ok G)
def boolOf(l:List UInt8):Int×Int:=bif tx (capL l)==({data:={toList:=[84,82,85,69]:Array UInt8}:ByteArray})then(1,0)else bif tx (capL l)==({data:={toList:=[70,65,76,83,69]:Array UInt8}:ByteArray})then(0,0)else(0,22)
def readN(l:List UInt8)(t:Ty):Int×Int:=
 bif t.k==1 then boolOf l else bif t.k==2 then Go.Ex.intOf l else bif t.k==3 then(bif (decOf l).2.2==0 then scaleP (decOf l).1 (decOf l).2.1 t.sc else((decOf l).1,(decOf l).2.2))else bif t.k==5 then dayL l else(0,0)
def readV(l:List UInt8)(t:Ty):Go.Ex.AV×Int:=bif (readN l t).2 != 0 then(zeroV,22)else(⟨t,false,(readN l t).1,eB⟩,0)
def Zew(a0:Ty)(a1:Int):List D:=[.i a0.1,.i a0.2,.v (.bool false),.i a1,.v (.string ⟨⟨[]⟩⟩)]
def Z4(a0:Int)(a1:KT)(a2:Ty)(a3:Int):Prop:=((a0 != (0:Int))=true→Zbm a1 (22:Int))∧((a0 != (0:Int))=false→a1 [.agg (Zew a2 a3),.d (.i 0)] [])
def Zb9(a0:KT)(a1:Ty)(a2:Int):Prop:=((!true)=true→Z4 (22:Int) a0 a1 a2)∧((!true)=false→Z4 (0:Int) a0 a1 a2)
def Zbf(a0:ByteArray)(a1:KT)(a2:Ty):Prop:=((tx (capL a0.data.1)=={data:={toList:=[(70:UInt8),(65:UInt8),(76:UInt8),(83:UInt8),(69:UInt8)]:Array UInt8}:ByteArray})=true→Zb9 a1 a2 (0:Int))∧((tx (capL a0.data.1)=={data:={toList:=[(70:UInt8),(65:UInt8),(76:UInt8),(83:UInt8),(69:UInt8)]:Array UInt8}:ByteArray})=false→((!false)=true→Z4 (22:Int) a1 a2 (0:Int))∧((!false)=false→Z4 (0:Int) a1 a2 (0:Int)))
theorem vc268(s:ByteArray)(t:Ty)(Q:KT):vc E_0 C_t267 noI fi96 (f96.body.getD .skip) f96.results.toList [.d (.v (.string s)),.agg t.cs] Q=(((t.1==1)=true→(({data:={toList:=[(70:UInt8),(65:UInt8),(76:UInt8),(83:UInt8),(69:UInt8)]:Array UInt8}:ByteArray}=={data:={toList:=[(84:UInt8),(82:UInt8),(85:UInt8),(69:UInt8)]:Array UInt8}:ByteArray})=true→s.size≤(1000:Nat)∧Zbf s Q t)∧(({data:={toList:=[(70:UInt8),(65:UInt8),(76:UInt8),(83:UInt8),(69:UInt8)]:Array UInt8}:ByteArray}=={data:={toList:=[(84:UInt8),(82:UInt8),(85:UInt8),(69:UInt8)]:Array UInt8}:ByteArray})=false→s.size≤(1000:Nat)∧((tx (capL s.data.1)=={data:={toList:=[(84:UInt8),(82:UInt8),(85:UInt8),(69:UInt8)]:Array UInt8}:ByteArray})=true→Zb9 Q t (1:Int))∧((tx (capL s.data.1)=={data:={toList:=[(84:UInt8),(82:UInt8),(85:UInt8),(69:UInt8)]:Array UInt8}:ByteArray})=false→Zbf s Q t)))∧((t.1==1)=false→((t.1==2)=true→s.size≤(1000:Nat)∧(((Ex.intOf s.data.1).2 != (0:Int))=true→Zbm Q (22:Int))∧(((Ex.intOf s.data.1).2 != (0:Int))=false→Q [.agg [.i t.1,.i t.2,.v (.bool false),.v (.int .i64 (Ex.intOf s.data.1).1),.v (.string ⟨⟨[]⟩⟩)],.d (.i 0)] []))∧((t.1==2)=false→((t.1==3)=true→s.size≤(1000:Nat)∧(((decOf s.data.1).2.2==(0:Int))=true→(((scaleP (decOf s.data.1).1 (decOf s.data.1).2.1 t.2).2 != (0:Int))=true→Zbm Q (22:Int))∧(((scaleP (decOf s.data.1).1 (decOf s.data.1).2.1 t.2).2 != (0:Int))=false→Q [.agg [.i t.1,.i t.2,.v (.bool false),.v (.int .i64 (scaleP (decOf s.data.1).1 (decOf s.data.1).2.1 t.2).1),.v (.string ⟨⟨[]⟩⟩)],.d (.i 0)] []))∧(((decOf s.data.1).2.2==(0:Int))=false→(((decOf s.data.1).2.2 != (0:Int))=true→Zbm Q (22:Int))∧(((decOf s.data.1).2.2 != (0:Int))=false→Q [.agg [.i t.1,.i t.2,.v (.bool false),.v (.int .i64 (decOf s.data.1).1),.v (.string ⟨⟨[]⟩⟩)],.d (.i 0)] [])))∧((t.1==3)=false→((t.1==5)=true→s.size≤(1000:Nat)∧(((dayL s.data.1).2 != (0:Int))=true→Zbm Q (22:Int))∧(((dayL s.data.1).2 != (0:Int))=false→Q [.agg [.i t.1,.i t.2,.v (.bool false),.v (.int .i64 (dayL s.data.1).1),.v (.string ⟨⟨[]⟩⟩)],.d (.i 0)] []))∧((t.1==5)=false→Z4 (0:Int) Q t (0:Int)))))):=by kernel_rfl
theorem ct268(G:GlOk gl)(s:ByteArray)(t:Ty)(h1:s.size≤1000):Ct prog gl 96 [.d (.v (.string s)),.agg t.cs] (gives [.agg (readV s.data.toList t).1.cs,.d (.v (.int .i64 (readV s.data.toList t).2))]):=by
 refine ct_of_vc E_ok (C_t267_ok G) ioK_no it_ok mixed (fn:=f96) (body:=f96.body.getD .skip) (by kernel_rfl) (by kernel_rfl) (by kernel_rfl) (fi:=fi96) (by kernel_rfl) (by kernel_rfl) ⟨_,_,rfl,rfl⟩ ?_
 rw[vc268];dsimp -eta -iota -proj only[Zbf,Zb9,Z4,Zbm,Zbl,Z3,Zew]
 generalize hQ:gives [.agg (readV s.data.toList t).1.cs,.d (.v (.int .i64 (readV s.data.toList t).2))]=Q'
 (repeat' (first|(with_reducible refine And.intro ?_ ?_)|(intro hh;first|(exact absurd hh (by decide))|skip)))
 all_goals first
  |(exact h1)
  |(rw[←hQ];refine⟨?_,rfl⟩;simp only[readV,readN,boolOf, *,cond_true,cond_false];first|done|rfl)
  |skip
def c_268(a:List R)(K:KT):Prop:=match a with
 |[.d (.v (.string s)),.agg [.v (.int .i64 t_k),.v (.int .i64 t_sc)]]=>s.size≤1000∧K [.agg (readV s.data.toList (⟨t_k,t_sc⟩:Ty)).1.cs,.d (.v (.int .i64 (readV s.data.toList (⟨t_k,t_sc⟩:Ty)).2))] []
 |_=>False
theorem c_268_ok(G:GlOk gl)(a:List R)(K:KT)(h:c_268 a K):Ct prog gl 96 a K:=by
 unfold c_268 at h
 split at h
 ·obtain⟨h0,hk⟩:=h
  exact(ct268 G _ (⟨_,_⟩:Ty) h0).gives hk
 ·exact h.elim
def C_t268:CallT:=addC C_t267 96 c_268
theorem C_t268_ok(G:GlOk gl):CallsOk prog gl C_t268:=addC_ok (C_t267_ok G) (c_268_ok G)
end Go.Proofs.Tryz
