/- Part of the proof: contracts of functions; no condition. -/
import Derived.Test.YtabbmgfeemkkbaaGreatDoorE2
import Derived.Shelf.Strings.MapGrows
namespace Go.Proofs.Tryz
open Go Go.Dm Go.Ex
set_option maxRecDepth 100000
variable {gl:Nat→Option Obj}
theorem aek(s p:ByteArray)(Q:KT):vc NS Bb bf Sx (f219.body.getD .skip) f219.results.toList [.d (.v (.string s)),.d (.v (.string p))] Q=((decide ((↑s.size:Int)≥(↑p.size:Int))=true→fb fun l h=>l=(0:Nat)∧V.i (↑p.size:Int)=V.i (↑h:Int)∧l≤h∧h≤s.size∧True∧Q [.d (.v (.bool (s.extract l h==p)))] [])∧(decide ((↑s.size:Int)≥(↑p.size:Int)) = !true→mu Q)):=by kernel_rfl
theorem ael(G:aZ gl)(s p:ByteArray):Ct prog gl 219 [.d (.v (.string s)),.d (.v (.string p))] (gives [.d (.v (.bool (Lib.hasPrefix s.data.toList p.data.toList)))]):=by
 refine aw (E:=NS) ⟨bN.te⟩ (vi G) aF (fun _ _ _ h=>h.elim) mixed (fn:=f219) (body:=f219.body.getD .skip) (by kernel_rfl) (by kernel_rfl) (by kernel_rfl) (fi:=Sx) (by kernel_rfl) (by kernel_rfl) ⟨_,_,rfl,rfl⟩ ?_
 rw[aek];dsimp -eta -iota -proj only[fb,mu]
 refine⟨fun h=>?_,fun h=>?_⟩
 ·have h:=of_decide_eq_true h
  refine⟨0,p.size,rfl,rfl,Nat.zero_le _,by omega,trivial,?_⟩
  rw[U4 (by omega)]
  exact⟨rfl,rfl⟩
 ·have h:=of_decide_eq_false h
  rw[AH (by omega)]
  exact⟨rfl,rfl⟩
def KD(a:List R)(K:KT):Prop:=match a with
 |[.d (.v (.string s)),.d (.v (.string p))]=>K [.d (.v (.bool (Lib.hasPrefix s.data.toList p.data.toList)))] []
 |_=>False
theorem KE(G:aZ gl):CK gl KD 219:=fun a K h=>by
 unfold KD at h
 split at h
 ·exact(ael G _ _).gives h
 ·exact h.elim
def Bc:aj:=au Bb 219 KD
theorem vj(G:aZ gl):ah prog gl Bc:=af (vi G) (KE G)
theorem aem(s p:ByteArray)(Q:KT):vc bl Bc bf Ss (f195.body.getD .skip) f195.results.toList [.d (.v (.string s)),.d (.v (.string p))] Q=((Lib.hasPrefix s.data.1 p.data.1=true→fb fun l h=>V.i (↑p.size:Int)=V.i (↑l:Int)∧h=s.size∧l≤h∧h≤s.size∧True∧Q [.d (.v (.string (s.extract l h)))] [])∧(Lib.hasPrefix s.data.1 p.data.1=false→Q [.d (.v (.string s))] [])):=by kernel_rfl
theorem aen(G:aZ gl)(s p:ByteArray):Ct prog gl 195 [.d (.v (.string s)),.d (.v (.string p))] (gives [.d (.v (.string (tx (Lib.trimPrefix s.data.toList p.data.toList))))]):=by
 refine aw bN (vj G) aF bD mixed (fn:=f195) (body:=f195.body.getD .skip) (by kernel_rfl) (by kernel_rfl) (by kernel_rfl) (fi:=Ss) (by kernel_rfl) (by kernel_rfl) ⟨_,_,rfl,rfl⟩ ?_
 rw[aem];dsimp -eta -iota -proj only[fb]
 refine⟨fun h=>?_,fun h=>?_⟩
 ·have hl:p.size≤s.size:=by
   rcases Nat.lt_or_ge s.size p.size with h1|h1
   ·rw[AH (by omega)]at h;cases h
   ·exact h1
  refine⟨p.size,s.size,rfl,rfl,hl,Nat.le_refl _,trivial,?_⟩
  unfold Lib.trimPrefix
  rw[if_pos h,gL,size_data]
  exact⟨rfl,rfl⟩
 ·unfold Lib.trimPrefix
  rw[if_neg (by rw[h];decide),uG]
  exact⟨rfl,rfl⟩
def KF(a:List R)(K:KT):Prop:=match a with
 |[.d (.v (.string s)),.d (.v (.string p))]=>K [.d (.v (.string (tx (Lib.trimPrefix s.data.toList p.data.toList))))] []
 |_=>False
theorem KG(G:aZ gl):CK gl KF 195:=fun a K h=>by
 unfold KF at h
 split at h
 ·exact(aen G _ _).gives h
 ·exact h.elim
def Bd:aj:=au Bc 195 KF
theorem vl(G:aZ gl):ah prog gl Bd:=af (vj G) (KG G)
theorem aeo(s p:ByteArray)(Q:KT):vc bl Bd bf Sw (f205.body.getD .skip) f205.results.toList [.d (.v (.string s)),.d (.v (.string p))] Q=(((!Lib.hasPrefix s.data.1 p.data.1)=true→Q [.d (.v (.string s)),.d (.v (.bool false))] [])∧((!Lib.hasPrefix s.data.1 p.data.1)=false→fb fun l h=>V.i (↑p.size:Int)=V.i (↑l:Int)∧h=s.size∧l≤h∧h≤s.size∧True∧Q [.d (.v (.string (s.extract l h))),.d (.v (.bool true))] [])):=by kernel_rfl
theorem aep(G:aZ gl)(s p:ByteArray):Ct prog gl 205 [.d (.v (.string s)),.d (.v (.string p))] (gives [.d (.v (.string (tx (Lib.trimPrefix s.data.toList p.data.toList)))),.d (.v (.bool (Lib.hasPrefix s.data.toList p.data.toList)))]):=by
 refine aw bN (vl G) aF bD mixed (fn:=f205) (body:=f205.body.getD .skip) (by kernel_rfl) (by kernel_rfl) (by kernel_rfl) (fi:=Sw) (by kernel_rfl) (by kernel_rfl) ⟨_,_,rfl,rfl⟩ ?_
 rw[aeo];dsimp -eta -iota -proj only[fb]
 refine⟨fun h=>?_,fun h=>?_⟩
 ·have h:Lib.hasPrefix s.data.toList p.data.toList=false:=by simpa using h
  unfold Lib.trimPrefix
  rw[h,if_neg (by decide),uG]
  exact⟨rfl,rfl⟩
 ·have h:Lib.hasPrefix s.data.toList p.data.toList=true:=by simpa using h
  have hl:p.size≤s.size:=by
   rcases Nat.lt_or_ge s.size p.size with h1|h1
   ·rw[AH (by omega)]at h;cases h
   ·exact h1
  refine⟨p.size,s.size,rfl,rfl,hl,Nat.le_refl _,trivial,?_⟩
  unfold Lib.trimPrefix
  rw[if_pos h,gL,size_data,h]
  exact⟨rfl,rfl⟩
def KH(a:List R)(K:KT):Prop:=match a with
 |[.d (.v (.string s)),.d (.v (.string p))]=>K [.d (.v (.string (tx (Lib.trimPrefix s.data.toList p.data.toList)))),.d (.v (.bool (Lib.hasPrefix s.data.toList p.data.toList)))] []
 |_=>False
theorem KI(G:aZ gl):CK gl KH 205:=fun a K h=>by
 unfold KH at h
 split at h
 ·exact(aep G _ _).gives h
 ·exact h.elim
def Be:aj:=au Bd 205 KH
theorem vm(G:aZ gl):ah prog gl Be:=af (vl G) (KI G)
theorem aeq(s p:ByteArray)(Q:KT):vc bl Be bf Sn (f175.body.getD .skip) f175.results.toList [.d (.v (.string s)),.d (.v (.string p))] Q=(Q [.d (.v (.string (tx (Lib.trimPrefix s.data.1 p.data.1))))] []):=by kernel_rfl
theorem aer(G:aZ gl)(s p:ByteArray):Ct prog gl 175 [.d (.v (.string s)),.d (.v (.string p))] (gives [.d (.v (.string (tx (Lib.trimPrefix s.data.toList p.data.toList))))]):=by
 refine aw bN (vm G) aF bD mixed (fn:=f175) (body:=f175.body.getD .skip) (by kernel_rfl) (by kernel_rfl) (by kernel_rfl) (fi:=Sn) (by kernel_rfl) (by kernel_rfl) ⟨_,_,rfl,rfl⟩ ?_
 rw[aeq]
 exact⟨rfl,rfl⟩
def KJ(a:List R)(K:KT):Prop:=match a with
 |[.d (.v (.string s)),.d (.v (.string p))]=>K [.d (.v (.string (tx (Lib.trimPrefix s.data.toList p.data.toList))))] []
 |_=>False
theorem KK(G:aZ gl):CK gl KJ 175:=fun a K h=>by
 unfold KJ at h
 split at h
 ·exact(aer G _ _).gives h
 ·exact h.elim
def Bf:aj:=au Be 175 KJ
theorem vo(G:aZ gl):ah prog gl Bf:=af (vm G) (KK G)
theorem aes(s p:ByteArray)(Q:KT):vc bl Bf bf Sp (f182.body.getD .skip) f182.results.toList [.d (.v (.string s)),.d (.v (.string p))] Q=(Q [.d (.v (.string (tx (Lib.trimPrefix s.data.1 p.data.1)))),.d (.v (.bool (Lib.hasPrefix s.data.1 p.data.1)))] []):=by kernel_rfl
theorem aet(G:aZ gl)(s p:ByteArray):Ct prog gl 182 [.d (.v (.string s)),.d (.v (.string p))] (gives [.d (.v (.string (tx (Lib.trimPrefix s.data.toList p.data.toList)))),.d (.v (.bool (Lib.hasPrefix s.data.toList p.data.toList)))]):=by
 refine aw bN (vo G) aF bD mixed (fn:=f182) (body:=f182.body.getD .skip) (by kernel_rfl) (by kernel_rfl) (by kernel_rfl) (fi:=Sp) (by kernel_rfl) (by kernel_rfl) ⟨_,_,rfl,rfl⟩ ?_
 rw[aes]
 exact⟨rfl,rfl⟩
def KL(a:List R)(K:KT):Prop:=match a with
 |[.d (.v (.string s)),.d (.v (.string p))]=>K [.d (.v (.string (tx (Lib.trimPrefix s.data.toList p.data.toList)))),.d (.v (.bool (Lib.hasPrefix s.data.toList p.data.toList)))] []
 |_=>False
theorem KM(G:aZ gl):CK gl KL 182:=fun a K h=>by
 unfold KL at h
 split at h
 ·exact(aet G _ _).gives h
 ·exact h.elim
def Bg:aj:=au Bf 182 KL
theorem vp(G:aZ gl):ah prog gl Bg:=af (vo G) (KM G)
theorem aeu(s:ByteArray)(Q:KT):vc NS Bg bf Sm (f174.body.getD .skip) f174.results.toList [.d (.v (.string s))] Q=(((!s=={data:={toList:=[]:Array UInt8}:ByteArray})=true→{data:={toList:=[(48:UInt8),(49:UInt8),(50:UInt8),(51:UInt8),(52:UInt8),(53:UInt8),(54:UInt8),(55:UInt8),(56:UInt8),(57:UInt8)]:Array UInt8}:ByteArray}=tx qm∧s.size≤(9223372036854775807:Nat)∧Q [.d (.v (.bool (tx (Lib.trimS s.data.1 qm)=={data:={toList:=[]:Array UInt8}:ByteArray})))] [])∧((!s=={data:={toList:=[]:Array UInt8}:ByteArray}) = !true→mu Q)):=by kernel_rfl
theorem aev(G:aZ gl)(s:ByteArray)(h1:s.size≤1000):Ct prog gl 174 [.d (.v (.string s))] (gives [.d (.v (.bool (aR s.data.toList)))]):=by
 refine aw (E:=NS) ⟨bN.te⟩ (vp G) aF (fun _ _ _ h=>h.elim) mixed (fn:=f174) (body:=f174.body.getD .skip) (by kernel_rfl) (by kernel_rfl) (by kernel_rfl) (fi:=Sm) (by kernel_rfl) (by kernel_rfl) ⟨_,_,rfl,rfl⟩ ?_
 rw[aeu];dsimp -eta -iota -proj only[mu]
 have e:=Eh s.data.toList
 rw[uG]at e
 refine⟨fun h=>⟨rfl,by omega,?_⟩,fun h=>?_⟩
 ·have h:(s != tx [])=true:=h
  rw[h,cond_true]at e
  rw[←e]
  exact⟨rfl,rfl⟩
 ·have h:(s != tx [])=false:=h
  rw[h,cond_false]at e
  rw[←e]
  exact⟨rfl,rfl⟩
def KN(a:List R)(K:KT):Prop:=match a with
 |[.d (.v (.string s))]=>s.size≤1000∧K [.d (.v (.bool (aR s.data.toList)))] []
 |_=>False
theorem KO(G:aZ gl):CK gl KN 174:=fun a K h=>by
 unfold KN at h
 split at h
 ·obtain⟨h0,hk⟩:=h
  exact(aev G _ h0).gives hk
 ·exact h.elim
def Bh:aj:=au Bg 174 KN
theorem vq(G:aZ gl):ah prog gl Bh:=af (vp G) (KO G)
theorem aew(s:ByteArray)(n:Int)(Q:KT):vc bl Bh bf Sq (f183.body.getD .skip) f183.results.toList [.d (.v (.string s)),.d (.v (.int .i64 n))] Q=(((0:Int)≤if IntKind.i64.wrap (n-(↑s.size:Int))>(0:Int)then IntKind.i64.wrap (n-(↑s.size:Int))else(0:Int))∧(if IntKind.i64.wrap (n-(↑s.size:Int))>(0:Int)then IntKind.i64.wrap (n-(↑s.size:Int))else(0:Int))≤(1000:Int)∧{data:={toList:=[(48:UInt8)]:Array UInt8}:ByteArray}.size≤(1000:Nat)∧(tx (Lib.repeatL [(48:UInt8)] (if IntKind.i64.wrap (n-(↑s.size:Int))>(0:Int)then IntKind.i64.wrap (n-(↑s.size:Int))else(0:Int)).toNat)).size.add s.size≤(9223372036854775807:Nat)∧Q [.d (.v (.string (tx (Lib.repeatL [(48:UInt8)] (if IntKind.i64.wrap (n-(↑s.size:Int))>(0:Int)then IntKind.i64.wrap (n-(↑s.size:Int))else(0:Int)).toNat)++s)))] []):=by kernel_rfl
theorem aex(G:aZ gl)(s:ByteArray)(n:Int)(h1:s.size≤100)(h2:0≤n)(h3:n≤100):Ct prog gl 183 [.d (.v (.string s)),.d (.v (.int .i64 n))] (gives [.d (.v (.string (tx (di s.data.toList n))))]):=by
 refine aw bN (vq G) aF bD mixed (fn:=f183) (body:=f183.body.getD .skip) (by kernel_rfl) (by kernel_rfl) (by kernel_rfl) (fi:=Sq) (by kernel_rfl) (by kernel_rfl) ⟨_,_,rfl,rfl⟩ ?_
 rw[aew]
 rw[a_ (by omega)]
 have hx:(if n-(s.size:Int)>0 then n-(s.size:Int)else 0)≤100∧0≤(if n-(s.size:Int)>0 then n-(s.size:Int)else 0):=by split<;>omega
 refine⟨hx.2,by omega,by decide,?_,?_,rfl⟩
 ·show(tx _).size+s.size≤_
  rw[az,ng]
  omega
 ·unfold di
  rw[←aD,uG,size_data]
def KP(a:List R)(K:KT):Prop:=match a with
 |[.d (.v (.string s)),.d (.v (.int .i64 n))]=>s.size≤100∧0≤n∧n≤100∧K [.d (.v (.string (tx (di s.data.toList n))))] []
 |_=>False
theorem KQ(G:aZ gl):CK gl KP 183:=fun a K h=>by
 unfold KP at h
 split at h
 ·obtain⟨h0,h1,h2,hk⟩:=h
  exact(aex G _ _ h0 h1 h2).gives hk
 ·exact h.elim
def Bi:aj:=au Bh 183 KP
theorem vr(G:aZ gl):ah prog gl Bi:=af (vq G) (KQ G)
theorem Vc(n:Int)(Q:KT):vc bl Bi bf Si (f168.body.getD .skip) f168.results.toList [.d (.v (.int .i64 n))] Q=((10:Int)=(10:Int)∧ar n∧Q [.d (.v (.string (tx (Lib.itoa n))))] []):=by kernel_rfl
theorem Vd(G:aZ gl)(n:Int)(h1:ar n):Ct prog gl 168 [.d (.v (.int .i64 n))] (gives [.d (.v (.string (tx (Lib.itoa n))))]):=by
 refine aw bN (vr G) aF bD mixed (fn:=f168) (body:=f168.body.getD .skip) (by kernel_rfl) (by kernel_rfl) (by kernel_rfl) (fi:=Si) (by kernel_rfl) (by kernel_rfl) ⟨_,_,rfl,rfl⟩ ?_
 rw[Vc]
 exact⟨rfl,h1,rfl,rfl⟩
def Bj(a:List R)(K:KT):Prop:=match a with
 |[.d (.v (.int .i64 n))]=>ar n∧K [.d (.v (.string (tx (Lib.itoa n))))] []
 |_=>False
theorem EA(G:aZ gl):CK gl Bj 168:=fun a K h=>by
 unfold Bj at h
 split at h
 ·obtain⟨h0,hk⟩:=h
  exact(Vd G _ h0).gives hk
 ·exact h.elim
def xp:aj:=au Bi 168 Bj
theorem sQ(G:aZ gl):ah prog gl xp:=af (vr G) (EA G)
def Zj7(a0 a1:Int)(a2:Nat)(k:Prop):Prop:=V.i (IntKind.i64.wrap ((↑(tx (di (Lib.trimPrefix (Lib.itoa a0) [(45:UInt8)]) (IntKind.i64.wrap (a1+1)))).size:Int)-a1))=V.i (↑a2:Int)∧k
theorem aey(v n:Int)(Q:KT):vc bl xp bf Sj (f170.body.getD .skip) f170.results.toList [.d (.v (.int .i64 v)),.d (.v (.int .i64 n))] Q=(((!b7 n)=true→SZ Q (1:Int))∧((!b7 n)=false→ar v∧(tx (Lib.trimPrefix (Lib.itoa v) [(45:UInt8)])).size≤(100:Nat)∧(0:Int)≤IntKind.i64.wrap (n+1)∧IntKind.i64.wrap (n+1)≤(100:Int)∧(decide (n>0)=true→fb fun l h=>l=(0:Nat)∧Zj7 v n h (l≤h∧h≤(tx (di (Lib.trimPrefix (Lib.itoa v) [(45:UInt8)]) (IntKind.i64.wrap (n+1)))).size∧True∧((tx (di (Lib.trimPrefix (Lib.itoa v) [(45:UInt8)]) (IntKind.i64.wrap (n+1)))).extract l h).size.succ≤(9223372036854775807:Nat)∧fb fun gh iv=>Zj7 v n gh (iv=(tx (di (Lib.trimPrefix (Lib.itoa v) [(45:UInt8)]) (IntKind.i64.wrap (n+1)))).size∧gh≤iv∧iv≤(tx (di (Lib.trimPrefix (Lib.itoa v) [(45:UInt8)]) (IntKind.i64.wrap (n+1)))).size∧True∧((tx (di (Lib.trimPrefix (Lib.itoa v) [(45:UInt8)]) (IntKind.i64.wrap (n+1)))).extract l h++{data:={toList:=[(46:UInt8)]:Array UInt8}:ByteArray}).size.add ((tx (di (Lib.trimPrefix (Lib.itoa v) [(45:UInt8)]) (IntKind.i64.wrap (n+1)))).extract gh iv).size≤(9223372036854775807:Nat)∧(Lib.hasPrefix (Lib.itoa v) [(45:UInt8)]=true→{data:={toList:=[(45:UInt8)]:Array UInt8}:ByteArray}.size.add ((tx (di (Lib.trimPrefix (Lib.itoa v) [(45:UInt8)]) (IntKind.i64.wrap (n+1)))).extract l h++{data:={toList:=[(46:UInt8)]:Array UInt8}:ByteArray}++(tx (di (Lib.trimPrefix (Lib.itoa v) [(45:UInt8)]) (IntKind.i64.wrap (n+1)))).extract gh iv).size≤(9223372036854775807:Nat)∧Q [.d (.v (.string ({data:={toList:=[(45:UInt8)]:Array UInt8}:ByteArray}++((tx (di (Lib.trimPrefix (Lib.itoa v) [(45:UInt8)]) (IntKind.i64.wrap (n+1)))).extract l h++{data:={toList:=[(46:UInt8)]:Array UInt8}:ByteArray}++(tx (di (Lib.trimPrefix (Lib.itoa v) [(45:UInt8)]) (IntKind.i64.wrap (n+1)))).extract gh iv)))),.d (.i 0)] [])∧(Lib.hasPrefix (Lib.itoa v) [(45:UInt8)]=false→Q [.d (.v (.string ((tx (di (Lib.trimPrefix (Lib.itoa v) [(45:UInt8)]) (IntKind.i64.wrap (n+1)))).extract l h++{data:={toList:=[(46:UInt8)]:Array UInt8}:ByteArray}++(tx (di (Lib.trimPrefix (Lib.itoa v) [(45:UInt8)]) (IntKind.i64.wrap (n+1)))).extract gh iv))),.d (.i 0)] []))))∧(decide (n>0)=false→(Lib.hasPrefix (Lib.itoa v) [(45:UInt8)]=true→{data:={toList:=[(45:UInt8)]:Array UInt8}:ByteArray}.size.add (tx (di (Lib.trimPrefix (Lib.itoa v) [(45:UInt8)]) (IntKind.i64.wrap (n+1)))).size≤(9223372036854775807:Nat)∧Q [.d (.v (.string ({data:={toList:=[(45:UInt8)]:Array UInt8}:ByteArray}++tx (di (Lib.trimPrefix (Lib.itoa v) [(45:UInt8)]) (IntKind.i64.wrap (n+1)))))),.d (.i 0)] [])∧(Lib.hasPrefix (Lib.itoa v) [(45:UInt8)]=false→Q [.d (.v (.string (tx (di (Lib.trimPrefix (Lib.itoa v) [(45:UInt8)]) (IntKind.i64.wrap (n+1)))))),.d (.i 0)] [])))):=by kernel_rfl
theorem aez(G:aZ gl)(v n:Int)(h1:ar v)(h2:0≤n)(h3:n≤18):Ct prog gl 170 [.d (.v (.int .i64 v)),.d (.v (.int .i64 n))] (gives [.d (.v (.string (tx (tP v n)))),.d (.v (.int .i64 0))]):=by
 refine aw bN (sQ G) aF bD mixed (fn:=f170) (body:=f170.body.getD .skip) (by kernel_rfl) (by kernel_rfl) (by kernel_rfl) (fi:=Sj) (by kernel_rfl) (by kernel_rfl) ⟨_,_,rfl,rfl⟩ ?_
 rw[aey];dsimp -eta -iota -proj only[SZ,XL,fb,Zj7]
 have hs:b7 n=true:=fY.2 ⟨h2,h3⟩
 rw[hs]
 refine⟨fun h=>(by cases h),fun _=>⟨h1,?_,?_⟩⟩
 ·rw[az];have:=lD h1;have:=er (Lib.itoa v) [45];omega
 rw[a_ (n:=n+1) (by omega)]
 refine⟨by omega,by omega,?_⟩
 have hp:(di (Lib.trimPrefix (Lib.itoa v) [45]) (n+1)).length≤21:=qO (Nat.le_trans (er _ _) (lD h1)) (by omega)
 have hq:=yU (Lib.trimPrefix (Lib.itoa v) [45]) (n+1)
 have hq:n+1≤((di (Lib.trimPrefix (Lib.itoa v) [45]) (n+1)).length:Int):=by split at hq<;>omega
 unfold tP
 dsimp only
 generalize di (Lib.trimPrefix (Lib.itoa v) [45]) (n+1)=s at *
 refine⟨fun h=>?_,fun h=>?_⟩
 ·have h:=of_decide_eq_true h
  have e1:(tx s).extract 0 (s.length-n.toNat)=tx (s.take (s.length-n.toNat)):=fZ _ _
  have e2:(tx s).extract (s.length-n.toNat) (tx s).size=tx (s.drop (s.length-n.toNat)):=gL _ _
  have e3:IntKind.i64.wrap (((tx s).size:Int)-n)=((s.length-n.toNat:Nat):Int):=by rw[az,a_ (by omega)];omega
  refine⟨0,s.length-n.toNat,rfl,by rw[e3],Nat.zero_le _,by rw[az];omega,trivial,?_,s.length-n.toNat,(tx s).size,by rw[e3],rfl,by rw[az];omega,Nat.le_refl _,trivial,?_,?_⟩
  ·rw[e1,az,List.length_take];omega
  ·rw[e1,e2]
   show ByteArray.size (tx _++tx [46])+ByteArray.size (tx _)≤_
   rw[aD,az,az]
   simp;omega
  ·rw[e1,e2,if_pos h]
   refine⟨fun h'=>⟨?_,?_,rfl⟩,fun h'=>⟨?_,rfl⟩⟩
   ·show ByteArray.size (tx [45])+ByteArray.size (tx _++tx [46]++tx _)≤_
    rw[aD,aD,az,az]
    simp;omega
   ·rw[if_pos h']
    show [R.d (D.v (Value.string (tx [45]++(tx _++tx [46]++tx _)))),_]=_
    rw[aD,aD,aD]
    rfl
   ·rw[if_neg (by rw[h'];decide)]
    show [R.d (D.v (Value.string (tx _++tx [46]++tx _))),_]=_
    rw[aD,aD]
 ·have h:=of_decide_eq_false h
  rw[if_neg h]
  refine⟨fun h'=>⟨?_,?_,rfl⟩,fun h'=>⟨?_,rfl⟩⟩
  ·show ByteArray.size (tx [45])+ByteArray.size (tx _)≤_
   rw[az,az]
   simp;omega
  ·rw[if_pos h']
   show [R.d (D.v (Value.string (tx [45]++tx _))),_]=_
   rw[aD]
   rfl
  ·rw[if_neg (by rw[h'];decide)]
def KR(a:List R)(K:KT):Prop:=match a with
 |[.d (.v (.int .i64 v)),.d (.v (.int .i64 n))]=>ar v∧0≤n∧n≤18∧K [.d (.v (.string (tx (tP v n)))),.d (.v (.int .i64 0))] []
 |_=>False
theorem KS(G:aZ gl):CK gl KR 170:=fun a K h=>by
 unfold KR at h
 split at h
 ·obtain⟨h0,h1,h2,hk⟩:=h
  exact(aez G _ _ h0 h1 h2).gives hk
 ·exact h.elim
def Bk:aj:=au xp 170 KR
theorem vt(G:aZ gl):ah prog gl Bk:=af (sQ G) (KS G)
structure CX where
 y:Int
 m:Nat
 d:Int
def Df(n:Int)(x:CX):St:={tm:=[(0,.d (.v (.int .i64 (n+719162)))),(2,.d (.v (.int .i64 0))),(3,.d (.v (.int .i64 0))),(4,.d (.v (.int .i64 0))),(5,.d (.v (.int .i64 0))),(6,.d (.v (.int .i64 x.y)))],hp:=[],kn:=[],gd:=[]}
def Ql(n:Int)(x:CX):St:={tm:=[(2,.d (.v (.int .i64 0))),(3,.d (.v (.int .i64 0))),(4,.d (.v (.int .i64 0))),(5,.d (.v (.int .i64 0))),(6,.d (.v (.int .i64 x.y))),(7,.d (.v (.int .i64 x.d))),(8,.d (.v (.int .i64 ((x.m:Int)+1))))],hp:=[],kn:=[],gd:=[]}
def KU(n:Int):Fi:={ZO with lx:=[(5,{X:=CX,sh:=Df n,P:=fun _ k x=>1≤x.y∧x.y≤10001∧k=x.y.toNat}),(7,{X:=CX,sh:=Df n,P:=fun _ k x=>1≤x.y∧x.y≤9999∧aC x.y≤n+719162∧k=10001-x.y.toNat}),(11,{X:=CX,sh:=Ql n,P:=fun _ k x=>1≤x.y∧x.y≤9999∧x.m<12∧0≤x.d∧x.d≤366∧x.d+cO x.y x.m=n+719162-aC x.y∧n+719162<aC (x.y+1)∧k=12-x.m})]}
def WM(a0:Int)(a1:CX):St:={tm:=[(0,.i (a0+719162)),(2,.i 0),(3,.i 0),(4,.i 0),(5,.i 0),(6,.i a1.1)],hp:=[],kn:=[],gd:=[]:St}
def Zhr(a0:CX):St:={tm:=[(2,.i 0),(3,.i 0),(4,.i 0),(5,.i 0),(6,.i a0.1),(7,.i a0.3),(8,.i ((↑a0.2:Int)+1))],hp:=[],kn:=[],gd:=[]:St}
def Zjh(a0:CX)(a1:Int)(a2:Nat):Prop:=(1:Int)≤a0.1∧a0.1≤9999∧a0.2<(12:Nat)∧(0:Int)≤a0.3∧a0.3≤366∧a0.3+cO a0.1 a0.2=a1+719162-aC a0.1∧a1+719162<aC (a0.1+1)∧a2=(12:Nat)-a0.2
theorem aeA(n:Int)(Q:KT):vc bl Bk bf (KU n) (f184.body.getD .skip) f184.results.toList [.d (.v (.int .i64 n))] Q=((Zjw n Q)∧(Vb n ((146097:Int)≠(0:Int)∧∃(x0:CX),({tm:=[(0,.i (IntKind.i64.wrap (n-(-719162:Int)))),(2,.i 0),(3,.i 0),(4,.i 0),(5,.i 0),(6,.i (IntKind.i64.wrap (IntKind.i64.wrap ((IntKind.i64.wrap (IntKind.i64.wrap (n-(-719162:Int))*(400:Int))).tdiv (146097:Int))+(1:Int))))],hp:=[],kn:=[],gd:=[]:St}=(WM n x0)∧∃(n:Nat),(1:Int)≤x0.1∧x0.1≤10001∧n=x0.1.toNat)∧∀(aN:Nat) (x:CX),(1:Int)≤x.1∧x.1≤10001∧aN=x.1.toNat→(1:Int)≤x.1∧x.1≤100000∧(decide (aC x.1>n+719162)=true→∃(m:Nat),∃(x':CX),m<aN∧{tm:=[(0,.i (n+719162)),(2,.i 0),(3,.i 0),(4,.i 0),(5,.i 0),(6,.i (IntKind.i64.wrap (x.1-1)))],hp:=[],kn:=[],gd:=[]:St}=(WM n x')∧(1:Int)≤x'.1∧x'.1≤(10001:Int)∧m=x'.1.toNat)∧(decide (aC x.1>n+719162)=false→∃(x0:CX),((WM n x)=(WM n x0)∧∃(aW:Nat),(1:Int)≤x0.1∧x0.1≤9999∧aC x0.1≤n+719162∧aW=(10001:Nat)-x0.1.toNat)∧∀(aW:Nat) (x:CX),(1:Int)≤x.1∧x.1≤9999∧aC x.1≤n+719162∧aW=(10001:Nat)-x.1.toNat→(1:Int)≤IntKind.i64.wrap (x.1+1)∧IntKind.i64.wrap (x.1+1)≤(100000:Int)∧(decide (aC (IntKind.i64.wrap (x.1+1))≤n+719162)=true→∃(m:Nat),∃(x':CX),m<aW∧{tm:=[(0,.i (n+719162)),(2,.i 0),(3,.i 0),(4,.i 0),(5,.i 0),(6,.i (IntKind.i64.wrap (x.1+1)))],hp:=[],kn:=[],gd:=[]:St}=(WM n x')∧(1:Int)≤x'.1∧x'.1≤(9999:Int)∧aC x'.1≤n+719162∧m=(10001:Nat)-x'.1.toNat)∧(decide (aC (IntKind.i64.wrap (x.1+1))≤n+719162)=false→(1:Int)≤x.1∧x.1≤100000∧∃(x0:CX),({tm:=[(2,.i 0),(3,.i 0),(4,.i 0),(5,.i 0),(6,.i x.1),(7,.i (IntKind.i64.wrap (n+719162-aC x.1))),(8,.i 1)],hp:=[],kn:=[],gd:=[]:St}=(Zhr x0)∧∃(bO:Nat),Zjh x0 n bO)∧∀(bO:Nat) (x:CX),(1:Int)≤x.1∧x.1≤9999∧x.2<(12:Nat)∧(0:Int)≤x.3∧x.3≤366∧x.3+cO x.1 x.2=n+719162-aC x.1∧n+719162<aC (x.1+1)∧bO=(12:Nat)-x.2→1≤(↑x.2:Int)+1∧(↑x.2:Int)+1≤(12:Int)∧(decide (x.3≥bB x.1 ((↑x.2:Int)+1))=true→1≤(↑x.2:Int)+1∧(↑x.2:Int)+1≤(12:Int)∧∃(m:Nat),∃(x':CX),m<bO∧{tm:=[(2,.i 0),(3,.i 0),(4,.i 0),(5,.i 0),(6,.i x.1),(7,.i (IntKind.i64.wrap (x.3-bB x.1 ((↑x.2:Int)+1)))),(8,.i (IntKind.i64.wrap ((↑x.2:Int)+1+(1:Int))))],hp:=[],kn:=[],gd:=[]:St}=(Zhr x')∧Zjh x' n m)∧(decide (x.3≥bB x.1 ((↑x.2:Int)+1))=false→Q [.d (.i x.1),.d (.i ((↑x.2:Int)+1)),.d (.i (IntKind.i64.wrap (x.3+1))),.d (.i 0)] [])))))):=by kernel_rfl
theorem aeB(G:aZ gl)(n:Int)(h1:-719162≤n)(h2:n≤2932896):Ct prog gl 184 [.d (.v (.int .i64 n))] (fun res fin=>fin=[]∧∃y m d,jX n y m d∧res=[.d (.v (.int .i64 y)),.d (.v (.int .i64 m)),.d (.v (.int .i64 d)),.d (.v (.int .i64 0))]):=by
 refine aw bN (vt G) aF bD mixed (fn:=f184) (body:=f184.body.getD .skip) (by kernel_rfl) (by kernel_rfl) (by kernel_rfl) (fi:=KU n) (by kernel_rfl) (by kernel_rfl) (let ⟨y,m,d,h⟩:=sH h1 h2;⟨_,_,rfl,y,m,d,h,rfl⟩) ?_
 rw[aeA];dsimp -eta -iota -proj only[Zjw,WL,Vb,WM,Zhr,Zjh]
 have e0:(bif decide (n < -719162)then true else decide (n>2932896))=false:=by
  rw[decide_eq_false (by omega),decide_eq_false (by omega)];rfl
 rw[e0]
 refine⟨fun h=>(by cases h),fun _=>⟨by decide,⟨(n+719162)*400/146097+1,0,0⟩,⟨?_,_,?_,?_,rfl⟩,fun k x hx=>⟨by omega,by omega,fun hi=>?_,fun hi=>?_⟩⟩⟩
 ·rw[a_ (n:=n - -719162) (by omega),ai (n:=(n - -719162)*400) (by omega) (by omega),Int.tdiv_eq_ediv_of_nonneg (by omega),a_ (n:=(n - -719162)*400/146097) (by omega),a_ (n:=(n - -719162)*400/146097+1) (by omega)]
  all_goals(try(show _=St.mk _ _ _ _ _))
  all_goals(try rw[show n - -719162=n+719162 by omega])
  all_goals(try rfl)
 ·show 1≤(n+719162)*400/146097+1;omega
 ·show(n+719162)*400/146097+1≤10001;omega
 ·obtain⟨x1,x2,x3⟩:=hx
  have hi:=of_decide_eq_true hi
  have bT:x.y≠1:=by
   intro e
   rw[e]at hi
   have:aC 1=0:=rfl
   omega
  refine⟨k-1,⟨x.y-1,0,0⟩,by omega,?_,?_,?_,?_⟩
  ·rw[a_ (n:=x.y-1) (by omega)]
   all_goals(try rfl)
  ·show 1≤x.y-1;omega
  ·show x.y-1≤10001;omega
  ·show k-1=(x.y-1).toNat;omega
 ·obtain⟨x1,x2,x3⟩:=hx
  have hi:=of_decide_eq_false hi
  have hy9:x.y≤9999:=by
   unfold aC at hi;omega
  refine⟨x,⟨rfl,_,x1,hy9,by omega,rfl⟩,fun k2 z hz=>?_⟩
  obtain⟨z1,z2,z3,z4⟩:=hz
  rw[a_ (n:=z.y+1) (by omega)]
  refine⟨by omega,by omega,fun hi=>?_,fun hi=>?_⟩
  ·have hi:=of_decide_eq_true hi
   have:z.y+1≤9999:=by unfold aC at hi;omega
   exact⟨k2-1,⟨z.y+1,0,0⟩,by omega,rfl,by show 1≤z.y+1;omega,this,hi,by show k2-1=10001-(z.y+1).toNat;omega⟩
  ·have hi:=of_decide_eq_false hi
   have hs:=fk z1
   have hl:=sF z.y
   have hyb:=fB (y:=z.y) z1 (by omega)
   refine⟨by omega,by omega,⟨z.y,0,n+719162-aC z.y⟩,⟨?_,_,z1,z2,(by show 0<12;decide),?_,?_,?_,?_,rfl⟩,fun k3 u hu=>?_⟩
   ·rw[a_ (n:=n+719162-aC z.y) (by omega)]
    rfl
   ·show 0≤n+719162-aC z.y;omega
   ·show n+719162-aC z.y≤366;omega
   ·show n+719162-aC z.y+cO z.y 0=n+719162-aC z.y
    have:cO z.y 0=0:=rfl
    omega
   ·show n+719162<aC (z.y+1);omega
   ·obtain⟨u1,u2,u3,u4,u5,u6,u7,u8⟩:=hu
    have hm:=eI (y:=u.y) (m:=(u.m:Int)+1) (by omega) (by omega) (by omega)
    have hsu:=fk u1
    have h12:=dh (y:=u.y) (j:=u.m+1) (k:=12) (by omega) (by omega) (by omega)
    refine⟨by omega,by omega,fun hi=>?_,fun hi=>?_⟩
    ·have hi:=of_decide_eq_true hi
     have hlt:u.m+1<12:=by
         rcases Nat.lt_or_ge (u.m+1) 12 with h|h
         ·exact h
         ·have e:u.m=11:=by omega
          have e12:=kB u.y (by omega)
          have:cO u.y 12=cO u.y 11+bB u.y ((11:Nat)+1):=rfl
          rw[e]at hi u6
          omega
     refine⟨by omega,by omega,k3-1,⟨u.y,u.m+1,u.d-bB u.y ((u.m:Int)+1)⟩,by omega,?_,u1,u2,hlt,?_,?_,?_,u7,?_⟩
     ·rw[a_ (n:=u.d-bB u.y ((u.m:Int)+1)) (by omega),a_ (n:=(u.m:Int)+1+1) (by omega)]
      all_goals(try rw[show((u.m:Int)+1+1)=((u.m+1:Nat):Int)+1 by omega])
      all_goals(try rfl)
     ·show 0≤u.d-bB u.y ((u.m:Int)+1);omega
     ·show u.d-bB u.y ((u.m:Int)+1)≤366;omega
     ·show u.d-bB u.y ((u.m:Int)+1)+cO u.y (u.m+1)=_
      simp only[cO];omega
     ·show k3-1=12-(u.m+1);omega
    ·have hi:=of_decide_eq_false hi
     rw[a_ (n:=u.d+1) (by omega)]
     refine⟨rfl,u.y,(u.m:Int)+1,u.d+1,⟨u1,u2,by omega,by omega,by omega,by omega,?_⟩,rfl⟩
     rw[show((u.m:Int)+1-1).toNat=u.m by omega]
     omega
def KV(a:List R)(K:KT):Prop:=match a with
 |[.d (.v (.int .i64 n))]=>-719162≤n∧n≤2932896∧∀y m d:Int,jX n y m d→K [.d (.v (.int .i64 y)),.d (.v (.int .i64 m)),.d (.v (.int .i64 d)),.d (.v (.int .i64 0))] []
 |_=>False
theorem KW(G:aZ gl):CK gl KV 184:=fun a K h=>by
 unfold KV at h
 split at h
 ·obtain⟨h1,h2,h3⟩:=h
  exact(aeB G _ h1 h2).mono fun res fin ⟨e1,y,m,d,h,e2⟩=>by subst e1;subst e2;exact h3 y m d h
 ·exact h.elim
def Bl:aj:=au Bk 184 KV
theorem vu(G:aZ gl):ah prog gl Bl:=af (vt G) (KW G)
theorem aeC(n:Int)(Q:KT):vc bl Bl bf Sk (f171.body.getD .skip) f171.results.toList [.d (.v (.int .i64 n))] Q=((-719162:Int)≤n∧n≤2932896∧∀(y m d:Int),jX n y m d→(((0:Int) != (0:Int))=true→SZ Q (0:Int))∧(((0:Int) != (0:Int))=false→ar y∧(tx (Lib.itoa y)).size≤(100:Nat)∧(0:Int)≤4∧(4:Int)≤100∧(tx (di (Lib.itoa y) (4:Int))).size.succ≤(9223372036854775807:Nat)∧ar m∧(tx (Lib.itoa m)).size≤(100:Nat)∧(0:Int)≤2∧(2:Int)≤100∧(tx (di (Lib.itoa y) (4:Int))++{data:={toList:=[(45:UInt8)]:Array UInt8}:ByteArray}).size.add (tx (di (Lib.itoa m) (2:Int))).size≤(9223372036854775807:Nat)∧(tx (di (Lib.itoa y) (4:Int))++{data:={toList:=[(45:UInt8)]:Array UInt8}:ByteArray}++tx (di (Lib.itoa m) (2:Int))).size.succ≤(9223372036854775807:Nat)∧ar d∧(tx (Lib.itoa d)).size≤(100:Nat)∧(0:Int)≤2∧(2:Int)≤100∧(tx (di (Lib.itoa y) (4:Int))++{data:={toList:=[(45:UInt8)]:Array UInt8}:ByteArray}++tx (di (Lib.itoa m) (2:Int))++{data:={toList:=[(45:UInt8)]:Array UInt8}:ByteArray}).size.add (tx (di (Lib.itoa d) (2:Int))).size≤(9223372036854775807:Nat)∧Q [.d (.v (.string (tx (di (Lib.itoa y) (4:Int))++{data:={toList:=[(45:UInt8)]:Array UInt8}:ByteArray}++tx (di (Lib.itoa m) (2:Int))++{data:={toList:=[(45:UInt8)]:Array UInt8}:ByteArray}++tx (di (Lib.itoa d) (2:Int))))),.d (.i 0)] [])):=by kernel_rfl
theorem aeD(G:aZ gl)(n:Int)(h1:-719162≤n)(h2:n≤2932896):Ct prog gl 171 [.d (.v (.int .i64 n))] (gives [.d (.v (.string (tx (n5 n)))),.d (.v (.int .i64 0))]):=by
 refine aw bN (vu G) aF bD mixed (fn:=f171) (body:=f171.body.getD .skip) (by kernel_rfl) (by kernel_rfl) (by kernel_rfl) (fi:=Sk) (by kernel_rfl) (by kernel_rfl) ⟨_,_,rfl,rfl⟩ ?_
 rw[aeC];dsimp -eta -iota -proj only[SZ,XL]
 refine⟨h1,h2,fun y m d hc=>⟨fun h=>(by cases h),fun _=>?_⟩⟩
 rw[yV hc]
 obtain⟨c1,c2,c3,c4,c5,c6,c7⟩:=hc
 have hm:=eI (y:=y) (m:=m) (by omega) c3 c4
 have iy:ar y:=⟨by omega,by omega⟩
 have im:ar m:=⟨by omega,by omega⟩
 have id:ar d:=⟨by omega,by omega⟩
 have ly:=lD iy
 have lm:=lD im
 have ld:=lD id
 have py:=qO ly (show(4:Int)≤((21:Nat):Int) by decide)
 have pm:=qO lm (show(2:Int)≤((21:Nat):Int) by decide)
 have pd:=qO ld (show(2:Int)≤((21:Nat):Int) by decide)
 have WK:({data:={toList:=[45]}}:ByteArray)=tx [45]:=rfl
 rw[WK]
 unfold P6
 refine⟨iy,by rw[az];omega,by decide,by decide,?_,im,by rw[az];omega,by decide,by decide,?_,?_,id,by rw[az];omega,by decide,by decide,?_,?_,rfl⟩
 ·rw[az];omega
 ·rw[aD,az,az];simp;omega
 ·rw[aD,aD,az];simp;omega
 ·rw[aD,aD,aD,az,az];simp;omega
 ·rw[aD,aD,aD,aD]
def KX(a:List R)(K:KT):Prop:=match a with
 |[.d (.v (.int .i64 n))]=>-719162≤n∧n≤2932896∧K [.d (.v (.string (tx (n5 n)))),.d (.v (.int .i64 0))] []
 |_=>False
theorem KY(G:aZ gl):CK gl KX 171:=fun a K h=>by
 unfold KX at h
 split at h
 ·obtain⟨h0,h1,hk⟩:=h
  exact(aeD G _ h0 h1).gives hk
 ·exact h.elim
def KZ:aj:=au Bl 171 KX
theorem EB(G:aZ gl):ah prog gl KZ:=af (vu G) (KY G)
def jH(l:List UInt8):List UInt8:=Lib.mapD (fun x=>fj x) l
theorem Qm(x:Nat)(h:x≤1114111):-2147483648≤fj (x:Int)∧fj (x:Int)≤2147483647:=by
 unfold fj
 cases hb:(bif decide ((x:Int)≥97)then decide ((x:Int)≤122)else false)
 ·simp only[cond_false];omega
 ·simp only[cond_true]
  have h1:(97:Int)≤x:=by
   revert hb
   by_cases h1:(x:Int)≥97<;>simp[h1]
  rw[show IntKind.i32.wrap ((x:Int)-32)=(x:Int)-32 by simp[IntKind.wrap,IntKind.signed,IntKind.bits];omega]
  omega
theorem EC(G:aZ gl)(w:World)(hg:∀b o,gl b=some o→w.heap[b]? = some o):MapGrows prog 173 #[] (fun x=>fj x) w:=by
 intro W x hx hb
 have hlt:∀b o,gl b=some o→b<w.heap.size:=fun b o h=>by
  rcases Nat.lt_or_ge b w.heap.size with h1|h1
  ·exact h1
  ·have:=hg b o h
   rw[Array.getElem?_eq_none h1]at this
   cases this
 have hgW:∀b o,gl b=some o→W.heap[b]? = some o:=fun b o h=>(hb.block b (hlt b o h)).trans (hg b o h)
 refine((SI (gl:=gl) (x:Int)).run W (fun b=>∃o,gl b=some o) [.int .i32 (x:Int)] [] (fun b o h=>⟨⟨o,h⟩,hgW b o h⟩) (fun b ⟨o,h⟩=>Nat.lt_of_lt_of_le (hlt b o h) hb.size) (by intro b h;cases h) List.nodup_nil (.d (.v rfl) .nil)).mono fun e w' hp=>?_
 obtain⟨res,fin,vs,ok',bn,he,⟨rfl,rfl⟩,_,_,_,hu,hr,_⟩:=hp
 cases hr with
 |d hd hr=>
  cases hr
  cases hd
  exact⟨he,hu.os,hu.tape,hu.output,hu.size,fun k hk=>hu.block k hk (by simp)⟩
def K0(a:List R)(K:KT):Prop:=match a with
 |[.fn f [],.d (.v (.string s))]=>f=173∧s.size≤1000∧K [.d (.v (.string (tx (jH s.data.toList))))] []
 |_=>False
theorem K1(G:aZ gl):CK gl K0 172:=fun a K h=>by
 unfold K0 at h
 split at h
 ·rename_i f s
  obtain⟨rfl,h1,h2⟩:=h
  refine Ct.gives (ji (gM func172 (by kernel_rfl) (by kernel_rfl)) (.f (.v .nil)) (ds:=[.v (.string (tx (jH s.data.toList)))]) fun w hg=>?_) h2
  refine(Any.strings_Map_grows Tryz.Dc Tryz.oc 173 #[] (enters_of func173 (by kernel_rfl) rfl) (fun x=>fj x) s w (by omega) (EC G w hg) Qm (G.utf w hg)).mono fun e w' ⟨he,hw⟩=>⟨[_],he,rfl,one (jh rfl),Below.l8 hw⟩
 ·exact h.elim
def Bm:aj:=au KZ 172 K0
theorem vx(G:aZ gl):ah prog gl Bm:=af (EB G) (K1 G)
theorem aeE(s:ByteArray)(Q:KT):vc bl Bm bf R' (f158.body.getD .skip) f158.results.toList [.d (.v (.string s))] Q=((173:Nat)=(173:Nat)∧s.size≤(1000:Nat)∧Q [.d (.v (.string (tx (jH s.data.1))))] []):=by kernel_rfl
theorem aeF(G:aZ gl)(s:ByteArray)(h1:s.size≤1000):Ct prog gl 158 [.d (.v (.string s))] (gives [.d (.v (.string (tx (jH s.data.toList))))]):=by
 refine aw bN (vx G) aF bD mixed (fn:=f158) (body:=f158.body.getD .skip) (by kernel_rfl) (by kernel_rfl) (by kernel_rfl) (fi:=R') (by kernel_rfl) (by kernel_rfl) ⟨_,_,rfl,rfl⟩ ?_
 rw[aeE]
 exact⟨rfl,h1,rfl,rfl⟩
def K2(a:List R)(K:KT):Prop:=match a with
 |[.d (.v (.string s))]=>s.size≤1000∧K [.d (.v (.string (tx (jH s.data.toList))))] []
 |_=>False
theorem K3(G:aZ gl):CK gl K2 158:=fun a K h=>by
 unfold K2 at h
 split at h
 ·obtain⟨h0,hk⟩:=h
  exact(aeF G _ h0).gives hk
 ·exact h.elim
def Bo:aj:=au Bm 158 K2
theorem vy(G:aZ gl):ah prog gl Bo:=af (vx G) (K3 G)
theorem aeG(s:ByteArray)(Q:KT):vc bl Bo bf Sa (f159.body.getD .skip) f159.results.toList [.d (.v (.string s))] Q=((tx (Lib.trimPrefix s.data.1 [(45:UInt8)])).size≤(1000:Nat)∧((!aR (Lib.trimPrefix s.data.1 [(45:UInt8)]))=true→dK Q (0:Int) (12:Int))∧((!aR (Lib.trimPrefix s.data.1 [(45:UInt8)]))=false→(10:Int)=(10:Int)∧(64:Int)=(64:Int)∧s.size≤(1000:Nat)∧(yW s.data.1=true→(false=true→dK Q (0:Int) (10:Int))∧(false=false→Q [.d (.i (e6 s.data.1)),.d (.i 0)] []))∧(yW s.data.1=false→(true=true→dK Q (0:Int) (10:Int))∧(true=false→Q [.d (.i (e6 s.data.1)),.d (.i 0)] [])))):=by kernel_rfl
theorem aeH(G:aZ gl)(s:ByteArray)(h1:s.size≤1000):Ct prog gl 159 [.d (.v (.string s))] (gives [.d (.v (.int .i64 (Go.Ex.intOf s.data.toList).1)),.d (.v (.int .i64 (Go.Ex.intOf s.data.toList).2))]):=by
 refine aw bN (vy G) aF bD mixed (fn:=f159) (body:=f159.body.getD .skip) (by kernel_rfl) (by kernel_rfl) (by kernel_rfl) (fi:=Sa) (by kernel_rfl) (by kernel_rfl) ⟨_,_,rfl,rfl⟩ ?_
 rw[aeG];dsimp -eta -iota -proj only[dK]
 have hl:=er s.data.toList [45]
 rw[size_data]at hl
 refine⟨by rw[az];omega,fun h=>?_,fun h=>⟨rfl,rfl,h1,fun hp=>⟨fun e=>(by cases e),fun _=>?_⟩,fun hp=>⟨fun _=>?_,fun e=>(by cases e)⟩⟩⟩
 ·have h:aR (Lib.trimPrefix s.data.toList [45])=false:=by simpa using h
  rw[sI,h]
  exact⟨rfl,rfl⟩
 ·have h:aR (Lib.trimPrefix s.data.toList [45])=true:=by simpa using h
  rw[sI,h,hp]
  exact⟨rfl,rfl⟩
 ·have h:aR (Lib.trimPrefix s.data.toList [45])=true:=by simpa using h
  rw[sI,h,hp]
  exact⟨rfl,rfl⟩
def K4(a:List R)(K:KT):Prop:=match a with
 |[.d (.v (.string s))]=>s.size≤1000∧K [.d (.v (.int .i64 (Go.Ex.intOf s.data.toList).1)),.d (.v (.int .i64 (Go.Ex.intOf s.data.toList).2))] []
 |_=>False
theorem K5(G:aZ gl):CK gl K4 159:=fun a K h=>by
 unfold K4 at h
 split at h
 ·obtain⟨h0,hk⟩:=h
  exact(aeH G _ h0).gives hk
 ·exact h.elim
def Bp:aj:=au Bo 159 K4
theorem vz(G:aZ gl):ah prog gl Bp:=af (vy G) (K5 G)
def Zff(a0:Int):List R:=[.d (.i 0),.d (.i 0),.d (.i a0)]
def K6(a0:KT)(a1:Int):Prop:=a0 (Zff a1) []
def Fv(a0:Int)(a1:ByteArray)(k:UInt8→Prop):Prop:=0≤a0∧True∧∃(c:UInt8),a1[Int.toNat a0]? = some c∧k c
def Zdt(a0:ByteArray)(a1:KT):Prop:=Fv (0:Int) a0 fun c=>(((↑c.toNat:Int)==45)=true→a1 [.d (.i (IntKind.i64.wrap ((0:Int)-e6 ((Lib.cut (Lib.trimPrefix a0.data.1 [(45:UInt8)]) [(46:UInt8)]).1++(Lib.cut (Lib.trimPrefix a0.data.1 [(45:UInt8)]) [(46:UInt8)]).2.1)))),.d (.i (↑(tx (Lib.cut (Lib.trimPrefix a0.data.1 [(45:UInt8)]) [(46:UInt8)]).2.1).size:Int)),.d (.i 0)] [])∧(((↑c.toNat:Int)==45)=false→a1 [.d (.i (e6 ((Lib.cut (Lib.trimPrefix a0.data.1 [(45:UInt8)]) [(46:UInt8)]).1++(Lib.cut (Lib.trimPrefix a0.data.1 [(45:UInt8)]) [(46:UInt8)]).2.1))),.d (.i (↑(tx (Lib.cut (Lib.trimPrefix a0.data.1 [(45:UInt8)]) [(46:UInt8)]).2.1).size:Int)),.d (.i 0)] [])
theorem aeI(s:ByteArray)(Q:KT):vc bl Bp bf Sb (f160.body.getD .skip) f160.results.toList [.d (.v (.string s))] Q=((tx (Lib.trimPrefix s.data.1 [(45:UInt8)])).size≤(1000:Nat)∧(tx (Lib.cut (Lib.trimPrefix s.data.1 [(45:UInt8)]) [(46:UInt8)]).1).size≤(1000:Nat)∧(tx (Lib.cut (Lib.trimPrefix s.data.1 [(45:UInt8)]) [(46:UInt8)]).2.1).size≤(1000:Nat)∧((bif !aR (Lib.cut (Lib.trimPrefix s.data.1 [(45:UInt8)]) [(46:UInt8)]).1 then true else bif (Lib.cut (Lib.trimPrefix s.data.1 [(45:UInt8)]) [(46:UInt8)]).2.2 then !aR (Lib.cut (Lib.trimPrefix s.data.1 [(45:UInt8)]) [(46:UInt8)]).2.1 else false)=true→K6 Q (12:Int))∧((bif !aR (Lib.cut (Lib.trimPrefix s.data.1 [(45:UInt8)]) [(46:UInt8)]).1 then true else bif (Lib.cut (Lib.trimPrefix s.data.1 [(45:UInt8)]) [(46:UInt8)]).2.2 then !aR (Lib.cut (Lib.trimPrefix s.data.1 [(45:UInt8)]) [(46:UInt8)]).2.1 else false)=false→(decide ((↑(tx (Lib.cut (Lib.trimPrefix s.data.1 [(45:UInt8)]) [(46:UInt8)]).2.1).size:Int)>18)=true→K6 Q (10:Int))∧(decide ((↑(tx (Lib.cut (Lib.trimPrefix s.data.1 [(45:UInt8)]) [(46:UInt8)]).2.1).size:Int)>18)=false→(tx (Lib.cut (Lib.trimPrefix s.data.1 [(45:UInt8)]) [(46:UInt8)]).1).size.add (tx (Lib.cut (Lib.trimPrefix s.data.1 [(45:UInt8)]) [(46:UInt8)]).2.1).size≤(9223372036854775807:Nat)∧(10:Int)=(10:Int)∧(64:Int)=(64:Int)∧(tx (Lib.cut (Lib.trimPrefix s.data.1 [(45:UInt8)]) [(46:UInt8)]).1++tx (Lib.cut (Lib.trimPrefix s.data.1 [(45:UInt8)]) [(46:UInt8)]).2.1).size≤(1000:Nat)∧(yW ((Lib.cut (Lib.trimPrefix s.data.1 [(45:UInt8)]) [(46:UInt8)]).1++(Lib.cut (Lib.trimPrefix s.data.1 [(45:UInt8)]) [(46:UInt8)]).2.1)=true→((bif false then true else !bZ (e6 ((Lib.cut (Lib.trimPrefix s.data.1 [(45:UInt8)]) [(46:UInt8)]).1++(Lib.cut (Lib.trimPrefix s.data.1 [(45:UInt8)]) [(46:UInt8)]).2.1)))=true→K6 Q (10:Int))∧((bif false then true else !bZ (e6 ((Lib.cut (Lib.trimPrefix s.data.1 [(45:UInt8)]) [(46:UInt8)]).1++(Lib.cut (Lib.trimPrefix s.data.1 [(45:UInt8)]) [(46:UInt8)]).2.1)))=false→Zdt s Q))∧(yW ((Lib.cut (Lib.trimPrefix s.data.1 [(45:UInt8)]) [(46:UInt8)]).1++(Lib.cut (Lib.trimPrefix s.data.1 [(45:UInt8)]) [(46:UInt8)]).2.1)=false→((bif true then true else !bZ (e6 ((Lib.cut (Lib.trimPrefix s.data.1 [(45:UInt8)]) [(46:UInt8)]).1++(Lib.cut (Lib.trimPrefix s.data.1 [(45:UInt8)]) [(46:UInt8)]).2.1)))=true→K6 Q (10:Int))∧((bif true then true else !bZ (e6 ((Lib.cut (Lib.trimPrefix s.data.1 [(45:UInt8)]) [(46:UInt8)]).1++(Lib.cut (Lib.trimPrefix s.data.1 [(45:UInt8)]) [(46:UInt8)]).2.1)))=false→Zdt s Q))))):=by kernel_rfl
theorem aeJ(G:aZ gl)(s:ByteArray)(h1:s.size≤1000):Ct prog gl 160 [.d (.v (.string s))] (gives [.d (.v (.int .i64 (bF s.data.toList).1)),.d (.v (.int .i64 (bF s.data.toList).2.1)),.d (.v (.int .i64 (bF s.data.toList).2.2))]):=by
 refine aw bN (vz G) aF bD mixed (fn:=f160) (body:=f160.body.getD .skip) (by kernel_rfl) (by kernel_rfl) (by kernel_rfl) (fi:=Sb) (by kernel_rfl) (by kernel_rfl) ⟨_,_,rfl,rfl⟩ ?_
 rw[aeI];dsimp -eta -iota -proj only[K6,Zff,Zdt,Fv]
 have hl:=er s.data.toList [45]
 rw[size_data]at hl
 have hc:=P7 (Lib.trimPrefix s.data.toList [45]) [46]
 have bT:aR (Lib.cut (Lib.trimPrefix s.data.toList [45]) [46]).1=true→∃c,s[(0:Int).toNat]? = some c∧s.data.toList.head? = some c:=by
  intro hd
  have:0<s.size:=by
   rcases Nat.eq_zero_or_pos s.size with h0|h0
   ·have e0:(Lib.cut (Lib.trimPrefix s.data.toList [45]) [46]).1=[]:=List.eq_nil_of_length_eq_zero (by omega)
    rw[e0]at hd
    cases hd
   ·exact h0
  have hz:s[(0:Int).toNat]? = some s[0]:=by
   show s[0]? = _
   exact getElem?_pos s 0 this
  refine⟨s[0],hz,?_⟩
  rw[List.head?_eq_getElem?]
  have:s.data.toList[0]? = some s.data.toList[0]:=List.getElem?_eq_getElem (by rw[size_data];omega)
  rw[this]
  rfl
 generalize hQ:gives [.d (.v (.int .i64 (bF s.data.toList).1)),.d (.v (.int .i64 (bF s.data.toList).2.1)),.d (.v (.int .i64 (bF s.data.toList).2.2))]=Q'
 have Ve:bF s.data.toList=bF s.data.toList:=rfl
 conv at Ve=>rhs;unfold bF
 dsimp only at Ve
 rw[Ve]at hQ
 generalize Lib.cut (Lib.trimPrefix s.data.toList [45]) [46]=c at *
 refine⟨by rw[az];omega,by rw[az];omega,by rw[az];omega,fun h=>?_,fun h=>⟨fun h2=>?_,fun h2=>⟨?_,rfl,rfl,?_,fun hp=>⟨fun h3=>?_,fun h3=>⟨by decide,trivial,?_⟩⟩,fun hp=>⟨fun _=>?_,fun e=>(by cases e)⟩⟩⟩⟩
 ·rw[if_pos (by revert h;cases aR c.1<;>cases c.2.2<;>cases aR c.2.1<;>simp)]at hQ
  rw[←hQ];exact⟨rfl,rfl⟩
 all_goals(rw[if_neg (by revert h;cases aR c.1<;>cases c.2.2<;>cases aR c.2.1<;>simp)]at hQ)
 ·have h2:=of_decide_eq_true h2
  rw[az]at h2
  rw[if_pos h2]at hQ
  rw[←hQ];exact⟨rfl,rfl⟩
 all_goals(have h2:=of_decide_eq_false h2;rw[az]at h2;rw[if_neg h2]at hQ)
 ·show(tx _).size+(tx _).size≤_
  rw[az,az];omega
 ·rw[aD,az,List.length_append];omega
 ·have h3:n7 (e6 (c.1++c.2.1))=false:=by
   have:(!bZ (e6 (c.1++c.2.1)))=true:=h3
   have e:bZ (e6 (c.1++c.2.1))=n7 (e6 (c.1++c.2.1)):=rfl
   rw[e]at this
   simpa using this
  rw[if_pos (by rw[h3];simp)]at hQ
  rw[←hQ];exact⟨rfl,rfl⟩
 ·have h3:n7 (e6 (c.1++c.2.1))=true:=by
   have:(!bZ (e6 (c.1++c.2.1)))=false:=h3
   have e:bZ (e6 (c.1++c.2.1))=n7 (e6 (c.1++c.2.1)):=rfl
   rw[e]at this
   simpa using this
  rw[hp,h3,if_neg (by decide)]at hQ
  have hr:=iO.1 h3
  obtain⟨b,hb1,du⟩:=bT (by revert h;cases aR c.1<;>cases c.2.2<;>cases aR c.2.1<;>simp)
  refine⟨b,hb1,fun h4=>?_,fun h4=>?_⟩
  ·have h4:(b.toNat:Int)=45:=eq_of_beq h4
   have:b=45:=by apply UInt8.toNat_inj.1;show b.toNat=45;omega
   subst this
   rw[du,if_pos rfl]at hQ
   rw[←hQ,az,ai (by omega) (by omega)]
   refine⟨?_,rfl⟩
   rw[Int.zero_sub]
  ·have h4:(b.toNat:Int)≠45:=ne_of_beq_false h4
   rw[du,if_neg (by intro e;simp only[Option.some.injEq]at e;subst e;exact h4 rfl)]at hQ
   rw[←hQ,az]
   exact⟨rfl,rfl⟩
 ·rw[if_pos (by rw[hp];rfl)]at hQ
  rw[←hQ];exact⟨rfl,rfl⟩
def K7(a:List R)(K:KT):Prop:=match a with
 |[.d (.v (.string s))]=>s.size≤1000∧K [.d (.v (.int .i64 (bF s.data.toList).1)),.d (.v (.int .i64 (bF s.data.toList).2.1)),.d (.v (.int .i64 (bF s.data.toList).2.2))] []
 |_=>False
theorem K8(G:aZ gl):CK gl K7 160:=fun a K h=>by
 unfold K7 at h
 split at h
 ·obtain⟨h0,hk⟩:=h
  exact(aeJ G _ h0).gives hk
 ·exact h.elim
def Bq:aj:=au Bp 160 K7
theorem vA(G:aZ gl):ah prog gl Bq:=af (vz G) (K8 G)
def WN(a0:ByteArray)(k:Nat→Nat→Prop):Prop:=fb fun l h=>l=(0:Nat)∧V.i 4=V.i (↑h:Int)∧l≤h∧h≤a0.size∧True∧k l h
def Zgf(a0:ByteArray)(k:Nat→Nat→Prop):Prop:=fb fun gh iv=>V.i 5=V.i (↑gh:Int)∧V.i 7=V.i (↑iv:Int)∧gh≤iv∧iv≤a0.size∧True∧k gh iv
def Qn(a0:Int)(a1:ByteArray)(k:Nat→Nat→Prop):Prop:=fb fun Dg Br=>V.i a0=V.i (↑Dg:Int)∧Br=a1.size∧Dg≤Br∧Br≤a1.size∧True∧k Dg Br
def Zka(a0:ByteArray)(a1 a2:Nat)(k:Int→Prop):Prop:=∃(v:Int),(a0.extract a1 a2).size≤(1000:Nat)∧Lib.atoiAll (a0.extract a1 a2).data.1=Lib.NumEnd.ok v∧k v
def Zba(a0:ByteArray)(a1:KT):Prop:=WN a0 fun l h=>Zka a0 l h fun v=>Zgf a0 fun l h=>Zka a0 l h fun mv=>Qn (8:Int) a0 fun l h=>Zka a0 l h fun v_2=>a1 [.d (.v (.int .i64 (dp v mv v_2).1)),.d (.v (.int .i64 (dp v mv v_2).2))] []
def Zbb(a0:ByteArray)(a1:KT):Prop:=WN a0 fun l h=>Zgf a0 fun gh iv=>(a0.extract l h).size.add (a0.extract gh iv).size≤(9223372036854775807:Nat)∧Qn (8:Int) a0 fun Dg Br=>(a0.extract l h++a0.extract gh iv).size.add (a0.extract Dg Br).size≤(9223372036854775807:Nat)∧(a0.extract l h++a0.extract gh iv++a0.extract Dg Br).size≤(1000:Nat)∧((!aR ((a0.extract l h).data.1++(a0.extract gh iv).data.1++(a0.extract Dg Br).data.1))=true→dK a1 (0:Int) (12:Int))∧((!aR ((a0.extract l h).data.1++(a0.extract gh iv).data.1++(a0.extract Dg Br).data.1))=false→Zba a0 a1)
def Zdi(a0:KT)(a1:ByteArray):Prop:=(true=true→dK a0 (0:Int) (12:Int))∧(true=false→Zba a1 a0)
def Zbo(a0:ByteArray)(a1:KT):Prop:=Fv (7:Int) a0 fun c=>(((↑c.toNat:Int) != (45:Int))=false→Zbb a0 a1)∧(((↑c.toNat:Int) != (45:Int)) = !false→Zdi a1 a0)
def Zbq(a0:ByteArray)(a1:KT):Prop:=(true=false→Zbb a0 a1)∧(true = !false→Zdi a1 a0)
theorem aeL(s:ByteArray)(Q:KT):vc NS Bq bf Sc (f161.body.getD .skip) f161.results.toList [.d (.v (.string s))] Q=((((↑s.size:Int) != (10:Int))=false→Fv (4:Int) s fun c=>(((↑c.toNat:Int) != (45:Int))=false→Zbo s Q)∧(((↑c.toNat:Int) != (45:Int)) = !false→Zbq s Q))∧(((↑s.size:Int) != (10:Int)) = !false→(true=false→Zbo s Q)∧(true = !false→Zbq s Q))):=by kernel_rfl
theorem aeM(G:aZ gl)(s:ByteArray)(h1:s.size≤1000):Ct prog gl 161 [.d (.v (.string s))] (gives [.d (.v (.int .i64 (dO s.data.toList).1)),.d (.v (.int .i64 (dO s.data.toList).2))]):=by
 refine aw (E:=NS) ⟨bN.te⟩ (vA G) aF (fun _ _ _ h=>h.elim) mixed (fn:=f161) (body:=f161.body.getD .skip) (by kernel_rfl) (by kernel_rfl) (by kernel_rfl) (fi:=Sc) (by kernel_rfl) (by kernel_rfl) ⟨_,_,rfl,rfl⟩ ?_
 rw[aeL];dsimp -eta -iota -proj only[Fv,Zbo,Zbb,WN,fb,Zgf,Qn,dK,Zba,Zka,Zdi,Zbq]
 generalize hQ:gives [.d (.v (.int .i64 (dO s.data.toList).1)),.d (.v (.int .i64 (dO s.data.toList).2))]=Q'
 have at':∀(i:Nat) (h:i<s.size),s.data.toList[i]? = some (s[i]'h):=fun i h=>by
  rw[List.getElem?_eq_getElem (by rw[size_data];exact h)];rfl
 have gt:∀(i:Nat) (h:i<s.size),s[(i:Int).toNat]? = some (s[i]'h):=fun i h=>by
  rw[Int.toNat_natCast];exact getElem?_pos s i h
 have b45:∀b:UInt8,((b.toNat:Int) != 45)=false→b=45:=fun b h=>by
  have:(b.toNat:Int)=45:=by simpa using h
  apply UInt8.toNat_inj.1;show b.toNat=45;omega
 have n45:∀b:UInt8,((b.toNat:Int) != 45)=true→b≠45:=fun b h e=>by
  subst e;cases h
 refine⟨fun hA=>?_,fun hA=>?_⟩
 ·have hA:s.size=10:=by have:(s.size:Int)=10:=by simpa using hA
                        omega
  have hL:s.data.toList.length=10:=by rw[size_data];exact hA
  refine⟨by decide,trivial,s[4]'(by omega),gt 4 (by omega),fun hB=>?_,fun hB=>?_⟩
  ·refine⟨by decide,trivial,s[7]'(by omega),gt 7 (by omega),fun hC=>?_,fun hC=>?_⟩
   ·have e1:s.extract 0 4=tx (s.data.toList.take 4):=fZ _ _
    have e2:s.extract 5 7=tx ((s.data.toList.take 7).drop 5):=xe _ _ _
    have e3:s.extract 8 s.size=tx (s.data.toList.drop 8):=gL _ _
    have l1:(s.data.toList.take 4).length=4:=by rw[List.length_take];omega
    have l2:((s.data.toList.take 7).drop 5).length=2:=by rw[List.length_drop,List.length_take];omega
    have l3:(s.data.toList.drop 8).length=2:=by rw[List.length_drop];omega
    have c4:=(at' 4 (by omega)).trans (congrArg some (b45 _ hB))
    have c7:=(at' 7 (by omega)).trans (congrArg some (b45 _ hC))
    unfold dO at hQ
    refine⟨0,4,rfl,rfl,by omega,by omega,trivial,5,7,rfl,rfl,by omega,by omega,trivial,?_,8,s.size,rfl,rfl,by omega,by omega,trivial,?_,?_,fun hD=>?_,fun hD=>?_⟩
    ·rw[e1,e2,az,az,l1,l2];decide
    ·rw[e1,e2,e3,aD,az,az,List.length_append,l1,l2,l3];decide
    ·rw[e1,e2,e3,aD,aD,az,List.length_append,List.length_append,l1,l2,l3];decide
    ·rw[e1,e2,e3,iJ,iJ,iJ]at hD
     have hD:aR ((s.data.toList.take 4++(s.data.toList.take 7).drop 5)++s.data.toList.drop 8)=false:=by simpa using hD
     rw[if_neg (by rw[hD];simp)]at hQ
     rw[←hQ];exact⟨rfl,rfl⟩
    ·rw[e1,e2,e3,iJ,iJ,iJ]at hD
     have hD:aR ((s.data.toList.take 4++(s.data.toList.take 7).drop 5)++s.data.toList.drop 8)=true:=by simpa using hD
     rw[if_pos ⟨hL,c4,c7,hD⟩]at hQ
     have hp:=uM hD
     have N7:=uM (hp.1 (by intro e;have:=congrArg List.length e;rw[List.length_append,l1]at this;simp at this))
     have ne:∀{l:List UInt8} {n:Nat},l.length=n+1→l≠[]:=fun h e=>by rw[e]at h;simp at h
     have a1:=sJ (N7.1 (ne l1)) (by omega)
     have a2:=sJ (N7.2 (ne l2)) (by omega)
     have a3:=sJ (hp.2 (ne l3)) (by omega)
     refine⟨0,4,rfl,rfl,by omega,by omega,trivial,numOf (s.data.toList.take 4),by rw[e1,az];omega,by rw[e1,iJ];exact a1.1,5,7,rfl,rfl,by omega,by omega,trivial,numOf ((s.data.toList.take 7).drop 5),by rw[e2,az];omega,by rw[e2,iJ];exact a2.1,8,s.size,rfl,rfl,by omega,by omega,trivial,numOf (s.data.toList.drop 8),by rw[e3,az];omega,by rw[e3,iJ];exact a3.1,?_⟩
     rw[←hQ];exact⟨rfl,rfl⟩
   ·have:dO s.data.toList=(0,12):=by
     unfold dO
     rw[if_neg]
     intro⟨_,_,h,_⟩
     rw[at' 7 (by omega)]at h
     exact n45 _ hC (Option.some.inj h)
    rw[this]at hQ
    (repeat' (first|(with_reducible refine And.intro ?_ ?_)|(intro hh;first|(exact absurd hh (by decide))|(have hd:=of_decide_eq_true hh)|(have hd:=of_decide_eq_false hh)|(have hd:=eq_of_beq hh)|(have hd:=ne_of_beq_false hh)|(have hd:=bne_iff_ne.1 hh)|(have hd:=bne_eq_false_iff_eq.1 hh)|skip)))
    rw[←hQ];exact⟨rfl,rfl⟩
  ·have:dO s.data.toList=(0,12):=by
    unfold dO
    rw[if_neg]
    intro⟨_,h,_⟩
    rw[at' 4 (by omega)]at h
    exact n45 _ hB (Option.some.inj h)
   rw[this]at hQ
   (repeat' (first|(with_reducible refine And.intro ?_ ?_)|(intro hh;first|(exact absurd hh (by decide))|(have hd:=of_decide_eq_true hh)|(have hd:=of_decide_eq_false hh)|(have hd:=eq_of_beq hh)|(have hd:=ne_of_beq_false hh)|(have hd:=bne_iff_ne.1 hh)|(have hd:=bne_eq_false_iff_eq.1 hh)|skip)))
   rw[←hQ];exact⟨rfl,rfl⟩
 ·have:dO s.data.toList=(0,12):=by
   unfold dO
   rw[if_neg]
   intro⟨h,_⟩
   rw[size_data]at h
   rw[h]at hA
   cases hA
  rw[this]at hQ
  (repeat' (first|(with_reducible refine And.intro ?_ ?_)|(intro hh;first|(exact absurd hh (by decide))|(have hd:=of_decide_eq_true hh)|(have hd:=of_decide_eq_false hh)|(have hd:=eq_of_beq hh)|(have hd:=ne_of_beq_false hh)|(have hd:=bne_iff_ne.1 hh)|(have hd:=bne_eq_false_iff_eq.1 hh)|skip)))
  rw[←hQ];exact⟨rfl,rfl⟩
def K9(a:List R)(K:KT):Prop:=match a with
 |[.d (.v (.string s))]=>s.size≤1000∧K [.d (.v (.int .i64 (dO s.data.toList).1)),.d (.v (.int .i64 (dO s.data.toList).2))] []
 |_=>False
theorem K_(G:aZ gl):CK gl K9 161:=fun a K h=>by
 unfold K9 at h
 split at h
 ·obtain⟨h0,hk⟩:=h
  exact(aeM G _ h0).gives hk
 ·exact h.elim
def Bt:aj:=au Bq 161 K9
theorem vB(G:aZ gl):ah prog gl Bt:=af (vA G) (K_ G)
theorem od(o n:List UInt8)(hn:n.length=2):∀(k:Nat) (s:List UInt8),(Lib.replaceK o n k s).length≤s.length+2*k
 |0,s=>by simp[Lib.replaceK]
 |k+1,s=>by
  simp only[Lib.replaceK]
  split
  ·omega
  ·have:=od o n hn k (s.drop ((Lib.index s o).toNat+o.length))
   rw[List.length_append,List.length_append,List.length_take,hn]
   rw[List.length_drop]at this
   omega
theorem pW(s:ByteArray):(Lib.replaceAll s.data.toList [39] [39,39]).length≤3*s.size+2:=by
 unfold Lib.replaceAll Lib.replace
 split
 ·rw[size_data];omega
 ·have h:=od [39] [39,39] rfl (Lib.replaceNum s.data.toList [39] (-1)) s.data.toList
  have h2:Lib.replaceNum s.data.toList [39] (-1)=Lib.count s.data.toList [39]:=by
   unfold Lib.replaceNum;rw[if_pos (.inl (by decide))]
  have h3:Lib.count s.data.toList [39]≤s.size:=count_le s (tx [39]) rfl
  rw[size_data]at h
  omega
def jj(v:Go.Ex.AV):Prop:=ar v.n∧1≤v.t.k∧v.t.k≤5∧0≤v.t.sc∧v.t.sc≤18∧(v.t.k=5→v.aA=false→-719162≤v.n∧v.n≤2932896)∧v.s.size≤256
def Zi0:List R:=[.d (.v (.string {data:={toList:=[(78:UInt8),(85:UInt8),(76:UInt8),(76:UInt8)]:Array UInt8}:ByteArray}))]
def Zj1(a0:KT):Prop:=a0 Zi0 []
def Zkb(a0:Go.Ex.AV)(a1:KT):Prop:=a0.2=true→Zj1 a1
def Zit:List R:=[.d (.v (.string {data:={toList:=[(70:UInt8),(65:UInt8),(76:UInt8),(83:UInt8),(69:UInt8)]:Array UInt8}:ByteArray}))]
def Zjf(a0:KT):Prop:=a0 Zit []
def Zi1:List R:=[.d (.v (.string {data:={toList:=[(84:UInt8),(82:UInt8),(85:UInt8),(69:UInt8)]:Array UInt8}:ByteArray}))]
def Zj2(a0:KT):Prop:=a0 Zi1 []
def Zhx(a0:Go.Ex.AV):List R:=[.d (.v (.string (tx (Lib.itoa a0.3))))]
def Qo(a0:KT)(a1:Go.Ex.AV):Prop:=a0 (Zhx a1) []
def Zg1:List R:=[.d (.v (.string {data:={toList:=[(63:UInt8)]:Array UInt8}:ByteArray}))]
def Vf(a0:KT):Prop:=a0 Zg1 []
theorem aeP(v:Go.Ex.AV)(Q:KT):vc bl Bt bf R_ (f157.body.getD .skip) f157.results.toList [.agg v.cs] Q=(ar v.3∧(Zkb v Q)∧(v.2=false→((bif v.1.1==1 then v.3==0 else false)=true→Zjf Q)∧((bif v.1.1==1 then v.3==0 else false)=false→((v.1.1==1)=true→Zj2 Q)∧((v.1.1==1)=false→((v.1.1==4)=true→v.4.size≤(1000:Nat)∧{data:={toList:=[(39:UInt8)]:Array UInt8}:ByteArray}.size=(1:Nat)∧{data:={toList:=[(39:UInt8),(39:UInt8)]:Array UInt8}:ByteArray}.size=(2:Nat)∧{data:={toList:=[(39:UInt8)]:Array UInt8}:ByteArray}.size.add (tx (Lib.replaceAll v.4.data.1 [(39:UInt8)] [(39:UInt8),(39:UInt8)])).size≤(9223372036854775807:Nat)∧({data:={toList:=[(39:UInt8)]:Array UInt8}:ByteArray}++tx (Lib.replaceAll v.4.data.1 [(39:UInt8)] [(39:UInt8),(39:UInt8)])).size.succ≤(9223372036854775807:Nat)∧Q [.d (.v (.string ({data:={toList:=[(39:UInt8)]:Array UInt8}:ByteArray}++tx (Lib.replaceAll v.4.data.1 [(39:UInt8)] [(39:UInt8),(39:UInt8)])++{data:={toList:=[(39:UInt8)]:Array UInt8}:ByteArray})))] [])∧((v.1.1==4)=false→((v.1.1==3)=true→ar v.3∧(0:Int)≤v.1.2∧v.1.2≤18∧(((0:Int) != (0:Int))=true→ar v.3∧Qo Q v)∧(((0:Int) != (0:Int))=false→Q [.d (.v (.string (tx (tP v.3 v.1.2))))] []))∧((v.1.1==3)=false→((v.1.1==5)=true→(-719162:Int)≤v.3∧v.3≤2932896∧(((0:Int) != (0:Int))=true→ar v.3∧Qo Q v)∧(((0:Int) != (0:Int))=false→Q [.d (.v (.string (tx (n5 v.3))))] []))∧((v.1.1==5)=false→((v.1.1 != (2:Int))=true→Vf Q)∧((v.1.1 != (2:Int))=false→(((0:Int) != (0:Int))=true→ar v.3∧Qo Q v)∧(((0:Int) != (0:Int))=false→Qo Q v))))))))):=by kernel_rfl
theorem aeQ(G:aZ gl)(v:Go.Ex.AV)(h1:jj v):Ct prog gl 157 [.agg v.cs] (gives [.d (.v (.string (tx (ez v))))]):=by
 refine aw bN (vB G) aF bD mixed (fn:=f157) (body:=f157.body.getD .skip) (by kernel_rfl) (by kernel_rfl) (by kernel_rfl) (fi:=R_) (by kernel_rfl) (by kernel_rfl) ⟨_,_,rfl,rfl⟩ ?_
 rw[aeP];dsimp -eta -iota -proj only[Zkb,Zj1,Zi0,Zjf,Zit,Zj2,Zi1,Qo,Zhx,Vf,Zg1]
 obtain⟨a1,a2,a3,a4,a5,a6,a7⟩:=h1
 have h39:({data:={toList:=[39]}}:ByteArray)=tx [39]:=rfl
 generalize hQ:gives [.d (.v (.string (tx (ez v))))]=Q'
 (repeat' (first|(with_reducible refine And.intro ?_ ?_)|(intro hh;first|(exact absurd hh (by decide))|(have hd:=of_decide_eq_true hh)|(have hd:=of_decide_eq_false hh)|(have hd:=eq_of_beq hh)|(have hd:=ne_of_beq_false hh)|(have hd:=bne_iff_ne.1 hh)|(have hd:=bne_eq_false_iff_eq.1 hh)|skip)))
 all_goals first
  |(exact a1)
  |(rw[←hQ];refine⟨?_,rfl⟩;simp only[ez, *,cond_true,cond_false,←aD];first|done|rfl)
  |(rw[←hQ];refine⟨?_,rfl⟩;simp_all only[ez,cond_true,cond_false,←aD];first|done|rfl)
  |(exfalso;omega)
  |omega
  |rfl
  |(have:=a6 (by omega) (by assumption);omega)
  |skip
 ·show(tx [39]).size+(tx _).size≤_
  rw[az,az]
  have:=pW v.s
  simp;omega
 ·rw[h39,aD,az]
  have:=pW v.s
  simp;omega
def La(a:List R)(K:KT):Prop:=match a with
 |[.agg [.v (.int .i64 qo),.v (.int .i64 ij),.v (.bool qp),.v (.int .i64 qq),.v (.string qs)]]=>jj (⟨⟨qo,ij⟩,qp,qq,qs⟩:Go.Ex.AV)∧K [.d (.v (.string (tx (ez (⟨⟨qo,ij⟩,qp,qq,qs⟩:Go.Ex.AV)))))] []
 |_=>False
theorem Lb(G:aZ gl):CK gl La 157:=fun a K h=>by
 unfold La at h
 split at h
 ·obtain⟨h0,hk⟩:=h
  exact(aeQ G (⟨⟨_,_⟩,_,_,_⟩:Go.Ex.AV) h0).gives hk
 ·exact h.elim
def Bu:aj:=au Bt 157 La
theorem vC(G:aZ gl):ah prog gl Bu:=af (vB G) (Lb G)
noncomputable def cY(v:Go.Ex.AV):Go.Ex.AV×Int:=
 bif v.t.k != 4 then(bif decide (((tx (ez v)).size:Int)>256)then(zeroV,10)else(nY (tx (ez v)),0))
 else(bif decide ((v.s.size:Int)>256)then(zeroV,10)else(nY v.s,0))
def WO(a0:Go.Ex.AV)(k':Prop):Prop:=jj {t:={k:=a0.1.1,sc:=a0.1.2:Ty},aA:=a0.2,n:=a0.3,s:=a0.4:AV}∧k'
def tA(a0:KT)(a1:Int):Prop:=a0 [.agg (Z8 (0:Int) (0:Int)),.d (.i a1)] []
def Zeq(a0:Go.Ex.AV)(a1:KT):Prop:=(decide ((↑(tx (ez {t:={k:=a0.1.1,sc:=a0.1.2:Ty},aA:=a0.2,n:=a0.3,s:=a0.4:AV})).size:Int)>256)=true→tA a1 (10:Int))∧(decide ((↑(tx (ez {t:={k:=a0.1.1,sc:=a0.1.2:Ty},aA:=a0.2,n:=a0.3,s:=a0.4:AV})).size:Int)>256)=false→a1 [.agg [.i 4,.i 0,.v (.bool false),.i 0,.v (.string (tx (ez {t:={k:=a0.1.1,sc:=a0.1.2:Ty},aA:=a0.2,n:=a0.3,s:=a0.4:AV})))],.d (.i 0)] [])
def Zgh(a0:Go.Ex.AV)(a1:KT):Prop:=((a0.1.1 != (4:Int))=false→(decide ((↑a0.4.size:Int)>256)=true→tA a1 (10:Int))∧(decide ((↑a0.4.size:Int)>256)=false→a1 [.agg [.i 4,.i 0,.v (.bool false),.i 0,.v (.string a0.4)],.d (.i 0)] []))
theorem aeR(v:Go.Ex.AV)(Q:KT):vc bl Bu bf R2 (f146.body.getD .skip) f146.results.toList [.agg v.cs] Q=(((v.1.1 != (4:Int))=true→WO v (Zeq v Q))∧Zgh v Q):=by kernel_rfl
theorem aeS(G:aZ gl)(v:Go.Ex.AV)(h1:jj v):Ct prog gl 146 [.agg v.cs] (gives [.agg (cY v).1.cs,.d (.v (.int .i64 (cY v).2))]):=by
 refine aw bN (vC G) aF bD mixed (fn:=f146) (body:=f146.body.getD .skip) (by kernel_rfl) (by kernel_rfl) (by kernel_rfl) (fi:=R2) (by kernel_rfl) (by kernel_rfl) ⟨_,_,rfl,rfl⟩ ?_
 rw[aeR];dsimp -eta -iota -proj only[WO,Zeq,tA,Z8,Zgh]
 generalize hQ:gives [.agg (cY v).1.cs,.d (.v (.int .i64 (cY v).2))]=Q'
 (repeat' (first|(with_reducible refine And.intro ?_ ?_)|(intro hh;first|(exact absurd hh (by decide))|(have hd:=of_decide_eq_true hh)|(have hd:=of_decide_eq_false hh)|(have hd:=eq_of_beq hh)|(have hd:=ne_of_beq_false hh)|(have hd:=bne_iff_ne.1 hh)|(have hd:=bne_eq_false_iff_eq.1 hh)|skip)))
 all_goals first
  |(exact h1)
  |(rw[←hQ];refine⟨?_,rfl⟩;simp only[cY, *,cond_true,cond_false];first|done|rfl)
def Lc(a:List R)(K:KT):Prop:=match a with
 |[.agg [.v (.int .i64 qo),.v (.int .i64 ij),.v (.bool qp),.v (.int .i64 qq),.v (.string qs)]]=>jj (⟨⟨qo,ij⟩,qp,qq,qs⟩:Go.Ex.AV)∧K [.agg (cY (⟨⟨qo,ij⟩,qp,qq,qs⟩:Go.Ex.AV)).1.cs,.d (.v (.int .i64 (cY (⟨⟨qo,ij⟩,qp,qq,qs⟩:Go.Ex.AV)).2))] []
 |_=>False
theorem Ld(G:aZ gl):CK gl Lc 146:=fun a K h=>by
 unfold Lc at h
 split at h
 ·obtain⟨h0,hk⟩:=h
  exact(aeS G (⟨⟨_,_⟩,_,_,_⟩:Go.Ex.AV) h0).gives hk
 ·exact h.elim
def Bv:aj:=au Bu 146 Lc
theorem vD(G:aZ gl):ah prog gl Bv:=af (vC G) (Ld G)
def jI(l:List UInt8):Int×Int:=bif tx (jH l)==({data:={toList:=[84,82,85,69]:Array UInt8}:ByteArray})then(1,0)else bif tx (jH l)==({data:={toList:=[70,65,76,83,69]:Array UInt8}:ByteArray})then(0,0)else(0,22)
def fC(l:List UInt8)(t:Ty):Int×Int:=
 bif t.k==1 then jI l else bif t.k==2 then Go.Ex.intOf l else bif t.k==3 then(bif (bF l).2.2==0 then bo (bF l).1 (bF l).2.1 t.sc else((bF l).1,(bF l).2.2))else bif t.k==5 then dO l else(0,0)
def dC(l:List UInt8)(t:Ty):Go.Ex.AV×Int:=bif (fC l t).2 != 0 then(zeroV,22)else(⟨t,false,(fC l t).1,eB⟩,0)
def Zem(a0:Ty)(a1:Int):List D:=[.i a0.1,.i a0.2,.v (.bool false),.i a1,.v (.string ⟨⟨[]⟩⟩)]
def Zfi(a0:Ty)(a1:Int):List R:=[.agg (Zem a0 a1),.d (.i 0)]
def WQ(a0:KT)(a1:Ty)(a2:Int):Prop:=a0 (Zfi a1 a2) []
def WR(a0:Int)(a1:KT)(a2:Ty)(a3:Int):Prop:=((a0 != (0:Int))=true→tA a1 (22:Int))∧((a0 != (0:Int))=false→WQ a1 a2 a3)
def Zdz(a0:KT)(a1:Ty)(a2:Int):Prop:=((!true)=true→WR (22:Int) a0 a1 a2)∧((!true)=false→WR (0:Int) a0 a1 a2)
def Zb3(a0:ByteArray)(a1:KT)(a2:Ty):Prop:=((tx (jH a0.data.1)=={data:={toList:=[(70:UInt8),(65:UInt8),(76:UInt8),(83:UInt8),(69:UInt8)]:Array UInt8}:ByteArray})=true→Zdz a1 a2 (0:Int))∧((tx (jH a0.data.1)=={data:={toList:=[(70:UInt8),(65:UInt8),(76:UInt8),(83:UInt8),(69:UInt8)]:Array UInt8}:ByteArray})=false→((!false)=true→WR (22:Int) a1 a2 (0:Int))∧((!false)=false→WR (0:Int) a1 a2 (0:Int)))
def Zfs(a0:Ty)(a1:ByteArray)(a2:KT):Prop:=(a0.1==2)=true→a1.size≤(1000:Nat)∧(((Ex.intOf a1.data.1).2 != (0:Int))=true→tA a2 (22:Int))∧(((Ex.intOf a1.data.1).2 != (0:Int))=false→a2 [.agg [.i a0.1,.i a0.2,.v (.bool false),.v (.int .i64 (Ex.intOf a1.data.1).1),.v (.string ⟨⟨[]⟩⟩)],.d (.i 0)] [])
def Zfx(a0:Ty)(a1:ByteArray)(a2:KT)(k:Prop):Prop:=(a0.1==1)=false→(Zfs a0 a1 a2)∧k
def Zfa(a0:ByteArray)(a1:Ty)(a2:KT):Prop:=(((bo (bF a0.data.1).1 (bF a0.data.1).2.1 a1.2).2 != (0:Int))=true→tA a2 (22:Int))∧(((bo (bF a0.data.1).1 (bF a0.data.1).2.1 a1.2).2 != (0:Int))=false→a2 [.agg [.i a1.1,.i a1.2,.v (.bool false),.v (.int .i64 (bo (bF a0.data.1).1 (bF a0.data.1).2.1 a1.2).1),.v (.string ⟨⟨[]⟩⟩)],.d (.i 0)] [])
def Zfq(a0:ByteArray)(a1:KT)(a2:Ty):Prop:=(((bF a0.data.1).2.2==(0:Int))=false→(((bF a0.data.1).2.2 != (0:Int))=true→tA a1 (22:Int))∧(((bF a0.data.1).2.2 != (0:Int))=false→a1 [.agg [.i a2.1,.i a2.2,.v (.bool false),.v (.int .i64 (bF a0.data.1).1),.v (.string ⟨⟨[]⟩⟩)],.d (.i 0)] []))
def Zfz(a0:Ty)(a1:ByteArray)(a2:KT):Prop:=(a0.1==5)=true→a1.size≤(1000:Nat)∧(((dO a1.data.1).2 != (0:Int))=true→tA a2 (22:Int))∧(((dO a1.data.1).2 != (0:Int))=false→a2 [.agg [.i a0.1,.i a0.2,.v (.bool false),.v (.int .i64 (dO a1.data.1).1),.v (.string ⟨⟨[]⟩⟩)],.d (.i 0)] [])
def Zf3(a0:Ty)(a1:ByteArray)(a2:KT)(k:Prop):Prop:=(a0.1==3)=false→(Zfz a0 a1 a2)∧k
theorem aeU(s:ByteArray)(t:Ty)(Q:KT):vc bl Bv bf R3 (f147.body.getD .skip) f147.results.toList [.d (.v (.string s)),.agg t.cs] Q=(((t.1==1)=true→(({data:={toList:=[(70:UInt8),(65:UInt8),(76:UInt8),(83:UInt8),(69:UInt8)]:Array UInt8}:ByteArray}=={data:={toList:=[(84:UInt8),(82:UInt8),(85:UInt8),(69:UInt8)]:Array UInt8}:ByteArray})=true→s.size≤(1000:Nat)∧Zb3 s Q t)∧(({data:={toList:=[(70:UInt8),(65:UInt8),(76:UInt8),(83:UInt8),(69:UInt8)]:Array UInt8}:ByteArray}=={data:={toList:=[(84:UInt8),(82:UInt8),(85:UInt8),(69:UInt8)]:Array UInt8}:ByteArray})=false→s.size≤(1000:Nat)∧((tx (jH s.data.1)=={data:={toList:=[(84:UInt8),(82:UInt8),(85:UInt8),(69:UInt8)]:Array UInt8}:ByteArray})=true→Zdz Q t (1:Int))∧((tx (jH s.data.1)=={data:={toList:=[(84:UInt8),(82:UInt8),(85:UInt8),(69:UInt8)]:Array UInt8}:ByteArray})=false→Zb3 s Q t)))∧(Zfx t s Q (((t.1==2)=false→((t.1==3)=true→s.size≤(1000:Nat)∧(((bF s.data.1).2.2==(0:Int))=true→Zfa s t Q)∧Zfq s Q t)∧(Zf3 t s Q (((t.1==5)=false→WR (0:Int) Q t (0:Int)))))))):=by kernel_rfl
theorem aeV(G:aZ gl)(s:ByteArray)(t:Ty)(h1:s.size≤1000):Ct prog gl 147 [.d (.v (.string s)),.agg t.cs] (gives [.agg (dC s.data.toList t).1.cs,.d (.v (.int .i64 (dC s.data.toList t).2))]):=by
 refine aw bN (vD G) aF bD mixed (fn:=f147) (body:=f147.body.getD .skip) (by kernel_rfl) (by kernel_rfl) (by kernel_rfl) (fi:=R3) (by kernel_rfl) (by kernel_rfl) ⟨_,_,rfl,rfl⟩ ?_
 rw[aeU];dsimp -eta -iota -proj only[Zb3,Zdz,WR,tA,Z8,WQ,Zfi,Zem,Zfx,Zfs,Zfa,Zfq,Zf3,Zfz]
 generalize hQ:gives [.agg (dC s.data.toList t).1.cs,.d (.v (.int .i64 (dC s.data.toList t).2))]=Q'
 (repeat' (first|(with_reducible refine And.intro ?_ ?_)|(intro hh;first|(exact absurd hh (by decide))|skip)))
 all_goals first
  |(exact h1)
  |(rw[←hQ];refine⟨?_,rfl⟩;simp only[dC,fC,jI, *,cond_true,cond_false];first|done|rfl)
  |skip
def Le(a:List R)(K:KT):Prop:=match a with
 |[.d (.v (.string s)),.agg [.v (.int .i64 y8),.v (.int .i64 lF)]]=>s.size≤1000∧K [.agg (dC s.data.toList (⟨y8,lF⟩:Ty)).1.cs,.d (.v (.int .i64 (dC s.data.toList (⟨y8,lF⟩:Ty)).2))] []
 |_=>False
theorem Lf(G:aZ gl):CK gl Le 147:=fun a K h=>by
 unfold Le at h
 split at h
 ·obtain⟨h0,hk⟩:=h
  exact(aeV G _ (⟨_,_⟩:Ty) h0).gives hk
 ·exact h.elim
def Bw:aj:=au Bv 147 Le
theorem vE(G:aZ gl):ah prog gl Bw:=af (vD G) (Lf G)
end Go.Proofs.Tryz
