/- Part of the proof: contracts of functions; no condition. -/
import Derived.Test.YtabbmgfeemkkbaaGreatDoorF3
namespace Go.Proofs.Tryz
open Go Go.Dm Go.Ex
set_option maxRecDepth 100000
variable {gl:Nat→Option Obj}
theorem ad_(n:Int)(Q:KT):vc bl A7 bf YB (f43.body.getD .skip) f43.results.toList [.d (.v (.int .i64 n))] Q=((decide (n<0)=true→fb fun aN k=>aQ n=(↑aN:Int)∧(1:Int)=(↑k:Int)∧aN<(18446744073709551616:Nat)∧k≤(1000000000:Nat)∧{data:={toList:=[(45:UInt8)]:Array UInt8}:ByteArray}.size.add (tx (bg k aN [])).size≤(9223372036854775807:Nat)∧Q [.d (.v (.string ({data:={toList:=[(45:UInt8)]:Array UInt8}:ByteArray}++tx (bg k aN []))))] [])∧(decide (n<0)=false→fb fun aN k=>aQ n=(↑aN:Int)∧(1:Int)=(↑k:Int)∧aN<(18446744073709551616:Nat)∧k≤(1000000000:Nat)∧Q [.d (.v (.string (tx (bg k aN []))))] [])):=by kernel_rfl
theorem aea(n:Int)(h1:ar n):Ct prog gl 43 [.d (.v (.int .i64 n))] (gives [.d (.v (.string (tx (Lib.itoa n))))]):=by
 refine cz u_ f43 YB ⟨_,_,rfl,rfl⟩ ?_
 rw[ad_];dsimp -eta -iota -proj only[fb]
 have e:=JR n
 have hl:=iQ 1 n.natAbs [] (by have:=h1.1;have:=h1.2;omega)
 simp only[List.length_nil]at hl
 have hN:n.natAbs<18446744073709551616:=by have:=h1.1;have:=h1.2;omega
 refine⟨fun h=>?_,fun h=>?_⟩
 ·refine⟨n.natAbs,1,jg h1,rfl,hN,by decide,?_,?_⟩
  ·show 1+(tx _).size≤_
   rw[az];omega
  ·rw[e,if_pos (of_decide_eq_true h)]
   exact⟨rfl,rfl⟩
 ·refine⟨n.natAbs,1,jg h1,rfl,hN,by decide,?_⟩
  rw[e,if_neg (of_decide_eq_false h)]
  exact⟨rfl,rfl⟩
def Db(a:List R)(K:KT):Prop:=match a with
 |[.d (.v (.int .i64 n))]=>ar n∧K [.d (.v (.string (tx (Lib.itoa n))))] []
 |_=>False
theorem yY:CK gl Db 43:=fun a K h=>by
 unfold Db at h
 split at h
 ·obtain⟨h0,hk⟩:=h
  exact(aea _ h0).gives hk
 ·exact h.elim
def A8:aj:=au A7 43 Db
theorem ve:ah prog gl A8:=af u_ yY
def XL(a0:Int):List R:=[.d (.v (.string ⟨⟨[]⟩⟩)),.d (.i a0)]
def SZ(a0:KT)(a1:Int):Prop:=a0 (XL a1) []
theorem aec(v n:Int)(Q:KT):vc bl A8 bf Y6 (f84.body.getD .skip) f84.results.toList [.d (.v (.int .i64 v)),.d (.v (.int .i64 n))] Q=(((bif decide (n<0)then true else decide (n>18))=true→SZ Q (1:Int))∧((bif decide (n<0)then true else decide (n>18))=false→fb fun aN k=>aQ v=(↑aN:Int)∧IntKind.i64.wrap (n+1)=(↑k:Int)∧aN<(18446744073709551616:Nat)∧k≤(1000000000:Nat)∧(decide (n>0)=true→fb fun l h=>l=(0:Nat)∧V.i (IntKind.i64.wrap ((↑(tx (bg k aN [])).size:Int)-n))=V.i (↑h:Int)∧l≤h∧h≤(tx (bg k aN [])).size∧True∧((tx (bg k aN [])).extract l h).size.succ≤(9223372036854775807:Nat)∧fb fun gh iv=>V.i (IntKind.i64.wrap ((↑(tx (bg k aN [])).size:Int)-n))=V.i (↑gh:Int)∧iv=(tx (bg k aN [])).size∧gh≤iv∧iv≤(tx (bg k aN [])).size∧True∧((tx (bg k aN [])).extract l h++{data:={toList:=[(46:UInt8)]:Array UInt8}:ByteArray}).size.add ((tx (bg k aN [])).extract gh iv).size≤(9223372036854775807:Nat)∧(decide (v<0)=true→{data:={toList:=[(45:UInt8)]:Array UInt8}:ByteArray}.size.add ((tx (bg k aN [])).extract l h++{data:={toList:=[(46:UInt8)]:Array UInt8}:ByteArray}++(tx (bg k aN [])).extract gh iv).size≤(9223372036854775807:Nat)∧Q [.d (.v (.string ({data:={toList:=[(45:UInt8)]:Array UInt8}:ByteArray}++((tx (bg k aN [])).extract l h++{data:={toList:=[(46:UInt8)]:Array UInt8}:ByteArray}++(tx (bg k aN [])).extract gh iv)))),.d (.i 0)] [])∧(decide (v<0)=false→Q [.d (.v (.string ((tx (bg k aN [])).extract l h++{data:={toList:=[(46:UInt8)]:Array UInt8}:ByteArray}++(tx (bg k aN [])).extract gh iv))),.d (.i 0)] []))∧(decide (n>0)=false→(decide (v<0)=true→{data:={toList:=[(45:UInt8)]:Array UInt8}:ByteArray}.size.add (tx (bg k aN [])).size≤(9223372036854775807:Nat)∧Q [.d (.v (.string ({data:={toList:=[(45:UInt8)]:Array UInt8}:ByteArray}++tx (bg k aN [])))),.d (.i 0)] [])∧(decide (v<0)=false→Q [.d (.v (.string (tx (bg k aN [])))),.d (.i 0)] [])))):=by kernel_rfl
theorem aed(v n:Int)(h1:ar v)(h2:0≤n)(h3:n≤18):Ct prog gl 84 [.d (.v (.int .i64 v)),.d (.v (.int .i64 n))] (gives [.d (.v (.string (tx (tP v n)))),.d (.v (.int .i64 0))]):=by
 refine cz ve f84 Y6 ⟨_,_,rfl,rfl⟩ ?_
 rw[aec];dsimp -eta -iota -proj only[SZ,XL,fb]
 have hN:v.natAbs<18446744073709551616:=by have:=h1.1;have:=h1.2;omega
 have ew:IntKind.i64.wrap (n+1)=((n.toNat+1:Nat):Int):=by rw[a_ (by omega)];omega
 have hl:=iQ (n.toNat+1) v.natAbs [] (by have:=h1.1;have:=h1.2;omega)
 have Wq:n.toNat+1≤(bg (n.toNat+1) v.natAbs []).length:=by
  unfold bg;simp only[List.length_append,List.length_replicate,List.length_nil];omega
 simp only[List.length_nil]at hl
 rw[P' h1 h2 h3]
 refine⟨fun h=>?_,fun _=>⟨v.natAbs,n.toNat+1,jg h1,ew,hN,by omega,?_⟩⟩
 ·rw[decide_eq_false (by omega:¬n<0),decide_eq_false (by omega:¬n>18)]at h;cases h
 dsimp only
 generalize bg (n.toNat+1) v.natAbs []=s at *
 refine⟨fun h=>?_,fun h=>?_⟩
 ·have h:=of_decide_eq_true h
  have e1:(tx s).extract 0 (s.length-n.toNat)=tx (s.take (s.length-n.toNat)):=fZ _ _
  have e2:(tx s).extract (s.length-n.toNat) (tx s).size=tx (s.drop (s.length-n.toNat)):=gL _ _
  have e3:IntKind.i64.wrap (((tx s).size:Int)-n)=((s.length-n.toNat:Nat):Int):=by rw[az,a_ (by omega)];omega
  refine⟨0,s.length-n.toNat,rfl,by rw[e3],Nat.zero_le _,by rw[az];omega,trivial,?_,s.length-n.toNat,(tx s).size,by rw[e3],rfl,by rw[az];omega,Nat.le_refl _,trivial,?_,?_⟩
  ·rw[e1,az,List.length_take];omega
  ·rw[e1,e2]
   show ByteArray.size (tx _++tx [46])+ByteArray.size (tx _)≤_
   rw[aD,az,az]
   simp;omega
  ·rw[e1,e2,if_pos h]
   refine⟨fun h'=>⟨?_,?_,rfl⟩,fun h'=>⟨?_,rfl⟩⟩
   ·show ByteArray.size (tx [45])+ByteArray.size (tx _++tx [46]++tx _)≤_
    rw[aD,aD,az,az]
    simp;omega
   ·rw[if_pos (of_decide_eq_true h')]
    show [R.d (D.v (Value.string (tx [45]++(tx _++tx [46]++tx _)))),_]=_
    rw[aD,aD,aD]
    rfl
   ·rw[if_neg (of_decide_eq_false h')]
    show [R.d (D.v (Value.string (tx _++tx [46]++tx _))),_]=_
    rw[aD,aD]
 ·have h:=of_decide_eq_false h
  rw[if_neg h]
  refine⟨fun h'=>⟨?_,?_,rfl⟩,fun h'=>⟨?_,rfl⟩⟩
  ·show ByteArray.size (tx [45])+ByteArray.size (tx _)≤_
   rw[az,az]
   simp;omega
  ·rw[if_pos (of_decide_eq_true h')]
   show [R.d (D.v (Value.string (tx [45]++tx _))),_]=_
   rw[aD]
   rfl
  ·rw[if_neg (of_decide_eq_false h')]
def J5(a:List R)(K:KT):Prop:=match a with
 |[.d (.v (.int .i64 v)),.d (.v (.int .i64 n))]=>ar v∧0≤n∧n≤18∧K [.d (.v (.string (tx (tP v n)))),.d (.v (.int .i64 0))] []
 |_=>False
theorem J6:CK gl J5 84:=fun a K h=>by
 unfold J5 at h
 split at h
 ·obtain⟨h0,h1,h2,hk⟩:=h
  exact(aed _ _ h0 h1 h2).gives hk
 ·exact h.elim
def A9:aj:=au A8 84 J5
theorem vf:ah prog gl A9:=af ve J6
structure CY where
 y:Int
 m:Nat
 d:Int
def Qe(n:Int)(x:CY):St:={tm:=[(0,.d (.v (.int .i64 (n+719162)))),(2,.d (.v (.int .i64 0))),(3,.d (.v (.int .i64 0))),(4,.d (.v (.int .i64 0))),(5,.d (.v (.int .i64 0))),(6,.d (.v (.int .i64 x.y)))],hp:=[],kn:=[],gd:=[]}
def Qf(n:Int)(x:CY):St:={tm:=[(2,.d (.v (.int .i64 0))),(3,.d (.v (.int .i64 0))),(4,.d (.v (.int .i64 0))),(5,.d (.v (.int .i64 0))),(6,.d (.v (.int .i64 x.y))),(7,.d (.v (.int .i64 x.d))),(8,.d (.v (.int .i64 ((x.m:Int)+1))))],hp:=[],kn:=[],gd:=[]}
def J7(n:Int):Fi:={ZG with lx:=[(5,{X:=CY,sh:=Qe n,P:=fun _ k x=>1≤x.y∧x.y≤9999∧aC x.y≤n+719162∧k=10001-x.y.toNat}),(9,{X:=CY,sh:=Qf n,P:=fun _ k x=>1≤x.y∧x.y≤9999∧x.m<12∧0≤x.d∧x.d≤366∧x.d+cO x.y x.m=n+719162-aC x.y∧n+719162<aC (x.y+1)∧k=12-x.m})]}
def WL(a0:Int)(k:Prop):Prop:=(bif decide (a0<(-719162:Int))then true else decide (a0>2932896))=true→k
def Zjw(a0:Int)(a1:KT):Prop:=WL a0 (a1 [.d (.i 0),.d (.i 0),.d (.i 0),.d (.i 13)] [])
def Vb(a0:Int)(k:Prop):Prop:=(bif decide (a0<(-719162:Int))then true else decide (a0>2932896))=false→k
def Zij(a0:Int)(a1:CY):St:={tm:=[(0,.i (a0+719162)),(2,.i 0),(3,.i 0),(4,.i 0),(5,.i 0),(6,.i a1.1)],hp:=[],kn:=[],gd:=[]:St}
def Zhq(a0:CY):St:={tm:=[(2,.i 0),(3,.i 0),(4,.i 0),(5,.i 0),(6,.i a0.1),(7,.i a0.3),(8,.i ((↑a0.2:Int)+1))],hp:=[],kn:=[],gd:=[]:St}
def Zjg(a0:CY)(a1:Int)(a2:Nat):Prop:=(1:Int)≤a0.1∧a0.1≤9999∧a0.2<(12:Nat)∧(0:Int)≤a0.3∧a0.3≤366∧a0.3+cO a0.1 a0.2=a1+719162-aC a0.1∧a1+719162<aC (a0.1+1)∧a2=(12:Nat)-a0.2
theorem aee(n:Int)(Q:KT):vc bl A9 bf (J7 n) (f109.body.getD .skip) f109.results.toList [.d (.v (.int .i64 n))] Q=((Zjw n Q)∧(Vb n ((366:Int)≠(0:Int)∧∃(x0:CY),({tm:=[(0,.i (IntKind.i64.wrap (n-(-719162:Int)))),(2,.i 0),(3,.i 0),(4,.i 0),(5,.i 0),(6,.i (IntKind.i64.wrap (IntKind.i64.wrap ((IntKind.i64.wrap (n-(-719162:Int))).tdiv (366:Int))+(1:Int))))],hp:=[],kn:=[],gd:=[]:St}=(Zij n x0)∧∃(aN:Nat),(1:Int)≤x0.1∧x0.1≤9999∧aC x0.1≤n+719162∧aN=(10001:Nat)-x0.1.toNat)∧∀(aN:Nat) (x:CY),(1:Int)≤x.1∧x.1≤9999∧aC x.1≤n+719162∧aN=(10001:Nat)-x.1.toNat→(1:Int)≤IntKind.i64.wrap (x.1+1)∧IntKind.i64.wrap (x.1+1)≤(100000:Int)∧(decide (aC (IntKind.i64.wrap (x.1+1))≤n+719162)=true→∃(m:Nat),∃(x':CY),m<aN∧{tm:=[(0,.i (n+719162)),(2,.i 0),(3,.i 0),(4,.i 0),(5,.i 0),(6,.i (IntKind.i64.wrap (x.1+1)))],hp:=[],kn:=[],gd:=[]:St}=(Zij n x')∧(1:Int)≤x'.1∧x'.1≤(9999:Int)∧aC x'.1≤n+719162∧m=(10001:Nat)-x'.1.toNat)∧(decide (aC (IntKind.i64.wrap (x.1+1))≤n+719162)=false→(1:Int)≤x.1∧x.1≤100000∧∃(x0:CY),({tm:=[(2,.i 0),(3,.i 0),(4,.i 0),(5,.i 0),(6,.i x.1),(7,.i (IntKind.i64.wrap (n+719162-aC x.1))),(8,.i 1)],hp:=[],kn:=[],gd:=[]:St}=(Zhq x0)∧∃(aW:Nat),Zjg x0 n aW)∧∀(aW:Nat) (x:CY),(1:Int)≤x.1∧x.1≤9999∧x.2<(12:Nat)∧(0:Int)≤x.3∧x.3≤366∧x.3+cO x.1 x.2=n+719162-aC x.1∧n+719162<aC (x.1+1)∧aW=(12:Nat)-x.2→(decide (x.3≥ig x.1 ((↑x.2:Int)+1))=true→∃(m:Nat),∃(x':CY),m<aW∧{tm:=[(2,.i 0),(3,.i 0),(4,.i 0),(5,.i 0),(6,.i x.1),(7,.i (IntKind.i64.wrap (x.3-ig x.1 ((↑x.2:Int)+1)))),(8,.i (IntKind.i64.wrap ((↑x.2:Int)+1+(1:Int))))],hp:=[],kn:=[],gd:=[]:St}=(Zhq x')∧Zjg x' n m)∧(decide (x.3≥ig x.1 ((↑x.2:Int)+1))=false→Q [.d (.i x.1),.d (.i ((↑x.2:Int)+1)),.d (.i (IntKind.i64.wrap (x.3+1))),.d (.i 0)] []))))):=by kernel_rfl
theorem aef(n:Int)(h1:-719162≤n)(h2:n≤2932896):Ct prog gl 109 [.d (.v (.int .i64 n))] (fun res fin=>fin=[]∧∃y m d,jX n y m d∧res=[.d (.v (.int .i64 y)),.d (.v (.int .i64 m)),.d (.v (.int .i64 d)),.d (.v (.int .i64 0))]):=by
 refine aw bN (vf) aF bD mixed (fn:=f109) (body:=f109.body.getD .skip) (by kernel_rfl) (by kernel_rfl) (by kernel_rfl) (fi:=J7 n) (by kernel_rfl) (by kernel_rfl) (let ⟨y,m,d,h⟩:=sH h1 h2;⟨_,_,rfl,y,m,d,h,rfl⟩) ?_
 rw[aee];dsimp -eta -iota -proj only[Zjw,WL,Vb,Zij,Zhq,Zjg]
 have e0:(bif decide (n < -719162)then true else decide (n>2932896))=false:=by
  rw[decide_eq_false (by omega),decide_eq_false (by omega)];rfl
 rw[e0]
 refine⟨fun h=>(by cases h),fun _=>⟨by decide,⟨(n+719162)/366+1,0,0⟩,⟨?_,_,?_,?_,?_,rfl⟩,fun k2 z hz=>?_⟩⟩
 ·rw[a_ (n:=n - -719162) (by omega),Int.tdiv_eq_ediv_of_nonneg (by omega),a_ (n:=(n - -719162)/366) (by omega),a_ (n:=(n - -719162)/366+1) (by omega)]
  all_goals(try(show _=St.mk _ _ _ _ _))
  all_goals(try rw[show n - -719162=n+719162 by omega])
  all_goals(try rfl)
 ·show 1≤(n+719162)/366+1;omega
 ·show(n+719162)/366+1≤9999;omega
 ·show aC ((n+719162)/366+1)≤n+719162
  unfold aC;omega
 ·obtain⟨z1,z2,z3,z4⟩:=hz
  rw[a_ (n:=z.y+1) (by omega)]
  refine⟨by omega,by omega,fun hi=>?_,fun hi=>?_⟩
  ·have hi:=of_decide_eq_true hi
   have:z.y+1≤9999:=by unfold aC at hi;omega
   exact⟨k2-1,⟨z.y+1,0,0⟩,by omega,rfl,by show 1≤z.y+1;omega,this,hi,by show k2-1=10001-(z.y+1).toNat;omega⟩
  ·have hi:=of_decide_eq_false hi
   have hs:=fk z1
   have hl:=sF z.y
   have hyb:=fB (y:=z.y) z1 (by omega)
   refine⟨by omega,by omega,⟨z.y,0,n+719162-aC z.y⟩,⟨?_,_,z1,z2,(by show 0<12;decide),?_,?_,?_,?_,rfl⟩,fun k3 u hu=>?_⟩
   ·rw[a_ (n:=n+719162-aC z.y) (by omega)]
    rfl
   ·show 0≤n+719162-aC z.y;omega
   ·show n+719162-aC z.y≤366;omega
   ·show n+719162-aC z.y+cO z.y 0=n+719162-aC z.y
    have:cO z.y 0=0:=rfl
    omega
   ·show n+719162<aC (z.y+1);omega
   ·obtain⟨u1,u2,u3,u4,u5,u6,u7,u8⟩:=hu
    have hm:=eI (y:=u.y) (m:=(u.m:Int)+1) (by omega) (by omega) (by omega)
    have hsu:=fk u1
    have h12:=dh (y:=u.y) (j:=u.m+1) (k:=12) (by omega) (by omega) (by omega)
    rw[sO (by omega) (by omega)]
    refine⟨fun hi=>?_,fun hi=>?_⟩
    ·have hi:=of_decide_eq_true hi
     have hlt:u.m+1<12:=by
         rcases Nat.lt_or_ge (u.m+1) 12 with h|h
         ·exact h
         ·have e:u.m=11:=by omega
          have e12:=kB u.y (by omega)
          have:cO u.y 12=cO u.y 11+bB u.y ((11:Nat)+1):=rfl
          rw[e]at hi u6
          omega
     refine⟨k3-1,⟨u.y,u.m+1,u.d-bB u.y ((u.m:Int)+1)⟩,by omega,?_,u1,u2,hlt,?_,?_,?_,u7,?_⟩
     ·rw[a_ (n:=u.d-bB u.y ((u.m:Int)+1)) (by omega),a_ (n:=(u.m:Int)+1+1) (by omega)]
      all_goals(try rw[show((u.m:Int)+1+1)=((u.m+1:Nat):Int)+1 by omega])
      all_goals(try rfl)
     ·show 0≤u.d-bB u.y ((u.m:Int)+1);omega
     ·show u.d-bB u.y ((u.m:Int)+1)≤366;omega
     ·show u.d-bB u.y ((u.m:Int)+1)+cO u.y (u.m+1)=_
      simp only[cO];omega
     ·show k3-1=12-(u.m+1);omega
    ·have hi:=of_decide_eq_false hi
     rw[a_ (n:=u.d+1) (by omega)]
     refine⟨rfl,u.y,(u.m:Int)+1,u.d+1,⟨u1,u2,by omega,by omega,by omega,by omega,?_⟩,rfl⟩
     rw[show((u.m:Int)+1-1).toNat=u.m by omega]
     omega
def J8(a:List R)(K:KT):Prop:=match a with
 |[.d (.v (.int .i64 n))]=>-719162≤n∧n≤2932896∧∀y m d:Int,jX n y m d→K [.d (.v (.int .i64 y)),.d (.v (.int .i64 m)),.d (.v (.int .i64 d)),.d (.v (.int .i64 0))] []
 |_=>False
theorem J9:CK gl J8 109:=fun a K h=>by
 unfold J8 at h
 split at h
 ·obtain⟨h1,h2,h3⟩:=h
  exact(aef _ h1 h2).mono fun res fin ⟨e1,y,m,d,h,e2⟩=>by subst e1;subst e2;exact h3 y m d h
 ·exact h.elim
def A_:aj:=au A9 109 J8
theorem vg:ah prog gl A_:=af vf J9
def Ziq(a0 a1:Int)(k':Nat→Nat→Prop):Prop:=fb fun n k=>IntKind.u64.wrap a0=(↑n:Int)∧a1=(↑k:Int)∧n<(18446744073709551616:Nat)∧k≤(1000000000:Nat)∧k' n k
theorem aeg(n:Int)(Q:KT):vc bl A_ bf Y7 (f85.body.getD .skip) f85.results.toList [.d (.v (.int .i64 n))] Q=((-719162:Int)≤n∧n≤2932896∧∀(y m d:Int),jX n y m d→(((0:Int) != (0:Int))=true→SZ Q (0:Int))∧(((0:Int) != (0:Int))=false→Ziq y (4:Int) fun n k=>(tx (bg k n [])).size.succ≤(9223372036854775807:Nat)∧Ziq m (2:Int) fun aN k_1=>(tx (bg k n [])++{data:={toList:=[(45:UInt8)]:Array UInt8}:ByteArray}).size.add (tx (bg k_1 aN [])).size≤(9223372036854775807:Nat)∧(tx (bg k n [])++{data:={toList:=[(45:UInt8)]:Array UInt8}:ByteArray}++tx (bg k_1 aN [])).size.succ≤(9223372036854775807:Nat)∧Ziq d (2:Int) fun aW k_2=>(tx (bg k n [])++{data:={toList:=[(45:UInt8)]:Array UInt8}:ByteArray}++tx (bg k_1 aN [])++{data:={toList:=[(45:UInt8)]:Array UInt8}:ByteArray}).size.add (tx (bg k_2 aW [])).size≤(9223372036854775807:Nat)∧Q [.d (.v (.string (tx (bg k n [])++{data:={toList:=[(45:UInt8)]:Array UInt8}:ByteArray}++tx (bg k_1 aN [])++{data:={toList:=[(45:UInt8)]:Array UInt8}:ByteArray}++tx (bg k_2 aW [])))),.d (.i 0)] [])):=by kernel_rfl
theorem aeh(n:Int)(h1:-719162≤n)(h2:n≤2932896):Ct prog gl 85 [.d (.v (.int .i64 n))] (gives [.d (.v (.string (tx (n5 n)))),.d (.v (.int .i64 0))]):=by
 refine cz vg f85 Y7 ⟨_,_,rfl,rfl⟩ ?_
 rw[aeg];dsimp -eta -iota -proj only[SZ,XL,Ziq,fb]
 refine⟨h1,h2,fun y m d hc=>⟨fun h=>(by cases h),fun _=>?_⟩⟩
 rw[yV hc]
 obtain⟨c1,c2,c3,c4,c5,c6,c7⟩:=hc
 have hm:=eI (y:=y) (m:=m) (by omega) c3 c4
 have ey:IntKind.u64.wrap y=(y.toNat:Int):=by rw[aP];simp only[ba];omega
 have em:IntKind.u64.wrap m=(m.toNat:Int):=by rw[aP];simp only[ba];omega
 have ed:IntKind.u64.wrap d=(d.toNat:Int):=by rw[aP];simp only[ba];omega
 have py:=iQ 4 y.toNat [] (by omega)
 have pm:=iQ 2 m.toNat [] (by omega)
 have pd:=iQ 2 d.toNat [] (by omega)
 simp only[List.length_nil]at py pm pd
 have WK:({data:={toList:=[45]}}:ByteArray)=tx [45]:=rfl
 rw[WK]
 have e:P6 y m d=bg 4 y.toNat []++[45]++bg 2 m.toNat []++[45]++bg 2 d.toNat []:=by
  rw[jZ _ _ (by decide),jZ _ _ (by decide),jZ _ _ (by decide),Int.toNat_of_nonneg (by omega),Int.toNat_of_nonneg (by omega),Int.toNat_of_nonneg (by omega)]
  rfl
 rw[e]
 refine⟨y.toNat,4,ey,rfl,by omega,by decide,?_,m.toNat,2,em,rfl,by omega,by decide,?_,?_,d.toNat,2,ed,rfl,by omega,by decide,?_,?_,rfl⟩
 ·rw[az];omega
 ·rw[aD,az,az];simp;omega
 ·rw[aD,aD,az];simp;omega
 ·rw[aD,aD,aD,az,az];simp;omega
 ·rw[aD,aD,aD,aD]
def J_(a:List R)(K:KT):Prop:=match a with
 |[.d (.v (.int .i64 n))]=>-719162≤n∧n≤2932896∧K [.d (.v (.string (tx (n5 n)))),.d (.v (.int .i64 0))] []
 |_=>False
theorem Kc:CK gl J_ 85:=fun a K h=>by
 unfold J_ at h
 split at h
 ·obtain⟨h0,h1,hk⟩:=h
  exact(aeh _ h0 h1).gives hk
 ·exact h.elim
def Kd:aj:=au A_ 85 J_
theorem Ep:ah prog gl Kd:=af vg Kc
end Go.Proofs.Tryz
