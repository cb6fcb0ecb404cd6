/- Part of the proof: contracts of functions; no condition. -/
import Derived.Test.YtabbmgfeemkkbaaGreatDoorRd
namespace Go.Proofs.Tryz
open Go Go.Dm Go.Ex
set_option maxRecDepth 100000
variable {gl:Nat→Option Obj}
theorem Dr{a:Int}(h:ar a):0≤aQ a∧aQ a<ba:=by rw[jg h];exact n_ h
theorem afr(a b:Int)(Q:KT):vc bl BK bf R0 (f144.body.getD .skip) f144.results.toList [.d (.v (.int .i64 a)),.d (.v (.int .i64 b))] Q=((0:Int)≤aQ a∧aQ a<ba∧(0:Int)≤aQ b∧aQ b<ba∧((decide (a<0)==decide (b<0))=true→Q [.agg [.i (IntKind.i64.wrap (aQ a*aQ b/ba)),.v (.int .u64 (aQ a*aQ b % ba))]] [])∧((decide (a<0)==decide (b<0))=false→((IntKind.u64.wrap ((0:Int)-aQ a*aQ b % ba)==(0:Int))=true→Q [.agg [.i (IntKind.i64.wrap (IntKind.u64.wrap (aB.bits BinOp.xor IntKind.u64 (if IntKind.u64.signed=true then(-1:Int)else IntKind.u64.max) (aQ a*aQ b/ba)+(1:Int)))),.v (.int .u64 (IntKind.u64.wrap ((0:Int)-aQ a*aQ b % ba)))]] [])∧((IntKind.u64.wrap ((0:Int)-aQ a*aQ b % ba)==(0:Int))=false→Q [.agg [.i (IntKind.i64.wrap (aB.bits BinOp.xor IntKind.u64 (if IntKind.u64.signed=true then(-1:Int)else IntKind.u64.max) (aQ a*aQ b/ba))),.v (.int .u64 (IntKind.u64.wrap ((0:Int)-aQ a*aQ b % ba)))]] []))):=by kernel_rfl
theorem afs(a b:Int)(h1:ar a)(h2:ar b):Ct prog gl 144 [.d (.v (.int .i64 a)),.d (.v (.int .i64 b))] (gives [.agg [.v (.int .i64 (cA a b)),.v (.int .u64 (cN a b))]]):=by
 refine cz vQ f144 R0 ⟨_,_,rfl,rfl⟩ ?_
 rw[afr]
 have ha:=Dr h1
 have hb:=Dr h2
 obtain⟨e1,e2⟩:=afq h1 h2
 refine⟨ha.1,ha.2,hb.1,hb.2,fun h=>?_,fun h=>⟨fun h3=>?_,fun h3=>?_⟩⟩<;>rw[←e1,←e2,jg h1,jg h2]<;>unfold L1 BP<;>rw[h]
 ·exact⟨rfl,rfl⟩
 all_goals
  rw[jg h1,jg h2]at h3
  rw[h3]
  exact⟨rfl,rfl⟩
def L2(a:List R)(K:KT):Prop:=match a with
 |[.d (.v (.int .i64 a)),.d (.v (.int .i64 b))]=>ar a∧ar b∧K [.agg [.v (.int .i64 (cA a b)),.v (.int .u64 (cN a b))]] []
 |_=>False
theorem L3:CK gl L2 144:=fun a K h=>by
 unfold L2 at h
 split at h
 ·obtain⟨h0,h1,hk⟩:=h
  exact(afs _ _ h0 h1).gives hk
 ·exact h.elim
def BQ:aj:=au BK 144 L2
theorem vW:ah prog gl BQ:=af vQ L3
theorem L4{h1 l1 h2 l2 x y:Int}(e1:h1*ba+l1=x)(a1:0≤l1)(b1:l1<ba)(e2:h2*ba+l2=y)(a2:0≤l2)(b2:l2<ba):mN h1 l1 h2 l2=zj x y:=by
 obtain⟨c1,c2⟩:=vV e1 a1 b1 e2 a2 b2
 unfold mN zj
 have d1:(bif decide (h1<h2)then true else bif h1==h2 then decide (l1<l2)else false)=decide (x<y):=by
  rw[Bool.eq_iff_iff,decide_eq_true_iff,←c1]
  by_cases g1:h1<h2<;>by_cases g2:h1=h2<;>simp[g1,g2]
 have d2:(h1==h2&&(l1==l2&&true))=decide (x=y):=by
  rw[Bool.eq_iff_iff,decide_eq_true_iff,←c2]
  simp
 rw[d1,d2]
 by_cases g1:x<y
 ·simp[g1]
 ·by_cases g2:x=y<;>simp[g1,g2]
theorem L5{h1 l1 h2 l2 x y:Int}(e1:h1*ba+l1=x)(a1:0≤l1)(b1:l1<ba)(e2:h2*ba+l2=y)(a2:0≤l2)(b2:l2<ba):mT h1 l1 h2 l2=zj x y:=by
 obtain⟨c1,c2⟩:=vV e1 a1 b1 e2 a2 b2
 unfold mT zj
 have d1:(bif decide (h1<h2)then true else bif h1==h2 then decide (l1<l2)else false)=decide (x<y):=by
  rw[Bool.eq_iff_iff,decide_eq_true_iff,←c1]
  by_cases g1:h1<h2<;>by_cases g2:h1=h2<;>simp[g1,g2]
 have d2:(h1==h2&&(l1==l2&&true))=decide (x=y):=by
  rw[Bool.eq_iff_iff,decide_eq_true_iff,←c2]
  simp
 rw[d1,d2]
 by_cases g1:x<y
 ·have:¬x=y:=by omega
  simp[g1,this]
 ·by_cases g2:x=y<;>simp[g1,g2]
theorem L6(x y:Int):mU x y=zj x y:=by
 unfold mU zj
 by_cases g1:x<y
 ·simp[g1]
 ·by_cases g2:x=y
  ·have:¬x>y:=by omega
   simp[g1,g2]
  ·have:x>y:=by omega
   simp[g1,g2,this]
theorem xx(v:Go.Ex.AV):0≤cn v∧cn v≤18∧(v.t.k≠3→cn v=0):=by
 unfold cn bU
 by_cases h:v.t.k=3
 ·rw[show(v.t.k != 3)=false by simpa using h,cond_false]
  refine⟨?_,?_,fun h'=>absurd h h'⟩<;>(repeat' split)<;>omega
 ·rw[show(v.t.k != 3)=true by simpa using h,cond_true]
  exact⟨by decide,by decide,fun _=>rfl⟩
theorem Dt(a b:Go.Ex.AV):0≤dr (cn a) (cn b)-cn a∧dr (cn a) (cn b)-cn a≤18∧0≤dr (cn a) (cn b)-cn b∧dr (cn a) (cn b)-cn b≤18:=by
 have ha:=xx a
 have hb:=xx b
 unfold dr
 split<;>omega
theorem L7{a b:Go.Ex.AV}(ha:ar a.n)(hb:ar b.n)(h4:a.t.k≠4)(h3:a.t.k≠2→a.t.k≠3→b.t.k≠3):cP a b=zj (a.n*(aK (dr (cn a) (cn b)-cn a)).1) (b.n*(aK (dr (cn a) (cn b)-cn b)).1):=by
 obtain⟨m1,m2,m3,m4⟩:=Dt a b
 have p1:=lY ⟨m1,m2⟩
 have p2:=lY ⟨m3,m4⟩
 have hN:C5 a b=zj (a.n*(aK (dr (cn a) (cn b)-cn a)).1) (b.n*(aK (dr (cn a) (cn b)-cn b)).1):=by
  have e1:IntKind.i64.wrap (dr (cn a) (cn b)-cn a)=dr (cn a) (cn b)-cn a:=a_ (by omega)
  have e2:IntKind.i64.wrap (dr (cn a) (cn b)-cn b)=dr (cn a) (cn b)-cn b:=a_ (by omega)
  have w1:kN a (dr (cn a) (cn b))=(cA a.n (aK (dr (cn a) (cn b)-cn a)).1,cN a.n (aK (dr (cn a) (cn b)-cn a)).1):=by
   unfold kN
   show(cA a.n (aK (IntKind.i64.wrap (dr (cn a) (cn b)-cn a))).1,cN a.n (aK (IntKind.i64.wrap (dr (cn a) (cn b)-cn a))).1)=_
   rw[e1]
  have w2:kN b (dr (cn a) (cn b))=(cA b.n (aK (dr (cn a) (cn b)-cn b)).1,cN b.n (aK (dr (cn a) (cn b)-cn b)).1):=by
   unfold kN
   show(cA b.n (aK (IntKind.i64.wrap (dr (cn a) (cn b)-cn b))).1,cN b.n (aK (IntKind.i64.wrap (dr (cn a) (cn b)-cn b))).1)=_
   rw[e2]
  unfold C5
  rw[w1,w2]
  have v1:=lI ha (show ar _ from⟨by omega,by omega⟩:ar (aK (dr (cn a) (cn b)-cn a)).1)
  have v2:=lI hb (show ar _ from⟨by omega,by omega⟩:ar (aK (dr (cn a) (cn b)-cn b)).1)
  exact L5 v1.1 v1.2.1 v1.2.2 v2.1 v2.2.1 v2.2.2
 unfold cP
 rw[show(a.t.k==4)=false by simpa using h4,cond_false]
 by_cases k2:a.t.k=2
 ·rw[show(a.t.k==2)=true by simpa using k2,cond_true,hN]
 ·rw[show(a.t.k==2)=false by simpa using k2,cond_false]
  by_cases k3:a.t.k=3
  ·rw[show(a.t.k==3)=true by simpa using k3,cond_true,hN]
  ·rw[show(a.t.k==3)=false by simpa using k3,cond_false,L6]
   have z1:=(xx a).2.2 k3
   have z2:=(xx b).2.2 (h3 k2 k3)
   rw[z1,z2]
   have:(aK (dr 0 0-0)).1=1:=rfl
   rw[this,Int.mul_one,Int.mul_one]
theorem aft(a b:Go.Ex.AV)(Q:KT):vc bl BQ bf Rx (f114.body.getD .skip) f114.results.toList [.agg a.cs,.agg b.cs] Q=(((a.1.1==4)=true→Q [.d (.i (w5 (Op.bytesLess a.4.toList b.4.toList) !(Op.bytesLess a.4.toList b.4.toList||a.4==b.4)))] [])∧((a.1.1==4)=false→ar a.3∧ar (aK (IntKind.i64.wrap ((if bJ b.1.1 b.1.2 b.2 b.3 b.4>bJ a.1.1 a.1.2 a.2 a.3 a.4 then bJ b.1.1 b.1.2 b.2 b.3 b.4 else bJ a.1.1 a.1.2 a.2 a.3 a.4)-bJ a.1.1 a.1.2 a.2 a.3 a.4))).1∧ar b.3∧ar (aK (IntKind.i64.wrap ((if bJ b.1.1 b.1.2 b.2 b.3 b.4>bJ a.1.1 a.1.2 a.2 a.3 a.4 then bJ b.1.1 b.1.2 b.2 b.3 b.4 else bJ a.1.1 a.1.2 a.2 a.3 a.4)-bJ b.1.1 b.1.2 b.2 b.3 b.4))).1∧Q [.d (.i (mN (cA a.3 (aK (IntKind.i64.wrap ((if bJ b.1.1 b.1.2 b.2 b.3 b.4>bJ a.1.1 a.1.2 a.2 a.3 a.4 then bJ b.1.1 b.1.2 b.2 b.3 b.4 else bJ a.1.1 a.1.2 a.2 a.3 a.4)-bJ a.1.1 a.1.2 a.2 a.3 a.4))).1) (cN a.3 (aK (IntKind.i64.wrap ((if bJ b.1.1 b.1.2 b.2 b.3 b.4>bJ a.1.1 a.1.2 a.2 a.3 a.4 then bJ b.1.1 b.1.2 b.2 b.3 b.4 else bJ a.1.1 a.1.2 a.2 a.3 a.4)-bJ a.1.1 a.1.2 a.2 a.3 a.4))).1) (cA b.3 (aK (IntKind.i64.wrap ((if bJ b.1.1 b.1.2 b.2 b.3 b.4>bJ a.1.1 a.1.2 a.2 a.3 a.4 then bJ b.1.1 b.1.2 b.2 b.3 b.4 else bJ a.1.1 a.1.2 a.2 a.3 a.4)-bJ b.1.1 b.1.2 b.2 b.3 b.4))).1) (cN b.3 (aK (IntKind.i64.wrap ((if bJ b.1.1 b.1.2 b.2 b.3 b.4>bJ a.1.1 a.1.2 a.2 a.3 a.4 then bJ b.1.1 b.1.2 b.2 b.3 b.4 else bJ a.1.1 a.1.2 a.2 a.3 a.4)-bJ b.1.1 b.1.2 b.2 b.3 b.4))).1)))] [])):=by kernel_rfl
theorem afu(a b:Go.Ex.AV)(h1:ar a.n)(h2:ar b.n)(h3:a.t.k≠4→a.t.k≠2→a.t.k≠3→b.t.k≠3):Ct prog gl 114 [.agg a.cs,.agg b.cs] (gives [.d (.v (.int .i64 (cP a b)))]):=by
 refine cz vW f114 Rx ⟨_,_,rfl,rfl⟩ ?_
 rw[aft]
 obtain⟨m1,m2,m3,m4⟩:=Dt a b
 have p1:=lY ⟨m1,m2⟩
 have p2:=lY ⟨m3,m4⟩
 have e1:IntKind.i64.wrap (dr (cn a) (cn b)-cn a)=dr (cn a) (cn b)-cn a:=a_ (by omega)
 have e2:IntKind.i64.wrap (dr (cn a) (cn b)-cn b)=dr (cn a) (cn b)-cn b:=a_ (by omega)
 have q1:ar (aK (dr (cn a) (cn b)-cn a)).1:=⟨by omega,by omega⟩
 have q2:ar (aK (dr (cn a) (cn b)-cn b)).1:=⟨by omega,by omega⟩
 refine⟨fun h=>?_,fun h=>?_⟩
 ·unfold cP
  rw[h]
  exact⟨rfl,rfl⟩
 ·show ar a.n∧ar (aK (IntKind.i64.wrap (dr (cn a) (cn b)-cn a))).1∧ar b.n∧ar (aK (IntKind.i64.wrap (dr (cn a) (cn b)-cn b))).1∧gives _ [R.d (D.v (Value.int .i64 (mN (cA a.n (aK (IntKind.i64.wrap (dr (cn a) (cn b)-cn a))).1) (cN a.n (aK (IntKind.i64.wrap (dr (cn a) (cn b)-cn a))).1) (cA b.n (aK (IntKind.i64.wrap (dr (cn a) (cn b)-cn b))).1) (cN b.n (aK (IntKind.i64.wrap (dr (cn a) (cn b)-cn b))).1))))] []
  rw[e1,e2]
  have v1:=lI h1 q1
  have v2:=lI h2 q2
  have h4:a.t.k≠4:=by simpa using h
  rw[L7 h1 h2 h4 (h3 h4)]
  refine⟨h1,q1,h2,q2,?_,rfl⟩
  rw[L4 v1.1 v1.2.1 v1.2.2 v2.1 v2.2.1 v2.2.2]
def L8(a:List R)(K:KT):Prop:=match a with
 |[.agg [.v (.int .i64 C6),.v (.int .i64 nZ),.v (.bool C7),.v (.int .i64 C8),.v (.string C9)],.agg [.v (.int .i64 Fp),.v (.int .i64 qn),.v (.bool Fq),.v (.int .i64 Fs),.v (.string Ft)]]=>ar (⟨⟨C6,nZ⟩,C7,C8,C9⟩:Go.Ex.AV).n∧ar (⟨⟨Fp,qn⟩,Fq,Fs,Ft⟩:Go.Ex.AV).n∧((⟨⟨C6,nZ⟩,C7,C8,C9⟩:Go.Ex.AV).t.k≠4→(⟨⟨C6,nZ⟩,C7,C8,C9⟩:Go.Ex.AV).t.k≠2→(⟨⟨C6,nZ⟩,C7,C8,C9⟩:Go.Ex.AV).t.k≠3→(⟨⟨Fp,qn⟩,Fq,Fs,Ft⟩:Go.Ex.AV).t.k≠3)∧K [.d (.v (.int .i64 (cP (⟨⟨C6,nZ⟩,C7,C8,C9⟩:Go.Ex.AV) (⟨⟨Fp,qn⟩,Fq,Fs,Ft⟩:Go.Ex.AV))))] []
 |_=>False
theorem L9:CK gl L8 114:=fun a K h=>by
 unfold L8 at h
 split at h
 ·obtain⟨h0,h1,h2,hk⟩:=h
  exact(afu (⟨⟨_,_⟩,_,_,_⟩:Go.Ex.AV) (⟨⟨_,_⟩,_,_,_⟩:Go.Ex.AV) h0 h1 h2).gives hk
 ·exact h.elim
def BS:aj:=au BQ 114 L8
theorem vX:ah prog gl BS:=af vW L9
theorem BT(a b c d:Int):gx a b c d=ie a b c d:=by
 have e:∀x:Int,fh x=bG x:=fun x=>rfl
 unfold gx ie
 rw[e,e]
 cases bG a==bG c<;>cases decide (a≥1)<;>cases decide (a≤5)<;>rfl
theorem BU{a b c d:Int}(h:(!gx a b c d)=false):a≠4→a≠2→a≠3→c≠3:=by
 intro h4 h2 h3 e
 subst e
 have h:gx a b 3 d=true:=by simpa using h
 unfold gx fh at h
 rw[show(a==3)=false by simpa using h3,cond_false]at h
 rw[show(a==(bif (3:Int)==3 then(2:Int)else 3))=false by simpa using h2]at h
 cases h
theorem VE(op c:Int):P4 op c=bif op==1 then c==0 else bif op==2 then c != 0 else bif op==3 then decide (c<0)else bif op==4 then decide (c≤0)else bif op==5 then decide (c>0)else decide (c≥0):=by
 unfold P4
 by_cases h1:op=1
 ·simp[h1]
 ·by_cases h2:op=2
  ·simp[h2]
  ·by_cases h3:op=3
   ·simp[h3]
   ·by_cases h4:op=4
    ·simp[h4]
    ·by_cases h5:op=5
     ·simp[h5]
     ·rw[if_neg h1,if_neg h2,if_neg h3,if_neg h4,if_neg h5,show(op==1)=false by simpa using h1,show(op==2)=false by simpa using h2,show(op==3)=false by simpa using h3,show(op==4)=false by simpa using h4,show(op==5)=false by simpa using h5];rfl
theorem amf(op:Int)(a b:Go.Ex.AV)(Q:KT):vc bl BS bf ZB (f94.body.getD .skip) f94.results.toList [.d (.v (.int .i64 op)),.agg a.cs,.agg b.cs] Q=((Zkd op (1:Int) (6:Int) Q)∧((bif decide (op<1)then true else decide (op>6))=false→((!gx a.1.1 a.1.2 b.1.1 b.1.2)=true→dK Q (0:Int) (21:Int))∧((!gx a.1.1 a.1.2 b.1.1 b.1.2)=false→((bif a.2 then true else b.2)=true→dK Q (2:Int) (0:Int))∧((bif a.2 then true else b.2)=false→ar a.3∧ar b.3∧(a.1.1≠(4:Int)→a.1.1≠(2:Int)→a.1.1≠(3:Int)→b.1.1≠(3:Int))∧((op==1)=true→((cP {t:={k:=a.1.1,sc:=a.1.2:Ty},aA:=a.2,n:=a.3,s:=a.4:AV} {t:={k:=b.1.1,sc:=b.1.2:Ty},aA:=b.2,n:=b.3,s:=b.4:AV}==(0:Int))=true→dK Q (1:Int) (0:Int))∧((cP {t:={k:=a.1.1,sc:=a.1.2:Ty},aA:=a.2,n:=a.3,s:=a.4:AV} {t:={k:=b.1.1,sc:=b.1.2:Ty},aA:=b.2,n:=b.3,s:=b.4:AV}==(0:Int))=false→dK Q (0:Int) (0:Int)))∧((op==1)=false→((op==2)=true→((cP {t:={k:=a.1.1,sc:=a.1.2:Ty},aA:=a.2,n:=a.3,s:=a.4:AV} {t:={k:=b.1.1,sc:=b.1.2:Ty},aA:=b.2,n:=b.3,s:=b.4:AV} != (0:Int))=true→dK Q (1:Int) (0:Int))∧((cP {t:={k:=a.1.1,sc:=a.1.2:Ty},aA:=a.2,n:=a.3,s:=a.4:AV} {t:={k:=b.1.1,sc:=b.1.2:Ty},aA:=b.2,n:=b.3,s:=b.4:AV} != (0:Int))=false→dK Q (0:Int) (0:Int)))∧((op==2)=false→((op==3)=true→(decide (cP {t:={k:=a.1.1,sc:=a.1.2:Ty},aA:=a.2,n:=a.3,s:=a.4:AV} {t:={k:=b.1.1,sc:=b.1.2:Ty},aA:=b.2,n:=b.3,s:=b.4:AV}<(0:Int))=true→dK Q (1:Int) (0:Int))∧(decide (cP {t:={k:=a.1.1,sc:=a.1.2:Ty},aA:=a.2,n:=a.3,s:=a.4:AV} {t:={k:=b.1.1,sc:=b.1.2:Ty},aA:=b.2,n:=b.3,s:=b.4:AV}<(0:Int))=false→dK Q (0:Int) (0:Int)))∧((op==3)=false→((op==4)=true→(decide (cP {t:={k:=a.1.1,sc:=a.1.2:Ty},aA:=a.2,n:=a.3,s:=a.4:AV} {t:={k:=b.1.1,sc:=b.1.2:Ty},aA:=b.2,n:=b.3,s:=b.4:AV}≤(0:Int))=true→dK Q (1:Int) (0:Int))∧(decide (cP {t:={k:=a.1.1,sc:=a.1.2:Ty},aA:=a.2,n:=a.3,s:=a.4:AV} {t:={k:=b.1.1,sc:=b.1.2:Ty},aA:=b.2,n:=b.3,s:=b.4:AV}≤(0:Int))=false→dK Q (0:Int) (0:Int)))∧((op==4)=false→((op==5)=true→(decide (cP {t:={k:=a.1.1,sc:=a.1.2:Ty},aA:=a.2,n:=a.3,s:=a.4:AV} {t:={k:=b.1.1,sc:=b.1.2:Ty},aA:=b.2,n:=b.3,s:=b.4:AV}>(0:Int))=true→dK Q (1:Int) (0:Int))∧(decide (cP {t:={k:=a.1.1,sc:=a.1.2:Ty},aA:=a.2,n:=a.3,s:=a.4:AV} {t:={k:=b.1.1,sc:=b.1.2:Ty},aA:=b.2,n:=b.3,s:=b.4:AV}>(0:Int))=false→dK Q (0:Int) (0:Int)))∧((op==5)=false→((op==6)=true→(decide (cP {t:={k:=a.1.1,sc:=a.1.2:Ty},aA:=a.2,n:=a.3,s:=a.4:AV} {t:={k:=b.1.1,sc:=b.1.2:Ty},aA:=b.2,n:=b.3,s:=b.4:AV}≥(0:Int))=true→dK Q (1:Int) (0:Int))∧(decide (cP {t:={k:=a.1.1,sc:=a.1.2:Ty},aA:=a.2,n:=a.3,s:=a.4:AV} {t:={k:=b.1.1,sc:=b.1.2:Ty},aA:=b.2,n:=b.3,s:=b.4:AV}≥(0:Int))=false→dK Q (0:Int) (0:Int)))∧((op==6)=false→(false=true→dK Q (1:Int) (0:Int))∧(false=false→dK Q (0:Int) (0:Int)))))))))))):=by kernel_rfl
theorem amg(op:Int)(a b:Go.Ex.AV)(h1:ar a.n)(h2:ar b.n):Ct prog gl 94 [.d (.v (.int .i64 op)),.agg a.cs,.agg b.cs] (gives [.d (.v (.int .i64 (dU op a b).1)),.d (.v (.int .i64 (dU op a b).2))]):=by
 refine cz vX f94 ZB ⟨_,_,rfl,rfl⟩ ?_
 rw[amf];dsimp -eta -iota -proj only[Zkd,dK]
 have ha:=@BU a.t.k a.t.sc b.t.k b.t.sc
 rw[BT]at ha ⊢
 generalize hQ:gives [.d (.v (.int .i64 (dU op a b).1)),.d (.v (.int .i64 (dU op a b).2))]=Q'
 (repeat' (first|(with_reducible refine And.intro ?_ ?_)|(intro hh;first|(exact absurd hh (by decide))|skip)))
 all_goals first
  |(exact h1)
  |(exact h2)
  |(exact ha ‹_› ‹_› ‹_› ‹_› ‹_›)
  |(rw[←hQ];refine⟨?_,rfl⟩;unfold dU;rw[VE];clear ha;simp only[*,cond_true,cond_false];first|done|rfl)
  |(exfalso;have:=Jf ‹_›;simp_all;omega)
  |skip
def VF(a:List R)(K:KT):Prop:=match a with
 |[.d (.v (.int .i64 op)),.agg [.v (.int .i64 C6),.v (.int .i64 nZ),.v (.bool C7),.v (.int .i64 C8),.v (.string C9)],.agg [.v (.int .i64 Fp),.v (.int .i64 qn),.v (.bool Fq),.v (.int .i64 Fs),.v (.string Ft)]]=>ar (⟨⟨C6,nZ⟩,C7,C8,C9⟩:Go.Ex.AV).n∧ar (⟨⟨Fp,qn⟩,Fq,Fs,Ft⟩:Go.Ex.AV).n∧K [.d (.v (.int .i64 (dU op (⟨⟨C6,nZ⟩,C7,C8,C9⟩:Go.Ex.AV) (⟨⟨Fp,qn⟩,Fq,Fs,Ft⟩:Go.Ex.AV)).1)),.d (.v (.int .i64 (dU op (⟨⟨C6,nZ⟩,C7,C8,C9⟩:Go.Ex.AV) (⟨⟨Fp,qn⟩,Fq,Fs,Ft⟩:Go.Ex.AV)).2))] []
 |_=>False
theorem QA:CK gl VF 94:=fun a K h=>by
 unfold VF at h
 split at h
 ·obtain⟨h0,h1,hk⟩:=h
  exact(amg _ (⟨⟨_,_⟩,_,_,_⟩:Go.Ex.AV) (⟨⟨_,_⟩,_,_,_⟩:Go.Ex.AV) h0 h1).gives hk
 ·exact h.elim
def L_:aj:=au BS 94 VF
theorem zk:ah prog gl L_:=af vX QA
theorem num_add{a b:Int}(ha:ar a)(hb:ar b):h_ a b=(fl (a+b)).1∧lh a b=(fl (a+b)).2:=by
 obtain⟨gp,jJ⟩:=ha
 obtain⟨hb1,du⟩:=hb
 have hc:(decide (IntKind.i64.wrap (a+b)>a)==decide (b>0))=decide (-9223372036854775808≤a+b∧a+b<9223372036854775808):=by
  rw[Bool.eq_iff_iff,decide_eq_true_iff,beq_iff_eq,decide_eq_decide,fW]
  simp only[ba]
  split<;>omega
 unfold h_ lh fl ar
 rw[hc]
 by_cases h:-9223372036854775808≤a+b∧a+b<9223372036854775808
 ·rw[decide_eq_true h,if_pos h,cond_true,cond_true,ai (by omega) (by omega)];exact⟨rfl,rfl⟩
 ·rw[decide_eq_false h,if_neg h];exact⟨rfl,rfl⟩
theorem oq{a b:Int}(ha:ar a)(hb:ar b):eT a b=(fl (a-b)).1∧ic a b=(fl (a-b)).2:=by
 obtain⟨gp,jJ⟩:=ha
 obtain⟨hb1,du⟩:=hb
 have hc:(decide (IntKind.i64.wrap (a-b)<a)==decide (b>0))=decide (-9223372036854775808≤a-b∧a-b<9223372036854775808):=by
  rw[Bool.eq_iff_iff,decide_eq_true_iff,beq_iff_eq,decide_eq_decide,fW]
  simp only[ba]
  split<;>omega
 unfold eT ic fl ar
 rw[hc]
 by_cases h:-9223372036854775808≤a-b∧a-b<9223372036854775808
 ·rw[decide_eq_true h,if_pos h,cond_true,cond_true,ai (by omega) (by omega)];exact⟨rfl,rfl⟩
 ·rw[decide_eq_false h,if_neg h];exact⟨rfl,rfl⟩
theorem BV{a b:Int}(ha:ar a)(h0:b≠0)(h1:b≠-1):ar (a.tdiv b):=by
 obtain⟨gp,jJ⟩:=ha
 by_cases hb:b=1
 ·subst hb;rw[Int.tdiv_one];exact⟨gp,jJ⟩
 ·have e:(a.tdiv b).natAbs=a.natAbs/b.natAbs:=Int.natAbs_tdiv a b
  have h2:2≤b.natAbs:=by omega
  have:a.natAbs/b.natAbs≤a.natAbs/2:=Nat.div_le_div_left h2 (by decide)
  constructor<;>omega
theorem QB{a b:Int}(ha:ar a)(hb:ar b):m_ a b=Jz a b:=by
 unfold m_ Jz
 by_cases h0:b=0
 ·rw[show(b==0)=true by simpa using h0];rfl
 rw[show(b==0)=false by simpa using h0,cond_false,cond_false]
 by_cases h1:b = -1
 ·subst h1
  have e:a.tdiv (-1)=0-a:=by rw[Int.tdiv_neg,Int.tdiv_one];omega
  have hs:=oq (a:=0) (b:=a) ⟨by decide,by decide⟩ ha
  rw[e]
  show(eT 0 a,ic 0 a)=_
  rw[hs.1,hs.2]
 ·rw[show(b == -1)=false by simpa using h1,cond_false]
  have hb:=BV ha h0 h1
  unfold fl
  rw[if_pos hb,ai (by have:=hb.1;omega) (by have:=hb.2;omega)]
theorem QC{a b:Int}:nc a b=JC a b:=by
 unfold nc JC
 by_cases h1:b = -1
 ·subst h1
  have e:a.tmod (-1)=0:=by rw[Int.tmod_neg,Int.tmod_one]
  rw[e];rfl
 ·rw[show(b == -1)=false by simpa using h1];rfl
theorem L'{op x y:Int}(h0:3≤op∧op≤8)(hx:ar x)(hy:ar y):dt op x y=bif op==3 then(mO x y,mS x y)else bif op==4 then(jD x y,jE x y)else bif op==5 then fl (x*y)else bif op==6 then Jz x y else bif op==7 then JC x y else(o5 x,o6 x):=by
 have hn:(je x,kp x)=(o5 x,o6 x):=by
  have z:ar 0:=⟨by decide,by decide⟩
  show(eT 0 x,ic 0 x)=(jD 0 x,jE 0 x)
  rw[(oq z hx).1,(oq z hx).2,(Da z hx).1,(Da z hx).2]
 unfold dt
 rw[(num_add hx hy).1,(num_add hx hy).2,(oq hx hy).1,(oq hx hy).2,(SY hx hy).1,(SY hx hy).2,(Da hx hy).1,(Da hx hy).2,xj hx hy,QB hx hy,QC,hn]
 have:op=3∨op=4∨op=5∨op=6∨op=7∨op=8:=by omega
 rcases this with rfl|rfl|rfl|rfl|rfl|rfl<;>rfl
theorem afv(op a b:Int)(Q:KT):vc bl L_ bf ZD (f96.body.getD .skip) f96.results.toList [.d (.v (.int .i64 op)),.d (.v (.int .i64 a)),.d (.v (.int .i64 b))] Q=(((op==3)=true→Q [.d (.i (mO a b)),.d (.i (mS a b))] [])∧((op==3)=false→((op==4)=true→Q [.d (.i (jD a b)),.d (.i (jE a b))] [])∧((op==4)=false→((op==5)=true→ar a∧ar b∧Q [.d (.v (.int .i64 (fl (a*b)).1)),.d (.v (.int .i64 (fl (a*b)).2))] [])∧((op==5)=false→((op==6)=true→ar a∧ar b∧Q [.d (.v (.int .i64 (Jz a b).1)),.d (.v (.int .i64 (Jz a b).2))] [])∧((op==6)=false→((op==7)=true→ar a∧ar b∧Q [.d (.v (.int .i64 (JC a b).1)),.d (.v (.int .i64 (JC a b).2))] [])∧((op==7)=false→Q [.d (.i (o5 a)),.d (.i (o6 a))] [])))))):=by kernel_rfl
theorem afw(op a b:Int)(h1:ar a)(h2:ar b)(h3:3≤op∧op≤8):Ct prog gl 96 [.d (.v (.int .i64 op)),.d (.v (.int .i64 a)),.d (.v (.int .i64 b))] (gives [.d (.v (.int .i64 (dt op a b).1)),.d (.v (.int .i64 (dt op a b).2))]):=by
 refine cz zk f96 ZD ⟨_,_,rfl,rfl⟩ ?_
 rw[afv]
 have he:=L' h3 h1 h2
 generalize hQ:gives [.d (.v (.int .i64 (dt op a b).1)),.d (.v (.int .i64 (dt op a b).2))]=Q'
 (repeat' (first|(with_reducible refine And.intro ?_ ?_)|(intro hh;first|(exact absurd hh (by decide))|skip)))
 all_goals first
  |(exact h1)
  |(exact h2)
  |(rw[←hQ];refine⟨?_,rfl⟩;simp only[he, *,cond_true,cond_false];first|done|rfl)
  |(rw[he]at hQ;rw[←hQ];refine⟨?_,rfl⟩;simp only[*,cond_true,cond_false];first|done|rfl)
  |skip
def Ma(a:List R)(K:KT):Prop:=match a with
 |[.d (.v (.int .i64 op)),.d (.v (.int .i64 a)),.d (.v (.int .i64 b))]=>ar a∧ar b∧(3≤op∧op≤8)∧K [.d (.v (.int .i64 (dt op a b).1)),.d (.v (.int .i64 (dt op a b).2))] []
 |_=>False
theorem Mb:CK gl Ma 96:=fun a K h=>by
 unfold Ma at h
 split at h
 ·obtain⟨h0,h1,h2,hk⟩:=h
  exact(afw _ _ _ h0 h1 h2).gives hk
 ·exact h.elim
def BW:aj:=au L_ 96 Ma
theorem vY:ah prog gl BW:=af zk Mb
theorem afx(v:Go.Ex.AV)(t:Ty)(ok:Bool)(Q:KT):vc bl BW bf YK (f56.body.getD .skip) f56.results.toList [.agg v.cs,.agg t.cs,.d (.v (.bool ok))] Q=(Qv ok Q (((!ok)=false→db {t:={k:=v.1.1,sc:=v.1.2:Ty},aA:=v.2,n:=v.3,s:=v.4:AV}∧ar v.3∧Q [.agg [.v (.int .i64 (ax {t:={k:=v.1.1,sc:=v.1.2:Ty},aA:=v.2,n:=v.3,s:=v.4:AV} {k:=t.1,sc:=t.2:Ty}).1.1.1),.v (.int .i64 (ax {t:={k:=v.1.1,sc:=v.1.2:Ty},aA:=v.2,n:=v.3,s:=v.4:AV} {k:=t.1,sc:=t.2:Ty}).1.1.2),.v (.bool (ax {t:={k:=v.1.1,sc:=v.1.2:Ty},aA:=v.2,n:=v.3,s:=v.4:AV} {k:=t.1,sc:=t.2:Ty}).1.2),.v (.int .i64 (ax {t:={k:=v.1.1,sc:=v.1.2:Ty},aA:=v.2,n:=v.3,s:=v.4:AV} {k:=t.1,sc:=t.2:Ty}).1.3),.v (.string (ax {t:={k:=v.1.1,sc:=v.1.2:Ty},aA:=v.2,n:=v.3,s:=v.4:AV} {k:=t.1,sc:=t.2:Ty}).1.4)],.d (.v (.bool ((ax {t:={k:=v.1.1,sc:=v.1.2:Ty},aA:=v.2,n:=v.3,s:=v.4:AV} {k:=t.1,sc:=t.2:Ty}).2==(0:Int))))] []))):=by kernel_rfl
theorem afy(v:Go.Ex.AV)(t:Ty)(ok:Bool)(h1:ok=true→db v)(h2:ok=true→ar v.n):Ct prog gl 56 [.agg v.cs,.agg t.cs,.d (.v (.bool ok))] (gives [.agg (bif ok then(ax v t).1 else zeroV).cs,.d (.v (.bool (bif ok then(ax v t).2==0 else false)))]):=by
 refine cz vY f56 YK ⟨_,_,rfl,rfl⟩ ?_
 rw[afx];dsimp -eta -iota -proj only[Qv,WX,Ll,S2,Z8]
 cases ok with
 |false=>exact⟨fun _=>⟨rfl,rfl⟩,fun h=>by cases h⟩
 |true=>exact⟨fun h=>(by cases h),fun _=>⟨h1 rfl,h2 rfl,rfl,rfl⟩⟩
def Mc(a:List R)(K:KT):Prop:=match a with
 |[.agg [.v (.int .i64 qo),.v (.int .i64 ij),.v (.bool qp),.v (.int .i64 qq),.v (.string qs)],.agg [.v (.int .i64 y8),.v (.int .i64 lF)],.d (.v (.bool ok))]=>(ok=true→db (⟨⟨qo,ij⟩,qp,qq,qs⟩:Go.Ex.AV))∧(ok=true→ar (⟨⟨qo,ij⟩,qp,qq,qs⟩:Go.Ex.AV).n)∧K [.agg (bif ok then(ax (⟨⟨qo,ij⟩,qp,qq,qs⟩:Go.Ex.AV) (⟨y8,lF⟩:Ty)).1 else zeroV).cs,.d (.v (.bool (bif ok then(ax (⟨⟨qo,ij⟩,qp,qq,qs⟩:Go.Ex.AV) (⟨y8,lF⟩:Ty)).2==0 else false)))] []
 |_=>False
theorem Md:CK gl Mc 56:=fun a K h=>by
 unfold Mc at h
 split at h
 ·obtain⟨h0,h1,hk⟩:=h
  exact(afy (⟨⟨_,_⟩,_,_,_⟩:Go.Ex.AV) (⟨_,_⟩:Ty) _ h0 h1).gives hk
 ·exact h.elim
def BY:aj:=au BW 56 Mc
theorem vZ:ah prog gl BY:=af vY Md
theorem Me{t:Ty}(ht:da t)(hk:t.k=2∨t.k=3∨t.k=5)(n:Int):(bL t.k t.sc false n eB==0) = !(bif bif t.k==3 then !eo n else false then true else bif t.k==5 then(bif decide (n < -719162)then true else decide (n>2932896))else false):=by
 have h:=gN (v:=⟨t,false,n,eB⟩)
 have hv:db ⟨t,false,n,eB⟩↔((t.k=3→-999999999999999999≤n∧n≤999999999999999999)∧(t.k=5→-719162≤n∧n≤2932896)):=by
  unfold db
  dsimp only
  constructor
  ·rintro⟨_,_,h⟩
   rcases h rfl with⟨h4,_⟩|⟨_,_,_,h3,h5⟩
   ·omega
   ·exact⟨h3,h5⟩
  ·rintro⟨h3,h5⟩
   exact⟨ht,fun h=>(by cases h),fun _=>.inr ⟨by omega,rfl,fun h=>by omega,h3,h5⟩⟩
 rw[Bool.eq_iff_iff,beq_iff_eq]
 dsimp only at h
 rw[h,hv]
 rcases hk with k|k|k<;>rw[k]
 ·simp
 ·have:=@xg n
  cases hs:eo n
  ·rw[hs]at this
   simp only[Bool.false_eq_true,false_iff]at this
   simp;omega
  ·rw[hs]at this
   have:=this.1 rfl
   simp;omega
 ·by_cases h1:n < -719162
  ·simp[h1];first|done|omega
  ·by_cases h2:n>2932896
   ·simp[h1,h2];first|done|omega
   ·simp[h1,h2];first|done|omega
noncomputable def QD(op sub:Int)(t:Ty)(a b:Go.Ex.AV):Option Go.Ex.AV:=bif (bb op sub t a b).2 then some (bb op sub t a b).1 else none
theorem l6{op:Int}{t:Ty}(ht:da t)(hk:t.k=2∨t.k=3∨t.k=5)(x y:Int){c:Bool}(hc:(bif bif (dt op x y).2 != 0 then true else bif t.k==3 then !eo (dt op x y).1 else false then true else bif t.k==5 then bif decide ((dt op x y).1 < -719162)then true else decide ((dt op x y).1>2932896)else false)=c):
  (kR op t x y).2 = !c∧(kR op t x y).1=⟨t,false,(dt op x y).1,eB⟩:=by
 refine⟨?_,rfl⟩
 subst hc
 unfold kR
 rw[Me ht hk]
 cases h:(dt op x y).2==0<;>simp[bne,h]
theorem lJ{op sub:Int}{t:Ty}{a b w:Go.Ex.AV}{ok:Bool}(h1:(bb op sub t a b).2=ok)(h2:ok=true→(bb op sub t a b).1=w):Is (QD op sub t a b) w ok:=by
 unfold QD
 rw[h1]
 cases ok
 ·exact j6 _
 ·rw[h2 rfl];exact ec _
theorem ot(n:Int):(bS n).cs=[.v (.int .i64 1),.v (.int .i64 0),.v (.bool (jF n)),.v (.int .i64 (jG n)),.v (.string eB)]:=by
 unfold bS jF jG
 cases h:n==2<;>rfl
theorem EN(s:ByteArray)(h:s.size≤512)(k m:Int)(hk:k+m=s.size):(bL 4 0 false 0 s==0)=decide (IntKind.i64.wrap (k+m)≤256):=by
 have h1:=gN (v:=⟨⟨4,0⟩,false,0,s⟩)
 rw[hk,a_ (by omega),Bool.eq_iff_iff,beq_iff_eq,decide_eq_true_iff]
 dsimp only at h1
 rw[h1]
 unfold db da
 dsimp only
 constructor
 ·rintro⟨_,_,h⟩
  rcases h rfl with⟨_,_,h⟩|⟨h,_⟩
  ·omega
  ·exact absurd rfl h
 ·intro h
  exact⟨by decide,fun h=>(by cases h),fun _=>.inl ⟨rfl,rfl,by omega⟩⟩
theorem afz(op sub:Int)(y:Ty)(w:Go.Ex.AV)(args:List EX)(t:Ty)(x:List (List D))(Q:KT):vc bl BY bf YP (f61.body.getD .skip) f61.results.toList [.agg (aT op sub y w (aa args)),.agg t.cs,.d (.sl x)] Q=(Zd6 x fun n aN b aW cD bO dv kU c_ jn=>((op==9)=true→ar aW∧ar c_∧Q [.agg [.i 1,.i 0,.v (.bool (jF (dU sub {t:={k:=n,sc:=aN:Ty},aA:=b,n:=aW,s:=cD:AV} {t:={k:=bO,sc:=dv:Ty},aA:=kU,n:=c_,s:=jn:AV}).1)),.i (jG (dU sub {t:={k:=n,sc:=aN:Ty},aA:=b,n:=aW,s:=cD:AV} {t:={k:=bO,sc:=dv:Ty},aA:=kU,n:=c_,s:=jn:AV}).1),.v (.string ⟨⟨[]⟩⟩)],.d (.v (.bool true))] [])∧((op==9)=false→((op==17)=true→cD.size.add jn.size≤(9223372036854775807:Nat)∧Q [.agg [.i 4,.i 0,.v (.bool false),.i 0,.v (.string (cD++jn))],.d (.v (.bool (decide (IntKind.i64.wrap ((↑cD.size:Int)+(↑jn.size:Int))≤(256:Int)))))] [])∧(Zjt op Q cD (((op==18)=false→(Zfv t op n aN b aW cD bO dv kU c_ jn Q (((bif (ax {t:={k:=n,sc:=aN:Ty},aA:=b,n:=aW,s:=cD:AV} {k:=t.1,sc:=t.2:Ty}).2 != (0:Int)then true else(ax {t:={k:=bO,sc:=dv:Ty},aA:=kU,n:=c_,s:=jn:AV} {k:=t.1,sc:=t.2:Ty}).2 != (0:Int))=false→ar (ax {t:={k:=n,sc:=aN:Ty},aA:=b,n:=aW,s:=cD:AV} {k:=t.1,sc:=t.2:Ty}).1.3∧ar (ax {t:={k:=bO,sc:=dv:Ty},aA:=kU,n:=c_,s:=jn:AV} {k:=t.1,sc:=t.2:Ty}).1.3∧(3≤op∧op≤8)∧((bif bif (dt op (ax {t:={k:=n,sc:=aN:Ty},aA:=b,n:=aW,s:=cD:AV} {k:=t.1,sc:=t.2:Ty}).1.3 (ax {t:={k:=bO,sc:=dv:Ty},aA:=kU,n:=c_,s:=jn:AV} {k:=t.1,sc:=t.2:Ty}).1.3).2 != (0:Int)then true else bif t.1==3 then !eo (dt op (ax {t:={k:=n,sc:=aN:Ty},aA:=b,n:=aW,s:=cD:AV} {k:=t.1,sc:=t.2:Ty}).1.3 (ax {t:={k:=bO,sc:=dv:Ty},aA:=kU,n:=c_,s:=jn:AV} {k:=t.1,sc:=t.2:Ty}).1.3).1 else false then true else bif t.1==5 then bif decide ((dt op (ax {t:={k:=n,sc:=aN:Ty},aA:=b,n:=aW,s:=cD:AV} {k:=t.1,sc:=t.2:Ty}).1.3 (ax {t:={k:=bO,sc:=dv:Ty},aA:=kU,n:=c_,s:=jn:AV} {k:=t.1,sc:=t.2:Ty}).1.3).1<(-719162:Int))then true else decide ((dt op (ax {t:={k:=n,sc:=aN:Ty},aA:=b,n:=aW,s:=cD:AV} {k:=t.1,sc:=t.2:Ty}).1.3 (ax {t:={k:=bO,sc:=dv:Ty},aA:=kU,n:=c_,s:=jn:AV} {k:=t.1,sc:=t.2:Ty}).1.3).1>(2932896:Int))else false)=true→Ll Q)∧((bif bif (dt op (ax {t:={k:=n,sc:=aN:Ty},aA:=b,n:=aW,s:=cD:AV} {k:=t.1,sc:=t.2:Ty}).1.3 (ax {t:={k:=bO,sc:=dv:Ty},aA:=kU,n:=c_,s:=jn:AV} {k:=t.1,sc:=t.2:Ty}).1.3).2 != (0:Int)then true else bif t.1==3 then !eo (dt op (ax {t:={k:=n,sc:=aN:Ty},aA:=b,n:=aW,s:=cD:AV} {k:=t.1,sc:=t.2:Ty}).1.3 (ax {t:={k:=bO,sc:=dv:Ty},aA:=kU,n:=c_,s:=jn:AV} {k:=t.1,sc:=t.2:Ty}).1.3).1 else false then true else bif t.1==5 then bif decide ((dt op (ax {t:={k:=n,sc:=aN:Ty},aA:=b,n:=aW,s:=cD:AV} {k:=t.1,sc:=t.2:Ty}).1.3 (ax {t:={k:=bO,sc:=dv:Ty},aA:=kU,n:=c_,s:=jn:AV} {k:=t.1,sc:=t.2:Ty}).1.3).1<(-719162:Int))then true else decide ((dt op (ax {t:={k:=n,sc:=aN:Ty},aA:=b,n:=aW,s:=cD:AV} {k:=t.1,sc:=t.2:Ty}).1.3 (ax {t:={k:=bO,sc:=dv:Ty},aA:=kU,n:=c_,s:=jn:AV} {k:=t.1,sc:=t.2:Ty}).1.3).1>(2932896:Int))else false)=false→Q [.agg [.i t.1,.i t.2,.v (.bool false),.v (.int .i64 (dt op (ax {t:={k:=n,sc:=aN:Ty},aA:=b,n:=aW,s:=cD:AV} {k:=t.1,sc:=t.2:Ty}).1.3 (ax {t:={k:=bO,sc:=dv:Ty},aA:=kU,n:=c_,s:=jn:AV} {k:=t.1,sc:=t.2:Ty}).1.3).1),.v (.string ⟨⟨[]⟩⟩)],.d (.v (.bool true))] []))))∧((bif t.1==3 then op != (5:Int)else false)=false→ar aW∧ar c_∧(3≤op∧op≤8)∧((bif bif (dt op aW c_).2 != (0:Int)then true else bif t.1==3 then !eo (dt op aW c_).1 else false then true else bif t.1==5 then bif decide ((dt op aW c_).1<(-719162:Int))then true else decide ((dt op aW c_).1>(2932896:Int))else false)=true→Ll Q)∧((bif bif (dt op aW c_).2 != (0:Int)then true else bif t.1==3 then !eo (dt op aW c_).1 else false then true else bif t.1==5 then bif decide ((dt op aW c_).1<(-719162:Int))then true else decide ((dt op aW c_).1>(2932896:Int))else false)=false→Q [.agg [.i t.1,.i t.2,.v (.bool false),.v (.int .i64 (dt op aW c_).1),.v (.string ⟨⟨[]⟩⟩)],.d (.v (.bool true))] []))))))):=by kernel_rfl
theorem afA(op sub:Int)(y:Ty)(w:Go.Ex.AV)(args:List EX)(t:Ty)(x:List (List D))(a b:Go.Ex.AV)(h1:db a)(h2:db b)(h3:ar a.n)(h4:ar b.n)(h5:x[0]? = some a.cs)(h6:x[x.length-1]? = some b.cs)(h7:x.length≤1000)
  (oG:op=9∨op=17∨op=18∨((3≤op∧op≤8)∧da t∧(t.k=2∨t.k=3∨t.k=5))):
  Ct prog gl 61 [.agg (aT op sub y w (aa args)),.agg t.cs,.d (.sl x)] (fun res fin=>fin=[]∧∃(v:Go.Ex.AV) (ok:Bool),Is (QD op sub t a b) v ok∧res=[.agg v.cs,.d (.v (.bool ok))]):=by
 refine cz vZ f61 YP (let ⟨tr,ok,h⟩:=pZ (QD op sub t a b) zeroV;⟨_,_,rfl,tr,ok,h,rfl⟩) ?_
 rw[afz];dsimp -eta -iota -proj only[Zd6,zF,fy,uD,Vg,WU,PU,Ib,Zjt,Zje,Ziv,Zfv,Ll,S2,Z8]
 have ct:0<x.length:=(List.getElem?_eq_some_iff.1 h5).1
 have e1:IntKind.i64.wrap ((x.length:Int)-1)=((x.length-1:Nat):Int):=by rw[a_ (by omega)];omega
 have z1:=iS h1
 have z2:=iS h2
 refine⟨x,rfl,⟨by decide,by omega⟩,a.cs,h5,rfl,a.t.k,a.t.sc,a.aA,a.n,a.s,rfl,x,rfl,x,rfl,?_⟩
 rw[e1]
 refine⟨⟨by omega,by omega⟩,b.cs,by rw[Int.toNat_natCast];exact h6,rfl,b.t.k,b.t.sc,b.aA,b.n,b.s,rfl,?_⟩
 have eta:∀v:Go.Ex.AV,(⟨⟨v.t.k,v.t.sc⟩,v.aA,v.n,v.s⟩:Go.Ex.AV)=v:=fun v=>rfl
 have aqK:(⟨t.k,t.sc⟩:Ty)=t:=rfl
 have no:∀{k:Int},(op==k)=false→op≠k:=fun h=>by simpa using h
 refine⟨fun o9=>⟨h3,h4,rfl,bS (dU sub a b).1,true,lJ ?_ (fun _=>?_),by rw[ot]⟩,fun o9=>⟨fun tN=>⟨?_,rfl,nY (a.s++b.s),_,lJ ?_ (fun _=>?_),rfl⟩,fun tN=>⟨fun xb=>⟨rfl,zG a.s.size,true,lJ ?_ (fun _=>?_),rfl⟩,fun xb=>?_⟩⟩⟩
 ·unfold bb;rw[o9];rfl
 ·unfold bb;rw[o9];rfl
 ·show a.s.size+b.s.size≤_;omega
 ·unfold bb;rw[o9,tN,cond_false,cond_true]
  have hs:(a.s++b.s).size=a.s.size+b.s.size:=ByteArray.size_append
  exact EN _ (by omega) _ _ (by omega)
 ·unfold bb;rw[o9,tN];rfl
 ·unfold bb;rw[o9,tN,xb];rfl
 ·unfold bb;rw[o9,tN,xb];rfl
 ·have oG:(3≤op∧op≤8)∧da t∧(t.k=2∨t.k=3∨t.k=5):=by
   have:=no o9;have:=no tN;have:=no xb
   rcases oG with h|h|h|h
   ·omega
   ·omega
   ·omega
   ·exact h
  obtain⟨ho,ht,hk⟩:=oG
  have hr:∀v,bb op sub t a b=v→bb op sub t a b=v:=fun v h=>h
  refine⟨fun hd=>⟨h1,h3,h2,h4,fun hc=>⟨rfl,zeroV,false,lJ ?_ (fun h=>by cases h),rfl⟩,fun hc=>?_⟩,fun hd=>⟨h3,h4,ho,fun hc=>⟨rfl,zeroV,false,lJ ?_ (fun h=>by cases h),rfl⟩,fun hc=>⟨rfl,⟨t,false,(dt op a.n b.n).1,eB⟩,true,lJ ?_ (fun _=>?_),rfl⟩⟩⟩
  ·unfold bb;rw[o9,tN,xb,hd,cond_false,cond_false,cond_false,cond_true]
   have hc:(bif (ax a t).2 != 0 then true else(ax b t).2 != 0)=true:=hc
   rw[hc];rfl
  ·have hc:(bif (ax a t).2 != 0 then true else(ax b t).2 != 0)=false:=hc
   have hr:bb op sub t a b=kR op t (ax a t).1.n (ax b t).1.n:=by
    unfold bb;rw[o9,tN,xb,hd,cond_false,cond_false,cond_false,cond_true,hc,cond_false]
   have ca:(ax a t).2=0:=by
    cases hx:(ax a t).2 != 0
    ·simpa using hx
    ·rw[hx]at hc;cases hc
   have cb:(ax b t).2=0:=by
    rw[show((ax a t).2 != 0)=false by simpa using ca]at hc
    simpa using hc
   refine⟨(om h1 h3 ca).2.2,(om h2 h4 cb).2.2,ho,fun hz=>⟨rfl,zeroV,false,lJ ?_ (fun h=>by cases h),rfl⟩,fun hz=>⟨rfl,⟨t,false,(dt op (ax a t).1.n (ax b t).1.n).1,eB⟩,true,lJ ?_ (fun _=>?_),rfl⟩⟩
   ·rw[hr];exact(l6 ht hk _ _ hz).1
   ·rw[hr];exact(l6 ht hk _ _ hz).1
   ·rw[hr];exact(l6 ht hk _ _ hz).2
  all_goals
   have hr:bb op sub t a b=kR op t a.n b.n:=by
    unfold bb;rw[o9,tN,xb,hd,cond_false,cond_false,cond_false,cond_false]
  ·rw[hr];exact(l6 ht hk _ _ hc).1
  ·rw[hr];exact(l6 ht hk _ _ hc).1
  ·rw[hr];exact(l6 ht hk _ _ hc).2
end Go.Proofs.Tryz
namespace Go.Dm
variable {P:Program} {E:Env}
variable {B0:Nat} {bx:List Nat} {W0:World} {aI:Nat→Prop} {Z:Zr} {N:Nat}
variable {ok:Nat→Prop} {φ:Nat→Value} {s:St} {a:Act} {w:World}
end Go.Dm
namespace Go.Ex
open Go.Dm
def Fm(ls:List (List (List D))):Nat:=(ls.map List.length).sum
theorem e7{α:Type}(l:List α){i:Nat}(h:i<l.length):l.take (i+1)=l.take i++[l[i]]:=by rw[List.take_add_one,List.getElem?_eq_getElem h];rfl
theorem j7{n:Int}(h0:-9223372036854775808≤n)(h1:n<9223372036854775808):IntKind.i64.wrap n=n:=by
 simp[IntKind.wrap,IntKind.signed,IntKind.bits]
 split<;>omega
end Go.Ex
namespace Go.Proofs.Tryz
open Go Go.Dm Go.Ex
set_option maxRecDepth 100000
variable {gl:Nat→Option Obj}
def Tb(n:Nat):aj:=au ZP 19 (OH n)
def afB(op sub:Int)(t:Ty)(v:Go.Ex.AV)(args:List EX)(x:Nat):St:={tm:=[(1,.ref 1 0),(2,.d (.v (.int .i64 0))),(3,.d (.v (.int .i64 (eS 1 (args.take x))))),(4,.d (.v (.int .i64 (x:Int))))],hp:=[(1,.box [.d (.v (.int .i64 op)),.d (.v (.int .i64 sub)),.d (.v (.int .i64 t.k)),.d (.v (.int .i64 t.sc)),.d (.v (.int .i64 v.t.k)),.d (.v (.int .i64 v.t.sc)),.d (.v (.bool v.aA)),.d (.v (.int .i64 v.n)),.d (.v (.string v.s)),.d (.sl (aa args))])],kn:=[],gd:=[]}
def Tc(op sub:Int)(t:Ty)(v:Go.Ex.AV)(args:List EX):Fi:={ajZ with lx:=[(3,{X:=Nat,sh:=afB op sub t v args,P:=fun _=>eZ args})]}
def Zhf(a0 a1 a2:Int)(a3:Ty)(a4:Go.Ex.AV)(a5:List EX):St:={tm:=[(1,.ref 1 0),(2,.i 0),(3,.i a0),(4,.i 0)],hp:=[(1,.box [.i a1,.i a2,.i a3.1,.i a3.2,.i a4.1.1,.i a4.1.2,.d (.v (.bool a4.2)),.i a4.3,.d (.v (.string a4.4)),.d (.sl (aa a5))])],kn:=[],gd:=[]:St}
def Zgu(a0:Nat)(a1:List EX)(a2 a3:Int)(a4:Ty)(a5:Go.Ex.AV):St:={tm:=[(1,.ref 1 0),(2,.i 0),(3,.i (eS (1:Int) (List.take a0 a1))),(4,.i (↑a0:Int))],hp:=[(1,.box [.i a2,.i a3,.i a4.1,.i a4.2,.i a5.1.1,.i a5.1.2,.d (.v (.bool a5.2)),.i a5.3,.d (.v (.string a5.4)),.d (.sl (aa a1))])],kn:=[],gd:=[]:St}
def Zd8(a0:Nat)(a1:List (List D))(a2:List EX)(a3 a4:Nat)(k:EX→Nat→Nat→Prop):Prop:=sy a0 a1 (Wz a2 a0 a3 a4 fun e m x'=>k e m x')
theorem ami(n:Nat)(op sub:Int)(t:Ty)(v:Go.Ex.AV)(args:List EX)(Q:KT):vc bl (Tb n) bf (Tc op sub t v args) (f19.body.getD .skip) f19.results.toList [.agg (aT op sub t v (aa args))] Q=(∃(x0:Nat),((Zhf (1:Int) op sub t v args)=(Zgu x0 args op sub t v)∧∃(n:Nat),eZ args n x0)∧∀(aN:Nat) (x:Nat),eZ args aN x→gS args fun es=>(Zd8 x es args n aN fun e m x'=>{tm:=[(1,.ref 1 0),(2,.i 0),(3,.i (IntKind.i64.wrap (eS (1:Int) (List.take x args)+nodes e))),(4,.i (IntKind.i64.wrap ((↑x:Int)+1)))],hp:=[(1,.box [.i op,.i sub,.i t.1,.i t.2,.i v.1.1,.i v.1.2,.d (.v (.bool v.2)),.i v.3,.d (.v (.string v.4)),.d (.sl (aa args))])],kn:=[],gd:=[]:St}=(Zgu x' args op sub t v)∧eZ args m x')∧(qE x es (Q [.d (.i (eS (1:Int) (List.take x args)))] []))):=by kernel_rfl
def Td(n:Nat):aj:=au ZP 20 (OK n)
def afC(op sub:Int)(t:Ty)(v:Go.Ex.AV)(args:List EX)(x:Nat):St:={tm:=[(1,.ref 1 0),(2,.d (.v (.int .i64 0))),(3,.d (.v (.int .i64 (eM 0 (args.take x))))),(4,.d (.v (.int .i64 (x:Int))))],hp:=[(1,.box [.d (.v (.int .i64 op)),.d (.v (.int .i64 sub)),.d (.v (.int .i64 t.k)),.d (.v (.int .i64 t.sc)),.d (.v (.int .i64 v.t.k)),.d (.v (.int .i64 v.t.sc)),.d (.v (.bool v.aA)),.d (.v (.int .i64 v.n)),.d (.v (.string v.s)),.d (.sl (aa args))])],kn:=[],gd:=[]}
def Te(op sub:Int)(t:Ty)(v:Go.Ex.AV)(args:List EX):Fi:={aj0 with lx:=[(3,{X:=Nat,sh:=afC op sub t v args,P:=fun _=>eZ args})]}
def Zgw(a0:Nat)(a1:List EX)(a2 a3:Int)(a4:Ty)(a5:Go.Ex.AV):St:={tm:=[(1,.ref 1 0),(2,.i 0),(3,.i (eM (0:Int) (List.take a0 a1))),(4,.i (↑a0:Int))],hp:=[(1,.box [.i a2,.i a3,.i a4.1,.i a4.2,.i a5.1.1,.i a5.1.2,.d (.v (.bool a5.2)),.i a5.3,.d (.v (.string a5.4)),.d (.sl (aa a1))])],kn:=[],gd:=[]:St}
theorem amk(n:Nat)(op sub:Int)(t:Ty)(v:Go.Ex.AV)(args:List EX)(Q:KT):vc bl (Td n) bf (Te op sub t v args) (f20.body.getD .skip) f20.results.toList [.agg (aT op sub t v (aa args))] Q=(∃(x0:Nat),((Zhf (0:Int) op sub t v args)=(Zgw x0 args op sub t v)∧∃(n:Nat),eZ args n x0)∧∀(aN:Nat) (x:Nat),eZ args aN x→gS args fun es=>(Zd8 x es args n aN fun e m x'=>{tm:=[(1,.ref 1 0),(2,.i 0),(3,.i (if deep e>eM (0:Int) (List.take x args)then deep e else eM (0:Int) (List.take x args))),(4,.i (IntKind.i64.wrap ((↑x:Int)+1)))],hp:=[(1,.box [.i op,.i sub,.i t.1,.i t.2,.i v.1.1,.i v.1.2,.d (.v (.bool v.2)),.i v.3,.d (.v (.string v.4)),.d (.sl (aa args))])],kn:=[],gd:=[]:St}=(Zgw x' args op sub t v)∧eZ args m x')∧(qE x es (Q [.d (.i (IntKind.i64.wrap (eM (0:Int) (List.take x args)+(1:Int))))] []))):=by kernel_rfl
theorem afD:∀(n:Nat) (e:EX),size e<n→fits e→Ct prog gl 19 [.agg (cells e)] (gives [.d (.v (.int .i64 (nodes e)))])
 |0,e,h,_=>absurd h (Nat.not_lt_zero _)
 |n+1,.mk op sub t v args,h,hf=>by
  have hC:ah prog gl (Tb n):=af w4 (fun a K hk=>by
   unfold OH at hk
   split at hk
   ·obtain⟨e,rfl,h1,h2,h3⟩:=hk
    exact(afD n e h1 h2).gives h3
   ·exact hk.elim)
  rw[ab]
  refine aw bN hC aF bD mixed (fn:=f19) (body:=f19.body.getD .skip) (by kernel_rfl) (by kernel_rfl) (by kernel_rfl) (fi:=Tc op sub t v args) (by kernel_rfl) (by kernel_rfl) ⟨_,_,rfl,rfl⟩ ?_
  rw[ami];dsimp -eta -iota -proj only[Zhf,Zgu,gS,fy,Zd8,sy,Wz,OJ,OI,yM,Zbx,Fb,Zy,Zs,Zr,Z2,lU,fG,fb,qE]
  obtain⟨_,hl,ss⟩:=ee hf
  have hsz:∀e∈args,size e<n:=fun e he=>by have:=nM (op:=op) (sub:=sub) (ty:=t) (v:=v) he;omega
  refine⟨(0:Nat),⟨by simp only[List.take_zero,eS];rfl,args.length,Nat.zero_le _,rfl⟩,fun m (x:Nat) hx=>⟨aa args,rfl,fun hi=>?_,fun hi=>?_⟩⟩
  ·have hi:x<args.length:=by simpa[ag]using hi
   obtain⟨cL,aU,t',v',a',he,gO⟩:=aX hi
   have hm:=hx.2
   refine⟨aa args,rfl,⟨by omega,by rw[ag];omega⟩,_,gO,rfl,cL,aU,t'.k,t'.sc,v'.t.k,v'.t.sc,v'.aA,v'.n,v'.s,aa a',rfl,args[x],by rw[he,ab];rfl,hsz _ (List.getElem_mem hi),cZ ss (List.getElem_mem hi),args.length-(x+1),x+1,by omega,?_,hi,rfl⟩
   rw[aL (by omega),List.take_add_one,List.getElem?_eq_getElem hi,Option.toList_some,pP]
  ·have hi:¬x<args.length:=by simpa[ag]using hi
   rw[List.take_of_length_le (by omega)]
   refine⟨?_,rfl⟩
   simp only[nodes]
def Mf(a:List R)(K:KT):Prop:=match a with
 |[.agg x]=>∃e:EX,x=cells e∧fits e∧K [.d (.v (.int .i64 (nodes e)))] []
 |_=>False
theorem Mg:CK gl Mf 19:=fun a K h=>by
 unfold Mf at h
 split at h
 ·obtain⟨e,rfl,h1,h2⟩:=h
  exact(afD (size e+1) e (Nat.lt_succ_self _) h1).gives h2
 ·exact h.elim
theorem afE:∀(n:Nat) (e:EX),size e<n→fits e→Ct prog gl 20 [.agg (cells e)] (gives [.d (.v (.int .i64 (deep e)))])
 |0,e,h,_=>absurd h (Nat.not_lt_zero _)
 |n+1,.mk op sub t v args,h,hf=>by
  have hC:ah prog gl (Td n):=af w4 (fun a K hk=>by
   unfold OK at hk
   split at hk
   ·obtain⟨e,rfl,h1,h2,h3⟩:=hk
    exact(afE n e h1 h2).gives h3
   ·exact hk.elim)
  rw[ab]
  refine aw bN hC aF bD mixed (fn:=f20) (body:=f20.body.getD .skip) (by kernel_rfl) (by kernel_rfl) (by kernel_rfl) (fi:=Te op sub t v args) (by kernel_rfl) (by kernel_rfl) ⟨_,_,rfl,rfl⟩ ?_
  rw[amk];dsimp -eta -iota -proj only[Zhf,Zgw,gS,fy,Zd8,sy,Wz,OJ,OI,yM,Zbx,Fb,Zy,Zs,Zr,Z2,lU,fG,fb,qE]
  obtain⟨_,hl,ss⟩:=ee hf
  have hsz:∀e∈args,size e<n:=fun e he=>by have:=nM (op:=op) (sub:=sub) (ty:=t) (v:=v) he;omega
  refine⟨(0:Nat),⟨by simp only[List.take_zero,eM];rfl,args.length,Nat.zero_le _,rfl⟩,fun m (x:Nat) hx=>⟨aa args,rfl,fun hi=>?_,fun hi=>?_⟩⟩
  ·have hi:x<args.length:=by simpa[ag]using hi
   obtain⟨cL,aU,t',v',a',he,gO⟩:=aX hi
   have hm:=hx.2
   refine⟨aa args,rfl,⟨by omega,by rw[ag];omega⟩,_,gO,rfl,cL,aU,t'.k,t'.sc,v'.t.k,v'.t.sc,v'.aA,v'.n,v'.s,aa a',rfl,args[x],by rw[he,ab];rfl,hsz _ (List.getElem_mem hi),cZ ss (List.getElem_mem hi),args.length-(x+1),x+1,by omega,?_,hi,rfl⟩
   rw[aL (by omega),List.take_add_one,List.getElem?_eq_getElem hi,Option.toList_some,sr]
  ·have hi:¬x<args.length:=by simpa[ag]using hi
   rw[List.take_of_length_le (by omega)]
   refine⟨?_,rfl⟩
   simp only[deep]
def Mh(a:List R)(K:KT):Prop:=match a with
 |[.agg x]=>∃e:EX,x=cells e∧fits e∧K [.d (.v (.int .i64 (deep e)))] []
 |_=>False
theorem Mi:CK gl Mh 20:=fun a K h=>by
 unfold Mh at h
 split at h
 ·obtain⟨e,rfl,h1,h2⟩:=h
  exact(afE (size e+1) e (Nat.lt_succ_self _) h1).gives h2
 ·exact h.elim
def cg(op m:Int):Bool:=bif op==1 then m==0 else bif op==2 then m==0 else bif op==8 then m==1 else bif op==12 then m==1 else bif op==13 then m==1 else bif op==16 then m==1 else bif op==18 then m==1 else bif op==14 then(bif decide (m≥3)then m.tmod 2==1 else false)else bif op==15 then decide (m≥1)else bif (bif m==2 then decide (op≥3)else false)then decide (op≤17)else false
def Zkf(a0 a1:Int)(a2:KT)(a3 a4:Int):Prop:=(a0==a1)=true→a2 [.d (.v (.bool (a3==a4)))] []
theorem afF(op m:Int)(Q:KT):vc bl jm bf YD (f46.body.getD .skip) f46.results.toList [.d (.v (.int .i64 op)),.d (.v (.int .i64 m))] Q=((Zkf op (1:Int) Q m (0:Int))∧((op==1)=false→(Zkf op (2:Int) Q m (0:Int))∧((op==2)=false→(Zkf op (8:Int) Q m (1:Int))∧((op==8)=false→(Zkf op (12:Int) Q m (1:Int))∧((op==12)=false→(Zkf op (13:Int) Q m (1:Int))∧((op==13)=false→(Zkf op (16:Int) Q m (1:Int))∧((op==16)=false→(Zkf op (18:Int) Q m (1:Int))∧((op==18)=false→((op==14)=true→(2:Int)≠(0:Int)∧Q [.d (.v (.bool (bif decide (m≥3)then m.tmod (2:Int)==1 else false)))] [])∧((op==14)=false→((op==15)=true→Q (Fh m (1:Int)) [])∧((op==15)=false→Q [.d (.v (.bool (bif bif m==2 then decide (op≥3)else false then decide (op≤17)else false)))] [])))))))))):=by kernel_rfl
theorem afG(op m:Int):Ct prog gl 46 [.d (.v (.int .i64 op)),.d (.v (.int .i64 m))] (gives [.d (.v (.bool (cg op m)))]):=by
 refine cz bq f46 YD ⟨_,_,rfl,rfl⟩ ?_
 rw[afF];dsimp -eta -iota -proj only[Zkf,Fh]
 have fin:∀b,cg op m=b→gives [.d (.v (.bool (cg op m)))] [R.d (D.v (Value.bool b))] []:=fun b h=>by rw[h];exact⟨rfl,rfl⟩
 repeat' first|(refine And.intro (fun h=>?_) (fun h=>?_))|(refine And.intro (by decide) ?_)|fail
 all_goals(refine fin _ ?_;clear fin;simp only[cg, *,cond_true,cond_false])
def Mj(a:List R)(K:KT):Prop:=match a with
 |[.d (.v (.int .i64 op)),.d (.v (.int .i64 m))]=>K [.d (.v (.bool (cg op m)))] []
 |_=>False
theorem Mk:CK gl Mj 46:=fun a K h=>by
 unfold Mj at h
 split at h
 ·exact(afG _ _).gives h
 ·exact h.elim
theorem afH(k sc:Int)(aA:Bool)(m:Int)(s:ByteArray)(Q:KT):vc bl d_ bf OD (f23.body.getD .skip) f23.results.toList [.agg [.v (.int .i64 k),.v (.int .i64 sc),.v (.bool aA),.v (.int .i64 m),.v (.string s)]] Q=(Zce k sc Q aA m s):=by kernel_rfl
def Ml(a:List R)(K:KT):Prop:=match a with
 |[.agg [.v (.int .i64 k),.v (.int .i64 sc),.v (.bool aA),.v (.int .i64 m),.v (.string s)]]=>K [.d (.v (.int .i64 (bL k sc aA m s)))] []
 |_=>False
theorem xy(a b:Int):dS a b=cf a b:=by
 unfold dS cf dZ
 have h1:decide (b≥0) = !decide (b<0):=by by_cases h:b<0<;>simp[h]<;>omega
 have h2:decide (b≤18) = !decide (b>18):=by by_cases h:b>18<;>simp[h]<;>omega
 rw[h1,h2]
 simp only[bne]
 cases decide (a<1)<;>cases decide (a>5)<;>cases decide (b<0)<;>cases decide (b>18)<;>cases a==3<;>cases b==0<;>rfl
def s6(k sc:Int)(aA:Bool)(m:Int)(s:ByteArray):Int:=bif dS k sc != 0 then dS k sc else bif aA then(bif (bif m != 0 then true else !s==({data:={toList:=[]}}:ByteArray))then 20 else 0)
 else bif k==4 then(bif (bif m != 0 then true else decide ((s.size:Int)>256))then 20 else 0)
 else bif !s==({data:={toList:=[]}}:ByteArray)then 20
 else bif k==1 then(bif (bif m != 0 then m != 1 else false)then 20 else 0)
 else bif k==3 then(bif !eo m then 20 else 0)
 else bif k==5 then(bif (bif decide (m < -719162)then true else decide (m>2932896))then 20 else 0)
 else 0
theorem EO(k sc:Int)(aA:Bool)(m:Int)(s:ByteArray):s6 k sc aA m s=bL k sc aA m s:=by
 unfold s6 bL eo bZ
 rw[xy]
 have h1:decide (m≥-719162) = !decide (m < -719162):=by by_cases h:m < -719162<;>simp[h]<;>omega
 have h2:decide (m≤2932896) = !decide (m>2932896):=by by_cases h:m>2932896<;>simp[h]<;>omega
 have h3:decide ((s.size:Int)≤256) = !decide ((s.size:Int)>256):=by by_cases h:(s.size:Int)>256<;>simp[h]<;>omega
 have h4:decide ((-999999999999999999:Int)≤m)=decide (m≥-999999999999999999):=rfl
 rw[h1,h2,h3,h4]
 simp only[bne]
 generalize (s==({data:={toList:=[]}}:ByteArray))=Z
 generalize (cf k sc==0)=Y
 generalize decide (m < -719162)=X1
 generalize decide (m>2932896)=X2
 generalize decide ((s.size:Int)>256)=X3
 generalize decide (m≥-999999999999999999)=X4
 generalize decide (m≤999999999999999999)=X5
 generalize (m==0)=M0
 generalize (m==1)=M1
 generalize cf k sc=S
 have split:∀(c1 c3 c4 c5:Bool),(k==1)=c1→(k==3)=c3→(k==4)=c4→(k==5)=c5→(c4=true→c1=false∧c3=false∧c5=false):=by
  intro c1 c3 c4 c5 e1 e3 e4 e5 h
  subst h
  have:k=4:=by simpa using e4
  subst this
  exact⟨e1.symm,e3.symm,e5.symm⟩
 have split:=split _ _ _ _ rfl rfl rfl rfl
 revert split
 generalize (k==1)=c1
 generalize (k==3)=c3
 generalize (k==4)=c4
 generalize (k==5)=c5
 intro split
 cases Y
 ·rfl
 cases aA
 ·cases c4
  ·cases c1
   ·cases c3
    ·cases c5
     ·cases Z<;>rfl
     ·cases Z<;>cases X1<;>cases X2<;>rfl
    ·cases Z<;>cases X4<;>cases X5<;>rfl
   ·cases Z<;>cases M0<;>cases M1<;>rfl
  ·obtain⟨rfl,rfl,rfl⟩:=split rfl
   cases M0<;>cases X3<;>rfl
 ·cases M0<;>cases Z<;>rfl
theorem afI(k sc:Int)(aA:Bool)(m:Int)(s:ByteArray):Ct prog gl 23 [.agg [.v (.int .i64 k),.v (.int .i64 sc),.v (.bool aA),.v (.int .i64 m),.v (.string s)]] (gives [.d (.v (.int .i64 (bL k sc aA m s)))]):=by
 refine cz bh f23 OD ⟨_,_,rfl,rfl⟩ ?_
 rw[afH];dsimp -eta -iota -proj only[Zce,WL,Vb]
 rw[←EO]
 have fin:∀b,s6 k sc aA m s=b→gives [.d (.v (.int .i64 (s6 k sc aA m s)))] [R.d (D.v (Value.int .i64 b))] []:=fun b h=>by rw[h];exact⟨rfl,rfl⟩
 repeat' first|(refine And.intro (fun h=>?_) (fun h=>?_))|fail
 all_goals first|(refine fin _ ?_;clear fin;simp only[s6, *,cond_true,cond_false];done)|(rename_i h;cases h)
theorem Mm:CK gl Ml 23:=fun a K h=>by
 unfold Ml at h
 split at h
 ·exact(afI _ _ _ _ _).gives h
 ·exact h.elim
def afJ(n:Nat)(a:List R)(K:KT):Prop:=match a with
 |[.agg x,.d (.v (.int .i64 c))]=>∃e:EX,x=cells e∧size e<n∧fits e∧K [.d (.v (.bool (cu c e)))] []
 |_=>False
def Tg(n:Nat):aj:=au (au (au d_ 46 Mj) 23 Ml) 21 (afJ n)
def afK(op sub:Int)(t:Ty)(v:Go.Ex.AV)(args:List EX)(c:Int)(x:Nat):St:={tm:=[(1,.d (.v (.int .i64 c))),(2,.ref 2 0),(4,.d (.v (.bool false))),(7,.d (.v (.int .i64 (x:Int))))],hp:=[(2,.box [.d (.v (.int .i64 op)),.d (.v (.int .i64 sub)),.d (.v (.int .i64 t.k)),.d (.v (.int .i64 t.sc)),.d (.v (.int .i64 v.t.k)),.d (.v (.int .i64 v.t.sc)),.d (.v (.bool v.aA)),.d (.v (.int .i64 v.n)),.d (.v (.string v.s)),.d (.sl (aa args))])],kn:=[],gd:=[]}
def xz(c:Int)(args:List EX)(m:Nat)(x:Nat):Prop:=x≤args.length∧m=args.length-x∧ep c (args.take x)=true
def Th(op sub:Int)(t:Ty)(v:Go.Ex.AV)(args:List EX)(c:Int):Fi:={aj1 with lp:=[(19,([1,2,4,7],[5,114]))],lx:=[(19,{X:=Nat,sh:=afK op sub t v args c,P:=fun _=>xz c args})]}
def Zhb(a0:Int)(a1:Nat)(a2 a3:Int)(a4:Ty)(a5:Go.Ex.AV)(a6:List EX):St:={tm:=[(1,.i a0),(2,.ref 2 0),(4,.d (.v (.bool false))),(7,.i (↑a1:Int))],hp:=[(2,.box [.i a2,.i a3,.i a4.1,.i a4.2,.i a5.1.1,.i a5.1.2,.d (.v (.bool a5.2)),.i a5.3,.d (.v (.string a5.4)),.d (.sl (aa a6))])],kn:=[],gd:=[]:St}
def Z0(a0 a1 a2:Int)(a3:Ty)(a4:Go.Ex.AV)(a5:List EX)(a6:Nat)(a7:KT):Prop:=∃(x0:Nat),({tm:=[(1,.i a0),(2,.ref 2 0),(4,.d (.v (.bool false))),(7,.i 0)],hp:=[(2,.box [.i a1,.i a2,.i a3.1,.i a3.2,.i a4.1.1,.i a4.1.2,.d (.v (.bool a4.2)),.i a4.3,.d (.v (.string a4.4)),.d (.sl (aa a5))])],kn:=[],gd:=[]:St}=(Zhb a0 x0 a1 a2 a3 a4 a5)∧∃(n:Nat),xz a0 a5 n x0)∧∀(aN:Nat) (x:Nat),xz a0 a5 aN x→gS a5 fun es=>(sy x es (OJ a5 x a6 fun e=>((!cu a0 e)=true→mu a7)∧((!cu a0 e)=false→fG aN fun m x'=>{tm:=[(1,.i a0),(2,.ref 2 0),(4,.d (.v (.bool false))),(7,.i (IntKind.i64.wrap ((↑x:Int)+1)))],hp:=[(2,.box [.i a1,.i a2,.i a3.1,.i a3.2,.i a4.1.1,.i a4.1.2,.d (.v (.bool a4.2)),.i a4.3,.d (.v (.string a4.4)),.d (.sl (aa a5))])],kn:=[],gd:=[]:St}=(Zhb a0 x' a1 a2 a3 a4 a5)∧xz a0 a5 m x')))∧(qE x es (a7 Hz []))
theorem amm(n:Nat)(op sub:Int)(t:Ty)(v:Go.Ex.AV)(args:List EX)(c:Int)(Q:KT):vc bl (Tg n) bf (Th op sub t v args c) (f21.body.getD .skip) f21.results.toList [.agg (aT op sub t v (aa args)),.d (.v (.int .i64 c))] Q=(gS args fun es=>((op==1)=true→((bif bif bif !bif bif cg op (↑es.length:Int)then decide (sub≥0)else false then decide (sub<c)else false then true else sub != sub then true else !((0:Int)==t.1&&((0:Int)==t.2&&true))then true else !((0:Int)==v.1.1&&((0:Int)==v.1.2&&(false==v.2&&((0:Int)==v.3&&({data:={toList:=[]:Array UInt8}:ByteArray}==v.4&&true))))))=true→mu Q)∧((bif bif bif !bif bif cg op (↑es.length:Int)then decide (sub≥0)else false then decide (sub<c)else false then true else sub != sub then true else !((0:Int)==t.1&&((0:Int)==t.2&&true))then true else !((0:Int)==v.1.1&&((0:Int)==v.1.2&&(false==v.2&&((0:Int)==v.3&&({data:={toList:=[]:Array UInt8}:ByteArray}==v.4&&true))))))=false→Z0 c op sub t v args n Q))∧((op==1)=false→((op==2)=true→((bif bif bif !bif cg op (↑es.length:Int)then bL v.1.1 v.1.2 v.2 v.3 v.4==0 else false then true else(0:Int) != sub then true else !((0:Int)==t.1&&((0:Int)==t.2&&true))then true else !(v.1.1==v.1.1&&(v.1.2==v.1.2&&(v.2==v.2&&(v.3==v.3&&(v.4==v.4&&true))))))=true→mu Q)∧((bif bif bif !bif cg op (↑es.length:Int)then bL v.1.1 v.1.2 v.2 v.3 v.4==0 else false then true else(0:Int) != sub then true else !((0:Int)==t.1&&((0:Int)==t.2&&true))then true else !(v.1.1==v.1.1&&(v.1.2==v.1.2&&(v.2==v.2&&(v.3==v.3&&(v.4==v.4&&true))))))=false→Z0 c op sub t v args n Q))∧((op==2)=false→((op==9)=true→((bif bif bif !bif bif cg op (↑es.length:Int)then decide (sub≥1)else false then decide (sub≤6)else false then true else sub != sub then true else !((0:Int)==t.1&&((0:Int)==t.2&&true))then true else !((0:Int)==v.1.1&&((0:Int)==v.1.2&&(false==v.2&&((0:Int)==v.3&&({data:={toList:=[]:Array UInt8}:ByteArray}==v.4&&true))))))=true→mu Q)∧((bif bif bif !bif bif cg op (↑es.length:Int)then decide (sub≥1)else false then decide (sub≤6)else false then true else sub != sub then true else !((0:Int)==t.1&&((0:Int)==t.2&&true))then true else !((0:Int)==v.1.1&&((0:Int)==v.1.2&&(false==v.2&&((0:Int)==v.3&&({data:={toList:=[]:Array UInt8}:ByteArray}==v.4&&true))))))=false→Z0 c op sub t v args n Q))∧((op==9)=false→((op==16)=true→((bif bif bif !bif cg op (↑es.length:Int)then dS t.1 t.2==0 else false then true else(0:Int) != sub then true else !(t.1==t.1&&(t.2==t.2&&true))then true else !((0:Int)==v.1.1&&((0:Int)==v.1.2&&(false==v.2&&((0:Int)==v.3&&({data:={toList:=[]:Array UInt8}:ByteArray}==v.4&&true))))))=true→mu Q)∧((bif bif bif !bif cg op (↑es.length:Int)then dS t.1 t.2==0 else false then true else(0:Int) != sub then true else !(t.1==t.1&&(t.2==t.2&&true))then true else !((0:Int)==v.1.1&&((0:Int)==v.1.2&&(false==v.2&&((0:Int)==v.3&&({data:={toList:=[]:Array UInt8}:ByteArray}==v.4&&true))))))=false→Z0 c op sub t v args n Q))∧((op==16)=false→((bif bif bif !cg op (↑es.length:Int)then true else(0:Int) != sub then true else !((0:Int)==t.1&&((0:Int)==t.2&&true))then true else !((0:Int)==v.1.1&&((0:Int)==v.1.2&&(false==v.2&&((0:Int)==v.3&&({data:={toList:=[]:Array UInt8}:ByteArray}==v.4&&true))))))=true→mu Q)∧((bif bif bif !cg op (↑es.length:Int)then true else(0:Int) != sub then true else !((0:Int)==t.1&&((0:Int)==t.2&&true))then true else !((0:Int)==v.1.1&&((0:Int)==v.1.2&&(false==v.2&&((0:Int)==v.3&&({data:={toList:=[]:Array UInt8}:ByteArray}==v.4&&true))))))=false→Z0 c op sub t v args n Q)))))):=by kernel_rfl
theorem QE(a:ByteArray):(a==a)=true:=by rw[beq_toListBytes];simp
theorem QF(a b:ByteArray):(a==b)=(b==a):=by rw[beq_toListBytes,beq_toListBytes,BEq.comm]
def v7(op sub:Int)(t:Ty)(v:Go.Ex.AV)(m c:Int):Bool:=
 bif op==1 then(bif bif bif !bif bif cg op m then decide (sub≥0)else false then decide (sub<c)else false then true else sub != sub then true else !(0==t.1&&(0==t.2&&true))then true else !(0==v.1.1&&(0==v.1.2&&(false==v.2&&(0==v.3&&(({data:={toList:=[]}}:ByteArray)==v.4&&true))))))
 else bif op==2 then(bif bif bif !bif cg op m then bL v.1.1 v.1.2 v.2 v.3 v.4==0 else false then true else 0 != sub then true else !(0==t.1&&(0==t.2&&true))then true else !(v.1.1==v.1.1&&(v.1.2==v.1.2&&(v.2==v.2&&(v.3==v.3&&(v.4==v.4&&true))))))
 else bif op==9 then(bif bif bif !bif bif cg op m then decide (sub≥1)else false then decide (sub≤6)else false then true else sub != sub then true else !(0==t.1&&(0==t.2&&true))then true else !(0==v.1.1&&(0==v.1.2&&(false==v.2&&(0==v.3&&(({data:={toList:=[]}}:ByteArray)==v.4&&true))))))
 else bif op==16 then(bif bif bif !bif cg op m then dS t.1 t.2==0 else false then true else 0 != sub then true else !(t.1==t.1&&(t.2==t.2&&true))then true else !(0==v.1.1&&(0==v.1.2&&(false==v.2&&(0==v.3&&(({data:={toList:=[]}}:ByteArray)==v.4&&true))))))
 else(bif bif bif !cg op m then true else 0 != sub then true else !(0==t.1&&(0==t.2&&true))then true else !(0==v.1.1&&(0==v.1.2&&(false==v.2&&(0==v.3&&(({data:={toList:=[]}}:ByteArray)==v.4&&true))))))
theorem Mn(op sub:Int)(t:Ty)(v:Go.Ex.AV)(m c:Int)(hm:0≤m):v7 op sub t v m c = !bE op sub t v m c:=by
 have htz:((0:Int)==t.1&&((0:Int)==t.2&&true))=tz t:=by unfold tz;rw[BEq.comm (a:=(0:Int)) (b:=t.1),BEq.comm (a:=(0:Int)) (b:=t.2)]
 have hvz:((0:Int)==v.1.1&&((0:Int)==v.1.2&&(false==v.2&&((0:Int)==v.3&&(({data:={toList:=[]}}:ByteArray)==v.4&&true)))))=jo v:=by unfold jo;rw[BEq.comm (a:=(0:Int)) (b:=v.1.1),BEq.comm (a:=(0:Int)) (b:=v.1.2),BEq.comm (a:=false) (b:=v.2),BEq.comm (a:=(0:Int)) (b:=v.3),QF ({data:={toList:=[]}}:ByteArray) v.4]
 have hvv:(v.1.1==v.1.1&&(v.1.2==v.1.2&&(v.2==v.2&&(v.3==v.3&&(v.4==v.4&&true)))))=true:=by rw[QE];simp
 have htt:(t.1==t.1&&(t.2==t.2&&true))=true:=by simp
 have hss:(sub != sub)=false:=by simp
 have h0s:((0:Int) != sub) = !(sub==0):=by rw[bne,BEq.comm]
 unfold v7 bE
 rw[htz,hvz,hvv,htt,hss,h0s,xy]
 by_cases o1:op=1
 ·subst o1
  rw[show cg 1 m=(m==0)from rfl,show((1:Int)==1)=true from rfl,cond_true,cond_true]
  cases m==0<;>cases decide (sub≥0)<;>cases decide (sub<c)<;>cases tz t<;>cases jo v<;>rfl
 by_cases o2:op=2
 ·subst o2
  rw[show cg 2 m=(m==0)from rfl,show((2:Int)==1)=false from rfl,show((2:Int)==2)=true from rfl,cond_false,cond_false,cond_true,cond_true]
  cases m==0<;>cases bL v.1.1 v.1.2 v.2 v.3 v.4==0<;>cases sub==0<;>cases tz t<;>rfl
 by_cases o9:op=9
 ·subst o9
  rw[show cg 9 m=(m==2)from by cases h:(m==2)<;>simp[cg,h],show((9:Int)==1)=false from rfl,show((9:Int)==2)=false from rfl,show((9:Int)==9)=true from rfl,cond_false,cond_false,cond_false,cond_false,cond_true,cond_true]
  cases m==2<;>cases decide (sub≥1)<;>cases decide (sub≤6)<;>cases tz t<;>cases jo v<;>rfl
 by_cases uE:op=16
 ·subst uE
  rw[show cg 16 m=(m==1)from rfl,show((16:Int)==1)=false from rfl,show((16:Int)==2)=false from rfl,show((16:Int)==9)=false from rfl,show((16:Int)==16)=true from rfl]
  simp only[cond_false,cond_true]
  cases m==1<;>cases cf t.1 t.2==0<;>cases sub==0<;>cases jo v<;>rfl
 have b1:(op==1)=false:=by simpa using o1
 have b2:(op==2)=false:=by simpa using o2
 have b9:(op==9)=false:=by simpa using o9
 have b16:(op==16)=false:=by simpa using uE
 rw[b1,b2,b9,b16]
 simp only[cond_false]
 by_cases hA:op=8∨op=12∨op=13∨op=18
 ·have e1:(op==8||op==12||op==13||op==18)=true:=by simpa[or_assoc]using hA
  have e2:cg op m=(m==1):=by rcases hA with rfl|rfl|rfl|rfl<;>rfl
  rw[e1,e2,cond_true]
  cases m==1<;>cases sub==0<;>cases tz t<;>cases jo v<;>rfl
 have e1:(op==8||op==12||op==13||op==18)=false:=by
  rw[Bool.eq_false_iff];intro h;exact hA (by simpa[or_assoc]using h)
 rw[e1,cond_false]
 by_cases xR:op=14
 ·subst xR
  have e2:cg 14 m=(bif decide (m≥3)then m.tmod 2 != 0 else false):=by
   have:(m.tmod 2==1)=(m.tmod 2 != 0):=by
    have h2:m.tmod 2=m % 2:=Int.tmod_eq_emod_of_nonneg hm
    rw[h2]
    rcases(show m % 2=0∨m % 2=1 by omega)with h|h<;>rw[h]<;>rfl
   rw[←this];rfl
  rw[e2,show((14:Int)==14)=true from rfl,cond_true]
  cases decide (m≥3)<;>cases m.tmod 2 != 0<;>cases sub==0<;>cases tz t<;>cases jo v<;>rfl
 by_cases yO:op=15
 ·subst yO
  rw[show cg 15 m=decide (m≥1)from rfl,show((15:Int)==14)=false from rfl,show((15:Int)==15)=true from rfl,cond_false,cond_true]
  cases decide (m≥1)<;>cases sub==0<;>cases tz t<;>cases jo v<;>rfl
 have b14:(op==14)=false:=by simpa using xR
 have b15:(op==15)=false:=by simpa using yO
 rw[b14,b15,cond_false,cond_false]
 have n8:(op==8)=false:=by simp;omega
 have n12:(op==12)=false:=by simp;omega
 have n13:(op==13)=false:=by simp;omega
 have n18:(op==18)=false:=by simp;omega
 by_cases hB:op=3∨op=4∨op=5∨op=6∨op=7∨op=10∨op=11∨op=17
 ·have e1:(op==3||op==4||op==5||op==6||op==7||op==10||op==11||op==17)=true:=by simpa[or_assoc]using hB
  have e2:cg op m=(m==2):=by
   unfold cg
   rw[b1,b2,b14,b15,b16,n8,n12,n13,n18]
   simp only[cond_false]
   rw[show decide (op≥3)=true from decide_eq_true (by omega),show decide (op≤17)=true from decide_eq_true (by omega)]
   cases m==2<;>rfl
  rw[e1,e2,cond_true]
  cases m==2<;>cases sub==0<;>cases tz t<;>cases jo v<;>rfl
 ·have e1:(op==3||op==4||op==5||op==6||op==7||op==10||op==11||op==17)=false:=by
   rw[Bool.eq_false_iff];intro h;exact hB (by simpa[or_assoc]using h)
  have e2:cg op m=false:=by
   unfold cg
   rw[b1,b2,b14,b15,b16,n8,n12,n13,n18]
   simp only[cond_false]
   by_cases h3:op≥3
   ·rw[show decide (op≤17)=false from decide_eq_false (by omega)]
    cases m==2<;>cases decide (op≥3)<;>rfl
   ·rw[show decide (op≥3)=false from decide_eq_false h3]
    cases m==2<;>rfl
  rw[e1,e2,cond_false]
  rfl
theorem EP(c:Int)(l:List EX)(e:EX):ep c (l++[e])=(ep c l&&cu c e):=by
 rw[fV,fV,List.all_append];simp
theorem afL:∀(n:Nat) (e:EX) (c:Int),size e<n→fits e→Ct prog gl 21 [.agg (cells e),.d (.v (.int .i64 c))] (gives [.d (.v (.bool (cu c e)))])
 |0,_,_,h,_=>absurd h (Nat.not_lt_zero _)
 |n+1,.mk op sub t v args,c,hs,hf=>by
  have hC:ah prog gl (Tg n):=af (af (af bh Mk) Mm) (fun a K hk=>by
   unfold afJ at hk
   split at hk
   ·obtain⟨e,rfl,h1,h2,h3⟩:=hk
    exact(afL n e _ h1 h2).gives h3
   ·exact hk.elim)
  rw[ab]
  refine aw bN hC aF bD mixed (fn:=f21) (body:=f21.body.getD .skip) (by kernel_rfl) (by kernel_rfl) (by kernel_rfl) (fi:=Th op sub t v args c) (by kernel_rfl) (by kernel_rfl) ⟨_,_,rfl,rfl⟩ ?_
  rw[amm];dsimp -eta -iota -proj only[gS,fy,mu,Z0,Zhb,sy,OJ,OI,yM,Zbx,Fb,Zy,Zs,Zr,Z2,lU,fG,fb,qE,Hz]
  obtain⟨_,hl,ss⟩:=ee hf
  simp only[size]at hs
  have Xv:(0:Int)≤((aa args).length:Int):=by omega
  have hq:=Mn op sub t v ((aa args).length:Int) c Xv
  have hE:cu c (.mk op sub t v args)=(bE op sub t v ((aa args).length:Int) c&&ep c args):=by simp only[cu]
  have fin:∀b,cu c (.mk op sub t v args)=b→gives [.d (.v (.bool (cu c (.mk op sub t v args))))] [R.d (D.v (Value.bool b))] []:=fun b h=>by rw[h];exact⟨rfl,rfl⟩
  refine⟨aa args,rfl,fun o1=>⟨fun g=>?_,fun g=>?_⟩,fun o1=>⟨fun o2=>⟨fun g=>?_,fun g=>?_⟩,fun o2=>⟨fun o9=>⟨fun g=>?_,fun g=>?_⟩,fun o9=>⟨fun uE=>⟨fun g=>?_,fun g=>?_⟩,fun uE=>⟨fun g=>?_,fun g=>?_⟩⟩⟩⟩⟩
  all_goals
   first
    |(have hg:v7 op sub t v ((aa args).length:Int) c=true:=by (simp only[v7, *,cond_true,cond_false];done)
      rw[hg]at hq
      refine fin _ ?_
      have Oo:bE op sub t v ((aa args).length:Int) c=false:=by simpa using hq.symm
      rw[hE,Oo,Bool.false_and]
      done)
    |(have hg:v7 op sub t v ((aa args).length:Int) c=false:=by (simp only[v7, *,cond_true,cond_false];done)
      rw[hg]at hq
      have Oo:bE op sub t v ((aa args).length:Int) c=true:=by simpa using hq.symm
      rw[Oo,Bool.true_and]at hE
      clear hg hq g
      refine⟨(0:Nat),⟨rfl,args.length,Nat.zero_le _,rfl,by rw[List.take_zero];simp only[ep]⟩,fun m (x:Nat) hx=>⟨aa args,rfl,fun hi=>?_,fun hi=>?_⟩⟩
      ·have hi:x<args.length:=by simpa[ag]using hi
       obtain⟨cL,aU,t',v',a',he,gO⟩:=aX hi
       have hm:=hx.2.1
       have nC:=hx.2.2
       have hsz:=ja (List.getElem_mem hi)
       refine⟨aa args,rfl,⟨by omega,by rw[ag];omega⟩,_,gO,rfl,cL,aU,t'.k,t'.sc,v'.t.k,v'.t.sc,v'.aA,v'.n,v'.s,aa a',rfl,args[x],by rw[he,ab];rfl,by omega,cZ ss (List.getElem_mem hi),fun hb=>?_,fun hb=>⟨args.length-(x+1),x+1,by omega,?_,hi,rfl,?_⟩⟩
       ·refine fin _ ?_
        rw[hE,fV]
        rw[←Bool.not_eq_true,List.all_eq_true]
        intro bC
        have:=bC _ (List.getElem_mem hi)
        rw[this]at hb;cases hb
       ·rw[aL (by omega)]
       ·rw[e7 args hi,EP,nC]
        simpa using hb
      ·have hi:¬x<args.length:=by simpa[ag]using hi
       have nC:=hx.2.2
       rw[List.take_of_length_le (by omega)]at nC
       exact fin _ (by rw[hE,nC]))
def Mo(a:List R)(K:KT):Prop:=match a with
 |[.agg x,.d (.v (.int .i64 c))]=>∃e:EX,x=cells e∧fits e∧K [.d (.v (.bool (cu c e)))] []
 |_=>False
theorem Mp:CK gl Mo 21:=fun a K h=>by
 unfold Mo at h
 split at h
 ·obtain⟨e,rfl,h1,h2⟩:=h
  exact(afL (size e+1) e _ (Nat.lt_succ_self _) h1).gives h2
 ·exact h.elim
end Go.Proofs.Tryz
