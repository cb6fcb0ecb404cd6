/- Part of the proof: contracts of functions; no condition. -/
import Derived.Test.YtabbmgfeemkkbaaGreatDoorB14
import Derived.Lib.ParseIntB
import Derived.Lib.SlTrimSet
import Derived.Lib.IndexMore
import Derived.Lib.ItoaNum
import Derived.Lib.Repeat
import Derived.Lib.Replace
import Derived.Lib.MapU
import Derived.Lib.Strings
set_option maxRecDepth 100000
namespace Go.Ex
open Go
theorem sD{a b:ByteArray}:(a==b)=true↔a=b:=by
 obtain⟨x⟩:=a
 obtain⟨y⟩:=b
 show((x==y)=true)↔_
 simp
theorem adv{a b:ByteArray}:(a==b)=false↔a≠b:=by rw[Bool.eq_false_iff,ne_eq,sD]
def tx(l:List UInt8):ByteArray:=⟨l.toArray⟩
theorem iJ(l:List UInt8):(tx l).data.toList=l:=rfl
theorem uG(s:ByteArray):tx s.data.toList=s:=rfl
theorem az(l:List UInt8):(tx l).size=l.length:=by simp[tx,ByteArray.size]
theorem size_data(s:ByteArray):s.data.toList.length=s.size:=Array.length_toList
theorem aD(a b:List UInt8):tx a++tx b=tx (a++b):=by
 apply ByteArray.ext;simp[tx]
theorem xe(s:ByteArray)(l h:Nat):s.extract l h=tx ((s.data.toList.take h).drop l):=by
 apply ByteArray.ext
 rw[ByteArray.data_extract]
 unfold tx
 apply Array.ext'
 rw[Array.toList_extract]
 show _=(s.data.toList.take h).drop l
 rw[List.drop_take]
theorem gL(s:ByteArray)(n:Nat):s.extract n s.size=tx (s.data.toList.drop n):=by
 rw[xe,List.take_of_length_le (by rw[size_data];exact Nat.le_refl _)]
theorem fZ(s:ByteArray)(n:Nat):s.extract 0 n=tx (s.data.toList.take n):=by
 rw[xe,List.drop_zero]
theorem Jc{a b:List UInt8}(h:tx a=tx b):a=b:=by
 have:=congrArg (fun x:ByteArray=>x.data.toList) h
 exact this
theorem U4{s p:ByteArray}(h:p.size≤s.size):(s.extract 0 p.size==p)=Lib.hasPrefix s.data.toList p.data.toList:=by
 rw[Bool.eq_iff_iff,sD,fZ]
 unfold Lib.hasPrefix
 rw[List.isPrefixOf_iff_prefix,List.prefix_iff_eq_take,size_data]
 constructor
 ·intro h;exact(Jc (h.trans (uG p).symm)).symm
 ·intro h;rw[←h,uG]
theorem AH{s p:ByteArray}(h:¬p.size≤s.size):Lib.hasPrefix s.data.toList p.data.toList=false:=by
 rw[Bool.eq_false_iff]
 unfold Lib.hasPrefix
 rw[ne_eq,List.isPrefixOf_iff_prefix]
 intro hp
 have:=hp.length_le
 rw[size_data,size_data]at this
 exact h this
def qm:List UInt8:=[48,49,50,51,52,53,54,55,56,57]
def dT(c:UInt8):Bool:=qm.contains c
theorem eG{c:UInt8}:dT c=true↔48≤c.toNat∧c.toNat≤57:=by
 constructor
 ·intro h
  have h:c∈qm:=List.elem_iff.1 h
  unfold qm at h
  simp only[List.mem_cons,List.not_mem_nil,or_false]at h
  rcases h with rfl|rfl|rfl|rfl|rfl|rfl|rfl|rfl|rfl|rfl<;>decide
 ·intro⟨h1,h2⟩
  have h:c=UInt8.ofNat c.toNat:=(UInt8.ofNat_toNat).symm
  have:c.toNat=48∨c.toNat=49∨c.toNat=50∨c.toNat=51∨c.toNat=52∨c.toNat=53∨c.toNat=54∨c.toNat=55∨c.toNat=56∨c.toNat=57:=by omega
  rw[h]
  rcases this with e|e|e|e|e|e|e|e|e|e<;>rw[e]<;>decide
theorem dropWhile_nil{α:Type}(p:α→Bool):∀{l:List α},l.dropWhile p=[]↔l.all p=true
 |[]=>by simp
 |a::l=>by
  rw[List.dropWhile_cons]
  cases h:p a
  ·simp[h]
  ·simp[h,dropWhile_nil p (l:=l)]
theorem Eg{l cs:List UInt8}:Lib.trimS l cs=[]↔l.all (cs.contains ·)=true:=by
 unfold Lib.trimS Lib.trimLeftS Lib.trimRightS
 rw[dropWhile_nil]
 constructor
 ·intro h
  have h2:(l.reverse.dropWhile (cs.contains ·)).all (cs.contains ·)=true:=by
   rw[List.all_eq_true]at h ⊢
   intro x hx
   exact h x (List.mem_reverse.2 hx)
  rw[←List.all_reverse]
  rw[←List.takeWhile_append_dropWhile (p:=(cs.contains ·)) (l:=l.reverse),List.all_append,h2,Bool.and_true]
  exact List.all_takeWhile
 ·intro h
  rw[List.all_eq_true]at h ⊢
  intro x hx
  exact h x (List.mem_reverse.1 ((List.dropWhile_sublist _).subset (List.mem_reverse.1 hx)))
def aR(l:List UInt8):Bool:=!l.isEmpty&&l.all dT
theorem Eh(l:List UInt8):(bif tx l != tx []then tx (Lib.trimS l qm)==tx []else false)=aR l:=by
 have e:∀a:List UInt8,(tx a==tx [])=a.isEmpty:=by
  intro a
  cases a with
  |nil=>rfl
  |cons x r=>
   have:tx (x::r)≠tx []:=by
    intro h
    have:=congrArg ByteArray.size h
    simp[az]at this
   rw[List.isEmpty_cons,Bool.eq_false_iff]
   intro h
   exact this (sD.1 h)
 have e2:(tx l != tx []) = !l.isEmpty:=by rw[bne,e]
 rw[e2,e]
 unfold aR
 cases h:l.isEmpty
 ·simp only[Bool.not_false,cond_true,Bool.true_and]
  rw[Bool.eq_iff_iff,List.isEmpty_iff,Eg]
  rfl
 ·rfl
def intOf(l:List UInt8):Int×Int:=
 if aR (Lib.trimPrefix l [45])then(match Lib.parseIntB 64 l with | .ok v=>(v,0)|_=>(0,10))else(0,12)
theorem AI{l:List UInt8}{v:Int}(h:Lib.parseIntB 64 l = .ok v):ar v:=by
 unfold Lib.parseIntB at h
 split at h
 ·cases h
 ·rename_i c r
  dsimp only at h
  split at h
  ·cases h
  ·cases h
  ·split at h
   ·cases h
   ·split at h
    ·cases h
    ·simp only[Lib.NumEnd.ok.injEq]at h
     subst h
     unfold ar
     split<;>omega
theorem AJ(l:List UInt8):ar (intOf l).1:=by
 unfold intOf
 split
 ·split
  ·rename_i v h;exact AI h
  ·exact⟨by decide,by decide⟩
 ·exact⟨by decide,by decide⟩
end Go.Ex
namespace Go.Ex
open Go
def gU(y:Int):Int:=bif (bif (bif y.tmod 4==0 then y.tmod 100 != 0 else false)then true else y.tmod 400==0)then 1 else 0
def sE:List Int:=[31,28,31,30,31,30,31,31,30,31,30,31]
def bB(y m:Int):Int:=sE.getD (m-1).toNat 0+(if m=2 then gU y else 0)
def aC(y:Int):Int:=(y-1)*365+(y-1)/4-(y-1)/100+(y-1)/400
def cO(y:Int):Nat→Int
 |0=>0
 |k+1=>cO y k+bB y ((k:Int)+1)
theorem yS{y:Int}(h:0≤y):(gU y=1∧((y % 4=0∧y % 100≠0)∨y % 400=0))∨(gU y=0∧¬((y % 4=0∧y % 100≠0)∨y % 400=0)):=by
 unfold gU
 rw[Int.tmod_eq_emod_of_nonneg h,Int.tmod_eq_emod_of_nonneg h,Int.tmod_eq_emod_of_nonneg h]
 have b:∀a:Int,(a==0)=decide (a=0):=fun a=>by by_cases h:a=0<;>simp[h]
 have b2:∀a:Int,(a != 0) = !decide (a=0):=fun a=>by rw[bne,b]
 rw[b,b,b2]
 by_cases h1:y % 4=0<;>by_cases h2:y % 100=0<;>by_cases h3:y % 400=0<;>simp only[h1,h2,h3,decide_true,decide_false,Bool.not_true,Bool.not_false,cond_true,cond_false,true_and,ne_eq,not_true_eq_false,not_false_eq_true,or_true,or_false,false_and,and_false,and_true,or_self]<;>first|exact .inl rfl|exact .inr rfl|(left;decide)|(right;decide)
theorem fk{y:Int}(h:1≤y):aC (y+1)=aC y+365+gU y:=by
 unfold aC
 rcases yS (show 0≤y by omega)with⟨e,h1⟩|⟨e,h1⟩<;>rw[e]<;>omega
theorem fB{y:Int}(h:1≤y)(h2:y≤10000):0≤aC y∧aC y≤3652059:=by
 unfold aC;omega
theorem kB(y:Int)(h:0≤y):cO y 12=365+gU y:=by
 simp only[cO,bB,sE]
 simp
 omega
theorem eI{y m:Int}(h0:0≤y)(h1:1≤m)(h2:m≤12):28≤bB y m∧bB y m≤31:=by
 have hl:0≤gU y∧gU y≤1:=by rcases yS h0 with⟨e,_⟩|⟨e,_⟩<;>rw[e]<;>decide
 have:m=1∨m=2∨m=3∨m=4∨m=5∨m=6∨m=7∨m=8∨m=9∨m=10∨m=11∨m=12:=by omega
 rcases this with rfl|rfl|rfl|rfl|rfl|rfl|rfl|rfl|rfl|rfl|rfl|rfl<;>simp[bB,sE]<;>omega
theorem dh{y:Int}(h0:0≤y):∀{j k:Nat},j≤k→k≤12→cO y j≤cO y k
 |j,k,h,hk=>by
  induction k with
  |zero=>have:j=0:=by omega
         subst this;exact Int.le_refl _
  |succ k ih=>
   by_cases e:j=k+1
   ·subst e;exact Int.le_refl _
   ·have:=ih (by omega) (by omega)
    have:=(eI (m:=(k:Int)+1) h0 (by omega) (by omega)).1
    simp only[cO];omega
def dp(y m d:Int):Int×Int:=
 if y<1∨y>9999∨m<1∨m>12∨d<1∨d>bB y m then(0,13)else(-719162+aC y+d-1+cO y (m-1).toNat,0)
theorem yT{y m d:Int}(h:(dp y m d).2=0):-719162≤(dp y m d).1∧(dp y m d).1≤2932896:=by
 unfold dp at h ⊢
 split at h
 ·cases h
 rename_i hc
 rw[if_neg hc]
 have h1:1≤y∧y≤9999∧1≤m∧m≤12∧1≤d∧d≤bB y m:=by omega
 obtain⟨h1,h2,h3,h4,h5,h6⟩:=h1
 have hb:=fB (y:=y) h1 (by omega)
 have hs:=fk (y:=y) h1
 have du:=fB (y:=y+1) (by omega) (by omega)
 have m0:=dh (y:=y) (by omega) (Nat.zero_le (m-1).toNat) (by omega)
 have m1:=dh (y:=y) (j:=(m-1).toNat+1) (k:=12) (by omega) (by omega) (by omega)
 have e:((m-1).toNat:Int)+1=m:=by omega
 rw[kB y (by omega)]at m1
 simp only[cO,e]at m1
 have:cO y 0=0:=rfl
 dsimp only
 omega
end Go.Ex
namespace Go.Proofs.Tryz
open Go Go.Dm Go.Ex
set_option maxRecDepth 100000
variable {gl:Nat→Option Obj}
def cn(v:Go.Ex.AV):Int:=bU v.t.k v.t.sc v.aA v.n v.s
def dr(a b:Int):Int:=if b>a then b else a
def C5(a b:Go.Ex.AV):Int:=mT (kN a (dr (cn a) (cn b))).1 (kN a (dr (cn a) (cn b))).2 (kN b (dr (cn a) (cn b))).1 (kN b (dr (cn a) (cn b))).2
def cP(a b:Go.Ex.AV):Int:=
 bif a.t.k==4 then nd a.s b.s else bif a.t.k==2 then C5 a b else bif a.t.k==3 then C5 a b else mU a.n b.n
def Zc6(a0 a1:Go.Ex.AV):List R:=[.d (.i (mT (cA a0.3 (aK (IntKind.i64.wrap ((if bU a1.1.1 a1.1.2 a1.2 a1.3 a1.4>bU a0.1.1 a0.1.2 a0.2 a0.3 a0.4 then bU a1.1.1 a1.1.2 a1.2 a1.3 a1.4 else bU a0.1.1 a0.1.2 a0.2 a0.3 a0.4)-bU a0.1.1 a0.1.2 a0.2 a0.3 a0.4))).1) (cN a0.3 (aK (IntKind.i64.wrap ((if bU a1.1.1 a1.1.2 a1.2 a1.3 a1.4>bU a0.1.1 a0.1.2 a0.2 a0.3 a0.4 then bU a1.1.1 a1.1.2 a1.2 a1.3 a1.4 else bU a0.1.1 a0.1.2 a0.2 a0.3 a0.4)-bU a0.1.1 a0.1.2 a0.2 a0.3 a0.4))).1) (cA a1.3 (aK (IntKind.i64.wrap ((if bU a1.1.1 a1.1.2 a1.2 a1.3 a1.4>bU a0.1.1 a0.1.2 a0.2 a0.3 a0.4 then bU a1.1.1 a1.1.2 a1.2 a1.3 a1.4 else bU a0.1.1 a0.1.2 a0.2 a0.3 a0.4)-bU a1.1.1 a1.1.2 a1.2 a1.3 a1.4))).1) (cN a1.3 (aK (IntKind.i64.wrap ((if bU a1.1.1 a1.1.2 a1.2 a1.3 a1.4>bU a0.1.1 a0.1.2 a0.2 a0.3 a0.4 then bU a1.1.1 a1.1.2 a1.2 a1.3 a1.4 else bU a0.1.1 a0.1.2 a0.2 a0.3 a0.4)-bU a1.1.1 a1.1.2 a1.2 a1.3 a1.4))).1)))]
def Zc8(a0:Go.Ex.AV)(a1:Int)(a2:KT)(a3:Go.Ex.AV):Prop:=(a0.1.1==a1)=true→a2 (Zc6 a0 a3) []
def Zdb(a0:Go.Ex.AV)(a1 a2:Int)(a3:KT)(a4:Go.Ex.AV)(k:Prop):Prop:=(a0.1.1==a1)=false→(Zc8 a0 a2 a3 a4)∧k
theorem adw(a b:Go.Ex.AV)(Q:KT):vc bl U3 bf R6 (f150.body.getD .skip) f150.results.toList [.agg a.cs,.agg b.cs] Q=(((a.1.1==4)=true→Q [.d (.i (nd a.4 b.4))] [])∧(Zdb a (4:Int) (2:Int) Q b ((Zdb a (2:Int) (3:Int) Q b (((a.1.1==3)=false→Q [.d (.i (mU a.3 b.3))] [])))))):=by kernel_rfl
theorem adx(a b:Go.Ex.AV):Ct prog gl 150 [.agg a.cs,.agg b.cs] (gives [.d (.v (.int .i64 (cP a b)))]):=by
 refine cz C4 f150 R6 ⟨_,_,rfl,rfl⟩ ?_
 rw[adw];dsimp -eta -iota -proj only[Zdb,Zc8,Zc6]
 refine⟨fun h=>?_,fun h=>⟨fun h2=>?_,fun h2=>⟨fun h3=>?_,fun h3=>?_⟩⟩⟩<;>(unfold cP;simp only[h, *,cond_true,cond_false];exact⟨rfl,rfl⟩)
def Jd(a:List R)(K:KT):Prop:=match a with
 |[.agg [.v (.int .i64 C6),.v (.int .i64 nZ),.v (.bool C7),.v (.int .i64 C8),.v (.string C9)],.agg [.v (.int .i64 Fp),.v (.int .i64 qn),.v (.bool Fq),.v (.int .i64 Fs),.v (.string Ft)]]=>K [.d (.v (.int .i64 (cP (⟨⟨C6,nZ⟩,C7,C8,C9⟩:Go.Ex.AV) (⟨⟨Fp,qn⟩,Fq,Fs,Ft⟩:Go.Ex.AV))))] []
 |_=>False
theorem Je:CK gl Jd 150:=fun a K h=>by
 unfold Jd at h
 split at h
 ·exact(adx (⟨⟨_,_⟩,_,_,_⟩:Go.Ex.AV) (⟨⟨_,_⟩,_,_,_⟩:Go.Ex.AV)).gives h
 ·exact h.elim
def AK:aj:=au U3 150 Jd
theorem uH:ah prog gl AK:=af C4 Je
def P4(op c:Int):Bool:=
 if op=1 then c==0 else if op=2 then c != 0 else if op=3 then decide (c<0)else if op=4 then decide (c≤0)else if op=5 then decide (c>0)else decide (c≥0)
def dU(op:Int)(a b:Go.Ex.AV):Int×Int:=
 bif (bif decide (op<1)then true else decide (op>6))then(0,1)else bif !ie a.t.k a.t.sc b.t.k b.t.sc then(0,21)else bif (bif a.aA then true else b.aA)then(2,0)else bif P4 op (cP a b)then(1,0)else(0,0)
theorem Jf{op:Int}(h:(bif decide (op<1)then true else decide (op>6))=false):1≤op∧op≤6:=by
 by_cases h1:op<1<;>by_cases h2:op>6<;>simp[h1,h2]at h<;>omega
theorem P5{op c:Int}(h1:1≤op)(h2:op≤6):[false,c==0,c != 0,decide (c<0),decide (c≤0),decide (c>0),decide (c≥0)].getD op.toNat false=P4 op c:=by
 have:op=1∨op=2∨op=3∨op=4∨op=5∨op=6:=by omega
 rcases this with rfl|rfl|rfl|rfl|rfl|rfl<;>rfl
def Zkd(a0 a1 a2:Int)(a3:KT):Prop:=(bif decide (a0<a1)then true else decide (a0>a2))=true→dK a3 (0:Int) (1:Int)
theorem ady(op:Int)(a b:Go.Ex.AV)(Q:KT):vc bl AK bf RI (f125.body.getD .skip) f125.results.toList [.d (.v (.int .i64 op)),.agg a.cs,.agg b.cs] Q=((Zkd op (1:Int) (6:Int) Q)∧((bif decide (op<1)then true else decide (op>6))=false→((!ie a.1.1 a.1.2 b.1.1 b.1.2)=true→dK Q (0:Int) (21:Int))∧((!ie a.1.1 a.1.2 b.1.1 b.1.2)=false→((bif a.2 then true else b.2)=true→dK Q (2:Int) (0:Int))∧((bif a.2 then true else b.2)=false→(0≤op∧op<(↑(7:Nat):Int))∧([false,cP {t:={k:=a.1.1,sc:=a.1.2:Ty},aA:=a.2,n:=a.3,s:=a.4:AV} {t:={k:=b.1.1,sc:=b.1.2:Ty},aA:=b.2,n:=b.3,s:=b.4:AV}==(0:Int),cP {t:={k:=a.1.1,sc:=a.1.2:Ty},aA:=a.2,n:=a.3,s:=a.4:AV} {t:={k:=b.1.1,sc:=b.1.2:Ty},aA:=b.2,n:=b.3,s:=b.4:AV} != (0:Int),decide (cP {t:={k:=a.1.1,sc:=a.1.2:Ty},aA:=a.2,n:=a.3,s:=a.4:AV} {t:={k:=b.1.1,sc:=b.1.2:Ty},aA:=b.2,n:=b.3,s:=b.4:AV}<(0:Int)),decide (cP {t:={k:=a.1.1,sc:=a.1.2:Ty},aA:=a.2,n:=a.3,s:=a.4:AV} {t:={k:=b.1.1,sc:=b.1.2:Ty},aA:=b.2,n:=b.3,s:=b.4:AV}≤(0:Int)),decide (cP {t:={k:=a.1.1,sc:=a.1.2:Ty},aA:=a.2,n:=a.3,s:=a.4:AV} {t:={k:=b.1.1,sc:=b.1.2:Ty},aA:=b.2,n:=b.3,s:=b.4:AV}>(0:Int)),decide (cP {t:={k:=a.1.1,sc:=a.1.2:Ty},aA:=a.2,n:=a.3,s:=a.4:AV} {t:={k:=b.1.1,sc:=b.1.2:Ty},aA:=b.2,n:=b.3,s:=b.4:AV}≥(0:Int))].getD op.toNat false=true→dK Q (1:Int) (0:Int))∧([false,cP {t:={k:=a.1.1,sc:=a.1.2:Ty},aA:=a.2,n:=a.3,s:=a.4:AV} {t:={k:=b.1.1,sc:=b.1.2:Ty},aA:=b.2,n:=b.3,s:=b.4:AV}==(0:Int),cP {t:={k:=a.1.1,sc:=a.1.2:Ty},aA:=a.2,n:=a.3,s:=a.4:AV} {t:={k:=b.1.1,sc:=b.1.2:Ty},aA:=b.2,n:=b.3,s:=b.4:AV} != (0:Int),decide (cP {t:={k:=a.1.1,sc:=a.1.2:Ty},aA:=a.2,n:=a.3,s:=a.4:AV} {t:={k:=b.1.1,sc:=b.1.2:Ty},aA:=b.2,n:=b.3,s:=b.4:AV}<(0:Int)),decide (cP {t:={k:=a.1.1,sc:=a.1.2:Ty},aA:=a.2,n:=a.3,s:=a.4:AV} {t:={k:=b.1.1,sc:=b.1.2:Ty},aA:=b.2,n:=b.3,s:=b.4:AV}≤(0:Int)),decide (cP {t:={k:=a.1.1,sc:=a.1.2:Ty},aA:=a.2,n:=a.3,s:=a.4:AV} {t:={k:=b.1.1,sc:=b.1.2:Ty},aA:=b.2,n:=b.3,s:=b.4:AV}>(0:Int)),decide (cP {t:={k:=a.1.1,sc:=a.1.2:Ty},aA:=a.2,n:=a.3,s:=a.4:AV} {t:={k:=b.1.1,sc:=b.1.2:Ty},aA:=b.2,n:=b.3,s:=b.4:AV}≥(0:Int))].getD op.toNat false=false→dK Q (0:Int) (0:Int)))))):=by kernel_rfl
theorem adz(op:Int)(a b:Go.Ex.AV):Ct prog gl 125 [.d (.v (.int .i64 op)),.agg a.cs,.agg b.cs] (gives [.d (.v (.int .i64 (dU op a b).1)),.d (.v (.int .i64 (dU op a b).2))]):=by
 refine cz uH f125 RI ⟨_,_,rfl,rfl⟩ ?_
 rw[ady];dsimp -eta -iota -proj only[Zkd,dK]
 refine⟨fun h=>?_,fun h=>⟨fun h2=>?_,fun h2=>⟨fun h3=>?_,fun h3=>?_⟩⟩⟩
 ·unfold dU;rw[h];exact⟨rfl,rfl⟩
 ·unfold dU;rw[h,h2];exact⟨rfl,rfl⟩
 ·unfold dU;rw[h,h2,h3];exact⟨rfl,rfl⟩
 ·have hr:=Jf h
  have e:=P5 (c:=cP a b) hr.1 hr.2
  refine⟨⟨by omega,by omega⟩,fun h4=>?_,fun h4=>?_⟩
  ·have h4:=e.symm.trans h4
   unfold dU;rw[h,h2,h3,h4];exact⟨rfl,rfl⟩
  ·have h4:=e.symm.trans h4
   unfold dU;rw[h,h2,h3,h4];exact⟨rfl,rfl⟩
def Jg(a:List R)(K:KT):Prop:=match a with
 |[.d (.v (.int .i64 op)),.agg [.v (.int .i64 C6),.v (.int .i64 nZ),.v (.bool C7),.v (.int .i64 C8),.v (.string C9)],.agg [.v (.int .i64 Fp),.v (.int .i64 qn),.v (.bool Fq),.v (.int .i64 Fs),.v (.string Ft)]]=>K [.d (.v (.int .i64 (dU op (⟨⟨C6,nZ⟩,C7,C8,C9⟩:Go.Ex.AV) (⟨⟨Fp,qn⟩,Fq,Fs,Ft⟩:Go.Ex.AV)).1)),.d (.v (.int .i64 (dU op (⟨⟨C6,nZ⟩,C7,C8,C9⟩:Go.Ex.AV) (⟨⟨Fp,qn⟩,Fq,Fs,Ft⟩:Go.Ex.AV)).2))] []
 |_=>False
theorem Jh:CK gl Jg 125:=fun a K h=>by
 unfold Jg at h
 split at h
 ·exact(adz _ (⟨⟨_,_⟩,_,_,_⟩:Go.Ex.AV) (⟨⟨_,_⟩,_,_,_⟩:Go.Ex.AV)).gives h
 ·exact h.elim
def AL:aj:=au AK 125 Jg
theorem uI:ah prog gl AL:=af uH Jh
theorem adA(y:Int)(Q:KT):vc bl AL bf Sy (f226.body.getD .skip) f226.results.toList [.d (.v (.int .i64 y))] Q=((4:Int)≠(0:Int)∧(100:Int)≠(0:Int)∧(400:Int)≠(0:Int)∧((bif bif y.tmod (4:Int)==0 then y.tmod (100:Int) != (0:Int)else false then true else y.tmod (400:Int)==0)=true→Q [.d (.i 1)] [])∧((bif bif y.tmod (4:Int)==0 then y.tmod (100:Int) != (0:Int)else false then true else y.tmod (400:Int)==0)=false→Q [.d (.i 0)] [])):=by kernel_rfl
theorem adB(y:Int):Ct prog gl 226 [.d (.v (.int .i64 y))] (gives [.d (.v (.int .i64 (gU y)))]):=by
 refine cz uI f226 Sy ⟨_,_,rfl,rfl⟩ ?_
 rw[adA]
 refine⟨by decide,by decide,by decide,fun h=>?_,fun h=>?_⟩<;>(unfold gU;rw[h];exact⟨rfl,rfl⟩)
def Ji(a:List R)(K:KT):Prop:=match a with
 |[.d (.v (.int .i64 y))]=>K [.d (.v (.int .i64 (gU y)))] []
 |_=>False
theorem Jj:CK gl Ji 226:=fun a K h=>by
 unfold Ji at h
 split at h
 ·exact(adB _).gives h
 ·exact h.elim
def AM:aj:=au AL 226 Ji
theorem uJ:ah prog gl AM:=af uI Jj
theorem sF(y:Int):0≤gU y∧gU y≤1:=by
 unfold gU
 cases(bif (bif y.tmod 4==0 then y.tmod 100 != 0 else false)then true else y.tmod 400==0)<;>decide
theorem adC(y m:Int)(Q:KT):vc bl AM bf Su (f200.body.getD .skip) f200.results.toList [.d (.v (.int .i64 y)),.d (.v (.int .i64 m))] Q=(((0:Int)≤IntKind.i64.wrap (m-1)∧IntKind.i64.wrap (m-1)<(↑(12:Nat):Int))∧((m==2)=true→Q [.d (.i (IntKind.i64.wrap ([(31:Int),(28:Int),(31:Int),(30:Int),(31:Int),(30:Int),(31:Int),(31:Int),(30:Int),(31:Int),(30:Int),(31:Int)].getD (IntKind.i64.wrap (m-1)).toNat (0:Int)+gU y)))] [])∧((m==2)=false→Q [.d (.i ([(31:Int),(28:Int),(31:Int),(30:Int),(31:Int),(30:Int),(31:Int),(31:Int),(30:Int),(31:Int),(30:Int),(31:Int)].getD (IntKind.i64.wrap (m-1)).toNat (0:Int)))] [])):=by kernel_rfl
theorem adD(y m:Int)(h1:1≤m)(h2:m≤12):Ct prog gl 200 [.d (.v (.int .i64 y)),.d (.v (.int .i64 m))] (gives [.d (.v (.int .i64 (bB y m)))]):=by
 refine cz uJ f200 Su ⟨_,_,rfl,rfl⟩ ?_
 rw[adC]
 rw[ai (n:=m-1) (by omega) (by omega)]
 refine⟨⟨by omega,by omega⟩,fun h=>?_,fun h=>?_⟩
 ·obtain rfl:m=2:=by simpa using h
  have:=sF y
  refine⟨?_,rfl⟩
  show [R.d (D.v (Value.int .i64 (IntKind.i64.wrap (28+gU y))))]=_
  rw[ai (by omega) (by omega)]
  simp[bB,sE]
 ·unfold bB
  rw[if_neg (by simpa using h),Int.add_zero]
  exact⟨rfl,rfl⟩
def Jk(a:List R)(K:KT):Prop:=match a with
 |[.d (.v (.int .i64 y)),.d (.v (.int .i64 m))]=>1≤m∧m≤12∧K [.d (.v (.int .i64 (bB y m)))] []
 |_=>False
theorem Jl:CK gl Jk 200:=fun a K h=>by
 unfold Jk at h
 split at h
 ·obtain⟨h0,h1,hk⟩:=h
  exact(adD _ _ h0 h1).gives hk
 ·exact h.elim
def AN:aj:=au AM 200 Jk
theorem uK:ah prog gl AN:=af uJ Jl
theorem adE(y:Int)(Q:KT):vc bl AN bf Sv (f201.body.getD .skip) f201.results.toList [.d (.v (.int .i64 y))] Q=((4:Int)≠(0:Int)∧(100:Int)≠(0:Int)∧(400:Int)≠(0:Int)∧Q [.d (.i (IntKind.i64.wrap (IntKind.i64.wrap (IntKind.i64.wrap (IntKind.i64.wrap (IntKind.i64.wrap (y-1)*(365:Int))+IntKind.i64.wrap ((IntKind.i64.wrap (y-1)).tdiv (4:Int)))-IntKind.i64.wrap ((IntKind.i64.wrap (y-1)).tdiv (100:Int)))+IntKind.i64.wrap ((IntKind.i64.wrap (y-1)).tdiv (400:Int)))))] []):=by kernel_rfl
theorem adF(y:Int)(h1:1≤y)(h2:y≤100000):Ct prog gl 201 [.d (.v (.int .i64 y))] (gives [.d (.v (.int .i64 (aC y)))]):=by
 refine cz uK f201 Sv ⟨_,_,rfl,rfl⟩ ?_
 rw[adE]
 refine⟨by decide,by decide,by decide,?_⟩
 rw[ai (n:=y-1) (by omega) (by omega),Int.tdiv_eq_ediv_of_nonneg (by omega),Int.tdiv_eq_ediv_of_nonneg (by omega),Int.tdiv_eq_ediv_of_nonneg (by omega)]
 unfold aC
 have hz:0≤y-1∧y-1≤99999:=by omega
 generalize y-1=z at *
 rw[ai (n:=z*365) (by omega) (by omega),ai (n:=z/4) (by omega) (by omega),ai (n:=z/100) (by omega) (by omega),ai (n:=z/400) (by omega) (by omega),ai (n:=z*365+z/4) (by omega) (by omega),ai (n:=z*365+z/4-z/100) (by omega) (by omega),ai (n:=z*365+z/4-z/100+z/400) (by omega) (by omega)]
 exact⟨rfl,rfl⟩
def Jm(a:List R)(K:KT):Prop:=match a with
 |[.d (.v (.int .i64 y))]=>1≤y∧y≤100000∧K [.d (.v (.int .i64 (aC y)))] []
 |_=>False
theorem Jn:CK gl Jm 201:=fun a K h=>by
 unfold Jm at h
 split at h
 ·obtain⟨h0,h1,hk⟩:=h
  exact(adF _ h0 h1).gives hk
 ·exact h.elim
def AO:aj:=au AN 201 Jm
theorem uL:ah prog gl AO:=af uK Jn
def NS:Env:={bl with con:=true}
def U5(y m d:Int)(x:Nat):St:={tm:=[(0,.d (.v (.int .i64 y))),(1,.d (.v (.int .i64 m))),(6,.d (.v (.int .i64 0))),(7,.d (.v (.int .i64 0))),(8,.d (.v (.int .i64 (-719162+aC y+d-1+cO y x)))),(9,.d (.v (.int .i64 ((x:Int)+1))))],hp:=[],kn:=[],gd:=[]}
def qN(y m d:Int)(k:Nat)(x:Nat):Prop:=(x:Int)<m∧k=m.toNat-x
def Jo(y m d:Int):Fi:={ZN with lx:=[(5,{X:=Nat,sh:=U5 y m d,P:=fun _=>qN y m d})]}
theorem a_{n:Int}(h:-1000000000≤n∧n≤1000000000):IntKind.i64.wrap n=n:=ai (by omega) (by omega)
def WJ(a0 a1 a2:Int)(a3:Nat):St:={tm:=[(0,.i a0),(1,.i a1),(6,.i 0),(7,.i 0),(8,.i ((-719162:Int)+aC a0+a2-1+cO a0 a3)),(9,.i ((↑a3:Int)+1))],hp:=[],kn:=[],gd:=[]:St}
def Zc(a0 a1 a2:Int)(a3:KT):Prop:=1≤a0∧a0≤100000∧∃(x0:Nat),({tm:=[(0,.i a0),(1,.i a1),(6,.i 0),(7,.i 0),(8,.i (IntKind.i64.wrap (IntKind.i64.wrap (IntKind.i64.wrap ((-719162:Int)+aC a0)+a2)-(1:Int)))),(9,.i 1)],hp:=[],kn:=[],gd:=[]:St}=(WJ a0 a1 a2 x0)∧∃(n:Nat),qN a0 a1 a2 n x0)∧∀(n:Nat) (x:Nat),qN a0 a1 a2 n x→(decide ((↑x:Int)+1<a1)=true→1≤(↑x:Int)+1∧(↑x:Int)+1≤(12:Int)∧fG n fun m_1 x'=>{tm:=[(0,.i a0),(1,.i a1),(6,.i 0),(7,.i 0),(8,.i (IntKind.i64.wrap ((-719162:Int)+aC a0+a2-1+cO a0 x+bB a0 ((↑x:Int)+1)))),(9,.i (IntKind.i64.wrap ((↑x:Int)+1+(1:Int))))],hp:=[],kn:=[],gd:=[]:St}=(WJ a0 a1 a2 x')∧qN a0 a1 a2 m_1 x')∧(decide ((↑x:Int)+1<a1)=false→a3 [.d (.i ((-719162:Int)+aC a0+a2-1+cO a0 x)),.d (.i 0)] [])
def Zk(a0 a1 a2:Int)(a3:KT):Prop:=1≤a0∧a0≤12∧(decide (a1>bB a2 a0)=true→dK a3 (0:Int) (13:Int))∧(decide (a1>bB a2 a0)=false→Zc a2 a0 a1 a3)
def Zm(a0:KT)(a1 a2 a3:Int):Prop:=(true=true→dK a0 (0:Int) (13:Int))∧(true=false→Zc a1 a2 a3 a0)
def Zn(a0 a1 a2:Int)(a3:KT):Prop:=(decide (a0<1)=false→Zk a1 a0 a2 a3)∧(decide (a0<1) = !false→Zm a3 a2 a1 a0)
def Zo(a0 a1 a2:Int)(a3:KT):Prop:=(true=false→Zk a0 a1 a2 a3)∧(true = !false→Zm a3 a2 a0 a1)
def Zp(a0 a1 a2:Int)(a3:KT):Prop:=(decide (a0>12)=false→Zn a1 a0 a2 a3)∧(decide (a0>12) = !false→Zo a0 a1 a2 a3)
def Zq(a0 a1 a2:Int)(a3:KT):Prop:=(true=false→Zn a0 a1 a2 a3)∧(true = !false→Zo a1 a0 a2 a3)
def Zw(a0 a1 a2:Int)(a3:KT):Prop:=(decide (a0<1)=false→Zp a0 a1 a2 a3)∧(decide (a0<1) = !false→Zq a1 a0 a2 a3)
def Zx(a0 a1 a2:Int)(a3:KT):Prop:=(true=false→Zp a0 a1 a2 a3)∧(true = !false→Zq a1 a0 a2 a3)
theorem adG(y m d:Int)(Q:KT):vc NS AO bf (Jo y m d) (f179.body.getD .skip) f179.results.toList [.d (.v (.int .i64 y)),.d (.v (.int .i64 m)),.d (.v (.int .i64 d))] Q=((decide (y<1)=false→(decide (y>9999)=false→Zw m d y Q)∧(decide (y>9999) = !false→Zx m d y Q))∧(decide (y<1) = !false→(true=false→Zw m d y Q)∧(true = !false→Zx m d y Q))):=by kernel_rfl
theorem adH(y m d:Int):Ct prog gl 179 [.d (.v (.int .i64 y)),.d (.v (.int .i64 m)),.d (.v (.int .i64 d))] (gives [.d (.v (.int .i64 (dp y m d).1)),.d (.v (.int .i64 (dp y m d).2))]):=by
 refine aw (E:=NS) ⟨bN.te⟩ uL aF (fun _ _ _ h=>h.elim) mixed (fn:=f179) (body:=f179.body.getD .skip) (by kernel_rfl) (by kernel_rfl) (by kernel_rfl) (fi:=(Jo y m d)) (by kernel_rfl) (by kernel_rfl) ⟨_,_,rfl,rfl⟩ ?_
 rw[adG];dsimp -eta -iota -proj only[Zw,Zp,Zn,Zk,dK,Zc,WJ,fG,fb,Zm,Zo,Zq,Zx]
 generalize hQ:gives [.d (.v (.int .i64 (dp y m d).1)),.d (.v (.int .i64 (dp y m d).2))]=Q'
 (repeat' (first|(with_reducible refine And.intro ?_ ?_)|(intro hh;first|(exact absurd hh (by decide))|(have hd:=of_decide_eq_true hh)|(have hd:=of_decide_eq_false hh)|(have hd:=eq_of_beq hh)|(have hd:=ne_of_beq_false hh)|(have hd:=bne_iff_ne.1 hh)|(have hd:=bne_eq_false_iff_eq.1 hh)|skip)))
 all_goals first
  |(rw[←hQ];unfold dp;rw[if_pos (by omega)];exact⟨rfl,rfl⟩)
  |omega
  |skip
 have hm:28≤bB y m∧bB y m≤31:=eI (by omega) (by omega) (by omega)
 have hy:=fB (y:=y) (by omega) (by omega)
 have hd1:1≤d∧d≤bB y m:=by omega
 have e:dp y m d=(-719162+aC y+d-1+cO y (m-1).toNat,0):=by unfold dp;rw[if_neg (by omega)]
 rw[←hQ,e]
 refine⟨(0:Nat),⟨?_,m.toNat,by show((0:Nat):Int)<m;omega,by simp⟩,fun n (x:Nat) hx=>⟨fun hi=>?_,fun hi=>?_⟩⟩
 ·rw[a_ (n:=-719162+aC y) (by omega),a_ (n:=-719162+aC y+d) (by omega),a_ (n:=-719162+aC y+d-1) (by omega)]
  show _=St.mk _ _ _ _ _
  have:cO y 0=0:=rfl
  rw[this,Int.add_zero]
  rfl
 ·obtain⟨tv,hx2⟩:=hx
  have hi:=of_decide_eq_true hi
  have h0:=dh (y:=y) (by omega) (Nat.zero_le x) (by omega)
  have h1:=dh (y:=y) (j:=x) (k:=12) (by omega) (by omega) (by omega)
  have h2:=eI (y:=y) (m:=(x:Int)+1) (by omega) (by omega) (by omega)
  have h3:=sF y
  rw[kB y (by omega)]at h1
  have h4:cO y 0=0:=rfl
  refine⟨by omega,by omega,n-1,x+1,by omega,?_,?_,?_⟩
  ·rw[a_ (n:=-719162+aC y+d-1+cO y x+bB y (x+1)) (by omega),a_ (n:=(x:Int)+1+1) (by omega)]
   show _=St.mk _ _ _ _ _
   have e1:((x+1:Nat):Int)=(x:Int)+1:=by omega
   rw[e1]
   simp only[cO,Int.add_assoc]
  ·show((x+1:Nat):Int)<m;omega
  ·show n-1=m.toNat-(x+1);omega
 ·obtain⟨tv,hx2⟩:=hx
  have hi:=of_decide_eq_false hi
  have:(m-1).toNat=x:=by omega
  rw[this]
  exact⟨rfl,rfl⟩
def Jp(a:List R)(K:KT):Prop:=match a with
 |[.d (.v (.int .i64 y)),.d (.v (.int .i64 m)),.d (.v (.int .i64 d))]=>K [.d (.v (.int .i64 (dp y m d).1)),.d (.v (.int .i64 (dp y m d).2))] []
 |_=>False
theorem Jq:CK gl Jp 179:=fun a K h=>by
 unfold Jp at h
 split at h
 ·exact(adH _ _ _).gives h
 ·exact h.elim
def Jr:aj:=au AO 179 Jp
theorem Ei:ah prog gl Jr:=af uL Jq
end Go.Proofs.Tryz
