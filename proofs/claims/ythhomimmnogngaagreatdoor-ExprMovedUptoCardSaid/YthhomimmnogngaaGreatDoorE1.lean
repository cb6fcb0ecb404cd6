/- A part of the proof: contracts of functions, by a verified generator of conditions; no condition of its own. -/
import Derived.Test.YthhomimmnogngaaGreatDoorB14
import Derived.Test.YthhomimmnogngaaGreatDoorB1
import Derived.Lib.ParseIntB
import Derived.Lib.SlTrimSet
import Derived.Lib.IndexMore
import Derived.Lib.ItoaNum
import Derived.Lib.Repeat
import Derived.Lib.Replace
import Derived.Lib.MapU
import Derived.Lib.Strings
set_option maxRecDepth 100000
namespace Go.Ex
open Go
theorem ba_beq{a b:ByteArray}:(a==b)=true↔a=b:=by
 obtain⟨x⟩:=a
 obtain⟨y⟩:=b
 show((x==y)=true)↔_
 simp
theorem ba_ne{a b:ByteArray}:(a==b)=false↔a≠b:=by rw[Bool.eq_false_iff,ne_eq,ba_beq]
def tx(l:List UInt8):ByteArray:=⟨l.toArray⟩
theorem tx_data(l:List UInt8):(tx l).data.toList=l:=rfl
theorem tx_of(s:ByteArray):tx s.data.toList=s:=rfl
theorem tx_size(l:List UInt8):(tx l).size=l.length:=by simp[tx,ByteArray.size]
theorem size_data(s:ByteArray):s.data.toList.length=s.size:=Array.length_toList
theorem tx_append(a b:List UInt8):tx a++tx b=tx (a++b):=by
 apply ByteArray.ext;simp[tx]
theorem ext_tx(s:ByteArray)(l h:Nat):s.extract l h=tx ((s.data.toList.take h).drop l):=by
 apply ByteArray.ext
 rw[ByteArray.data_extract]
 unfold tx
 apply Array.ext'
 rw[Array.toList_extract]
 show _=(s.data.toList.take h).drop l
 rw[List.drop_take]
theorem drop_tx(s:ByteArray)(n:Nat):s.extract n s.size=tx (s.data.toList.drop n):=by
 rw[ext_tx,List.take_of_length_le (by rw[size_data];exact Nat.le_refl _)]
theorem take_tx(s:ByteArray)(n:Nat):s.extract 0 n=tx (s.data.toList.take n):=by
 rw[ext_tx,List.drop_zero]
theorem tx_inj{a b:List UInt8}(h:tx a=tx b):a=b:=by
 have:=congrArg (fun x:ByteArray=>x.data.toList) h
 exact this
theorem pre_eq{s p:ByteArray}(h:p.size≤s.size):(s.extract 0 p.size==p)=Lib.hasPrefix s.data.toList p.data.toList:=by
 rw[Bool.eq_iff_iff,ba_beq,take_tx]
 unfold Lib.hasPrefix
 rw[List.isPrefixOf_iff_prefix,List.prefix_iff_eq_take,size_data]
 constructor
 ·intro h;exact(tx_inj (h.trans (tx_of p).symm)).symm
 ·intro h;rw[←h,tx_of]
theorem pre_no{s p:ByteArray}(h:¬p.size≤s.size):Lib.hasPrefix s.data.toList p.data.toList=false:=by
 rw[Bool.eq_false_iff]
 unfold Lib.hasPrefix
 rw[ne_eq,List.isPrefixOf_iff_prefix]
 intro hp
 have:=hp.length_le
 rw[size_data,size_data]at this
 exact h this
def digL:List UInt8:=[48,49,50,51,52,53,54,55,56,57]
def isDig(c:UInt8):Bool:=digL.contains c
theorem isDig_iff{c:UInt8}:isDig c=true↔48≤c.toNat∧c.toNat≤57:=by
 constructor
 ·intro h
  have h:c∈digL:=List.elem_iff.1 h
  unfold digL at h
  simp only[List.mem_cons,List.not_mem_nil,or_false]at h
  rcases h with rfl|rfl|rfl|rfl|rfl|rfl|rfl|rfl|rfl|rfl<;>decide
 ·intro⟨h1,h2⟩
  have h:c=UInt8.ofNat c.toNat:=(UInt8.ofNat_toNat).symm
  have:c.toNat=48∨c.toNat=49∨c.toNat=50∨c.toNat=51∨c.toNat=52∨c.toNat=53∨c.toNat=54∨c.toNat=55∨c.toNat=56∨c.toNat=57:=by omega
  rw[h]
  rcases this with e|e|e|e|e|e|e|e|e|e<;>rw[e]<;>decide
theorem dropWhile_nil{α:Type}(p:α→Bool):∀{l:List α},l.dropWhile p=[]↔l.all p=true
 |[]=>by simp
 |a::l=>by
  rw[List.dropWhile_cons]
  cases h:p a
  ·simp[h]
  ·simp[h,dropWhile_nil p (l:=l)]
theorem trimS_nil{l cs:List UInt8}:Lib.trimS l cs=[]↔l.all (cs.contains ·)=true:=by
 unfold Lib.trimS Lib.trimLeftS Lib.trimRightS
 rw[dropWhile_nil]
 constructor
 ·intro h
  have h2:(l.reverse.dropWhile (cs.contains ·)).all (cs.contains ·)=true:=by
   rw[List.all_eq_true]at h ⊢
   intro x hx
   exact h x (List.mem_reverse.2 hx)
  rw[←List.all_reverse]
  rw[←List.takeWhile_append_dropWhile (p:=(cs.contains ·)) (l:=l.reverse),List.all_append,h2,Bool.and_true]
  exact List.all_takeWhile
 ·intro h
  rw[List.all_eq_true]at h ⊢
  intro x hx
  exact h x (List.mem_reverse.1 ((List.dropWhile_sublist _).subset (List.mem_reverse.1 hx)))
def digP(l:List UInt8):Bool:=!l.isEmpty&&l.all isDig
theorem digP_trim(l:List UInt8):(bif tx l != tx []then tx (Lib.trimS l digL)==tx []else false)=digP l:=by
 have e:∀a:List UInt8,(tx a==tx [])=a.isEmpty:=by
  intro a
  cases a with
  |nil=>rfl
  |cons x r=>
   have:tx (x::r)≠tx []:=by
    intro h
    have:=congrArg ByteArray.size h
    simp[tx_size]at this
   rw[List.isEmpty_cons,Bool.eq_false_iff]
   intro h
   exact this (ba_beq.1 h)
 have e2:(tx l != tx []) = !l.isEmpty:=by rw[bne,e]
 rw[e2,e]
 unfold digP
 cases h:l.isEmpty
 ·simp only[Bool.not_false,cond_true,Bool.true_and]
  rw[Bool.eq_iff_iff,List.isEmpty_iff,trimS_nil]
  rfl
 ·rfl
def intOf(l:List UInt8):Int×Int:=
 if digP (Lib.trimPrefix l [45])then(match Lib.parseIntB 64 l with | .ok v=>(v,0)|_=>(0,10))else(0,12)
theorem parse_in64{l:List UInt8}{v:Int}(h:Lib.parseIntB 64 l = .ok v):in64 v:=by
 unfold Lib.parseIntB at h
 split at h
 ·cases h
 ·rename_i c r
  dsimp only at h
  split at h
  ·cases h
  ·cases h
  ·split at h
   ·cases h
   ·split at h
    ·cases h
    ·simp only[Lib.NumEnd.ok.injEq]at h
     subst h
     unfold in64
     split<;>omega
theorem intOf_in64(l:List UInt8):in64 (intOf l).1:=by
 unfold intOf
 split
 ·split
  ·rename_i v h;exact parse_in64 h
  ·exact⟨by decide,by decide⟩
 ·exact⟨by decide,by decide⟩
end Go.Ex
namespace Go.Ex
open Go
def leapP(y:Int):Int:=bif (bif (bif y.tmod 4==0 then y.tmod 100 != 0 else false)then true else y.tmod 400==0)then 1 else 0
def monthL:List Int:=[31,28,31,30,31,30,31,31,30,31,30,31]
def monthP(y m:Int):Int:=monthL.getD (m-1).toNat 0+(if m=2 then leapP y else 0)
def yearsP(y:Int):Int:=(y-1)*365+(y-1)/4-(y-1)/100+(y-1)/400
def sumM(y:Int):Nat→Int
 |0=>0
 |k+1=>sumM y k+monthP y ((k:Int)+1)
theorem leapP_of{y:Int}(h:0≤y):(leapP y=1∧((y % 4=0∧y % 100≠0)∨y % 400=0))∨(leapP y=0∧¬((y % 4=0∧y % 100≠0)∨y % 400=0)):=by
 unfold leapP
 rw[Int.tmod_eq_emod_of_nonneg h,Int.tmod_eq_emod_of_nonneg h,Int.tmod_eq_emod_of_nonneg h]
 have b:∀a:Int,(a==0)=decide (a=0):=fun a=>by by_cases h:a=0<;>simp[h]
 have b2:∀a:Int,(a != 0) = !decide (a=0):=fun a=>by rw[bne,b]
 rw[b,b,b2]
 by_cases h1:y % 4=0<;>by_cases h2:y % 100=0<;>by_cases h3:y % 400=0<;>simp only[h1,h2,h3,decide_true,decide_false,Bool.not_true,Bool.not_false,cond_true,cond_false,true_and,ne_eq,not_true_eq_false,not_false_eq_true,or_true,or_false,false_and,and_false,and_true,or_self]<;>first|exact .inl rfl|exact .inr rfl|(left;decide)|(right;decide)
theorem years_step{y:Int}(h:1≤y):yearsP (y+1)=yearsP y+365+leapP y:=by
 unfold yearsP
 rcases leapP_of (show 0≤y by omega)with⟨e,h1⟩|⟨e,h1⟩<;>rw[e]<;>omega
theorem years_bound{y:Int}(h:1≤y)(h2:y≤10000):0≤yearsP y∧yearsP y≤3652059:=by
 unfold yearsP;omega
theorem sumM_12(y:Int)(h:0≤y):sumM y 12=365+leapP y:=by
 simp only[sumM,monthP,monthL]
 simp
 omega
theorem month_pos{y m:Int}(h0:0≤y)(h1:1≤m)(h2:m≤12):28≤monthP y m∧monthP y m≤31:=by
 have hl:0≤leapP y∧leapP y≤1:=by rcases leapP_of h0 with⟨e,_⟩|⟨e,_⟩<;>rw[e]<;>decide
 have:m=1∨m=2∨m=3∨m=4∨m=5∨m=6∨m=7∨m=8∨m=9∨m=10∨m=11∨m=12:=by omega
 rcases this with rfl|rfl|rfl|rfl|rfl|rfl|rfl|rfl|rfl|rfl|rfl|rfl<;>simp[monthP,monthL]<;>omega
theorem sumM_mono{y:Int}(h0:0≤y):∀{j k:Nat},j≤k→k≤12→sumM y j≤sumM y k
 |j,k,h,hk=>by
  induction k with
  |zero=>have:j=0:=by omega
         subst this;exact Int.le_refl _
  |succ k ih=>
   by_cases e:j=k+1
   ·subst e;exact Int.le_refl _
   ·have:=ih (by omega) (by omega)
    have:=(month_pos (m:=(k:Int)+1) h0 (by omega) (by omega)).1
    simp only[sumM];omega
def dayOf(y m d:Int):Int×Int:=
 if y<1∨y>9999∨m<1∨m>12∨d<1∨d>monthP y m then(0,13)else(-719162+yearsP y+d-1+sumM y (m-1).toNat,0)
theorem dayOf_range{y m d:Int}(h:(dayOf y m d).2=0):-719162≤(dayOf y m d).1∧(dayOf y m d).1≤2932896:=by
 unfold dayOf at h ⊢
 split at h
 ·cases h
 rename_i hc
 rw[if_neg hc]
 have h1:1≤y∧y≤9999∧1≤m∧m≤12∧1≤d∧d≤monthP y m:=by omega
 obtain⟨h1,h2,h3,h4,h5,h6⟩:=h1
 have hb:=years_bound (y:=y) h1 (by omega)
 have hs:=years_step (y:=y) h1
 have hb2:=years_bound (y:=y+1) (by omega) (by omega)
 have m0:=sumM_mono (y:=y) (by omega) (Nat.zero_le (m-1).toNat) (by omega)
 have m1:=sumM_mono (y:=y) (j:=(m-1).toNat+1) (k:=12) (by omega) (by omega) (by omega)
 have e:((m-1).toNat:Int)+1=m:=by omega
 rw[sumM_12 y (by omega)]at m1
 simp only[sumM,e]at m1
 have:sumM y 0=0:=rfl
 dsimp only
 omega
end Go.Ex
namespace Go.Proofs.Tryz
open Go Go.Dm Go.Ex
set_option maxRecDepth 100000
variable {gl:Nat→Option Obj}
def plV(v:Go.Ex.AV):Int:=s270_0 v.t.k v.t.sc v.nul v.n v.s
def maxI(a b:Int):Int:=if b>a then b else a
def heldN(a b:Go.Ex.AV):Int:=s331_0 (wideV a (maxI (plV a) (plV b))).1 (wideV a (maxI (plV a) (plV b))).2 (wideV b (maxI (plV a) (plV b))).1 (wideV b (maxI (plV a) (plV b))).2
def heldV(a b:Go.Ex.AV):Int:=
 bif a.t.k==4 then threeS a.s b.s else bif a.t.k==2 then heldN a b else bif a.t.k==3 then heldN a b else s333_0 a.n b.n
def Zbu(a0 a1:Go.Ex.AV):List R:=[.d (.i (s331_0 (wideHi a0.3 (powP (IntKind.i64.wrap ((if s270_0 a1.1.1 a1.1.2 a1.2 a1.3 a1.4>s270_0 a0.1.1 a0.1.2 a0.2 a0.3 a0.4 then s270_0 a1.1.1 a1.1.2 a1.2 a1.3 a1.4 else s270_0 a0.1.1 a0.1.2 a0.2 a0.3 a0.4)-s270_0 a0.1.1 a0.1.2 a0.2 a0.3 a0.4))).1) (wideLo a0.3 (powP (IntKind.i64.wrap ((if s270_0 a1.1.1 a1.1.2 a1.2 a1.3 a1.4>s270_0 a0.1.1 a0.1.2 a0.2 a0.3 a0.4 then s270_0 a1.1.1 a1.1.2 a1.2 a1.3 a1.4 else s270_0 a0.1.1 a0.1.2 a0.2 a0.3 a0.4)-s270_0 a0.1.1 a0.1.2 a0.2 a0.3 a0.4))).1) (wideHi a1.3 (powP (IntKind.i64.wrap ((if s270_0 a1.1.1 a1.1.2 a1.2 a1.3 a1.4>s270_0 a0.1.1 a0.1.2 a0.2 a0.3 a0.4 then s270_0 a1.1.1 a1.1.2 a1.2 a1.3 a1.4 else s270_0 a0.1.1 a0.1.2 a0.2 a0.3 a0.4)-s270_0 a1.1.1 a1.1.2 a1.2 a1.3 a1.4))).1) (wideLo a1.3 (powP (IntKind.i64.wrap ((if s270_0 a1.1.1 a1.1.2 a1.2 a1.3 a1.4>s270_0 a0.1.1 a0.1.2 a0.2 a0.3 a0.4 then s270_0 a1.1.1 a1.1.2 a1.2 a1.3 a1.4 else s270_0 a0.1.1 a0.1.2 a0.2 a0.3 a0.4)-s270_0 a1.1.1 a1.1.2 a1.2 a1.3 a1.4))).1)))]
def Zby(a0:Go.Ex.AV)(a1:Int)(a2:KT)(a3:Go.Ex.AV):Prop:=(a0.1.1==a1)=true→a2 (Zbu a0 a3) []
def Zbz(a0:Go.Ex.AV)(a1 a2:Int)(a3:KT)(a4:Go.Ex.AV)(k:Prop):Prop:=(a0.1.1==a1)=false→(Zby a0 a2 a3 a4)∧k
theorem vc271(a b:Go.Ex.AV)(Q:KT):vc E_0 C_k6 noI fi99 (f99.body.getD .skip) f99.results.toList [.agg a.cs,.agg b.cs] Q=(((a.1.1==4)=true→Q [.d (.i (threeS a.4 b.4))] [])∧(Zbz a (4:Int) (2:Int) Q b ((Zbz a (2:Int) (3:Int) Q b (((a.1.1==3)=false→Q [.d (.i (s333_0 a.3 b.3))] [])))))):=by kernel_rfl
theorem ct271(a b:Go.Ex.AV):Ct prog gl 99 [.agg a.cs,.agg b.cs] (gives [.d (.v (.int .i64 (heldV a b)))]):=by
 refine ctv C_k6_ok f99 fi99 ⟨_,_,rfl,rfl⟩ ?_
 rw[vc271];dsimp -eta -iota -proj only[Zbz,Zby,Zbu]
 refine⟨fun h=>?_,fun h=>⟨fun h2=>?_,fun h2=>⟨fun h3=>?_,fun h3=>?_⟩⟩⟩<;>(unfold heldV;simp only[h, *,cond_true,cond_false];exact⟨rfl,rfl⟩)
def c_271(a:List R)(K:KT):Prop:=match a with
 |[.agg [.v (.int .i64 a_k),.v (.int .i64 a_sc),.v (.bool a_b),.v (.int .i64 a_n),.v (.string a_s)],.agg [.v (.int .i64 b_k),.v (.int .i64 b_sc),.v (.bool b_b),.v (.int .i64 b_n),.v (.string b_s)]]=>K [.d (.v (.int .i64 (heldV (⟨⟨a_k,a_sc⟩,a_b,a_n,a_s⟩:Go.Ex.AV) (⟨⟨b_k,b_sc⟩,b_b,b_n,b_s⟩:Go.Ex.AV))))] []
 |_=>False
theorem c_271_ok(a:List R)(K:KT)(h:c_271 a K):Ct prog gl 99 a K:=by
 unfold c_271 at h
 split at h
 ·exact(ct271 (⟨⟨_,_⟩,_,_,_⟩:Go.Ex.AV) (⟨⟨_,_⟩,_,_,_⟩:Go.Ex.AV)).gives h
 ·exact h.elim
def C_t271:CallT:=addC C_k6 99 c_271
theorem C_t271_ok:CallsOk prog gl C_t271:=addC_ok C_k6_ok c_271_ok
def cmpT(op c:Int):Bool:=
 if op=1 then c==0 else if op=2 then c != 0 else if op=3 then decide (c<0)else if op=4 then decide (c≤0)else if op=5 then decide (c>0)else decide (c≥0)
def testV(op:Int)(a b:Go.Ex.AV):Int×Int:=
 bif (bif decide (op<1)then true else decide (op>6))then(0,1)else bif !s129_0 a.t.k a.t.sc b.t.k b.t.sc then(0,21)else bif (bif a.nul then true else b.nul)then(2,0)else bif cmpT op (heldV a b)then(1,0)else(0,0)
theorem rng_of{op:Int}(h:(bif decide (op<1)then true else decide (op>6))=false):1≤op∧op≤6:=by
 by_cases h1:op<1<;>by_cases h2:op>6<;>simp[h1,h2]at h<;>omega
theorem cmp_get{op c:Int}(h1:1≤op)(h2:op≤6):[false,c==0,c != 0,decide (c<0),decide (c≤0),decide (c>0),decide (c≥0)].getD op.toNat false=cmpT op c:=by
 have:op=1∨op=2∨op=3∨op=4∨op=5∨op=6:=by omega
 rcases this with rfl|rfl|rfl|rfl|rfl|rfl<;>rfl
theorem vc199(op:Int)(a b:Go.Ex.AV)(Q:KT):vc E_0 C_t271 noI fi72 (f72.body.getD .skip) f72.results.toList [.d (.v (.int .i64 op)),.agg a.cs,.agg b.cs] Q=(((bif decide (op<1)then true else decide (op>6))=true→Zci Q (0:Int) (1:Int))∧((bif decide (op<1)then true else decide (op>6))=false→((!s129_0 a.1.1 a.1.2 b.1.1 b.1.2)=true→Zci Q (0:Int) (21:Int))∧((!s129_0 a.1.1 a.1.2 b.1.1 b.1.2)=false→((bif a.2 then true else b.2)=true→Zci Q (2:Int) (0:Int))∧((bif a.2 then true else b.2)=false→(0≤op∧op<(↑(7:Nat):Int))∧([false,heldV {t:={k:=a.1.1,sc:=a.1.2:Ty},nul:=a.2,n:=a.3,s:=a.4:AV} {t:={k:=b.1.1,sc:=b.1.2:Ty},nul:=b.2,n:=b.3,s:=b.4:AV}==(0:Int),heldV {t:={k:=a.1.1,sc:=a.1.2:Ty},nul:=a.2,n:=a.3,s:=a.4:AV} {t:={k:=b.1.1,sc:=b.1.2:Ty},nul:=b.2,n:=b.3,s:=b.4:AV} != (0:Int),decide (heldV {t:={k:=a.1.1,sc:=a.1.2:Ty},nul:=a.2,n:=a.3,s:=a.4:AV} {t:={k:=b.1.1,sc:=b.1.2:Ty},nul:=b.2,n:=b.3,s:=b.4:AV}<(0:Int)),decide (heldV {t:={k:=a.1.1,sc:=a.1.2:Ty},nul:=a.2,n:=a.3,s:=a.4:AV} {t:={k:=b.1.1,sc:=b.1.2:Ty},nul:=b.2,n:=b.3,s:=b.4:AV}≤(0:Int)),decide (heldV {t:={k:=a.1.1,sc:=a.1.2:Ty},nul:=a.2,n:=a.3,s:=a.4:AV} {t:={k:=b.1.1,sc:=b.1.2:Ty},nul:=b.2,n:=b.3,s:=b.4:AV}>(0:Int)),decide (heldV {t:={k:=a.1.1,sc:=a.1.2:Ty},nul:=a.2,n:=a.3,s:=a.4:AV} {t:={k:=b.1.1,sc:=b.1.2:Ty},nul:=b.2,n:=b.3,s:=b.4:AV}≥(0:Int))].getD op.toNat false=true→Zci Q (1:Int) (0:Int))∧([false,heldV {t:={k:=a.1.1,sc:=a.1.2:Ty},nul:=a.2,n:=a.3,s:=a.4:AV} {t:={k:=b.1.1,sc:=b.1.2:Ty},nul:=b.2,n:=b.3,s:=b.4:AV}==(0:Int),heldV {t:={k:=a.1.1,sc:=a.1.2:Ty},nul:=a.2,n:=a.3,s:=a.4:AV} {t:={k:=b.1.1,sc:=b.1.2:Ty},nul:=b.2,n:=b.3,s:=b.4:AV} != (0:Int),decide (heldV {t:={k:=a.1.1,sc:=a.1.2:Ty},nul:=a.2,n:=a.3,s:=a.4:AV} {t:={k:=b.1.1,sc:=b.1.2:Ty},nul:=b.2,n:=b.3,s:=b.4:AV}<(0:Int)),decide (heldV {t:={k:=a.1.1,sc:=a.1.2:Ty},nul:=a.2,n:=a.3,s:=a.4:AV} {t:={k:=b.1.1,sc:=b.1.2:Ty},nul:=b.2,n:=b.3,s:=b.4:AV}≤(0:Int)),decide (heldV {t:={k:=a.1.1,sc:=a.1.2:Ty},nul:=a.2,n:=a.3,s:=a.4:AV} {t:={k:=b.1.1,sc:=b.1.2:Ty},nul:=b.2,n:=b.3,s:=b.4:AV}>(0:Int)),decide (heldV {t:={k:=a.1.1,sc:=a.1.2:Ty},nul:=a.2,n:=a.3,s:=a.4:AV} {t:={k:=b.1.1,sc:=b.1.2:Ty},nul:=b.2,n:=b.3,s:=b.4:AV}≥(0:Int))].getD op.toNat false=false→Zci Q (0:Int) (0:Int)))))):=by kernel_rfl
theorem ct199(op:Int)(a b:Go.Ex.AV):Ct prog gl 72 [.d (.v (.int .i64 op)),.agg a.cs,.agg b.cs] (gives [.d (.v (.int .i64 (testV op a b).1)),.d (.v (.int .i64 (testV op a b).2))]):=by
 refine ctv C_t271_ok f72 fi72 ⟨_,_,rfl,rfl⟩ ?_
 rw[vc199];dsimp -eta -iota -proj only[Zci]
 refine⟨fun h=>?_,fun h=>⟨fun h2=>?_,fun h2=>⟨fun h3=>?_,fun h3=>?_⟩⟩⟩
 ·unfold testV;rw[h];exact⟨rfl,rfl⟩
 ·unfold testV;rw[h,h2];exact⟨rfl,rfl⟩
 ·unfold testV;rw[h,h2,h3];exact⟨rfl,rfl⟩
 ·have hr:=rng_of h
  have e:=cmp_get (c:=heldV a b) hr.1 hr.2
  refine⟨⟨by omega,by omega⟩,fun h4=>?_,fun h4=>?_⟩
  ·have h4:=e.symm.trans h4
   unfold testV;rw[h,h2,h3,h4];exact⟨rfl,rfl⟩
  ·have h4:=e.symm.trans h4
   unfold testV;rw[h,h2,h3,h4];exact⟨rfl,rfl⟩
def c_199(a:List R)(K:KT):Prop:=match a with
 |[.d (.v (.int .i64 op)),.agg [.v (.int .i64 a_k),.v (.int .i64 a_sc),.v (.bool a_b),.v (.int .i64 a_n),.v (.string a_s)],.agg [.v (.int .i64 b_k),.v (.int .i64 b_sc),.v (.bool b_b),.v (.int .i64 b_n),.v (.string b_s)]]=>K [.d (.v (.int .i64 (testV op (⟨⟨a_k,a_sc⟩,a_b,a_n,a_s⟩:Go.Ex.AV) (⟨⟨b_k,b_sc⟩,b_b,b_n,b_s⟩:Go.Ex.AV)).1)),.d (.v (.int .i64 (testV op (⟨⟨a_k,a_sc⟩,a_b,a_n,a_s⟩:Go.Ex.AV) (⟨⟨b_k,b_sc⟩,b_b,b_n,b_s⟩:Go.Ex.AV)).2))] []
 |_=>False
theorem c_199_ok(a:List R)(K:KT)(h:c_199 a K):Ct prog gl 72 a K:=by
 unfold c_199 at h
 split at h
 ·exact(ct199 _ (⟨⟨_,_⟩,_,_,_⟩:Go.Ex.AV) (⟨⟨_,_⟩,_,_,_⟩:Go.Ex.AV)).gives h
 ·exact h.elim
def C_t199:CallT:=addC C_t271 72 c_199
theorem C_t199_ok:CallsOk prog gl C_t199:=addC_ok C_t271_ok c_199_ok
theorem vc396(y:Int)(Q:KT):vc E_0 C_t199 noI fi154 (f154.body.getD .skip) f154.results.toList [.d (.v (.int .i64 y))] Q=((4:Int)≠(0:Int)∧(100:Int)≠(0:Int)∧(400:Int)≠(0:Int)∧((bif bif y.tmod (4:Int)==0 then y.tmod (100:Int) != (0:Int)else false then true else y.tmod (400:Int)==0)=true→Q [.d (.i 1)] [])∧((bif bif y.tmod (4:Int)==0 then y.tmod (100:Int) != (0:Int)else false then true else y.tmod (400:Int)==0)=false→Q [.d (.i 0)] [])):=by kernel_rfl
theorem ct396(y:Int):Ct prog gl 154 [.d (.v (.int .i64 y))] (gives [.d (.v (.int .i64 (leapP y)))]):=by
 refine ctv C_t199_ok f154 fi154 ⟨_,_,rfl,rfl⟩ ?_
 rw[vc396]
 refine⟨by decide,by decide,by decide,fun h=>?_,fun h=>?_⟩<;>(unfold leapP;rw[h];exact⟨rfl,rfl⟩)
def c_396(a:List R)(K:KT):Prop:=match a with
 |[.d (.v (.int .i64 y))]=>K [.d (.v (.int .i64 (leapP y)))] []
 |_=>False
theorem c_396_ok(a:List R)(K:KT)(h:c_396 a K):Ct prog gl 154 a K:=by
 unfold c_396 at h
 split at h
 ·exact(ct396 _).gives h
 ·exact h.elim
def C_t396:CallT:=addC C_t199 154 c_396
theorem C_t396_ok:CallsOk prog gl C_t396:=addC_ok C_t199_ok c_396_ok
theorem leap01(y:Int):0≤leapP y∧leapP y≤1:=by
 unfold leapP
 cases(bif (bif y.tmod 4==0 then y.tmod 100 != 0 else false)then true else y.tmod 400==0)<;>decide
theorem vc344(y m:Int)(Q:KT):vc E_0 C_t396 noI fi123 (f123.body.getD .skip) f123.results.toList [.d (.v (.int .i64 y)),.d (.v (.int .i64 m))] Q=(((0:Int)≤IntKind.i64.wrap (m-1)∧IntKind.i64.wrap (m-1)<(↑(12:Nat):Int))∧((m==2)=true→Q [.d (.i (IntKind.i64.wrap ([(31:Int),(28:Int),(31:Int),(30:Int),(31:Int),(30:Int),(31:Int),(31:Int),(30:Int),(31:Int),(30:Int),(31:Int)].getD (IntKind.i64.wrap (m-1)).toNat (0:Int)+leapP y)))] [])∧((m==2)=false→Q [.d (.i ([(31:Int),(28:Int),(31:Int),(30:Int),(31:Int),(30:Int),(31:Int),(31:Int),(30:Int),(31:Int),(30:Int),(31:Int)].getD (IntKind.i64.wrap (m-1)).toNat (0:Int)))] [])):=by kernel_rfl
theorem ct344(y m:Int)(h1:1≤m)(h2:m≤12):Ct prog gl 123 [.d (.v (.int .i64 y)),.d (.v (.int .i64 m))] (gives [.d (.v (.int .i64 (monthP y m)))]):=by
 refine ctv C_t396_ok f123 fi123 ⟨_,_,rfl,rfl⟩ ?_
 rw[vc344]
 rw[wrap_i64_of (n:=m-1) (by omega) (by omega)]
 refine⟨⟨by omega,by omega⟩,fun h=>?_,fun h=>?_⟩
 ·obtain rfl:m=2:=by simpa using h
  have:=leap01 y
  refine⟨?_,rfl⟩
  show [R.d (D.v (Value.int .i64 (IntKind.i64.wrap (28+leapP y))))]=_
  rw[wrap_i64_of (by omega) (by omega)]
  simp[monthP,monthL]
 ·unfold monthP
  rw[if_neg (by simpa using h),Int.add_zero]
  exact⟨rfl,rfl⟩
def c_344(a:List R)(K:KT):Prop:=match a with
 |[.d (.v (.int .i64 y)),.d (.v (.int .i64 m))]=>1≤m∧m≤12∧K [.d (.v (.int .i64 (monthP y m)))] []
 |_=>False
theorem c_344_ok(a:List R)(K:KT)(h:c_344 a K):Ct prog gl 123 a K:=by
 unfold c_344 at h
 split at h
 ·obtain⟨h0,h1,hk⟩:=h
  exact(ct344 _ _ h0 h1).gives hk
 ·exact h.elim
def C_t344:CallT:=addC C_t396 123 c_344
theorem C_t344_ok:CallsOk prog gl C_t344:=addC_ok C_t396_ok c_344_ok
theorem vc343(y:Int)(Q:KT):vc E_0 C_t344 noI fi122 (f122.body.getD .skip) f122.results.toList [.d (.v (.int .i64 y))] Q=((4:Int)≠(0:Int)∧(100:Int)≠(0:Int)∧(400:Int)≠(0:Int)∧Q [.d (.i (IntKind.i64.wrap (IntKind.i64.wrap (IntKind.i64.wrap (IntKind.i64.wrap (IntKind.i64.wrap (y-1)*(365:Int))+IntKind.i64.wrap ((IntKind.i64.wrap (y-1)).tdiv (4:Int)))-IntKind.i64.wrap ((IntKind.i64.wrap (y-1)).tdiv (100:Int)))+IntKind.i64.wrap ((IntKind.i64.wrap (y-1)).tdiv (400:Int)))))] []):=by kernel_rfl
theorem ct343(y:Int)(h1:1≤y)(h2:y≤100000):Ct prog gl 122 [.d (.v (.int .i64 y))] (gives [.d (.v (.int .i64 (yearsP y)))]):=by
 refine ctv C_t344_ok f122 fi122 ⟨_,_,rfl,rfl⟩ ?_
 rw[vc343]
 refine⟨by decide,by decide,by decide,?_⟩
 rw[wrap_i64_of (n:=y-1) (by omega) (by omega),Int.tdiv_eq_ediv_of_nonneg (by omega),Int.tdiv_eq_ediv_of_nonneg (by omega),Int.tdiv_eq_ediv_of_nonneg (by omega)]
 unfold yearsP
 have hz:0≤y-1∧y-1≤99999:=by omega
 generalize y-1=z at *
 rw[wrap_i64_of (n:=z*365) (by omega) (by omega),wrap_i64_of (n:=z/4) (by omega) (by omega),wrap_i64_of (n:=z/100) (by omega) (by omega),wrap_i64_of (n:=z/400) (by omega) (by omega),wrap_i64_of (n:=z*365+z/4) (by omega) (by omega),wrap_i64_of (n:=z*365+z/4-z/100) (by omega) (by omega),wrap_i64_of (n:=z*365+z/4-z/100+z/400) (by omega) (by omega)]
 exact⟨rfl,rfl⟩
def c_343(a:List R)(K:KT):Prop:=match a with
 |[.d (.v (.int .i64 y))]=>1≤y∧y≤100000∧K [.d (.v (.int .i64 (yearsP y)))] []
 |_=>False
theorem c_343_ok(a:List R)(K:KT)(h:c_343 a K):Ct prog gl 122 a K:=by
 unfold c_343 at h
 split at h
 ·obtain⟨h0,h1,hk⟩:=h
  exact(ct343 _ h0 h1).gives hk
 ·exact h.elim
def C_t343:CallT:=addC C_t344 122 c_343
theorem C_t343_ok:CallsOk prog gl C_t343:=addC_ok C_t344_ok c_343_ok
def E_c:Env:={E_0 with con:=true}
def st_382(y m d:Int)(x:Nat):St:={tm:=[(0,.d (.v (.int .i64 y))),(1,.d (.v (.int .i64 m))),(6,.d (.v (.int .i64 0))),(7,.d (.v (.int .i64 0))),(8,.d (.v (.int .i64 (-719162+yearsP y+d-1+sumM y x)))),(9,.d (.v (.int .i64 ((x:Int)+1))))],hp:=[],kn:=[],gd:=[]}
def inv_382(y m d:Int)(k:Nat)(x:Nat):Prop:=(x:Int)<m∧k=m.toNat-x
def fx_382(y m d:Int):Fi:={fi162 with lx:=[(5,{X:=Nat,sh:=st_382 y m d,P:=fun _=>inv_382 y m d})]}
theorem wrap_in{n:Int}(h:-1000000000≤n∧n≤1000000000):IntKind.i64.wrap n=n:=wrap_i64_of (by omega) (by omega)
def Zd5(a0 a1 a2:Int)(a3:Nat):St:={tm:=[(0,.i a0),(1,.i a1),(6,.i 0),(7,.i 0),(8,.i ((-719162:Int)+yearsP a0+a2-1+sumM a0 a3)),(9,.i ((↑a3:Int)+1))],hp:=[],kn:=[],gd:=[]:St}
def Zb(a0 a1 a2:Int)(a3:KT):Prop:=1≤a0∧a0≤100000∧∃(x0:Nat),({tm:=[(0,.i a0),(1,.i a1),(6,.i 0),(7,.i 0),(8,.i (IntKind.i64.wrap (IntKind.i64.wrap (IntKind.i64.wrap ((-719162:Int)+yearsP a0)+a2)-(1:Int)))),(9,.i 1)],hp:=[],kn:=[],gd:=[]:St}=(Zd5 a0 a1 a2 x0)∧∃(n:Nat),inv_382 a0 a1 a2 n x0)∧∀(n:Nat) (x:Nat),inv_382 a0 a1 a2 n x→(decide ((↑x:Int)+1<a1)=true→1≤(↑x:Int)+1∧(↑x:Int)+1≤(12:Int)∧Zee n fun m_1 x'=>{tm:=[(0,.i a0),(1,.i a1),(6,.i 0),(7,.i 0),(8,.i (IntKind.i64.wrap ((-719162:Int)+yearsP a0+a2-1+sumM a0 x+monthP a0 ((↑x:Int)+1)))),(9,.i (IntKind.i64.wrap ((↑x:Int)+1+(1:Int))))],hp:=[],kn:=[],gd:=[]:St}=(Zd5 a0 a1 a2 x')∧inv_382 a0 a1 a2 m_1 x')∧(decide ((↑x:Int)+1<a1)=false→a3 [.d (.i ((-719162:Int)+yearsP a0+a2-1+sumM a0 x)),.d (.i 0)] [])
def Zd(a0 a1 a2:Int)(a3:KT):Prop:=1≤a0∧a0≤12∧(decide (a1>monthP a2 a0)=true→Zci a3 (0:Int) (13:Int))∧(decide (a1>monthP a2 a0)=false→Zb a2 a0 a1 a3)
def Ze(a0:KT)(a1 a2 a3:Int):Prop:=(true=true→Zci a0 (0:Int) (13:Int))∧(true=false→Zb a1 a2 a3 a0)
def Zf(a0 a1 a2:Int)(a3:KT):Prop:=(decide (a0<1)=false→Zd a1 a0 a2 a3)∧(decide (a0<1) = !false→Ze a3 a2 a1 a0)
def Zg(a0 a1 a2:Int)(a3:KT):Prop:=(true=false→Zd a0 a1 a2 a3)∧(true = !false→Ze a3 a2 a0 a1)
def Zh(a0 a1 a2:Int)(a3:KT):Prop:=(decide (a0>12)=false→Zf a1 a0 a2 a3)∧(decide (a0>12) = !false→Zg a0 a1 a2 a3)
def Zi(a0 a1 a2:Int)(a3:KT):Prop:=(true=false→Zf a0 a1 a2 a3)∧(true = !false→Zg a1 a0 a2 a3)
def Zl(a0 a1 a2:Int)(a3:KT):Prop:=(decide (a0<1)=false→Zh a0 a1 a2 a3)∧(decide (a0<1) = !false→Zi a1 a0 a2 a3)
def Zm(a0 a1 a2:Int)(a3:KT):Prop:=(true=false→Zh a0 a1 a2 a3)∧(true = !false→Zi a1 a0 a2 a3)
theorem vc382(y m d:Int)(Q:KT):vc E_c C_t343 noI (fx_382 y m d) (f162.body.getD .skip) f162.results.toList [.d (.v (.int .i64 y)),.d (.v (.int .i64 m)),.d (.v (.int .i64 d))] Q=((decide (y<1)=false→(decide (y>9999)=false→Zl m d y Q)∧(decide (y>9999) = !false→Zm m d y Q))∧(decide (y<1) = !false→(true=false→Zl m d y Q)∧(true = !false→Zm m d y Q))):=by kernel_rfl
theorem ct382(y m d:Int):Ct prog gl 162 [.d (.v (.int .i64 y)),.d (.v (.int .i64 m)),.d (.v (.int .i64 d))] (gives [.d (.v (.int .i64 (dayOf y m d).1)),.d (.v (.int .i64 (dayOf y m d).2))]):=by
 refine ct_of_vc (E:=E_c) ⟨E_ok.te⟩ C_t343_ok ioK_no (fun _ _ _ h=>h.elim) mixed (fn:=f162) (body:=f162.body.getD .skip) (by kernel_rfl) (by kernel_rfl) (by kernel_rfl) (fi:=(fx_382 y m d)) (by kernel_rfl) (by kernel_rfl) ⟨_,_,rfl,rfl⟩ ?_
 rw[vc382];dsimp -eta -iota -proj only[Zl,Zh,Zf,Zd,Zci,Zb,Zd5,Zee,Zdt,Ze,Zg,Zi,Zm]
 generalize hQ:gives [.d (.v (.int .i64 (dayOf y m d).1)),.d (.v (.int .i64 (dayOf y m d).2))]=Q'
 (repeat' (first|(with_reducible refine And.intro ?_ ?_)|(intro hh;first|(exact absurd hh (by decide))|(have hd:=of_decide_eq_true hh)|(have hd:=of_decide_eq_false hh)|(have hd:=eq_of_beq hh)|(have hd:=ne_of_beq_false hh)|(have hd:=bne_iff_ne.1 hh)|(have hd:=bne_eq_false_iff_eq.1 hh)|skip)))
 all_goals first
  |(rw[←hQ];unfold dayOf;rw[if_pos (by omega)];exact⟨rfl,rfl⟩)
  |omega
  |skip
 have hm:28≤monthP y m∧monthP y m≤31:=month_pos (by omega) (by omega) (by omega)
 have hy:=years_bound (y:=y) (by omega) (by omega)
 have hd1:1≤d∧d≤monthP y m:=by omega
 have e:dayOf y m d=(-719162+yearsP y+d-1+sumM y (m-1).toNat,0):=by unfold dayOf;rw[if_neg (by omega)]
 rw[←hQ,e]
 refine⟨(0:Nat),⟨?_,m.toNat,by show((0:Nat):Int)<m;omega,by simp⟩,fun n (x:Nat) hx=>⟨fun hi=>?_,fun hi=>?_⟩⟩
 ·rw[wrap_in (n:=-719162+yearsP y) (by omega),wrap_in (n:=-719162+yearsP y+d) (by omega),wrap_in (n:=-719162+yearsP y+d-1) (by omega)]
  show _=St.mk _ _ _ _ _
  have:sumM y 0=0:=rfl
  rw[this,Int.add_zero]
  rfl
 ·obtain⟨hx1,hx2⟩:=hx
  have hi:=of_decide_eq_true hi
  have h0:=sumM_mono (y:=y) (by omega) (Nat.zero_le x) (by omega)
  have h1:=sumM_mono (y:=y) (j:=x) (k:=12) (by omega) (by omega) (by omega)
  have h2:=month_pos (y:=y) (m:=(x:Int)+1) (by omega) (by omega) (by omega)
  have h3:=leap01 y
  rw[sumM_12 y (by omega)]at h1
  have h4:sumM y 0=0:=rfl
  refine⟨by omega,by omega,n-1,x+1,by omega,?_,?_,?_⟩
  ·rw[wrap_in (n:=-719162+yearsP y+d-1+sumM y x+monthP y (x+1)) (by omega),wrap_in (n:=(x:Int)+1+1) (by omega)]
   show _=St.mk _ _ _ _ _
   have e1:((x+1:Nat):Int)=(x:Int)+1:=by omega
   rw[e1]
   simp only[sumM,Int.add_assoc]
  ·show((x+1:Nat):Int)<m;omega
  ·show n-1=m.toNat-(x+1);omega
 ·obtain⟨hx1,hx2⟩:=hx
  have hi:=of_decide_eq_false hi
  have:(m-1).toNat=x:=by omega
  rw[this]
  exact⟨rfl,rfl⟩
def c_382(a:List R)(K:KT):Prop:=match a with
 |[.d (.v (.int .i64 y)),.d (.v (.int .i64 m)),.d (.v (.int .i64 d))]=>K [.d (.v (.int .i64 (dayOf y m d).1)),.d (.v (.int .i64 (dayOf y m d).2))] []
 |_=>False
theorem c_382_ok(a:List R)(K:KT)(h:c_382 a K):Ct prog gl 162 a K:=by
 unfold c_382 at h
 split at h
 ·exact(ct382 _ _ _).gives h
 ·exact h.elim
def C_t382:CallT:=addC C_t343 162 c_382
theorem C_t382_ok:CallsOk prog gl C_t382:=addC_ok C_t343_ok c_382_ok
end Go.Proofs.Tryz
