/- Part of the proof: contracts of functions; no condition. -/
import Derived.Test.YtabbmgfeemkkbaaGreatDoorE1
import Derived.Lib.ItoaLen
import Derived.Lib.ReplaceLaws
set_option maxRecDepth 100000
namespace Go.Ex
open Go
theorem sG{y z:Int}(h:1≤y)(h2:y<z):aC (y+1)≤aC z:=by
 unfold aC;omega
def jX(n y m d:Int):Prop:=1≤y∧y≤9999∧1≤m∧m≤12∧1≤d∧d≤bB y m∧n = -719162+aC y+d-1+cO y (m-1).toNat
theorem C_{n y m d:Int}(h:jX n y m d):cO y (m-1).toNat≤n+719162-aC y∧n+719162-aC y<cO y ((m-1).toNat+1)∧0≤n+719162-aC y∧n+719162<aC (y+1):=by
 obtain⟨h1,h2,h3,h4,h5,h6,h7⟩:=h
 have e:((m-1).toNat:Int)+1=m:=by omega
 have m0:=dh (y:=y) (by omega) (Nat.zero_le (m-1).toNat) (by omega)
 have m1:=dh (y:=y) (j:=(m-1).toNat+1) (k:=12) (by omega) (by omega) (by omega)
 rw[kB y (by omega)]at m1
 have hs:=fk (y:=y) h1
 have h0:cO y 0=0:=rfl
 simp only[cO,e]at m1 ⊢
 omega
theorem AP{n y m d y' m' d':Int}(h:jX n y m d)(h':jX n y' m' d'):y=y'∧m=m'∧d=d':=by
 have a:=C_ h
 have b:=C_ h'
 have hy:y=y':=by
  rcases Int.lt_trichotomy y y' with hl|hl|hl
  ·have:=sG h.1 hl;omega
  ·exact hl
  ·have:=sG h'.1 hl;omega
 subst hy
 have hm:(m-1).toNat=(m'-1).toNat:=by
  obtain⟨h1,h2,h3,h4,h5,h6,h7⟩:=h
  obtain⟨g1,g2,g3,g4,g5,g6,g7⟩:=h'
  rcases Nat.lt_trichotomy (m-1).toNat (m'-1).toNat with hl|hl|hl
  ·have:=dh (y:=y) (j:=(m-1).toNat+1) (k:=(m'-1).toNat) (by omega) (by omega) (by omega);omega
  ·exact hl
  ·have:=dh (y:=y) (j:=(m'-1).toNat+1) (k:=(m-1).toNat) (by omega) (by omega) (by omega);omega
 have Wu:m=m':=by have:=h.2.2.1;have:=h'.2.2.1;omega
 subst Wu
 exact⟨rfl,rfl,by have:=h.2.2.2.2.2.2;have:=h'.2.2.2.2.2.2;omega⟩
theorem o_(f:Nat→Int)(N:Int)(h0:f 0≤N):∀k,N<f k→∃j,j<k∧f j≤N∧N<f (j+1)
 |0,h=>by omega
 |k+1,h=>by
  by_cases hk:N<f k
  ·obtain⟨j,a,b,c⟩:=o_ f N h0 k hk
   exact⟨j,by omega,b,c⟩
  ·exact⟨k,by omega,by omega,h⟩
theorem sH{n:Int}(h1:-719162≤n)(h2:n≤2932896):∃y m d,jX n y m d:=by
 obtain⟨j,a,b,c⟩:=o_ (fun k=>aC ((k:Int)+1)) (n+719162) (by show aC 1≤_;have:aC 1=0:=rfl;omega) 9999 (by show _<aC 10000;have:aC 10000=3652059:=rfl;omega)
 have hs:=fk (y:=(j:Int)+1) (by omega)
 have e:((j+1:Nat):Int)+1=(j:Int)+1+1:=by omega
 rw[e]at c
 obtain⟨m,a',b',c'⟩:=o_ (cO ((j:Int)+1)) (n+719162-aC ((j:Int)+1)) (by show(0:Int)≤_;omega) 12 (by rw[kB _ (by omega)];omega)
 refine⟨(j:Int)+1,(m:Int)+1,n+719162-aC ((j:Int)+1)-cO ((j:Int)+1) m+1,by omega,by omega,by omega,by omega,by omega,?_,?_⟩
 ·simp only[cO]at c';omega
 ·rw[show((m:Int)+1-1).toNat=m by omega];omega
def di(l:List UInt8)(n:Int):List UInt8:=Lib.repeatL [48] (if n-(l.length:Int)>0 then n-(l.length:Int)else 0).toNat++l
theorem ng(c:UInt8):∀n:Nat,(Lib.repeatL [c] n).length=n
 |0=>rfl
 |n+1=>by simp[Lib.repeatL,ng c n]
theorem yU(l:List UInt8)(n:Int):((di l n).length:Int)=if n>(l.length:Int)then n else(l.length:Int):=by
 unfold di
 rw[List.length_append,ng]
 split<;>split<;>omega
def tP(v n:Int):List UInt8:=
 let s:=di (Lib.trimPrefix (Lib.itoa v) [45]) (n+1)
 let t:=if n>0 then(s.take (s.length-n.toNat)++[46])++s.drop (s.length-n.toNat)else s
 if Lib.hasPrefix (Lib.itoa v) [45]then 45::t else t
def P6(y m d:Int):List UInt8:=(((di (Lib.itoa y) 4++[45])++di (Lib.itoa m) 2)++[45])++di (Lib.itoa d) 2
open Classical in
noncomputable def n5(n:Int):List UInt8:=if h:∃p:Int×Int×Int,jX n p.1 p.2.1 p.2.2 then P6 h.choose.1 h.choose.2.1 h.choose.2.2 else []
theorem yV{n y m d:Int}(h:jX n y m d):n5 n=P6 y m d:=by
 have hx:∃p:Int×Int×Int,jX n p.1 p.2.1 p.2.2:=⟨(y,m,d),h⟩
 unfold n5
 rw[dif_pos hx]
 obtain⟨e1,e2,e3⟩:=AP hx.choose_spec h
 rw[e1,e2,e3]
theorem lD{n:Int}(h:ar n):(Lib.itoa n).length≤21:=Lib.itoa_length_le n h.1 (by have:=h.2;omega)
theorem qO{l:List UInt8}{n:Int}{k:Nat}(h1:l.length≤k)(h2:n≤k):(di l n).length≤k:=by
 have:=yU l n
 split at this<;>omega
theorem er(l p:List UInt8):(Lib.trimPrefix l p).length≤l.length:=by
 unfold Lib.trimPrefix
 split
 ·simp
 ·exact Nat.le_refl _
noncomputable def ez(v:AV):List UInt8:=
 bif v.aA then [78,85,76,76]else bif (bif v.t.k==1 then v.n==0 else false)then [70,65,76,83,69]else bif v.t.k==1 then [84,82,85,69]
 else bif v.t.k==4 then([39]++Lib.replaceAll v.s.data.toList [39] [39,39])++[39]
 else bif v.t.k==3 then tP v.n v.t.sc else bif v.t.k==5 then n5 v.n else Lib.itoa v.n
def yW(l:List UInt8):Bool:=match Lib.parseIntB 64 l with | .ok _=>true|_=>false
def e6(l:List UInt8):Int:=match Lib.parseIntB 64 l with | .ok v=>v | .range=>Lib.intSat 64 l|_=>0
def n7(n:Int):Bool:=bif decide ((-999999999999999999:Int)≤n)then decide (n≤(999999999999999999:Int))else false
theorem iO{n:Int}:n7 n=true↔-999999999999999999≤n∧n≤999999999999999999:=by
 unfold n7
 by_cases h1:(-999999999999999999:Int)≤n<;>simp[h1]
theorem sI(l:List UInt8):intOf l=if aR (Lib.trimPrefix l [45])then(if yW l then(e6 l,0)else(0,10))else(0,12):=by
 unfold intOf yW e6
 split
 ·cases Lib.parseIntB 64 l<;>simp
 ·rfl
def bF(l:List UInt8):Int×Int×Int:=
 let c:=Lib.cut (Lib.trimPrefix l [45]) [46]
 if(!aR c.1||(c.2.2 && !aR c.2.1))then(0,0,12)
 else if(c.2.1.length:Int)>18 then(0,0,10)
 else if(!yW (c.1++c.2.1) || !n7 (e6 (c.1++c.2.1)))then(0,0,10)
 else(if l.head? = some 45 then -e6 (c.1++c.2.1)else e6 (c.1++c.2.1),(c.2.1.length:Int),0)
theorem Js{l:List UInt8}(h:(bF l).2.2=0):n7 (bF l).1=true∧0≤(bF l).2.1∧(bF l).2.1≤18:=by
 unfold bF at h ⊢
 dsimp only at h ⊢
 split at h
 ·cases h
 ·rename_i h1
  rw[if_neg h1]
  split at h
  ·cases h
  ·rename_i h2
   rw[if_neg h2]
   split at h
   ·cases h
   ·rename_i h3
    rw[if_neg h3]
    simp only[Bool.or_eq_true,Bool.not_eq_true',not_or,Bool.not_eq_false]at h3
    have:=iO.1 h3.2
    refine⟨?_,Int.natCast_nonneg _,by dsimp only;omega⟩
    dsimp only
    rw[iO]
    split<;>omega
def numOf(l:List UInt8):Int:=match Lib.atoiAll l with | .ok v=>v|_=>0
theorem my:∀(l:List UInt8) (acc:Nat),l.all dT=true→(acc+1)*10^l.length≤1000000000000000000→∃v,Lib.parseUint10 acc l = .ok v∧v+1≤(acc+1)*10^l.length
 |[],acc,_,h=>⟨acc,rfl,by simp⟩
 |c::r,acc,h,hb=>by
  simp only[List.all_cons,Bool.and_eq_true]at h
  have hc:=eG.1 h.1
  rw[List.length_cons,Nat.pow_succ]at hb ⊢
  have hp:1≤10^r.length:=Nat.one_le_pow _ _ (by decide)
  have Fu:(acc+1)*10≤(acc+1)*(10^r.length*10):=Nat.mul_le_mul_left _ (by omega)
  have hle:(acc*10+(c.toNat-48)+1)*10^r.length≤(acc+1)*(10^r.length*10):=by
   have:(acc*10+(c.toNat-48)+1)≤(acc+1)*10:=by omega
   calc (acc*10+(c.toNat-48)+1)*10^r.length≤((acc+1)*10)*10^r.length:=Nat.mul_le_mul_right _ this
    _=(acc+1)*(10^r.length*10):=by rw[Nat.mul_assoc,Nat.mul_comm 10]
  obtain⟨v,e1,e2⟩:=my r (acc*10+(c.toNat-48)) h.2 (Nat.le_trans hle hb)
  refine⟨v,?_,Nat.le_trans e2 hle⟩
  simp only[Lib.parseUint10]
  rw[if_pos hc,if_neg (by omega),if_neg (by omega),e1]
theorem sJ{l:List UInt8}(h:aR l=true)(hl:l.length≤10):Lib.atoiAll l = .ok (numOf l)∧0≤numOf l∧numOf l<10^l.length:=by
 unfold aR at h
 simp only[Bool.and_eq_true,Bool.not_eq_true']at h
 have bT:l≠[]:=by intro e;subst e;simp at h
 have hb:(0+1)*10^l.length≤1000000000000000000:=by
  have:10^l.length≤10^10:=Nat.pow_le_pow_right (by decide) hl
  omega
 obtain⟨v,e1,e2⟩:=my l 0 h.2 hb
 have key:Lib.atoiAll l = .ok (v:Int):=by
  unfold Lib.atoiAll
  match l,bT with
  |c::r,_=>
   have hc:=eG.1 (show dT c=true by have:=h.2;simp only[List.all_cons,Bool.and_eq_true]at this;exact this.1)
   have hn:¬(c.toNat=43∨c.toNat=45):=by omega
   have NN:¬c.toNat=45:=by omega
   dsimp only
   rw[if_neg hn]
   unfold Lib.parseMag
   rw[if_neg (by simp),e1]
   dsimp only
   have hv:v<1000000000000000000:=by omega
   rw[if_neg (by omega),if_neg (by omega),if_neg NN]
 unfold numOf
 rw[key]
 refine⟨rfl,Int.natCast_nonneg _,?_⟩
 have:((v+1:Nat):Int)≤((10^l.length:Nat):Int):=Int.ofNat_le.2 (by omega)
 dsimp only
 have e:((10^l.length:Nat):Int)=(10:Int)^l.length:=by simp
 omega
def dO(l:List UInt8):Int×Int:=
 if l.length=10∧l[4]? = some 45∧l[7]? = some 45∧aR ((l.take 4++(l.take 7).drop 5)++l.drop 8)=true then dp (numOf (l.take 4)) (numOf ((l.take 7).drop 5)) (numOf (l.drop 8))else(0,12)
theorem sK{l:List UInt8}(h:(dO l).2=0):-719162≤(dO l).1∧(dO l).1≤2932896:=by
 unfold dO at h ⊢
 split at h
 ·rename_i hc
  rw[if_pos hc]
  exact yT h
 ·cases h
theorem P7(s sep:List UInt8):(Lib.cut s sep).1.length+(Lib.cut s sep).2.1.length≤s.length:=by
 unfold Lib.cut
 split
 ·rename_i h
  have hr:=Lib.index_room s sep h
  dsimp only
  rw[List.length_take,List.length_drop]
  omega
 ·simp
theorem uM{a b:List UInt8}(h:aR (a++b)=true):(a≠[]→aR a=true)∧(b≠[]→aR b=true):=by
 unfold aR at *
 simp only[Bool.and_eq_true,List.all_append,Bool.not_eq_true',List.isEmpty_eq_false_iff]at *
 exact⟨fun e=>⟨e,h.2.1⟩,fun e=>⟨e,h.2.2⟩⟩
end Go.Ex
set_option maxRecDepth 100000
namespace Go.Ex
open Go Go.Dm
theorem U6{a:Int}(h:ar a):(bif decide (a<0)then IntKind.u64.wrap (0-IntKind.u64.wrap a)else IntKind.u64.wrap a)=(a.natAbs:Int):=by
 obtain⟨h1,h2⟩:=h
 by_cases h0:a<0
 ·rw[decide_eq_true h0,cond_true,aP,aP];simp only[ba];omega
 ·rw[decide_eq_false h0,cond_false,aP];simp only[ba];omega
def gy(n:Int)(neg:Bool):Int×Int:=bif neg then(bif decide (n≤9223372036854775808)then(-n,0)else(0,10))else(bif decide (n≤9223372036854775807)then(n,0)else(0,10))
theorem AQ{x y:Int}(hx:0≤x)(ya:x<ba)(hy:0≤y)(E9:y<ba):mH x y=x*y/ba∧mL x y=x*y % ba:=by
 obtain⟨e,l0,l1,h0,h1⟩:=words hx ya hy E9
 generalize x*y=p at *
 simp only[ba]at *
 omega
open Classical in
noncomputable def fl(n:Int):Int×Int:=if ar n then(n,0)else(0,10)
theorem n_{a:Int}(h:ar a):0≤(a.natAbs:Int)∧(a.natAbs:Int)<ba:=by
 obtain⟨h1,h2⟩:=h;simp only[ba];omega
theorem P8{a b:Int}(ha:ar a)(hb:ar b):(bif (((a.natAbs:Int)*(b.natAbs:Int))/ba != 0)then(0,10)else gy ((a.natAbs:Int)*(b.natAbs:Int) % ba) (!(decide (a<0)==decide (b<0))))=fl (a*b):=by
 have hp:(a.natAbs:Int)*(b.natAbs:Int)=((a*b).natAbs:Int):=by rw[Int.natAbs_mul,Int.natCast_mul]
 have du:=lX ha hb
 have hs:(a*b<0↔(decide (a<0)==decide (b<0))=false∧a*b≠0):=by
  by_cases h1:a<0<;>by_cases h2:b<0<;>simp only[h1,h2,decide_true,decide_false]<;>simp
  ·exact Int.mul_nonneg_of_nonpos_of_nonpos (by omega) (by omega)
  ·have:=Int.mul_nonpos_of_nonpos_of_nonneg (show a≤0 by omega) (show 0≤b by omega)
   constructor
   ·intro h;constructor<;>rintro rfl<;>simp at h
   ·intro⟨x,y⟩
    have:a*b≠0:=Int.mul_ne_zero x y
    omega
  ·have:=Int.mul_nonpos_of_nonneg_of_nonpos (show 0≤a by omega) (show b≤0 by omega)
   constructor
   ·intro h;constructor<;>rintro rfl<;>simp at h
   ·intro⟨x,y⟩
    have:a*b≠0:=Int.mul_ne_zero x y
    omega
  ·exact Int.mul_nonneg (by omega) (by omega)
 rw[hp]
 generalize (decide (a<0)==decide (b<0))=c at *
 generalize a*b=p at *
 unfold fl gy ar
 simp only[ba,bne,Bool.cond_not]
 by_cases hz:((p.natAbs:Int)/18446744073709551616==0)=true
 ·have hz':=eq_of_beq hz
  rw[hz]
  cases c
  ·simp only[Bool.not_false,Bool.not_true,cond_true,cond_false]
   by_cases h1:(p.natAbs:Int) % 18446744073709551616≤9223372036854775808
   ·rw[decide_eq_true h1,cond_true]
    by_cases h0:p=0
    ·subst h0;simp
    ·have:=hs.2 ⟨rfl,h0⟩
     rw[if_pos (by omega)];simp;omega
   ·rw[decide_eq_false h1,cond_false,if_neg (by omega)]
  ·simp only[Bool.not_true,cond_true,cond_false]
   have:¬p<0:=fun h=>by have:=(hs.1 h).1;cases this
   by_cases h1:(p.natAbs:Int) % 18446744073709551616≤9223372036854775807
   ·rw[decide_eq_true h1,cond_true,if_pos (by omega)];simp;omega
   ·rw[decide_eq_false h1,cond_false,if_neg (by omega)]
 ·have Xx:((p.natAbs:Int)/18446744073709551616==0)=false:=by simpa using hz
  have hz':(p.natAbs:Int)/18446744073709551616≠0:=by simpa using hz
  rw[Xx]
  simp only[cond_false,cond_true,Bool.not_false]
  rw[if_neg (by omega)]
theorem P9{a b:Int}(ha:ar a)(hb:ar b)(h0:b≠0):gy (((a.natAbs/b.natAbs:Nat):Int)) (!(decide (a<0)==decide (b<0)))=fl (a.tdiv b):=by
 have ht:a.tdiv b=if(decide (a<0)==decide (b<0))then((a.natAbs/b.natAbs:Nat):Int)else -((a.natAbs/b.natAbs:Nat):Int):=by
  by_cases h1:a<0<;>by_cases h2:b<0
  ·have e:a.tdiv b=(-a).tdiv (-b):=by rw[Int.neg_tdiv_neg]
   rw[e,Int.tdiv_eq_ediv_of_nonneg (by omega)]
   simp only[h1,h2,decide_true,beq_self_eq_true,if_true]
   rw[Int.natCast_ediv]
   congr 1<;>omega
  ·have e:a.tdiv b = -((-a).tdiv b):=by rw[Int.neg_tdiv,Int.neg_neg]
   rw[e,Int.tdiv_eq_ediv_of_nonneg (by omega)]
   simp only[h1,h2,decide_true,decide_false]
   rw[if_neg (by decide),Int.natCast_ediv]
   congr 2<;>omega
  ·have e:a.tdiv b = -(a.tdiv (-b)):=by rw[Int.tdiv_neg,Int.neg_neg]
   rw[e,Int.tdiv_eq_ediv_of_nonneg (by omega)]
   simp only[h1,h2,decide_true,decide_false]
   rw[if_neg (by decide),Int.natCast_ediv]
   congr 2<;>omega
  ·rw[Int.tdiv_eq_ediv_of_nonneg (by omega)]
   simp only[h1,h2,decide_false,beq_self_eq_true,if_true]
   rw[Int.natCast_ediv]
   congr 1<;>omega
 have hle:a.natAbs/b.natAbs≤a.natAbs:=Nat.div_le_self _ _
 rw[ht]
 obtain⟨gp,jJ⟩:=ha
 generalize (decide (a<0)==decide (b<0))=c at *
 unfold fl gy ar
 generalize a.natAbs/b.natAbs=q at *
 cases c
 ·simp only[Bool.not_false,cond_true,Bool.false_eq_true,if_false]
  by_cases h1:(q:Int)≤9223372036854775808
  ·rw[decide_eq_true h1,cond_true,if_pos (by omega)]
  ·rw[decide_eq_false h1,cond_false,if_neg (by omega)]
 ·simp only[Bool.not_true,cond_false,if_true]
  by_cases h1:(q:Int)≤9223372036854775807
  ·rw[decide_eq_true h1,cond_true,if_pos (by omega)]
  ·rw[decide_eq_false h1,cond_false,if_neg (by omega)]
theorem P_{a b:Int}(ha:ar a)(hb:ar b)(h0:b≠0):gy (((a.natAbs % b.natAbs:Nat):Int)) (decide (a<0))=(a.tmod b,0):=by
 have hlt:a.natAbs % b.natAbs<b.natAbs:=Nat.mod_lt _ (by omega)
 have ht:a.tmod b=if a<0 then -((a.natAbs % b.natAbs:Nat):Int)else((a.natAbs % b.natAbs:Nat):Int):=by
  have cJ:∀x:Int,x.tmod b=x.tmod (b.natAbs:Int):=fun x=>by
   rcases Int.natAbs_eq b with h|h
   ·rw[←h]
   ·conv=>lhs;rw[h]
    rw[Int.tmod_neg]
  rw[cJ]
  by_cases h1:a<0
  ·rw[if_pos h1]
   have e:a = -((a.natAbs:Nat):Int):=by omega
   conv=>lhs;rw[e]
   rw[Int.neg_tmod,Int.tmod_eq_emod_of_nonneg (by omega),Int.natCast_emod]
  ·rw[if_neg h1]
   have e:a=((a.natAbs:Nat):Int):=by omega
   conv=>lhs;rw[e]
   rw[Int.tmod_eq_emod_of_nonneg (by omega),Int.natCast_emod]
 rw[ht]
 obtain⟨hb1,du⟩:=hb
 generalize a.natAbs % b.natAbs=q at *
 unfold gy
 by_cases h1:a<0
 ·rw[decide_eq_true h1,cond_true,decide_eq_true (by omega),cond_true,if_pos h1]
 ·rw[decide_eq_false h1,cond_false,decide_eq_true (by omega),cond_true,if_neg h1]
def aE(acc:Nat)(l:List UInt8):Nat:=l.foldl (fun a c=>10*a+(c.toNat-48)) acc
theorem sL(acc:Nat):aE acc []=acc:=rfl
theorem iP(acc:Nat)(c:UInt8)(r:List UInt8):aE acc (c::r)=aE (10*acc+(c.toNat-48)) r:=by
 unfold aE;rw[List.foldl_cons]
theorem qP:∀(l:List UInt8) (acc:Nat),acc≤aE acc l
 |[],acc=>by rw[sL];exact Nat.le_refl _
 |c::r,acc=>by
  have:=qP r (10*acc+(c.toNat-48))
  rw[iP];omega
theorem uN:∀(l:List UInt8) (acc:Nat) (c:UInt8),aE acc (l++[c])=10*aE acc l+(c.toNat-48)
 |[],acc,c=>rfl
 |d::r,acc,c=>by rw[List.cons_append,iP,iP,uN r]
theorem nh(M:Nat)(hM:M≤18446744073709551615):∀(l:List UInt8) (acc:Nat),l.all dT=true→acc≤M→Lib.parseUintM M acc l=if aE acc l≤M then .ok (aE acc l)else .range
 |[],acc,_,h=>by rw[sL,if_pos h];rfl
 |c::r,acc,h,ha=>by
  simp only[List.all_cons,Bool.and_eq_true]at h
  have hc:=eG.1 h.1
  have hle:=qP r (10*acc+(c.toNat-48))
  unfold Lib.parseUintM
  rw[iP]
  rw[if_pos hc]
  by_cases h1:1844674407370955162≤acc
  ·rw[if_pos h1,if_neg (by omega)]
  ·rw[if_neg h1]
   have e:acc*10+(c.toNat-48)=10*acc+(c.toNat-48):=by omega
   rw[e]
   by_cases h2:M<10*acc+(c.toNat-48)
   ·rw[if_pos h2,if_neg (by omega)]
   ·rw[if_neg h2,nh M hM r _ h.2 (by omega)]
theorem pa{l:List UInt8}(h:aR l=true):∃c r,l=c::r∧(48≤c.toNat∧c.toNat≤57)∧l.all dT=true:=by
 unfold aR at h
 simp only[Bool.and_eq_true,Bool.not_eq_true']at h
 match l,h with
 |c::r,h=>
  refine⟨c,r,rfl,eG.1 ?_,h.2⟩
  have:=h.2
  simp only[List.all_cons,Bool.and_eq_true]at this
  exact this.1
theorem uO{l:List UInt8}(h:aR l=true):Lib.parseIntB 64 l=if aE 0 l≤9223372036854775807 then .ok (aE 0 l:Int)else .range:=by
 obtain⟨c,r,rfl,hc,ha⟩:=pa h
 unfold Lib.parseIntB
 dsimp only
 rw[if_neg (by omega)]
 unfold Lib.parseUintB
 rw[if_neg (by simp),nh _ (by decide) _ _ ha (by decide)]
 generalize aE 0 (c::r)=N
 have e1:(2^64-1:Nat)=18446744073709551615:=by decide
 have e2:(2^(64-1):Nat)=9223372036854775808:=by decide
 rw[e1]
 by_cases h1:N≤18446744073709551615
 ·rw[if_pos h1]
  dsimp only
  rw[e2]
  by_cases h2:N≤9223372036854775807
  ·rw[if_neg (by omega),if_neg (by omega),if_neg (by omega),if_pos h2]
  ·rw[if_pos ⟨by omega,by omega⟩,if_neg h2]
 ·rw[if_neg h1,if_neg (by omega)]
theorem Ej{l:List UInt8}(h:aR l=true):Lib.parseIntB 64 (45::l)=if aE 0 l≤9223372036854775808 then .ok (-(aE 0 l:Int))else .range:=by
 obtain⟨c,r,rfl,hc,ha⟩:=pa h
 unfold Lib.parseIntB
 dsimp only
 have WK:(45:UInt8).toNat=45:=rfl
 rw[if_pos (.inr WK)]
 unfold Lib.parseUintB
 rw[if_neg (by simp),nh _ (by decide) _ _ ha (by decide)]
 generalize aE 0 (c::r)=N
 have e1:(2^64-1:Nat)=18446744073709551615:=by decide
 have e2:(2^(64-1):Nat)=9223372036854775808:=by decide
 rw[e1,WK]
 by_cases h1:N≤18446744073709551615
 ·rw[if_pos h1]
  dsimp only
  rw[e2]
  by_cases h2:N≤9223372036854775808
  ·rw[if_neg (by omega),if_neg (by omega),if_pos rfl,if_pos h2]
  ·rw[if_neg (by omega),if_pos (by omega),if_neg h2]
 ·rw[if_neg h1,if_neg (by omega)]
def Ek(l:List UInt8):Bool:=Lib.hasPrefix l [45]
theorem jY(l:List UInt8):(Ek l=true∧∃r,l=45::r∧Lib.trimPrefix l [45]=r)∨(Ek l=false∧Lib.trimPrefix l [45]=l∧l.head?≠some 45):=by
 unfold Ek Lib.trimPrefix
 cases h:Lib.hasPrefix l [45]
 ·right
  refine⟨rfl,by simp,fun he=>?_⟩
  match l,he,h with
  |c::r,he,h=>
   simp only[List.head?_cons,Option.some.injEq]at he
   subst he
   simp[Lib.hasPrefix]at h
 ·left
  refine⟨rfl,?_⟩
  match l,h with
  |[],h=>simp[Lib.hasPrefix]at h
  |c::r,h=>
   have h:((45:UInt8)==c&&List.isPrefixOf [] r)=true:=h
   have:c=45:=by
    cases hc:(45:UInt8)==c
    ·rw[hc]at h;cases h
    ·exact(eq_of_beq hc).symm
   subst this
   exact⟨r,rfl,by simp⟩
theorem El(l:List UInt8):intOf l=bif aR (Lib.trimPrefix l [45])then(bif decide (aE 0 (Lib.trimPrefix l [45])≤9223372036854775808)then gy (aE 0 (Lib.trimPrefix l [45])) (Ek l)else(0,10))else(0,12):=by
 unfold intOf
 cases hd:aR (Lib.trimPrefix l [45])
 ·simp
 ·simp only[if_true,cond_true]
  rcases jY l with⟨hn,r,rfl,ht⟩|⟨hn,ht,_⟩
  ·rw[ht]at hd ⊢
   rw[hn,Ej hd]
   generalize aE 0 r=N
   unfold gy
   by_cases h:N≤9223372036854775808
   ·rw[if_pos h,decide_eq_true h,cond_true,cond_true,decide_eq_true (by omega),cond_true]
   ·rw[if_neg h,decide_eq_false h,cond_false]
  ·rw[ht]at hd ⊢
   rw[hn,uO hd]
   generalize aE 0 l=N
   unfold gy
   by_cases h:N≤9223372036854775807
   ·rw[if_pos h,decide_eq_true (by omega),cond_true,cond_false,decide_eq_true (by omega),cond_true]
   ·rw[if_neg h]
    by_cases h2:N≤9223372036854775808
    ·rw[decide_eq_true h2,cond_true,cond_false,decide_eq_false (by omega),cond_false]
    ·rw[decide_eq_false h2,cond_false]
end Go.Ex
