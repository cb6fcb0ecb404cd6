/- Part of the proof: contracts of functions; no condition. -/
import Derived.Test.YtabbmgfeemkkbaaGreatDoorRa
import Derived.Lib.IndexBytes
set_option maxRecDepth 100000
namespace Go.Ex
open Go Go.Dm
def sM(m:Nat):List UInt8:=if m=0 then []else Lib.decDigits m
def bg(least:Nat)(m:Nat)(s:List UInt8):List UInt8:=List.replicate (least-(sM m).length-s.length) 48++(sM m++s)
theorem uP{m:Nat}(h:0<m):sM m=sM (m/10)++[UInt8.ofNat (48+m % 10)]:=by
 unfold sM
 rw[if_neg (by omega)]
 by_cases h1:m<10
 ·rw[if_pos (by omega),Lib.decDigits_one h1,List.nil_append,Nat.mod_eq_of_lt h1]
 ·rw[if_neg (by omega)]
  conv=>lhs;rw[Lib.decDigits]
  rw[dif_neg h1]
theorem AR{least m:Nat}{s:List UInt8}(h:0<m):bg least (m/10) (UInt8.ofNat (48+m % 10)::s)=bg least m s:=by
 unfold bg
 rw[uP h,List.length_append,List.length_cons,List.append_assoc]
 congr 2
 simp;omega
theorem Jt{α:Type}(n:Nat)(x:α)(l:List α):List.replicate n x++(x::l)=List.replicate (n+1) x++l:=by
 rw[List.replicate_succ',List.append_assoc];rfl
theorem AS{least:Nat}{s:List UInt8}(h:s.length<least):bg least 0 (48::s)=bg least 0 s:=by
 unfold bg
 have e0:sM 0=[]:=rfl
 rw[e0,List.nil_append,List.nil_append,Jt]
 simp only[List.length_nil,List.length_cons]
 congr 2
 omega
theorem Em{least:Nat}{s:List UInt8}(h:least≤s.length):bg least 0 s=s:=by
 unfold bg
 have e0:sM 0=[]:=rfl
 rw[e0]
 simp[Nat.sub_eq_zero_of_le h]
theorem sN(c:UInt8):∀n:Nat,Lib.repeatL [c] n=List.replicate n c
 |0=>rfl
 |n+1=>by simp[Lib.repeatL,sN c n,List.replicate_succ]
theorem jZ(least m:Nat)(h:1≤least):bg least m []=di (Lib.itoa (m:Int)) (least:Int):=by
 rw[Lib.itoa_nonneg]
 unfold bg di
 rw[sN,List.append_nil,List.length_nil]
 by_cases h0:m=0
 ·subst h0
  have e0:sM 0=[]:=rfl
  have e1:Lib.decDigits 0=[48]:=Lib.decDigits_one (by decide)
  rw[e0,e1,List.append_nil]
  have:List.replicate (least-0-0) (48:UInt8)=List.replicate (least-1) 48++[48]:=by
   rw[show least-0-0=(least-1)+1 by omega,List.replicate_succ']
  simp only[List.length_nil,List.length_cons]
  rw[this]
  congr 2
  split<;>omega
 ·have:sM m=Lib.decDigits m:=if_neg h0
  rw[this]
  congr 2
  split<;>omega
theorem iQ(least m:Nat)(s:List UInt8)(hm:m<10^20):(bg least m s).length≤least+20+s.length:=by
 have hd:(sM m).length≤20:=by
  have key:∀(k m:Nat),m<10^k→(sM m).length≤k:=by
   intro k
   induction k with
   |zero=>intro m h;have:m=0:=by simpa using h
          subst this;exact Nat.le_refl _
   |succ k ih=>
    intro m h
    rcases Nat.eq_zero_or_pos m with h0|h0
    ·subst h0;exact Nat.zero_le _
    ·rw[uP h0,List.length_append]
     have:=ih (m/10) (by rw[Nat.pow_succ]at h;exact Nat.div_lt_of_lt_mul (by omega))
     simp;omega
  exact key 20 m hm
 unfold bg
 simp only[List.length_append,List.length_replicate]
 omega
theorem P'{v n:Int}(hv:ar v)(h0:0≤n)(h1:n≤18):tP v n =
  let s:=bg (n.toNat+1) v.natAbs []
  let t:=if n>0 then(s.take (s.length-n.toNat)++[46])++s.drop (s.length-n.toNat)else s
  if v<0 then 45::t else t:=by
 have hd:∀u:Nat,Lib.hasPrefix (Lib.decDigits u) [45]=false:=fun u=>by
  have key:∀u:Nat,∃c r,Lib.decDigits u=c::r∧48≤c.toNat:=by
   intro u
   induction u using Nat.strongRecOn with
   |_ u ih=>
    rw[Lib.decDigits]
    by_cases h:u<10
    ·rw[dif_pos h]
     refine⟨_,[],rfl,?_⟩
     rw[UInt8.toNat_ofNat'];omega
    ·rw[dif_neg h]
     obtain⟨c,r,e,hc⟩:=ih (u/10) (by omega)
     exact⟨c,r++[_],by rw[e];rfl,hc⟩
  obtain⟨c,r,e,hc⟩:=key u
  rw[e]
  show((45:UInt8)==c&&List.isPrefixOf [] r)=false
  have:((45:UInt8)==c)=false:=by
   rw[beq_eq_false_iff_ne]
   rintro rfl
   exact absurd hc (by decide)
  rw[this];rfl
 have hs:bg (n.toNat+1) v.natAbs []=di (Lib.decDigits v.natAbs) (n+1):=by
  rw[jZ _ _ (by omega),Lib.itoa_nonneg]
  congr 1;omega
 rw[hs]
 unfold tP
 by_cases Qa:v<0
 ·have e:Lib.itoa v=45::Lib.decDigits v.natAbs:=by unfold Lib.itoa;rw[if_pos Qa]
  have ht:Lib.trimPrefix (45::Lib.decDigits v.natAbs) [45]=Lib.decDigits v.natAbs:=by
   unfold Lib.trimPrefix
   have:Lib.hasPrefix (45::Lib.decDigits v.natAbs) [45]=true:=rfl
   rw[if_pos this];rfl
  have hp:Lib.hasPrefix (45::Lib.decDigits v.natAbs) [45]=true:=rfl
  rw[e,ht]
  dsimp only
  rw[if_pos hp,if_pos Qa]
 ·have e:Lib.itoa v=Lib.decDigits v.natAbs:=by
   unfold Lib.itoa;rw[if_neg Qa];congr 1;omega
  have ht:Lib.trimPrefix (Lib.decDigits v.natAbs) [45]=Lib.decDigits v.natAbs:=by
   unfold Lib.trimPrefix
   rw[hd];rfl
  rw[e,ht]
  dsimp only
  rw[hd,if_neg (by decide),if_neg Qa]
theorem pb{p:UInt8→Bool}:∀{l:List UInt8},(∀c∈l,p c=true)→l.takeWhile p=l∧l.dropWhile p=[]
 |[],_=>⟨rfl,rfl⟩
 |c::r,h=>by
  have h1:=h c (List.mem_cons_self ..)
  obtain⟨e1,e2⟩:=pb (l:=r) (fun c hc=>h c (List.mem_cons_of_mem _ hc))
  rw[List.takeWhile_cons,List.dropWhile_cons,if_pos h1,if_pos h1,e1,e2]
  exact⟨rfl,rfl⟩
theorem Qb(l:List UInt8):Lib.cut l [46]=(l.takeWhile (· != 46),(l.dropWhile (· != 46)).drop 1,(l.any (·==46))):=by
 have key:∀l:List UInt8,(l.any (·==46)=true→Lib.index l [46]=((l.takeWhile (· != 46)).length:Int))∧(l.any (·==46)=false→Lib.index l [46] = -1):=by
  intro l
  induction l with
  |nil=>exact⟨(fun h=>by cases h),fun _=>rfl⟩
  |cons c r ih=>
   have hi:Lib.index (c::r) [46]=if((46:UInt8)==c&&List.isPrefixOf [] r)then 0 else if Lib.index r [46] == -1 then -1 else Lib.index r [46]+1:=rfl
   rw[hi]
   by_cases hc:c=46
   ·subst hc
    refine⟨fun _=>?_,fun h=>?_⟩
    ·simp
    ·simp at h
   ·have e1:((46:UInt8)==c)=false:=by rw[beq_eq_false_iff_ne];exact fun h=>hc h.symm
    have e2:(c==46)=false:=by rw[beq_eq_false_iff_ne];exact hc
    have e3:(c != 46)=true:=by rw[bne,e2];rfl
    rw[e1]
    simp only[Bool.false_and,Bool.false_eq_true,if_false,List.any_cons,e2,Bool.false_or,List.takeWhile_cons,e3,if_true,List.length_cons]
    refine⟨fun h=>?_,fun h=>?_⟩
    ·rw[ih.1 h]
     have:((((r.takeWhile (· != 46)).length:Nat):Int) == -1)=false:=by rw[beq_eq_false_iff_ne];omega
     rw[this];simp
    ·rw[ih.2 h];rfl
 unfold Lib.cut
 cases h:l.any (·==46)
 ·rw[(key l).2 h,if_neg (by decide)]
  have bC:∀c∈l,(c != 46)=true:=fun c hc=>by
   have:=List.any_eq_false.1 h c hc
   simpa using this
  rw[(pb bC).1,(pb bC).2]
  rfl
 ·rw[(key l).1 h,if_pos (Int.natCast_nonneg _)]
  have e:l=l.takeWhile (· != 46)++l.dropWhile (· != 46):=(List.takeWhile_append_dropWhile).symm
  have e1:l.take (l.takeWhile (· != 46)).length=l.takeWhile (· != 46):=by
   conv=>lhs;rw[e]
   rw[List.takeWhile_append_dropWhile]
   conv=>lhs;arg 2;rw[e]
   exact List.take_left
  have e2:l.drop ((l.takeWhile (· != 46)).length+1)=(l.dropWhile (· != 46)).drop 1:=by
   conv=>lhs;arg 2;rw[e]
   rw[List.drop_append]
   have:(l.takeWhile (· != 46)).length+1-(l.takeWhile (· != 46)).length=1:=by omega
   rw[this,List.drop_eq_nil_of_le (by omega),List.nil_append]
  rw[Int.toNat_natCast,e1]
  show(_,l.drop ((l.takeWhile (· != 46)).length+1),true)=_
  rw[e2]
theorem C'{l:List UInt8}(h:aR l=true):(!yW l || !n7 (e6 l))=decide (¬aE 0 l≤999999999999999999)∧(aE 0 l≤999999999999999999→e6 l=(aE 0 l:Int)):=by
 unfold yW e6
 rw[uO h]
 generalize aE 0 l=N
 by_cases h1:N≤9223372036854775807
 ·rw[if_pos h1]
  refine⟨?_,fun _=>rfl⟩
  simp only[Bool.not_true,Bool.false_or]
  rw[Bool.eq_iff_iff,decide_eq_true_iff,Bool.not_eq_true',←Bool.not_eq_true,iO]
  omega
 ·rw[if_neg h1]
  refine⟨?_,fun h=>by omega⟩
  simp only[Bool.not_false,Bool.true_or]
  rw[eq_comm,decide_eq_true_iff];omega
theorem pc(l:List UInt8):bF l =
  let m:=Lib.trimPrefix l [45]
  let w:=m.takeWhile (· != 46)
  let p:=(m.dropWhile (· != 46)).drop 1
  bif (bif !aR w then true else bif m.any (·==46)then !aR p else false)then(0,0,12)
  else bif decide ((p.length:Int)>18)then(0,0,10)
  else bif decide (aE 0 (w++p)≤999999999999999999)then((gy (aE 0 (w++p)) (Ek l)).1,(p.length:Int),0)else(0,0,10):=by
 unfold bF
 rw[Qb]
 dsimp only
 generalize hm:Lib.trimPrefix l [45]=m
 generalize hw:m.takeWhile (· != 46)=w
 generalize hp:(m.dropWhile (· != 46)).drop 1=p
 have hpn:m.any (·==46)=false→p=[]:=fun h=>by
  have bC:∀c∈m,(c != 46)=true:=fun c hc=>by
   have:=List.any_eq_false.1 h c hc
   simpa using this
  rw[←hp,(pb bC).2];rfl
 cases hd:aR w
 ·simp
 ·simp only[Bool.not_true,Bool.false_or,cond_false]
  have e:∀b:Bool,(if(b=true)then((0:Int),(0:Int),(12:Int))else(0,0,10))=bif b then(0,0,12)else(0,0,10):=fun b=>by cases b<;>rfl
  cases ha:m.any (·==46)
  ·have:=hpn ha
   subst this
   simp only[Bool.false_and,Bool.false_eq_true,if_false,cond_false,List.length_nil,List.append_nil]
   rw[if_neg (by decide),decide_eq_false (by decide),cond_false]
   obtain⟨h1,h2⟩:=C' hd
   rw[h1]
   by_cases h3:aE 0 w≤999999999999999999
   ·rw[decide_eq_false (by omega),if_neg (by decide),decide_eq_true h3,cond_true,h2 h3]
    rcases jY l with⟨hn,r,rfl,ht⟩|⟨hn,ht,hh⟩
    ·rw[hn,if_pos (show(45::r).head? = some (45:UInt8)from rfl)];unfold gy;rw[cond_true,decide_eq_true (by omega),cond_true]
    ·rw[hn,if_neg hh];unfold gy;rw[cond_false,decide_eq_true (by omega),cond_true]
   ·rw[decide_eq_true h3,if_pos rfl,decide_eq_false h3,cond_false]
  ·simp only[Bool.true_and,cond_true]
   cases hdp:aR p
   ·simp
   ·simp only[Bool.not_true,Bool.false_eq_true,if_false,cond_false]
    by_cases Ju:(p.length:Int)>18
    ·rw[if_pos Ju,decide_eq_true Ju,cond_true]
    ·rw[if_neg Ju,decide_eq_false Ju,cond_false]
     have hdw:aR (w++p)=true:=by
      unfold aR at *
      simp only[Bool.and_eq_true,Bool.not_eq_true',List.all_append,List.isEmpty_eq_false_iff]at *
      exact⟨by simp[hd.1],hd.2,hdp.2⟩
     obtain⟨h1,h2⟩:=C' hdw
     rw[h1]
     by_cases h3:aE 0 (w++p)≤999999999999999999
     ·rw[decide_eq_false (by omega),if_neg (by decide),decide_eq_true h3,cond_true,h2 h3]
      rcases jY l with⟨hn,r,rfl,ht⟩|⟨hn,ht,hh⟩
      ·rw[hn,if_pos (show(45::r).head? = some (45:UInt8)from rfl)];unfold gy;rw[cond_true,decide_eq_true (by omega),cond_true]
      ·rw[hn,if_neg hh];unfold gy;rw[cond_false,decide_eq_true (by omega),cond_true]
     ·rw[decide_eq_true h3,if_pos rfl,decide_eq_false h3,cond_false]
end Go.Ex
namespace Go.Proofs.Tryz
open Go Go.Dm Go.Ex
set_option maxRecDepth 100000
variable {gl:Nat→Option Obj}
theorem jg{a:Int}(h:ar a):aQ a=(a.natAbs:Int):=U6 h
theorem lE{n:Int}{b:Bool}(h0:0≤n)(h1:n<ba):dL n b=(gy n b).1∧dM n b=(gy n b).2:=by
 unfold dL dM gy
 simp only[ba]at h1
 cases b
 ·simp only[cond_false]
  by_cases h:n>9223372036854775807
  ·rw[decide_eq_true h,decide_eq_false (by omega)];exact⟨rfl,rfl⟩
  ·rw[decide_eq_false h,decide_eq_true (by omega)]
   simp only[cond_false,cond_true,and_true]
   rw[fW];simp only[ba];split<;>omega
 ·simp only[cond_true]
  by_cases h:n≤9223372036854775808
  ·rw[decide_eq_true h]
   simp only[cond_true,and_true]
   rw[fW,aP];simp only[ba];split<;>omega
  ·rw[decide_eq_false h,decide_eq_true (by omega)];exact⟨rfl,rfl⟩
open Classical in
theorem SY{a b:Int}(ha:ar a)(hb:ar b):mO a b=(fl (a+b)).1∧mS a b=(fl (a+b)).2:=by
 obtain⟨gp,jJ⟩:=ha
 obtain⟨hb1,du⟩:=hb
 have hc:(bif bif decide (b>(0:Int))then decide (a>IntKind.i64.wrap ((9223372036854775807:Int)-b))else false then true else bif decide (b<(0:Int))then decide (a<IntKind.i64.wrap ((-9223372036854775808:Int)-b))else false)=decide (¬ar (a+b)):=by
  unfold ar
  by_cases h1:b>0
  ·rw[decide_eq_true h1,decide_eq_false (by omega:¬b<0),cond_true,ai (by omega) (by omega),Bool.eq_iff_iff]
   simp only[cond_false,Bool.cond_false_right,Bool.cond_true_left,Bool.or_false,decide_eq_true_iff,Bool.or_eq_true]
   simp;omega
  ·rw[decide_eq_false h1,cond_false,cond_false]
   by_cases h2:b<0
   ·rw[decide_eq_true h2,cond_true,ai (by omega) (by omega),Bool.eq_iff_iff]
    simp only[decide_eq_true_iff];omega
   ·rw[decide_eq_false h2,cond_false,Bool.eq_iff_iff]
    simp only[decide_eq_true_iff];constructor
    ·intro h;cases h
    ·intro h;omega
 unfold mO mS fl
 rw[hc]
 by_cases h:ar (a+b)
 ·rw[decide_eq_false (by simpa using h),if_pos h]
  simp only[cond_false,and_true]
  exact ai (by have:=h.1;omega) (by have:=h.2;omega)
 ·rw[decide_eq_true h,if_neg h];exact⟨rfl,rfl⟩
open Classical in
theorem Da{a b:Int}(ha:ar a)(hb:ar b):jD a b=(fl (a-b)).1∧jE a b=(fl (a-b)).2:=by
 obtain⟨gp,jJ⟩:=ha
 obtain⟨hb1,du⟩:=hb
 have hc:(bif bif decide (b<(0:Int))then decide (a>IntKind.i64.wrap ((9223372036854775807:Int)+b))else false then true else bif decide (b>(0:Int))then decide (a<IntKind.i64.wrap ((-9223372036854775808:Int)+b))else false)=decide (¬ar (a-b)):=by
  unfold ar
  by_cases h1:b<0
  ·rw[decide_eq_true h1,decide_eq_false (by omega:¬b>0),cond_true,ai (by omega) (by omega),Bool.eq_iff_iff]
   simp only[cond_false,Bool.cond_false_right,Bool.cond_true_left,Bool.or_false,decide_eq_true_iff,Bool.or_eq_true]
   simp;omega
  ·rw[decide_eq_false h1,cond_false,cond_false]
   by_cases h2:b>0
   ·rw[decide_eq_true h2,cond_true,ai (by omega) (by omega),Bool.eq_iff_iff]
    simp only[decide_eq_true_iff];omega
   ·rw[decide_eq_false h2,cond_false,Bool.eq_iff_iff]
    simp only[decide_eq_true_iff];constructor
    ·intro h;cases h
    ·intro h;omega
 unfold jD jE fl
 rw[hc]
 by_cases h:ar (a-b)
 ·rw[decide_eq_false (by simpa using h),if_pos h]
  simp only[cond_false,and_true]
  exact ai (by have:=h.1;omega) (by have:=h.2;omega)
 ·rw[decide_eq_true h,if_neg h];exact⟨rfl,rfl⟩
theorem U7{x y:Int}(hx:0≤x)(ya:x<ba)(hy:0≤y)(E9:y<ba):0≤x*y % ba∧x*y % ba<ba:=by
 generalize x*y=p;simp only[ba];omega
theorem adI(x y:Int)(Q:KT):vc bl Ec bf R1 (f145.body.getD .skip) f145.results.toList [.d (.v (.int .u64 x)),.d (.v (.int .u64 y))] Q=((0:Int)≤32∧(0:Int)≤32∧(0:Int)≤32∧(0:Int)≤32∧(0:Int)≤32∧(0:Int)≤32∧(0:Int)≤32∧(0:Int)≤32∧Q [.d (.v (.int .u64 (IntKind.u64.wrap (IntKind.u64.wrap (IntKind.u64.wrap (aB.shr IntKind.u64 x (32:Int)*aB.shr IntKind.u64 y (32:Int))+aB.shr IntKind.u64 (IntKind.u64.wrap (IntKind.u64.wrap (aB.shr IntKind.u64 x (32:Int)*aB.bits BinOp.and IntKind.u64 y (4294967295:Int))+aB.shr IntKind.u64 (IntKind.u64.wrap (aB.bits BinOp.and IntKind.u64 x (4294967295:Int)*aB.bits BinOp.and IntKind.u64 y (4294967295:Int))) (32:Int))) (32:Int))+aB.shr IntKind.u64 (IntKind.u64.wrap (IntKind.u64.wrap (aB.bits BinOp.and IntKind.u64 x (4294967295:Int)*aB.shr IntKind.u64 y (32:Int))+aB.bits BinOp.and IntKind.u64 (IntKind.u64.wrap (IntKind.u64.wrap (aB.shr IntKind.u64 x (32:Int)*aB.bits BinOp.and IntKind.u64 y (4294967295:Int))+aB.shr IntKind.u64 (IntKind.u64.wrap (aB.bits BinOp.and IntKind.u64 x (4294967295:Int)*aB.bits BinOp.and IntKind.u64 y (4294967295:Int))) (32:Int))) (4294967295:Int))) (32:Int))))),.d (.v (.int .u64 (aB.bits BinOp.or IntKind.u64 (aB.shl IntKind.u64 (IntKind.u64.wrap (IntKind.u64.wrap (aB.bits BinOp.and IntKind.u64 x (4294967295:Int)*aB.shr IntKind.u64 y (32:Int))+aB.bits BinOp.and IntKind.u64 (IntKind.u64.wrap (IntKind.u64.wrap (aB.shr IntKind.u64 x (32:Int)*aB.bits BinOp.and IntKind.u64 y (4294967295:Int))+aB.shr IntKind.u64 (IntKind.u64.wrap (aB.bits BinOp.and IntKind.u64 x (4294967295:Int)*aB.bits BinOp.and IntKind.u64 y (4294967295:Int))) (32:Int))) (4294967295:Int))) (32:Int)) (aB.bits BinOp.and IntKind.u64 (IntKind.u64.wrap (aB.bits BinOp.and IntKind.u64 x (4294967295:Int)*aB.bits BinOp.and IntKind.u64 y (4294967295:Int))) (4294967295:Int)))))] []):=by kernel_rfl
theorem adJ(x y:Int)(h1:0≤x)(h2:x<ba)(h3:0≤y)(h4:y<ba):Ct prog gl 145 [.d (.v (.int .u64 x)),.d (.v (.int .u64 y))] (gives [.d (.v (.int .u64 (x*y/ba))),.d (.v (.int .u64 (x*y % ba)))]):=by
 refine cz nP f145 R1 ⟨_,_,rfl,rfl⟩ ?_
 rw[adI]
 obtain⟨e1,e2⟩:=AQ h1 h2 h3 h4
 rw[←e1,←e2]
 repeat' first|exact⟨rfl,rfl⟩|(refine⟨by decide,?_⟩)
def Jv(a:List R)(K:KT):Prop:=match a with
 |[.d (.v (.int .u64 x)),.d (.v (.int .u64 y))]=>0≤x∧x<ba∧0≤y∧y<ba∧K [.d (.v (.int .u64 (x*y/ba))),.d (.v (.int .u64 (x*y % ba)))] []
 |_=>False
theorem Jw:CK gl Jv 145:=fun a K h=>by
 unfold Jv at h
 split at h
 ·obtain⟨h0,h1,h2,h3,hk⟩:=h
  exact(adJ _ _ h0 h1 h2 h3).gives hk
 ·exact h.elim
def AT:aj:=au Ec 145 Jv
theorem uQ:ah prog gl AT:=af nP Jw
theorem adK(a b:Int)(Q:KT):vc bl AT bf RA (f117.body.getD .skip) f117.results.toList [.d (.v (.int .i64 a)),.d (.v (.int .i64 b))] Q=((0:Int)≤aQ a∧aQ a<ba∧(0:Int)≤aQ b∧aQ b<ba∧((aQ a*aQ b/ba != (0:Int))=true→dK Q (0:Int) (10:Int))∧((aQ a*aQ b/ba != (0:Int))=false→Q [.d (.i (dL (aQ a*aQ b % ba) !decide (a<0)==decide (b<0))),.d (.i (dM (aQ a*aQ b % ba) !decide (a<0)==decide (b<0)))] [])):=by kernel_rfl
theorem adL(a b:Int)(h1:ar a)(h2:ar b):Ct prog gl 117 [.d (.v (.int .i64 a)),.d (.v (.int .i64 b))] (gives [.d (.v (.int .i64 (fl (a*b)).1)),.d (.v (.int .i64 (fl (a*b)).2))]):=by
 refine cz uQ f117 RA ⟨_,_,rfl,rfl⟩ ?_
 rw[adK];dsimp -eta -iota -proj only[dK]
 have na:=n_ h1
 have nb:=n_ h2
 have np:=U7 na.1 na.2 nb.1 nb.2
 rw[jg h1,jg h2,←P8 h1 h2]
 refine⟨na.1,na.2,nb.1,nb.2,fun h=>?_,fun h=>?_⟩
 ·rw[h];exact⟨rfl,rfl⟩
 ·rw[h,(lE np.1 np.2).1,(lE np.1 np.2).2];exact⟨rfl,rfl⟩
def Jx(a:List R)(K:KT):Prop:=match a with
 |[.d (.v (.int .i64 a)),.d (.v (.int .i64 b))]=>ar a∧ar b∧K [.d (.v (.int .i64 (fl (a*b)).1)),.d (.v (.int .i64 (fl (a*b)).2))] []
 |_=>False
theorem Jy:CK gl Jx 117:=fun a K h=>by
 unfold Jx at h
 split at h
 ·obtain⟨h0,h1,hk⟩:=h
  exact(adL _ _ h0 h1).gives hk
 ·exact h.elim
def AU:aj:=au AT 117 Jx
theorem uR:ah prog gl AU:=af uQ Jy
noncomputable def Jz(a b:Int):Int×Int:=bif b==0 then(0,11)else fl (a.tdiv b)
theorem adM(a b:Int)(Q:KT):vc bl AU bf RB (f118.body.getD .skip) f118.results.toList [.d (.v (.int .i64 a)),.d (.v (.int .i64 b))] Q=((Gn b Q (11:Int))∧((b==0)=false→aQ b≠(0:Int)∧Q [.d (.i (dL (IntKind.u64.wrap ((aQ a).tdiv (aQ b))) !decide (a<0)==decide (b<0))),.d (.i (dM (IntKind.u64.wrap ((aQ a).tdiv (aQ b))) !decide (a<0)==decide (b<0)))] [])):=by kernel_rfl
theorem adN(a b:Int)(h1:ar a)(h2:ar b):Ct prog gl 118 [.d (.v (.int .i64 a)),.d (.v (.int .i64 b))] (gives [.d (.v (.int .i64 (Jz a b).1)),.d (.v (.int .i64 (Jz a b).2))]):=by
 refine cz uR f118 RB ⟨_,_,rfl,rfl⟩ ?_
 rw[adM];dsimp -eta -iota -proj only[Gn,dK]
 refine⟨fun h=>?_,fun h=>?_⟩
 ·unfold Jz;rw[h];exact⟨rfl,rfl⟩
 ·have h0:b≠0:=by simpa using h
  have nb:=n_ h2
  have hq:IntKind.u64.wrap ((a.natAbs:Int).tdiv (b.natAbs:Int))=((a.natAbs/b.natAbs:Nat):Int):=by
   rw[Int.tdiv_eq_ediv_of_nonneg (by omega),←Int.natCast_ediv,aP]
   have hle:=Nat.div_le_self a.natAbs b.natAbs
   obtain⟨gp,jJ⟩:=h1
   generalize a.natAbs/b.natAbs=q at hle ⊢
   simp only[ba];omega
  have hr:0≤((a.natAbs/b.natAbs:Nat):Int)∧((a.natAbs/b.natAbs:Nat):Int)<ba:=by
   have hle:=Nat.div_le_self a.natAbs b.natAbs
   obtain⟨gp,jJ⟩:=h1
   generalize a.natAbs/b.natAbs=q at hle ⊢
   simp only[ba];omega
  unfold Jz
  rw[h,jg h1,jg h2,hq,←P9 h1 h2 h0,(lE hr.1 hr.2).1,(lE hr.1 hr.2).2]
  exact⟨by omega,rfl,rfl⟩
def JA(a:List R)(K:KT):Prop:=match a with
 |[.d (.v (.int .i64 a)),.d (.v (.int .i64 b))]=>ar a∧ar b∧K [.d (.v (.int .i64 (Jz a b).1)),.d (.v (.int .i64 (Jz a b).2))] []
 |_=>False
theorem JB:CK gl JA 118:=fun a K h=>by
 unfold JA at h
 split at h
 ·obtain⟨h0,h1,hk⟩:=h
  exact(adN _ _ h0 h1).gives hk
 ·exact h.elim
def AW:aj:=au AU 118 JA
theorem uS:ah prog gl AW:=af uR JB
def JC(a b:Int):Int×Int:=bif b==0 then(0,11)else(a.tmod b,0)
theorem adO(a b:Int)(Q:KT):vc bl AW bf RC (f119.body.getD .skip) f119.results.toList [.d (.v (.int .i64 a)),.d (.v (.int .i64 b))] Q=((Gn b Q (11:Int))∧((b==0)=false→aQ b≠(0:Int)∧Q [.d (.i (dL ((aQ a).tmod (aQ b)) (decide (a<0)))),.d (.i (dM ((aQ a).tmod (aQ b)) (decide (a<0))))] [])):=by kernel_rfl
theorem adP(a b:Int)(h1:ar a)(h2:ar b):Ct prog gl 119 [.d (.v (.int .i64 a)),.d (.v (.int .i64 b))] (gives [.d (.v (.int .i64 (JC a b).1)),.d (.v (.int .i64 (JC a b).2))]):=by
 refine cz uS f119 RC ⟨_,_,rfl,rfl⟩ ?_
 rw[adO];dsimp -eta -iota -proj only[Gn,dK]
 refine⟨fun h=>?_,fun h=>?_⟩
 ·unfold JC;rw[h];exact⟨rfl,rfl⟩
 ·have h0:b≠0:=by simpa using h
  have hq:(a.natAbs:Int).tmod (b.natAbs:Int)=((a.natAbs % b.natAbs:Nat):Int):=by
   rw[Int.tmod_eq_emod_of_nonneg (by omega),←Int.natCast_emod]
  have hr:0≤((a.natAbs % b.natAbs:Nat):Int)∧((a.natAbs % b.natAbs:Nat):Int)<ba:=by
   have hle:=Nat.mod_le a.natAbs b.natAbs
   obtain⟨gp,jJ⟩:=h1
   generalize a.natAbs % b.natAbs=q at hle ⊢
   simp only[ba];omega
  have e:=P_ h1 h2 h0
  unfold JC
  rw[h,cond_false,jg h1,jg h2,hq,(lE hr.1 hr.2).1,(lE hr.1 hr.2).2,e]
  exact⟨by omega,rfl,rfl⟩
def JD(a:List R)(K:KT):Prop:=match a with
 |[.d (.v (.int .i64 a)),.d (.v (.int .i64 b))]=>ar a∧ar b∧K [.d (.v (.int .i64 (JC a b).1)),.d (.v (.int .i64 (JC a b).2))] []
 |_=>False
theorem JE:CK gl JD 119:=fun a K h=>by
 unfold JD at h
 split at h
 ·obtain⟨h0,h1,hk⟩:=h
  exact(adP _ _ h0 h1).gives hk
 ·exact h.elim
def AX:aj:=au AW 119 JD
theorem uT:ah prog gl AX:=af uS JE
def U8(n:Int)(x:Nat):St:={tm:=[(0,.d (.v (.int .i64 n))),(2,.d (.v (.int .i64 0))),(3,.d (.v (.int .i64 0))),(4,.d (.v (.int .i64 ((10^x:Nat):Int)))),(5,.d (.v (.int .i64 (x:Int))))],hp:=[],kn:=[],gd:=[]}
def qQ(n:Int)(m:Nat)(x:Nat):Prop:=(x:Int)≤n∧n≤18∧m=n.toNat-x
def JF(n:Int):Fi:={ZI with lx:=[(5,{X:=Nat,sh:=U8 n,P:=fun _=>qQ n})]}
def Zil(a0:Int)(a1:Nat):St:={tm:=[(0,.i a0),(2,.i 0),(3,.i 0),(4,.i (↑((10:Nat)^a1):Int)),(5,.i (↑a1:Int))],hp:=[],kn:=[],gd:=[]:St}
theorem adQ(n:Int)(Q:KT):vc bl AX bf (JF n) (f140.body.getD .skip) f140.results.toList [.d (.v (.int .i64 n))] Q=((Zkd n (0:Int) (18:Int) Q)∧((bif decide (n<0)then true else decide (n>18))=false→∃(x0:Nat),({tm:=[(0,.i n),(2,.i 0),(3,.i 0),(4,.i 1),(5,.i 0)],hp:=[],kn:=[],gd:=[]:St}=(Zil n x0)∧∃(aN:Nat),qQ n aN x0)∧∀(aN:Nat) (x:Nat),qQ n aN x→(decide ((↑x:Int)<n)=true→fG aN fun m x'=>{tm:=[(0,.i n),(2,.i 0),(3,.i 0),(4,.i (IntKind.i64.wrap ((↑((10:Nat)^x):Int)*(10:Int)))),(5,.i (IntKind.i64.wrap ((↑x:Int)+1)))],hp:=[],kn:=[],gd:=[]:St}=(Zil n x')∧qQ n m x')∧(decide ((↑x:Int)<n)=false→Q [.d (.i (↑((10:Nat)^x):Int)),.d (.i 0)] []))):=by kernel_rfl
theorem adR(n:Int):Ct prog gl 140 [.d (.v (.int .i64 n))] (gives [.d (.v (.int .i64 (aK n).1)),.d (.v (.int .i64 (aK n).2))]):=by
 refine aw bN uT aF bD mixed (fn:=f140) (body:=f140.body.getD .skip) (by kernel_rfl) (by kernel_rfl) (by kernel_rfl) (fi:=(JF n)) (by kernel_rfl) (by kernel_rfl) ⟨_,_,rfl,rfl⟩ ?_
 rw[adQ];dsimp -eta -iota -proj only[Zkd,dK,Zil,fG,fb]
 have hc:(bif decide (n<0)then true else decide (n>18)) = !b7 n:=by
  unfold b7
  by_cases h1:n<0<;>by_cases h2:n>18<;>simp[h1,h2]<;>omega
 rw[hc]
 refine⟨fun h=>?_,fun h=>?_⟩
 ·unfold aK;rw[h];exact⟨rfl,rfl⟩
 ·have hn:0≤n∧n≤18:=fY.1 (by simpa using h)
  refine⟨(0:Nat),⟨rfl,n.toNat,hn.1,hn.2,by omega⟩,fun m (x:Nat) hx=>⟨fun hi=>?_,fun hi=>?_⟩⟩
  ·obtain⟨h1,h2,h3⟩:=hx
   have hi:=of_decide_eq_true hi
   refine⟨n.toNat-(x+1),x+1,by omega,?_,by omega,h2,by omega⟩
   have:=AG (x:=x+1) (by omega)
   have e:(((10^(x+1):Nat)):Int)=((10^x:Nat):Int)*10:=by rw[Nat.pow_succ];rfl
   have hp:0≤((10^x:Nat):Int):=Int.natCast_nonneg _
   have hq:(((10^(x+1):Nat)):Int)≤1000000000000000000:=Int.ofNat_le.2 this
   rw[e]at hq ⊢
   rw[aL (by omega)]
   generalize ((10^x:Nat):Int)=p at *
   rw[ai (by omega) (by omega)]
  ·obtain⟨h1,h2,h3⟩:=hx
   have hi:=of_decide_eq_false hi
   unfold aK
   rw[h,show n.toNat=x by omega]
   exact⟨rfl,rfl⟩
def JG(a:List R)(K:KT):Prop:=match a with
 |[.d (.v (.int .i64 n))]=>K [.d (.v (.int .i64 (aK n).1)),.d (.v (.int .i64 (aK n).2))] []
 |_=>False
theorem JH:CK gl JG 140:=fun a K h=>by
 unfold JG at h
 split at h
 ·exact(adR _).gives h
 ·exact h.elim
def AY:aj:=au AX 140 JG
theorem uU:ah prog gl AY:=af uT JH
theorem xg{n:Int}:eo n=true↔-999999999999999999≤n∧n≤999999999999999999:=by
 unfold eo
 by_cases h1:n≥(-999999999999999999:Int)<;>by_cases h2:n≤(999999999999999999:Int)<;>simp[h1,h2]<;>omega
theorem JI{n:Int}:bZ n=true↔-999999999999999999≤n∧n≤999999999999999999:=by
 unfold bZ
 by_cases h1:(-999999999999999999:Int)≤n<;>by_cases h2:n≤(999999999999999999:Int)<;>simp[h1,h2]
theorem xi(n:Int):eo n=bZ n:=by rw[Bool.eq_iff_iff,xg,JI]
theorem xj{a b:Int}(ha:ar a)(hb:ar b):fX a b=fl (a*b):=by rw[P3 ha hb];rfl
theorem AZ{v p:Int}(hv:-999999999999999999≤v∧v≤999999999999999999)(hp:1≤p)(N7:p≤1000000000000000000):
  (bif decide (v.tmod p≥IntKind.i64.wrap (p-v.tmod p))then(IntKind.i64.wrap (IntKind.i64.wrap (v.tdiv p)+1),(0:Int))
   else bif decide (IntKind.i64.wrap (0-v.tmod p)≥IntKind.i64.wrap (p+v.tmod p))then(IntKind.i64.wrap (IntKind.i64.wrap (v.tdiv p)-1),0)
   else(IntKind.i64.wrap (v.tdiv p),0)) =
  gy (bif decide (2*((v.natAbs:Int) % p)≥p)then(v.natAbs:Int)/p+1 else(v.natAbs:Int)/p) (decide (v<0)):=by
 have hm:=Int.emod_nonneg (v.natAbs:Int) (show p≠0 by omega)
 have DW:=Int.emod_lt_of_pos (v.natAbs:Int) (show 0<p by omega)
 have hq:0≤(v.natAbs:Int)/p:=Int.ediv_nonneg (by omega) (by omega)
 have hq2:(v.natAbs:Int)/p≤(v.natAbs:Int):=by
  have:=Int.ediv_le_self p (show 0≤(v.natAbs:Int) by omega)
  exact this
 by_cases h0:v<0
 ·have e:v = -(v.natAbs:Int):=by omega
  have e1:v.tdiv p = -((v.natAbs:Int)/p):=by
   conv=>lhs;rw[e]
   rw[Int.neg_tdiv,Int.tdiv_eq_ediv_of_nonneg (by omega)]
  have e2:v.tmod p = -((v.natAbs:Int) % p):=by
   conv=>lhs;rw[e]
   rw[Int.neg_tmod,Int.tmod_eq_emod_of_nonneg (by omega)]
  rw[e1,e2,decide_eq_true h0]
  generalize (v.natAbs:Int)/p=q at *
  generalize (v.natAbs:Int) % p=r at *
  have hqb:q≤999999999999999999:=by omega
  rw[ai (n:=p - -r) (by omega) (by omega),ai (n:=0 - -r) (by omega) (by omega),ai (n:=p + -r) (by omega) (by omega),ai (n:=-q) (by omega) (by omega),decide_eq_false (by omega:¬-r≥p - -r),cond_false]
  unfold gy
  by_cases h:2*r≥p
  ·rw[decide_eq_true (by omega:0 - -r≥p + -r),decide_eq_true h,cond_true,cond_true,cond_true,decide_eq_true (by omega),cond_true,ai (by omega) (by omega)]
   rw[Prod.mk.injEq];exact⟨by omega,rfl⟩
  ·rw[decide_eq_false (by omega:¬0 - -r≥p + -r),decide_eq_false h,cond_false,cond_false,cond_true,decide_eq_true (by omega),cond_true]
 ·have e1:v.tdiv p=(v.natAbs:Int)/p:=by
   rw[Int.tdiv_eq_ediv_of_nonneg (by omega)];congr 1;omega
  have e2:v.tmod p=(v.natAbs:Int) % p:=by
   rw[Int.tmod_eq_emod_of_nonneg (by omega)];congr 1;omega
  rw[e1,e2,decide_eq_false h0]
  generalize (v.natAbs:Int)/p=q at *
  generalize (v.natAbs:Int) % p=r at *
  have hqb:q≤999999999999999999:=by omega
  rw[ai (n:=p-r) (by omega) (by omega),ai (n:=0-r) (by omega) (by omega),ai (n:=p+r) (by omega) (by omega),ai (n:=q) (by omega) (by omega),decide_eq_false (by omega:¬0-r≥p+r)]
  unfold gy
  by_cases h:2*r≥p
  ·rw[decide_eq_true (by omega:r≥p-r),decide_eq_true h,cond_true,cond_true,cond_false,decide_eq_true (by omega),cond_true,ai (by omega) (by omega)]
  ·rw[decide_eq_false (by omega:¬r≥p-r),decide_eq_false h,cond_false,cond_false,cond_false,cond_false,decide_eq_true (by omega),cond_true]
theorem lY{n:Int}(h:0≤n∧n≤18):1≤(aK n).1∧(aK n).1≤1000000000000000000:=by
 rw[xd h]
 have h1:1≤10^n.toNat:=Nat.one_le_pow _ _ (by decide)
 have h2:=AG (x:=n.toNat) (by omega)
 omega
theorem adS(v f t:Int)(Q:KT):vc bl AY bf Rv (f112.body.getD .skip) f112.results.toList [.d (.v (.int .i64 v)),.d (.v (.int .i64 f)),.d (.v (.int .i64 t))] Q=(((bif bif bif decide (f<0)then true else decide (f>18)then true else decide (t<0)then true else decide (t>18))=true→dK Q (0:Int) (1:Int))∧((bif bif bif decide (f<0)then true else decide (f>18)then true else decide (t<0)then true else decide (t>18))=false→((!eo v)=true→dK Q (0:Int) (10:Int))∧((!eo v)=false→(decide (t≥f)=true→ar v∧ar (aK (IntKind.i64.wrap (t-f))).1∧((bif (fl (v*(aK (IntKind.i64.wrap (t-f))).1)).2 != (0:Int)then true else !eo (fl (v*(aK (IntKind.i64.wrap (t-f))).1)).1)=true→dK Q (0:Int) (10:Int))∧((bif (fl (v*(aK (IntKind.i64.wrap (t-f))).1)).2 != (0:Int)then true else !eo (fl (v*(aK (IntKind.i64.wrap (t-f))).1)).1)=false→Q [.d (.v (.int .i64 (fl (v*(aK (IntKind.i64.wrap (t-f))).1)).1)),.d (.i 0)] []))∧(decide (t≥f)=false→IntKind.u64.wrap (aK (IntKind.i64.wrap (f-t))).1≠(0:Int)∧IntKind.u64.wrap (aK (IntKind.i64.wrap (f-t))).1≠(0:Int)∧(decide (IntKind.u64.wrap ((2:Int)*(aQ v).tmod (IntKind.u64.wrap (aK (IntKind.i64.wrap (f-t))).1))≥IntKind.u64.wrap (aK (IntKind.i64.wrap (f-t))).1)=true→Q [.d (.i (dL (IntKind.u64.wrap (IntKind.u64.wrap ((aQ v).tdiv (IntKind.u64.wrap (aK (IntKind.i64.wrap (f-t))).1))+(1:Int))) (decide (v<0)))),.d (.i (dM (IntKind.u64.wrap (IntKind.u64.wrap ((aQ v).tdiv (IntKind.u64.wrap (aK (IntKind.i64.wrap (f-t))).1))+(1:Int))) (decide (v<0))))] [])∧(decide (IntKind.u64.wrap ((2:Int)*(aQ v).tmod (IntKind.u64.wrap (aK (IntKind.i64.wrap (f-t))).1))≥IntKind.u64.wrap (aK (IntKind.i64.wrap (f-t))).1)=false→Q [.d (.i (dL (IntKind.u64.wrap ((aQ v).tdiv (IntKind.u64.wrap (aK (IntKind.i64.wrap (f-t))).1))) (decide (v<0)))),.d (.i (dM (IntKind.u64.wrap ((aQ v).tdiv (IntKind.u64.wrap (aK (IntKind.i64.wrap (f-t))).1))) (decide (v<0))))] []))))):=by kernel_rfl
theorem adT(v f t:Int)(h1:ar v):Ct prog gl 112 [.d (.v (.int .i64 v)),.d (.v (.int .i64 f)),.d (.v (.int .i64 t))] (gives [.d (.v (.int .i64 (bo v f t).1)),.d (.v (.int .i64 (bo v f t).2))]):=by
 refine cz uU f112 Rv ⟨_,_,rfl,rfl⟩ ?_
 rw[adS];dsimp -eta -iota -proj only[dK]
 have hc:(bif bif bif decide (f<0)then true else decide (f>18)then true else decide (t<0)then true else decide (t>18))=(bif !b7 f then true else !b7 t):=by
  unfold b7
  by_cases h1:f<0<;>by_cases h2:f>18<;>by_cases h3:t<0<;>by_cases h4:t>18<;>simp[h1,h2,h3,h4]<;>omega
 rw[hc]
 have h0:ar 0:=⟨by decide,by decide⟩
 refine⟨fun h=>?_,fun h=>⟨fun h2=>?_,fun h2=>⟨fun h3=>?_,fun h3=>?_⟩⟩⟩
 ·unfold bo;rw[h];exact⟨rfl,rfl⟩
 ·rw[xi]at h2
  unfold bo;rw[h,h2];exact⟨rfl,rfl⟩
 all_goals
  have hv:-999999999999999999≤v∧v≤999999999999999999:=xg.1 (by simpa using h2)
  rw[xi]at h2
  have TN:(0≤f∧f≤18)∧(0≤t∧t≤18):=by
   rw[←fY,←fY]
   revert h
   cases b7 f<;>cases b7 t<;>simp
 ·have h3':=of_decide_eq_true h3
  have ew:IntKind.i64.wrap (t-f)=t-f:=ai (by omega) (by omega)
  rw[ew]
  have hp:=lY (n:=t-f) (by omega)
  have hpi:ar (aK (t-f)).1:=⟨by omega,by omega⟩
  refine⟨h1,hpi,fun h4=>?_,fun h4=>?_⟩
  all_goals
   rw[←xj h1 hpi,xi]at h4
   unfold bo
   rw[h,h2,h3,ew,cond_false,cond_false,cond_true,h4]
  ·exact⟨rfl,rfl⟩
  ·rw[←xj h1 hpi];exact⟨rfl,rfl⟩
 ·have h3':=of_decide_eq_false h3
  have ew:IntKind.i64.wrap (f-t)=f-t:=ai (by omega) (by omega)
  rw[ew]
  have hp:=lY (n:=f-t) (by omega)
  have hs:=AZ (p:=(aK (f-t)).1) hv hp.1 hp.2
  have Ob:bo v f t=gy (bif decide (2*((v.natAbs:Int) % (aK (f-t)).1)≥(aK (f-t)).1)then(v.natAbs:Int)/(aK (f-t)).1+1 else(v.natAbs:Int)/(aK (f-t)).1) (decide (v<0)):=by
   rw[←hs]
   unfold bo
   rw[h,h2,h3,ew]
   rfl
  rw[Ob,jg h1]
  generalize (aK (f-t)).1=p at *
  have eu:IntKind.u64.wrap p=p:=by rw[aP];simp only[ba];omega
  have hm:=Int.emod_nonneg (v.natAbs:Int) (show p≠0 by omega)
  have DW:=Int.emod_lt_of_pos (v.natAbs:Int) (show 0<p by omega)
  have hq:0≤(v.natAbs:Int)/p:=Int.ediv_nonneg (by omega) (by omega)
  have hq2:=Int.ediv_le_self p (show 0≤(v.natAbs:Int) by omega)
  rw[eu,Int.tdiv_eq_ediv_of_nonneg (by omega),Int.tmod_eq_emod_of_nonneg (by omega)]
  generalize (v.natAbs:Int)/p=q at *
  generalize (v.natAbs:Int) % p=r at *
  have hqb:q≤999999999999999999:=by omega
  have e1:IntKind.u64.wrap q=q:=by rw[aP];simp only[ba];omega
  have e2:IntKind.u64.wrap (2*r)=2*r:=by rw[aP];simp only[ba];omega
  have e3:IntKind.u64.wrap (q+1)=q+1:=by rw[aP];simp only[ba];omega
  simp only[e1,e2,e3]
  refine⟨by omega,by omega,fun h4=>?_,fun h4=>?_⟩
  all_goals rw[h4]
  ·rw[(lE (n:=q+1) (by omega) (by simp only[ba];omega)).1,(lE (n:=q+1) (by omega) (by simp only[ba];omega)).2];exact⟨rfl,rfl⟩
  ·rw[(lE (n:=q) (by omega) (by simp only[ba];omega)).1,(lE (n:=q) (by omega) (by simp only[ba];omega)).2];exact⟨rfl,rfl⟩
def JJ(a:List R)(K:KT):Prop:=match a with
 |[.d (.v (.int .i64 v)),.d (.v (.int .i64 f)),.d (.v (.int .i64 t))]=>ar v∧K [.d (.v (.int .i64 (bo v f t).1)),.d (.v (.int .i64 (bo v f t).2))] []
 |_=>False
theorem JK:CK gl JJ 112:=fun a K h=>by
 unfold JJ at h
 split at h
 ·obtain⟨h0,hk⟩:=h
  exact(adT _ _ _ h0).gives hk
 ·exact h.elim
def A0:aj:=au AY 112 JJ
theorem uV:ah prog gl A0:=af uU JK
theorem ni{l:List UInt8}{x:Nat}(h:x<l.length):(tx l)[((x:Nat):Int).toNat]? = some l[x]:=by
 rw[Int.toNat_natCast]
 show(if h:x<(tx l).size then some (tx l)[x]else none)=_
 rw[dif_pos (by rw[az];exact h)]
 rfl
theorem Qc{c:UInt8}:(bif decide ((c.toNat:Int)<48)then true else decide ((c.toNat:Int)>57)) = !dT c:=by
 cases hd:dT c
 ·have:¬(48≤c.toNat∧c.toNat≤57):=fun h=>by rw[eG.2 h]at hd;cases hd
  by_cases h1:(c.toNat:Int)<48
  ·rw[decide_eq_true h1];rfl
  ·rw[decide_eq_false h1,decide_eq_true (by omega)];rfl
 ·have:=eG.1 hd
  rw[decide_eq_false (by omega),decide_eq_false (by omega)];rfl
def U9(l:List UInt8)(x:Nat):St:={tm:=[(0,.d (.v (.string (tx l)))),(2,.d (.v (.bool false))),(3,.d (.v (.int .i64 (x:Int))))],hp:=[],kn:=[],gd:=[]}
def qR(l:List UInt8)(m:Nat)(x:Nat):Prop:=x≤l.length∧m=l.length-x∧(l.take x).all dT=true
def JL(l:List UInt8):Fi:={ZJ with lx:=[(2,{X:=Nat,sh:=U9 l,P:=fun _=>qR l})]}
def Zjx(a0:List UInt8)(a1:Nat):St:={tm:=[(0,.d (.v (.string (tx a0)))),(2,.d (.v (.bool false))),(3,.i (↑a1:Int))],hp:=[],kn:=[],gd:=[]:St}
def Zgi(a0:Nat)(a1:List UInt8)(a2:Nat):Prop:=fG a0 fun m x'=>{tm:=[(0,.d (.v (.string (tx a1)))),(2,.d (.v (.bool false))),(3,.i (IntKind.i64.wrap ((↑a2:Int)+1)))],hp:=[],kn:=[],gd:=[]:St}=(Zjx a1 x')∧qR a1 m x'
theorem adU(l:List UInt8)(Q:KT):vc bl A0 bf (JL l) (f154.body.getD .skip) f154.results.toList [.d (.v (.string (tx l)))] Q=(∃(x0:Nat),({tm:=[(0,.d (.v (.string (tx l)))),(2,.d (.v (.bool false))),(3,.i 0)],hp:=[],kn:=[],gd:=[]:St}=(Zjx l x0)∧∃(n:Nat),qR l n x0)∧∀(n:Nat) (x:Nat),qR l n x→(decide ((↑x:Int)<(↑(tx l).size:Int))=true→0≤(↑x:Int)∧True∧∃(c:UInt8),(tx l)[(↑x:Int).toNat]? = some c∧(decide ((↑c.toNat:Int)<48)=false→0≤(↑x:Int)∧True∧∃(c:UInt8),(tx l)[(↑x:Int).toNat]? = some c∧(decide ((↑c.toNat:Int)>57)=true→mu Q)∧(decide ((↑c.toNat:Int)>57)=false→Zgi n l x))∧(decide ((↑c.toNat:Int)<48) = !false→(true=true→mu Q)∧(true=false→Zgi n l x)))∧(decide ((↑x:Int)<(↑(tx l).size:Int))=false→Q [.d (.v (.bool (decide ((↑(tx l).size:Int)>0))))] [])):=by kernel_rfl
theorem adV(l:List UInt8)(h1:l.length≤2000):Ct prog gl 154 [.d (.v (.string (tx l)))] (gives [.d (.v (.bool (aR l)))]):=by
 refine aw bN uV aF bD mixed (fn:=f154) (body:=f154.body.getD .skip) (by kernel_rfl) (by kernel_rfl) (by kernel_rfl) (fi:=(JL l)) (by kernel_rfl) (by kernel_rfl) ⟨_,_,rfl,rfl⟩ ?_
 rw[adU];dsimp -eta -iota -proj only[Zjx,mu,Zgi,fG,fb]
 refine⟨(0:Nat),⟨rfl,l.length,Nat.zero_le _,rfl,rfl⟩,fun m (x:Nat) hx=>⟨fun hi=>?_,fun hi=>?_⟩⟩
 ·obtain⟨a1,a2,a3⟩:=hx
  have hi:=of_decide_eq_true hi
  rw[az]at hi
  have hi:x<l.length:=by omega
  have bad:dT l[x]=false→aR l=false:=fun h=>by
   unfold aR
   rw[Bool.and_eq_false_iff];right
   rw[List.all_eq_false]
   exact⟨l[x],List.getElem_mem hi,by rw[h];decide⟩
  have yE:=Qc (c:=l[x])
  refine⟨by omega,trivial,l[x],ni hi,fun h1=>⟨by omega,trivial,l[x],ni hi,fun h=>?_,fun h=>?_⟩,fun h1=>⟨fun _=>?_,fun h=>by cases h⟩⟩
  ·rw[h1,h]at yE
   rw[bad (by simpa using yE.symm)];exact⟨rfl,rfl⟩
  ·rw[h1,h]at yE
   refine⟨l.length-(x+1),x+1,by omega,by rw[aL (by omega)],hi,rfl,?_⟩
   rw[List.take_add_one,List.getElem?_eq_getElem hi,Option.toList_some,List.all_append,a3]
   simpa using yE.symm
  ·rw[show decide ((l[x].toNat:Int)<48)=true from h1]at yE
   rw[bad (by simpa using yE.symm)];exact⟨rfl,rfl⟩
 ·obtain⟨a1,a2,a3⟩:=hx
  have hi:=of_decide_eq_false hi
  rw[az]at hi ⊢
  have hi:¬x<l.length:=by omega
  rw[List.take_of_length_le (by omega)]at a3
  refine⟨?_,rfl⟩
  unfold aR
  rw[a3,Bool.and_true]
  have:(!l.isEmpty)=decide ((l.length:Int)>0):=by cases l<;>simp
  rw[this]
def JM(a:List R)(K:KT):Prop:=match a with
 |[.d (.v (.string s))]=>s.size≤2000∧K [.d (.v (.bool (aR s.data.toList)))] []
 |_=>False
theorem JN:CK gl JM 154:=fun a K h=>by
 unfold JM at h
 split at h
 ·rename_i s
  exact(adV (gl:=gl) s.data.toList (by rw[size_data];exact h.1)).gives h.2
 ·exact h.elim
def A1:aj:=au A0 154 JM
theorem uW:ah prog gl A1:=af uV JN
def U_(l:List UInt8)(M:Int)(x:Nat):St:={tm:=[(0,.d (.v (.string (tx l)))),(1,.d (.v (.int .u64 M))),(4,.d (.v (.int .u64 0))),(5,.d (.v (.bool false))),(6,.d (.v (.int .u64 (aE 0 (l.take x):Int)))),(7,.d (.v (.int .i64 (x:Int))))],hp:=[],kn:=[],gd:=[]}
def qS(l:List UInt8)(M:Int)(m:Nat)(x:Nat):Prop:=x≤l.length∧m=l.length-x∧(aE 0 (l.take x):Int)≤M
def JO(l:List UInt8)(M:Int):Fi:={ZK with lx:=[(3,{X:=Nat,sh:=U_ l M,P:=fun _=>qS l M})]}
theorem En(l:List UInt8)(x:Nat):aE 0 (l.take x)≤aE 0 l:=by
 have e:aE 0 l=aE (aE 0 (l.take x)) (l.drop x):=by
  conv=>lhs;rw[←List.take_append_drop x l]
  unfold aE
  rw[List.foldl_append]
 rw[e];exact qP _ _
def Zhl(a0:List UInt8)(a1:Int)(a2:Nat):St:={tm:=[(0,.d (.v (.string (tx a0)))),(1,.d (.v (.int .u64 a1))),(4,.d (.v (.int .u64 0))),(5,.d (.v (.bool false))),(6,.d (.v (.int .u64 (↑(aE (0:Nat) (List.take a2 a0)):Int)))),(7,.i (↑a2:Int))],hp:=[],kn:=[],gd:=[]:St}
theorem adW(l:List UInt8)(M:Int)(Q:KT):vc bl A1 bf (JO l M) (f155.body.getD .skip) f155.results.toList [.d (.v (.string (tx l))),.d (.v (.int .u64 M))] Q=(∃(x0:Nat),({tm:=[(0,.d (.v (.string (tx l)))),(1,.d (.v (.int .u64 M))),(4,.d (.v (.int .u64 0))),(5,.d (.v (.bool false))),(6,.d (.v (.int .u64 0))),(7,.i 0)],hp:=[],kn:=[],gd:=[]:St}=(Zhl l M x0)∧∃(n:Nat),qS l M n x0)∧∀(n:Nat) (x:Nat),qS l M n x→(decide ((↑x:Int)<(↑(tx l).size:Int))=true→0≤(↑x:Int)∧True∧∃(c:UInt8),(tx l)[(↑x:Int).toNat]? = some c∧(10:Int)≠(0:Int)∧(decide ((↑(aE (0:Nat) (List.take x l)):Int)>IntKind.u64.wrap ((IntKind.u64.wrap (M-IntKind.u64.wrap (IntKind.u8.wrap ((↑c.toNat:Int)-48)))).tdiv (10:Int)))=true→Q [.d (.v (.int .u64 0)),.d (.v (.bool false))] [])∧(decide ((↑(aE (0:Nat) (List.take x l)):Int)>IntKind.u64.wrap ((IntKind.u64.wrap (M-IntKind.u64.wrap (IntKind.u8.wrap ((↑c.toNat:Int)-48)))).tdiv (10:Int)))=false→fG n fun m x'=>{tm:=[(0,.d (.v (.string (tx l)))),(1,.d (.v (.int .u64 M))),(4,.d (.v (.int .u64 0))),(5,.d (.v (.bool false))),(6,.d (.v (.int .u64 (IntKind.u64.wrap (IntKind.u64.wrap ((10:Int)*(↑(aE (0:Nat) (List.take x l)):Int))+IntKind.u64.wrap (IntKind.u8.wrap ((↑c.toNat:Int)-48))))))),(7,.i (IntKind.i64.wrap ((↑x:Int)+1)))],hp:=[],kn:=[],gd:=[]:St}=(Zhl l M x')∧qS l M m x'))∧(decide ((↑x:Int)<(↑(tx l).size:Int))=false→Q [.d (.v (.int .u64 (↑(aE (0:Nat) (List.take x l)):Int))),.d (.v (.bool true))] [])):=by kernel_rfl
theorem adX(l:List UInt8)(M:Int)(h1:l.length≤2000)(h2:l.all dT=true)(h3:9≤M)(h4:M≤9223372036854775808):Ct prog gl 155 [.d (.v (.string (tx l))),.d (.v (.int .u64 M))] (gives [.d (.v (.int .u64 (bif decide ((aE 0 l:Int)≤M)then(aE 0 l:Int)else 0))),.d (.v (.bool (decide ((aE 0 l:Int)≤M))))]):=by
 refine aw bN uW aF bD mixed (fn:=f155) (body:=f155.body.getD .skip) (by kernel_rfl) (by kernel_rfl) (by kernel_rfl) (fi:=(JO l M)) (by kernel_rfl) (by kernel_rfl) ⟨_,_,rfl,rfl⟩ ?_
 rw[adW];dsimp -eta -iota -proj only[Zhl,fG,fb]
 refine⟨(0:Nat),⟨rfl,l.length,Nat.zero_le _,rfl,by show(0:Int)≤M;omega⟩,fun m (x:Nat) hx=>⟨fun hi=>?_,fun hi=>?_⟩⟩
 ·obtain⟨a1,a2,a3⟩:=hx
  have hi:=of_decide_eq_true hi
  rw[az]at hi
  have hi:x<l.length:=by omega
  have hd:=eG.1 (List.all_eq_true.1 h2 _ (List.getElem_mem hi))
  have hs:aE 0 (l.take (x+1))=10*aE 0 (l.take x)+(l[x].toNat-48):=by
   rw[List.take_add_one,List.getElem?_eq_getElem hi,Option.toList_some,uN]
  have hmo:=En l (x+1)
  refine⟨by omega,trivial,l[x],ni hi,by decide,?_⟩
  have e1:IntKind.u64.wrap (IntKind.u8.wrap ((l[x].toNat:Int)-48))=(l[x].toNat:Int)-48:=by
   have:IntKind.u8.wrap ((l[x].toNat:Int)-48)=((l[x].toNat:Int)-48) % 256:=by simp[IntKind.wrap,IntKind.signed,IntKind.bits]
   rw[this,aP];simp only[ba];omega
  rw[e1]
  have e2:IntKind.u64.wrap (M-((l[x].toNat:Int)-48))=M-((l[x].toNat:Int)-48):=by rw[aP];simp only[ba];omega
  rw[e2,Int.tdiv_eq_ediv_of_nonneg (by omega)]
  have e3:IntKind.u64.wrap ((M-((l[x].toNat:Int)-48))/10)=(M-((l[x].toNat:Int)-48))/10:=by rw[aP];simp only[ba];omega
  rw[e3]
  generalize aE 0 (l.take x)=N at *
  refine⟨fun h=>?_,fun h=>?_⟩
  ·have h:=of_decide_eq_true h
   rw[decide_eq_false (by omega)];exact⟨rfl,rfl⟩
  ·have h:=of_decide_eq_false h
   have e4:IntKind.u64.wrap (10*(N:Int))=10*(N:Int):=by rw[aP];simp only[ba];omega
   have e5:IntKind.u64.wrap (10*(N:Int)+((l[x].toNat:Int)-48))=((aE 0 (l.take (x+1)):Nat):Int):=by rw[aP,hs];simp only[ba];omega
   refine⟨l.length-(x+1),x+1,by omega,by rw[aL (by omega),e4,e5],hi,rfl,by rw[hs];omega⟩
 ·obtain⟨a1,a2,a3⟩:=hx
  have hi:=of_decide_eq_false hi
  rw[az]at hi
  have hi:¬x<l.length:=by omega
  rw[List.take_of_length_le (by omega)]at a3 ⊢
  rw[decide_eq_true a3];exact⟨rfl,rfl⟩
def JP(a:List R)(K:KT):Prop:=match a with
 |[.d (.v (.string s)),.d (.v (.int .u64 M))]=>s.size≤2000∧s.data.toList.all dT=true∧9≤M∧M≤9223372036854775808∧K [.d (.v (.int .u64 (bif decide ((aE 0 s.data.toList:Int)≤M)then(aE 0 s.data.toList:Int)else 0))),.d (.v (.bool (decide ((aE 0 s.data.toList:Int)≤M))))] []
 |_=>False
theorem JQ:CK gl JP 155:=fun a K h=>by
 unfold JP at h
 split at h
 ·rename_i s M
  exact(adX (gl:=gl) s.data.toList M (by rw[size_data];exact h.1) h.2.1 h.2.2.1 h.2.2.2.1).gives h.2.2.2.2
 ·exact h.elim
def A2:aj:=au A1 155 JP
theorem uX:ah prog gl A2:=af uW JQ
end Go.Proofs.Tryz
set_option maxRecDepth 100000
namespace Go.Ex
open Go Go.Dm
theorem Eo(m:Nat):bg 1 m []=Lib.itoa (m:Int):=by
 rw[jZ 1 m (Nat.le_refl _),Lib.itoa_nonneg]
 unfold di
 have:1≤(Lib.decDigits m).length:=by
  have key:∀u:Nat,1≤(Lib.decDigits u).length:=by
   intro u
   rw[Lib.decDigits]
   split
   ·exact Nat.le_refl _
   ·rw[List.length_append];simp
  exact key m
 rw[if_neg (by omega)]
 rfl
theorem JR(n:Int):Lib.itoa n=if n<0 then 45::bg 1 n.natAbs []else bg 1 n.natAbs []:=by
 rw[Eo,Lib.itoa_nonneg]
 unfold Lib.itoa
 split
 ·rfl
 ·congr 1;omega
def kO(y:Int):Bool:=bif (bif y.tmod 4==0 then y.tmod 100 != 0 else false)then true else y.tmod 400==0
theorem Qd(y:Int):gU y=bif kO y then 1 else 0:=rfl
theorem yX{y m:Int}(h1:1≤m)(h2:m≤12):bB y m=if m=4∨m=6∨m=9∨m=11 then 30 else if m=2 then(bif kO y then 29 else 28)else 31:=by
 have:m=1∨m=2∨m=3∨m=4∨m=5∨m=6∨m=7∨m=8∨m=9∨m=10∨m=11∨m=12:=by omega
 rcases this with rfl|rfl|rfl|rfl|rfl|rfl|rfl|rfl|rfl|rfl|rfl|rfl<;>simp[bB,sE,Qd]
 cases kO y<;>rfl
end Go.Ex
namespace Go.Proofs.Tryz
open Go Go.Dm Go.Ex
set_option maxRecDepth 100000
variable {gl:Nat→Option Obj}
theorem JS{y:Int}(h:y.tmod 4≠0):y.tmod 400≠0:=fun e=>h (by
 have h1:(400:Int) ∣ y:=Int.dvd_of_tmod_eq_zero e
 exact Int.tmod_eq_zero_of_dvd (Int.dvd_trans ⟨100,by decide⟩ h1))
theorem adY(y:Int)(Q:KT):vc NS A2 bf R9 (f153.body.getD .skip) f153.results.toList [.d (.v (.int .i64 y))] Q=((4:Int)≠(0:Int)∧((y.tmod (4:Int)==0)=true→(100:Int)≠(0:Int)∧((y.tmod (100:Int) != (0:Int))=false→(400:Int)≠(0:Int)∧Q [.d (.v (.bool (y.tmod (400:Int)==0)))] [])∧((y.tmod (100:Int) != (0:Int)) = !false→Q Hz []))∧((y.tmod (4:Int)==0) = !true→mu Q)):=by kernel_rfl
theorem adZ(y:Int):Ct prog gl 153 [.d (.v (.int .i64 y))] (gives [.d (.v (.bool (kO y)))]):=by
 refine aw (E:=NS) ⟨bN.te⟩ uX aF (fun _ _ _ h=>h.elim) mixed (fn:=f153) (body:=f153.body.getD .skip) (by kernel_rfl) (by kernel_rfl) (by kernel_rfl) (fi:=R9) (by kernel_rfl) (by kernel_rfl) ⟨_,_,rfl,rfl⟩ ?_
 rw[adY];dsimp -eta -iota -proj only[Hz,mu]
 generalize hQ:gives [.d (.v (.bool (kO y)))]=Q'
 (repeat' (first|(with_reducible refine And.intro ?_ ?_)|(intro hh;first|(exact absurd hh (by decide))|skip)))
 all_goals first
  |(decide)
  |(rw[←hQ];refine⟨?_,rfl⟩;simp only[kO, *,cond_true,cond_false];first|done|rfl)
  |(rw[←hQ];refine⟨?_,rfl⟩;unfold kO;simp_all;done)
  |(rw[←hQ];refine⟨?_,rfl⟩;unfold kO;simp_all;exact JS ‹_›)
def JT(a:List R)(K:KT):Prop:=match a with
 |[.d (.v (.int .i64 y))]=>K [.d (.v (.bool (kO y)))] []
 |_=>False
theorem JU:CK gl JT 153:=fun a K h=>by
 unfold JT at h
 split at h
 ·exact(adZ _).gives h
 ·exact h.elim
def A3:aj:=au A2 153 JT
theorem uY:ah prog gl A3:=af uX JU
def ig(y m:Int):Int:=if m=4∨m=6∨m=9∨m=11 then 30 else if m=2 then(bif kO y then 29 else 28)else 31
theorem sO{y m:Int}(h1:1≤m)(h2:m≤12):ig y m=bB y m:=(yX h1 h2).symm
theorem ad1(y m:Int)(Q:KT):vc bl A3 bf RT (f135.body.getD .skip) f135.results.toList [.d (.v (.int .i64 y)),.d (.v (.int .i64 m))] Q=(Fe m (4:Int) Q (30:Int) ((Ff m (4:Int) (6:Int) Q (30:Int) ((Ff m (6:Int) (9:Int) Q (30:Int) ((Ff m (9:Int) (11:Int) Q (30:Int) (((m==11)=false→((m==2)=true→(kO y=true→Q [.d (.i 29)] [])∧(kO y=false→Q [.d (.i 28)] []))∧((m==2)=false→Q [.d (.i 31)] [])))))))))):=by kernel_rfl
theorem ad2(y m:Int):Ct prog gl 135 [.d (.v (.int .i64 y)),.d (.v (.int .i64 m))] (gives [.d (.v (.int .i64 (ig y m)))]):=by
 refine cz uY f135 RT ⟨_,_,rfl,rfl⟩ ?_
 rw[ad1];dsimp -eta -iota -proj only[Fe,Uu,Ff]
 generalize hQ:gives [.d (.v (.int .i64 (ig y m)))]=Q'
 (repeat' (first|(with_reducible refine And.intro ?_ ?_)|(intro hh;first|(exact absurd hh (by decide))|skip)))
 all_goals(rw[←hQ];refine⟨?_,rfl⟩;unfold ig;simp_all;done)
def JV(a:List R)(K:KT):Prop:=match a with
 |[.d (.v (.int .i64 y)),.d (.v (.int .i64 m))]=>K [.d (.v (.int .i64 (ig y m)))] []
 |_=>False
theorem JW:CK gl JV 135:=fun a K h=>by
 unfold JV at h
 split at h
 ·exact(ad2 _ _).gives h
 ·exact h.elim
def A4:aj:=au A3 135 JV
theorem uZ:ah prog gl A4:=af uY JW
theorem ad3(y:Int)(Q:KT):vc bl A4 bf RS (f134.body.getD .skip) f134.results.toList [.d (.v (.int .i64 y))] Q=((4:Int)≠(0:Int)∧(100:Int)≠(0:Int)∧(400:Int)≠(0:Int)∧Q [.d (.i (IntKind.i64.wrap (IntKind.i64.wrap (IntKind.i64.wrap (IntKind.i64.wrap ((365:Int)*IntKind.i64.wrap (y-1))+IntKind.i64.wrap ((IntKind.i64.wrap (y-1)).tdiv (4:Int)))-IntKind.i64.wrap ((IntKind.i64.wrap (y-1)).tdiv (100:Int)))+IntKind.i64.wrap ((IntKind.i64.wrap (y-1)).tdiv (400:Int)))))] []):=by kernel_rfl
theorem ad4(y:Int)(h1:1≤y)(h2:y≤100000):Ct prog gl 134 [.d (.v (.int .i64 y))] (gives [.d (.v (.int .i64 (aC y)))]):=by
 refine cz uZ f134 RS ⟨_,_,rfl,rfl⟩ ?_
 rw[ad3]
 refine⟨by decide,by decide,by decide,?_⟩
 rw[ai (n:=y-1) (by omega) (by omega),Int.tdiv_eq_ediv_of_nonneg (by omega),Int.tdiv_eq_ediv_of_nonneg (by omega),Int.tdiv_eq_ediv_of_nonneg (by omega)]
 unfold aC
 have hz:0≤y-1∧y-1≤99999:=by omega
 generalize y-1=z at *
 rw[ai (n:=365*z) (by omega) (by omega),ai (n:=z/4) (by omega) (by omega),ai (n:=z/100) (by omega) (by omega),ai (n:=z/400) (by omega) (by omega),ai (n:=365*z+z/4) (by omega) (by omega),ai (n:=365*z+z/4-z/100) (by omega) (by omega),ai (n:=365*z+z/4-z/100+z/400) (by omega) (by omega),Int.mul_comm 365 z]
 exact⟨rfl,rfl⟩
def JX(a:List R)(K:KT):Prop:=match a with
 |[.d (.v (.int .i64 y))]=>1≤y∧y≤100000∧K [.d (.v (.int .i64 (aC y)))] []
 |_=>False
theorem JY:CK gl JX 134:=fun a K h=>by
 unfold JX at h
 split at h
 ·obtain⟨h0,h1,hk⟩:=h
  exact(ad4 _ h0 h1).gives hk
 ·exact h.elim
def A5:aj:=au A4 134 JX
theorem u0:ah prog gl A5:=af uZ JY
def U'(y m d:Int)(x:Nat):St:={tm:=[(0,.d (.v (.int .i64 y))),(1,.d (.v (.int .i64 m))),(6,.d (.v (.int .i64 0))),(7,.d (.v (.int .i64 0))),(8,.d (.v (.int .i64 (-719162+aC y+d-1+cO y x)))),(9,.d (.v (.int .i64 ((x:Int)+1))))],hp:=[],kn:=[],gd:=[]}
def qT(y m d:Int)(k:Nat)(x:Nat):Prop:=(x:Int)<m∧k=m.toNat-x
def JZ(y m d:Int):Fi:={ZL with lx:=[(5,{X:=Nat,sh:=U' y m d,P:=fun _=>qT y m d})]}
theorem ad5(y m d:Int)(Q:KT):vc bl A5 bf (JZ y m d) (f156.body.getD .skip) f156.results.toList [.d (.v (.int .i64 y)),.d (.v (.int .i64 m)),.d (.v (.int .i64 d))] Q=(((bif bif bif bif bif decide (y<1)then true else decide (y>9999)then true else decide (m<1)then true else decide (m>12)then true else decide (d<1)then true else decide (d>ig y m))=true→dK Q (0:Int) (13:Int))∧((bif bif bif bif bif decide (y<1)then true else decide (y>9999)then true else decide (m<1)then true else decide (m>12)then true else decide (d<1)then true else decide (d>ig y m))=false→1≤y∧y≤100000∧∃(x0:Nat),({tm:=[(0,.i y),(1,.i m),(6,.i 0),(7,.i 0),(8,.i (IntKind.i64.wrap (IntKind.i64.wrap (aC y+(-719162:Int))+IntKind.i64.wrap (d-1)))),(9,.i 1)],hp:=[],kn:=[],gd:=[]:St}=(WJ y m d x0)∧∃(n:Nat),qT y m d n x0)∧∀(n:Nat) (x:Nat),qT y m d n x→(decide ((↑x:Int)+1<m)=true→fG n fun m_1 x'=>{tm:=[(0,.i y),(1,.i m),(6,.i 0),(7,.i 0),(8,.i (IntKind.i64.wrap ((-719162:Int)+aC y+d-1+cO y x+ig y ((↑x:Int)+1)))),(9,.i (IntKind.i64.wrap ((↑x:Int)+1+(1:Int))))],hp:=[],kn:=[],gd:=[]:St}=(WJ y m d x')∧qT y m d m_1 x')∧(decide ((↑x:Int)+1<m)=false→Q [.d (.i ((-719162:Int)+aC y+d-1+cO y x)),.d (.i 0)] []))):=by kernel_rfl
theorem ad6(y m d:Int):Ct prog gl 156 [.d (.v (.int .i64 y)),.d (.v (.int .i64 m)),.d (.v (.int .i64 d))] (gives [.d (.v (.int .i64 (dp y m d).1)),.d (.v (.int .i64 (dp y m d).2))]):=by
 refine aw bN u0 aF bD mixed (fn:=f156) (body:=f156.body.getD .skip) (by kernel_rfl) (by kernel_rfl) (by kernel_rfl) (fi:=(JZ y m d)) (by kernel_rfl) (by kernel_rfl) ⟨_,_,rfl,rfl⟩ ?_
 rw[ad5];dsimp -eta -iota -proj only[dK,WJ,fG,fb]
 have hg:(bif bif bif bif bif decide (y<1)then true else decide (y>9999)then true else decide (m<1)then true else decide (m>12)then true else decide (d<1)then true else decide (d>ig y m))=decide (y<1∨9999<y∨m<1∨12<m∨d<1∨bB y m<d):=by
  by_cases h:1≤m∧m≤12
  ·rw[sO h.1 h.2]
   by_cases a1:y<1<;>by_cases a2:y>9999<;>by_cases a3:m<1<;>by_cases a4:m>12<;>by_cases a5:d<1<;>by_cases a6:d>bB y m<;>simp[a1,a2,a3,a4,a5,a6]<;>omega
  ·have a:m<1∨12<m:=by omega
   rcases a with a|a
   ·simp[a]
   ·simp[a]
 rw[hg]
 refine⟨fun h=>?_,fun h=>?_⟩
 ·unfold dp;rw[if_pos (by have:=of_decide_eq_true h;omega)];exact⟨rfl,rfl⟩
 have h:=of_decide_eq_false h
 refine⟨by omega,by omega,?_⟩
 have hm:28≤bB y m∧bB y m≤31:=eI (by omega) (by omega) (by omega)
 have hy:=fB (y:=y) (by omega) (by omega)
 have hd1:1≤d∧d≤bB y m:=by omega
 have e:dp y m d=(-719162+aC y+d-1+cO y (m-1).toNat,0):=by unfold dp;rw[if_neg (by omega)]
 rw[e]
 refine⟨(0:Nat),⟨?_,m.toNat,by show((0:Nat):Int)<m;omega,by simp⟩,fun n (x:Nat) hx=>⟨fun hi=>?_,fun hi=>?_⟩⟩
 ·rw[a_ (n:=aC y + -719162) (by omega),a_ (n:=d-1) (by omega),a_ (n:=aC y + -719162+(d-1)) (by omega)]
  show _=St.mk _ _ _ _ _
  have:cO y 0=0:=rfl
  rw[this,Int.add_zero,show -719162+aC y+d-1=aC y + -719162+(d-1) by omega]
  rfl
 ·obtain⟨tv,hx2⟩:=hx
  have hi:=of_decide_eq_true hi
  have h0:=dh (y:=y) (by omega) (Nat.zero_le x) (by omega)
  have h1:=dh (y:=y) (j:=x) (k:=12) (by omega) (by omega) (by omega)
  have h2:=eI (y:=y) (m:=(x:Int)+1) (by omega) (by omega) (by omega)
  have h3:=sF y
  rw[kB y (by omega)]at h1
  have h4:cO y 0=0:=rfl
  refine⟨n-1,x+1,by omega,?_,?_,?_⟩
  ·rw[sO (by omega) (by omega),a_ (n:=-719162+aC y+d-1+cO y x+bB y (x+1)) (by omega),a_ (n:=(x:Int)+1+1) (by omega)]
   show _=St.mk _ _ _ _ _
   have e1:((x+1:Nat):Int)=(x:Int)+1:=by omega
   rw[e1]
   simp only[cO,Int.add_assoc]
  ·show((x+1:Nat):Int)<m;omega
  ·show n-1=m.toNat-(x+1);omega
 ·obtain⟨tv,hx2⟩:=hx
  have hi:=of_decide_eq_false hi
  have:(m-1).toNat=x:=by omega
  rw[this]
  exact⟨rfl,rfl⟩
def J0(a:List R)(K:KT):Prop:=match a with
 |[.d (.v (.int .i64 y)),.d (.v (.int .i64 m)),.d (.v (.int .i64 d))]=>K [.d (.v (.int .i64 (dp y m d).1)),.d (.v (.int .i64 (dp y m d).2))] []
 |_=>False
theorem J1:CK gl J0 156:=fun a K h=>by
 unfold J0 at h
 split at h
 ·exact(ad6 _ _ _).gives h
 ·exact h.elim
def A6:aj:=au A5 156 J0
theorem u9:ah prog gl A6:=af u0 J1
structure PX where
 m:Nat
 s:List UInt8
def Va(k:Nat)(x:PX):St:={tm:=[(0,.d (.v (.int .u64 (x.m:Int)))),(1,.d (.v (.int .i64 (k:Int)))),(4,.d (.v (.string eB))),(5,.d (.v (.string (tx x.s))))],hp:=[],kn:=[],gd:=[]}
def qU(n k:Nat)(f:Nat)(x:PX):Prop:=f=x.m+(k-x.s.length)∧x.m≤n∧bg k x.m x.s=bg k n []
def J2(n k:Nat):Fi:={akh with lx:=[(2,{X:=PX,sh:=Va k,P:=fun _=>qU n k})]}
def Zip(a0:PX)(a1:Nat):St:={tm:=[(0,.d (.v (.int .u64 (↑a0.1:Int)))),(1,.i (↑a1:Int)),(4,.d (.v (.string eB))),(5,.d (.v (.string (tx a0.2))))],hp:=[],kn:=[],gd:=[]:St}
theorem ad7(n k:Nat)(Q:KT):vc bl A6 bf (J2 n k) (f82.body.getD .skip) f82.results.toList [.d (.v (.int .u64 (n:Int))),.d (.v (.int .i64 (k:Int)))] Q=(∃(x0:PX),({tm:=[(0,.d (.v (.int .u64 (↑n:Int)))),(1,.i (↑k:Int)),(4,.d (.v (.string ⟨⟨[]⟩⟩))),(5,.d (.v (.string ⟨⟨[]⟩⟩)))],hp:=[],kn:=[],gd:=[]:St}=(Zip x0 k)∧∃(aN:Nat),qU n k aN x0)∧∀(aN:Nat) (x:PX),qU n k aN x→((bif decide ((↑x.1:Int)>0)then true else decide ((↑(tx x.2).size:Int)<(↑k:Int)))=true→(10:Int)≠(0:Int)∧∃(b:ByteArray),[[D.v (.int .u8 (IntKind.u8.wrap (IntKind.u64.wrap ((48:Int)+(↑x.1:Int).tmod (10:Int)))))]]=gX b.data.1∧b.size.add (tx x.2).size≤(9223372036854775807:Nat)∧(10:Int)≠(0:Int)∧∃(m:Nat),∃(x':PX),m<aN∧{tm:=[(0,.d (.v (.int .u64 (IntKind.u64.wrap ((↑x.1:Int).tdiv (10:Int)))))),(1,.i (↑k:Int)),(4,.d (.v (.string eB))),(5,.d (.v (.string (b++tx x.2))))],hp:=[],kn:=[],gd:=[]:St}=(Zip x' k)∧qU n k m x')∧((bif decide ((↑x.1:Int)>0)then true else decide ((↑(tx x.2).size:Int)<(↑k:Int)))=false→Q [.d (.v (.string (tx x.2)))] [])):=by kernel_rfl
theorem ad8(n k:Nat)(h1:n<18446744073709551616)(h2:k≤1000000000):Ct prog gl 82 [.d (.v (.int .u64 (n:Int))),.d (.v (.int .i64 (k:Int)))] (gives [.d (.v (.string (tx (bg k n []))))]):=by
 refine aw bN u9 aF bD mixed (fn:=f82) (body:=f82.body.getD .skip) (by kernel_rfl) (by kernel_rfl) (by kernel_rfl) (fi:=(J2 n k)) (by kernel_rfl) (by kernel_rfl) ⟨_,_,rfl,rfl⟩ ?_
 rw[ad7];dsimp -eta -iota -proj only[Zip]
 refine⟨⟨n,[]⟩,⟨rfl,n+(k-0),rfl,Nat.le_refl _,rfl⟩,fun f (x:PX) hx=>?_⟩
 obtain⟨hf,hm,ht⟩:=hx
 have hz:(tx x.s).size=x.s.length:=az _
 refine⟨fun hc=>?_,fun hc=>?_⟩
 ·have hc:0<x.m∨x.s.length<k:=by
   rw[hz]at hc
   revert hc
   by_cases a:(x.m:Int)>0
   ·intro _;exact Or.inl (by omega)
   ·rw[decide_eq_false a]
    intro hc
    exact Or.inr (by have:=of_decide_eq_true hc;omega)
  have e0:(x.m:Int).tmod 10=((x.m % 10:Nat):Int):=by rw[Int.tmod_eq_emod_of_nonneg (by omega)];omega
  have e1:(x.m:Int).tdiv 10=((x.m/10:Nat):Int):=by rw[Int.tdiv_eq_ediv_of_nonneg (by omega)];omega
  have eb:gX (tx [UInt8.ofNat (48+x.m % 10)]).data.toList=[[D.v (.int .u8 ((48+x.m % 10:Nat):Int))]]:=by
   show [[D.v (.int .u8 ((UInt8.ofNat (48+x.m % 10)).toNat:Int))]]=_
   rw[UInt8.toNat_ofNat',Nat.mod_eq_of_lt (by omega)]
  refine⟨by decide,tx [UInt8.ofNat (48+x.m % 10)],?_,?_,by decide,x.m/10+(k-(x.s.length+1)),⟨x.m/10,UInt8.ofNat (48+x.m % 10)::x.s⟩,?_,?_,rfl,?_,?_⟩
  ·rw[eb,e0,aP]
   have:IntKind.u8.wrap ((48+((x.m % 10:Nat):Int)) % ba)=((48+x.m % 10:Nat):Int):=by
    rw[Int.emod_eq_of_lt (by omega) (by simp only[ba];omega)]
    show(48+((x.m % 10:Nat):Int)) % 256=_
    omega
   rw[this]
  ·rw[hz]
   show 1+x.s.length≤_
   have e2:=iQ k n [] (by omega)
   have e3:x.s.length≤(bg k x.m x.s).length:=by unfold bg;simp only[List.length_append];omega
   rw[ht]at e3
   simp only[List.length_nil]at e2
   omega
  ·show x.m/10+(k-(x.s.length+1))<f
   omega
  ·rw[e1,aP,Int.emod_eq_of_lt (by omega) (by simp only[ba];omega)]
   rfl
  ·show x.m/10≤n
   omega
  ·show bg k (x.m/10) (_::x.s)=_
   rw[←ht]
   rcases Nat.eq_zero_or_pos x.m with Xv|Xv
   ·rw[Xv];exact AS (by omega)
   ·exact AR Xv
 ·have hc:x.m=0∧k≤x.s.length:=by
   rw[hz]at hc
   revert hc
   by_cases a:(x.m:Int)>0
   ·rw[decide_eq_true a];intro h;cases h
   ·rw[decide_eq_false a]
    intro hc
    have:=of_decide_eq_false hc
    omega
  rw[←ht,hc.1,Em hc.2]
  exact⟨rfl,rfl⟩
def J3(a:List R)(K:KT):Prop:=match a with
 |[.d (.v (.int .u64 x0)),.d (.v (.int .i64 x1))]=>∃(n:Nat) (k:Nat),x0=(n:Int)∧x1=(k:Int)∧n<18446744073709551616∧k≤1000000000∧K [.d (.v (.string (tx (bg k n []))))] []
 |_=>False
theorem J4:CK gl J3 82:=fun a K h=>by
 unfold J3 at h
 split at h
 ·obtain⟨n,k,rfl,rfl,h0,h1,hk⟩:=h
  exact(ad8 n k h0 h1).gives hk
 ·exact h.elim
def A7:aj:=au A6 82 J3
theorem u_:ah prog gl A7:=af u9 J4
end Go.Proofs.Tryz
