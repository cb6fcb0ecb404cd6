/- A part of the proof: contracts of functions, by a verified generator of conditions; no condition of its own. -/
import Derived.Test.YthhomimmnogngaaGreatDoorE1
import Derived.Lib.ItoaLen
import Derived.Lib.ReplaceLaws
set_option maxRecDepth 100000
namespace Go.Ex
open Go
theorem years_mono{y z:Int}(h:1≤y)(h2:y<z):yearsP (y+1)≤yearsP z:=by
 unfold yearsP;omega
def IsCiv(n y m d:Int):Prop:=1≤y∧y≤9999∧1≤m∧m≤12∧1≤d∧d≤monthP y m∧n = -719162+yearsP y+d-1+sumM y (m-1).toNat
theorem civ_off{n y m d:Int}(h:IsCiv n y m d):sumM y (m-1).toNat≤n+719162-yearsP y∧n+719162-yearsP y<sumM y ((m-1).toNat+1)∧0≤n+719162-yearsP y∧n+719162<yearsP (y+1):=by
 obtain⟨h1,h2,h3,h4,h5,h6,h7⟩:=h
 have e:((m-1).toNat:Int)+1=m:=by omega
 have m0:=sumM_mono (y:=y) (by omega) (Nat.zero_le (m-1).toNat) (by omega)
 have m1:=sumM_mono (y:=y) (j:=(m-1).toNat+1) (k:=12) (by omega) (by omega) (by omega)
 rw[sumM_12 y (by omega)]at m1
 have hs:=years_step (y:=y) h1
 have h0:sumM y 0=0:=rfl
 simp only[sumM,e]at m1 ⊢
 omega
theorem civ_unique{n y m d y' m' d':Int}(h:IsCiv n y m d)(h':IsCiv n y' m' d'):y=y'∧m=m'∧d=d':=by
 have a:=civ_off h
 have b:=civ_off h'
 have hy:y=y':=by
  rcases Int.lt_trichotomy y y' with hl|hl|hl
  ·have:=years_mono h.1 hl;omega
  ·exact hl
  ·have:=years_mono h'.1 hl;omega
 subst hy
 have hm:(m-1).toNat=(m'-1).toNat:=by
  obtain⟨h1,h2,h3,h4,h5,h6,h7⟩:=h
  obtain⟨g1,g2,g3,g4,g5,g6,g7⟩:=h'
  rcases Nat.lt_trichotomy (m-1).toNat (m'-1).toNat with hl|hl|hl
  ·have:=sumM_mono (y:=y) (j:=(m-1).toNat+1) (k:=(m'-1).toNat) (by omega) (by omega) (by omega);omega
  ·exact hl
  ·have:=sumM_mono (y:=y) (j:=(m'-1).toNat+1) (k:=(m-1).toNat) (by omega) (by omega) (by omega);omega
 have hm':m=m':=by have:=h.2.2.1;have:=h'.2.2.1;omega
 subst hm'
 exact⟨rfl,rfl,by have:=h.2.2.2.2.2.2;have:=h'.2.2.2.2.2.2;omega⟩
theorem find_step(f:Nat→Int)(N:Int)(h0:f 0≤N):∀k,N<f k→∃j,j<k∧f j≤N∧N<f (j+1)
 |0,h=>by omega
 |k+1,h=>by
  by_cases hk:N<f k
  ·obtain⟨j,a,b,c⟩:=find_step f N h0 k hk
   exact⟨j,by omega,b,c⟩
  ·exact⟨k,by omega,by omega,h⟩
theorem civ_exists{n:Int}(h1:-719162≤n)(h2:n≤2932896):∃y m d,IsCiv n y m d:=by
 obtain⟨j,a,b,c⟩:=find_step (fun k=>yearsP ((k:Int)+1)) (n+719162) (by show yearsP 1≤_;have:yearsP 1=0:=rfl;omega) 9999 (by show _<yearsP 10000;have:yearsP 10000=3652059:=rfl;omega)
 have hs:=years_step (y:=(j:Int)+1) (by omega)
 have e:((j+1:Nat):Int)+1=(j:Int)+1+1:=by omega
 rw[e]at c
 obtain⟨m,a',b',c'⟩:=find_step (sumM ((j:Int)+1)) (n+719162-yearsP ((j:Int)+1)) (by show(0:Int)≤_;omega) 12 (by rw[sumM_12 _ (by omega)];omega)
 refine⟨(j:Int)+1,(m:Int)+1,n+719162-yearsP ((j:Int)+1)-sumM ((j:Int)+1) m+1,by omega,by omega,by omega,by omega,by omega,?_,?_⟩
 ·simp only[sumM]at c';omega
 ·rw[show((m:Int)+1-1).toNat=m by omega];omega
def padL(l:List UInt8)(n:Int):List UInt8:=Lib.repeatL [48] (if n-(l.length:Int)>0 then n-(l.length:Int)else 0).toNat++l
theorem repeat_len(c:UInt8):∀n:Nat,(Lib.repeatL [c] n).length=n
 |0=>rfl
 |n+1=>by simp[Lib.repeatL,repeat_len c n]
theorem padL_len(l:List UInt8)(n:Int):((padL l n).length:Int)=if n>(l.length:Int)then n else(l.length:Int):=by
 unfold padL
 rw[List.length_append,repeat_len]
 split<;>split<;>omega
def decT(v n:Int):List UInt8:=
 let s:=padL (Lib.trimPrefix (Lib.itoa v) [45]) (n+1)
 let t:=if n>0 then(s.take (s.length-n.toNat)++[46])++s.drop (s.length-n.toNat)else s
 if Lib.hasPrefix (Lib.itoa v) [45]then 45::t else t
def dayT(y m d:Int):List UInt8:=(((padL (Lib.itoa y) 4++[45])++padL (Lib.itoa m) 2)++[45])++padL (Lib.itoa d) 2
open Classical in
noncomputable def dayTx(n:Int):List UInt8:=if h:∃p:Int×Int×Int,IsCiv n p.1 p.2.1 p.2.2 then dayT h.choose.1 h.choose.2.1 h.choose.2.2 else []
theorem dayTx_of{n y m d:Int}(h:IsCiv n y m d):dayTx n=dayT y m d:=by
 have hx:∃p:Int×Int×Int,IsCiv n p.1 p.2.1 p.2.2:=⟨(y,m,d),h⟩
 unfold dayTx
 rw[dif_pos hx]
 obtain⟨e1,e2,e3⟩:=civ_unique hx.choose_spec h
 rw[e1,e2,e3]
theorem itoa_len{n:Int}(h:in64 n):(Lib.itoa n).length≤21:=Lib.itoa_length_le n h.1 (by have:=h.2;omega)
theorem padL_le{l:List UInt8}{n:Int}{k:Nat}(h1:l.length≤k)(h2:n≤k):(padL l n).length≤k:=by
 have:=padL_len l n
 split at this<;>omega
theorem trimPrefix_len(l p:List UInt8):(Lib.trimPrefix l p).length≤l.length:=by
 unfold Lib.trimPrefix
 split
 ·simp
 ·exact Nat.le_refl _
noncomputable def showL(v:AV):List UInt8:=
 bif v.nul then [78,85,76,76]else bif (bif v.t.k==1 then v.n==0 else false)then [70,65,76,83,69]else bif v.t.k==1 then [84,82,85,69]
 else bif v.t.k==4 then([39]++Lib.replaceAll v.s.data.toList [39] [39,39])++[39]
 else bif v.t.k==3 then decT v.n v.t.sc else bif v.t.k==5 then dayTx v.n else Lib.itoa v.n
end Go.Ex
set_option maxRecDepth 100000
namespace Go.Ex
open Go
def pOk(l:List UInt8):Bool:=match Lib.parseIntB 64 l with | .ok _=>true|_=>false
def pVal(l:List UInt8):Int:=match Lib.parseIntB 64 l with | .ok v=>v | .range=>Lib.intSat 64 l|_=>0
def fitsD(n:Int):Bool:=bif decide ((-999999999999999999:Int)≤n)then decide (n≤(999999999999999999:Int))else false
theorem fitsD_iff{n:Int}:fitsD n=true↔-999999999999999999≤n∧n≤999999999999999999:=by
 unfold fitsD
 by_cases h1:(-999999999999999999:Int)≤n<;>simp[h1]
theorem intOf_eq(l:List UInt8):intOf l=if digP (Lib.trimPrefix l [45])then(if pOk l then(pVal l,0)else(0,10))else(0,12):=by
 unfold intOf pOk pVal
 split
 ·cases Lib.parseIntB 64 l<;>simp
 ·rfl
def decOf(l:List UInt8):Int×Int×Int:=
 let c:=Lib.cut (Lib.trimPrefix l [45]) [46]
 if(!digP c.1||(c.2.2 && !digP c.2.1))then(0,0,12)
 else if(c.2.1.length:Int)>18 then(0,0,10)
 else if(!pOk (c.1++c.2.1) || !fitsD (pVal (c.1++c.2.1)))then(0,0,10)
 else(if l.head? = some 45 then -pVal (c.1++c.2.1)else pVal (c.1++c.2.1),(c.2.1.length:Int),0)
theorem decOf_ok{l:List UInt8}(h:(decOf l).2.2=0):fitsD (decOf l).1=true∧0≤(decOf l).2.1∧(decOf l).2.1≤18:=by
 unfold decOf at h ⊢
 dsimp only at h ⊢
 split at h
 ·cases h
 ·rename_i h1
  rw[if_neg h1]
  split at h
  ·cases h
  ·rename_i h2
   rw[if_neg h2]
   split at h
   ·cases h
   ·rename_i h3
    rw[if_neg h3]
    simp only[Bool.or_eq_true,Bool.not_eq_true',not_or,Bool.not_eq_false]at h3
    have:=fitsD_iff.1 h3.2
    refine⟨?_,Int.natCast_nonneg _,by dsimp only;omega⟩
    dsimp only
    rw[fitsD_iff]
    split<;>omega
def numOf(l:List UInt8):Int:=match Lib.atoiAll l with | .ok v=>v|_=>0
theorem parseUint_dig:∀(l:List UInt8) (acc:Nat),l.all isDig=true→(acc+1)*10^l.length≤1000000000000000000→∃v,Lib.parseUint10 acc l = .ok v∧v+1≤(acc+1)*10^l.length
 |[],acc,_,h=>⟨acc,rfl,by simp⟩
 |c::r,acc,h,hb=>by
  simp only[List.all_cons,Bool.and_eq_true]at h
  have hc:=isDig_iff.1 h.1
  rw[List.length_cons,Nat.pow_succ]at hb ⊢
  have hp:1≤10^r.length:=Nat.one_le_pow _ _ (by decide)
  have h10:(acc+1)*10≤(acc+1)*(10^r.length*10):=Nat.mul_le_mul_left _ (by omega)
  have hle:(acc*10+(c.toNat-48)+1)*10^r.length≤(acc+1)*(10^r.length*10):=by
   have:(acc*10+(c.toNat-48)+1)≤(acc+1)*10:=by omega
   calc (acc*10+(c.toNat-48)+1)*10^r.length≤((acc+1)*10)*10^r.length:=Nat.mul_le_mul_right _ this
    _=(acc+1)*(10^r.length*10):=by rw[Nat.mul_assoc,Nat.mul_comm 10]
  obtain⟨v,e1,e2⟩:=parseUint_dig r (acc*10+(c.toNat-48)) h.2 (Nat.le_trans hle hb)
  refine⟨v,?_,Nat.le_trans e2 hle⟩
  simp only[Lib.parseUint10]
  rw[if_pos hc,if_neg (by omega),if_neg (by omega),e1]
theorem atoi_dig{l:List UInt8}(h:digP l=true)(hl:l.length≤10):Lib.atoiAll l = .ok (numOf l)∧0≤numOf l∧numOf l<10^l.length:=by
 unfold digP at h
 simp only[Bool.and_eq_true,Bool.not_eq_true']at h
 have hne:l≠[]:=by intro e;subst e;simp at h
 have hb:(0+1)*10^l.length≤1000000000000000000:=by
  have:10^l.length≤10^10:=Nat.pow_le_pow_right (by decide) hl
  omega
 obtain⟨v,e1,e2⟩:=parseUint_dig l 0 h.2 hb
 have key:Lib.atoiAll l = .ok (v:Int):=by
  unfold Lib.atoiAll
  match l,hne with
  |c::r,_=>
   have hc:=isDig_iff.1 (show isDig c=true by have:=h.2;simp only[List.all_cons,Bool.and_eq_true]at this;exact this.1)
   have hn:¬(c.toNat=43∨c.toNat=45):=by omega
   have hn2:¬c.toNat=45:=by omega
   dsimp only
   rw[if_neg hn]
   unfold Lib.parseMag
   rw[if_neg (by simp),e1]
   dsimp only
   have hv:v<1000000000000000000:=by omega
   rw[if_neg (by omega),if_neg (by omega),if_neg hn2]
 unfold numOf
 rw[key]
 refine⟨rfl,Int.natCast_nonneg _,?_⟩
 have:((v+1:Nat):Int)≤((10^l.length:Nat):Int):=Int.ofNat_le.2 (by omega)
 dsimp only
 have e:((10^l.length:Nat):Int)=(10:Int)^l.length:=by simp
 omega
def dayL(l:List UInt8):Int×Int:=
 if l.length=10∧l[4]? = some 45∧l[7]? = some 45∧digP ((l.take 4++(l.take 7).drop 5)++l.drop 8)=true then dayOf (numOf (l.take 4)) (numOf ((l.take 7).drop 5)) (numOf (l.drop 8))else(0,12)
theorem dayL_range{l:List UInt8}(h:(dayL l).2=0):-719162≤(dayL l).1∧(dayL l).1≤2932896:=by
 unfold dayL at h ⊢
 split at h
 ·rename_i hc
  rw[if_pos hc]
  exact dayOf_range h
 ·cases h
theorem cut_len(s sep:List UInt8):(Lib.cut s sep).1.length+(Lib.cut s sep).2.1.length≤s.length:=by
 unfold Lib.cut
 split
 ·rename_i h
  have hr:=Lib.index_room s sep h
  dsimp only
  rw[List.length_take,List.length_drop]
  omega
 ·simp
theorem digP_part{a b:List UInt8}(h:digP (a++b)=true):(a≠[]→digP a=true)∧(b≠[]→digP b=true):=by
 unfold digP at *
 simp only[Bool.and_eq_true,List.all_append,Bool.not_eq_true',List.isEmpty_eq_false_iff]at *
 exact⟨fun e=>⟨e,h.2.1⟩,fun e=>⟨e,h.2.2⟩⟩
end Go.Ex
