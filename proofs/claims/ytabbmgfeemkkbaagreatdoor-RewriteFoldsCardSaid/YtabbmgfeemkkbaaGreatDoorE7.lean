/- Part of the proof: contracts of functions; no condition. -/
import Derived.Test.YtabbmgfeemkkbaaGreatDoorF5
import Derived.Lib.MapLaws
import Derived.Lib.DecodeN
import Derived.Lib.TrimAscii
import Derived.Laws.RangeAny
namespace Go.Proofs.Tryz
open Go Go.Dm Go.Ex
set_option maxRecDepth 100000
theorem Qq:∀i:Fin 128,Lib.encodeRune (fj (i.val:Int))=[xq (UInt8.ofNat i.val)]∧0≤fj (i.val:Int):=by decide
theorem Lt{r:Int}(h:128≤r):∃c t,Lib.encodeRune r=c::t∧128≤c.toNat:=by
 have key:∃x t,Lib.encodeRuneZ r=x::t∧128≤x∧x<256:=by
  by_cases h1:r≤2047
  ·exact⟨_,_,Lib.encodeRuneZ_two h h1,by omega,by omega⟩
  ·by_cases h2:(2048≤r∧r<55296)∨(57343<r∧r≤65535)
   ·exact⟨_,_,Lib.encodeRuneZ_three h2,by omega,by omega⟩
   ·by_cases h3:65536≤r∧r≤1114111
    ·exact⟨_,_,Lib.encodeRuneZ_four h3.1 h3.2,by omega,by omega⟩
    ·exact⟨_,_,Lib.encodeRuneZ_bad (by omega),by omega,by omega⟩
 obtain⟨x,t,e,h1,h2⟩:=key
 refine⟨x.toNat.toUInt8,t.map fun x=>x.toNat.toUInt8,by unfold Lib.encodeRune;rw[e];rfl,?_⟩
 show 128≤(UInt8.ofNat x.toNat).toNat
 rw[UInt8.toNat_ofNat']
 omega
theorem Lu:∀(l T:List UInt8),(∀c∈T,c.toNat<128)→(jH l=T↔Dh l=T)
 |[],T,_=>Iff.rfl
 |b::t,T,hT=>by
  have hs:=Lib.mapD_step (fun x=>fj x) (b::t) (by simp)
  have hc:jH (b::t)=Lib.mapD (fun x=>fj x) (b::t):=rfl
  by_cases hb:b.toNat<128
  ·rw[Lib.decodeL_ascii b t hb]at hs
   have he:=Qq ⟨b.toNat,hb⟩
   have hbb:UInt8.ofNat b.toNat=b:=UInt8.ofNat_toNat
   dsimp only at hs he
   rw[hbb]at he
   rw[if_pos he.2,he.1]at hs
   have hs:jH (b::t)=xq b::jH t:=hs
   rw[hs]
   show _↔xq b::Dh t=T
   cases T with
   |nil=>simp
   |cons c T=>
    have ih:=Lu t T (fun c hc=>hT c (List.mem_cons_of_mem _ hc))
    rw[List.cons.injEq,List.cons.injEq,ih]
  ·have hd:128≤(Lib.decodeL (b::t)).1:=(decode_high ⟨(b::t).toArray⟩ 0 (Nat.zero_lt_succ _) (by show 128≤b.toNat;omega)).1
   have hf:fj ((Lib.decodeL (b::t)).1:Int)=(Lib.decodeL (b::t)).1:=by
    unfold fj
    rw[decide_eq_false (by omega:¬((Lib.decodeL (b::t)).1:Int)≤122)]
    simp
   rw[hf,if_pos (by omega)]at hs
   obtain⟨c,r,e,Ir⟩:=Lt (r:=((Lib.decodeL (b::t)).1:Int)) (by omega)
   rw[e]at hs
   rw[hc,hs]
   have hu:xq b=b:=by unfold xq;rw[if_neg (by omega)]
   constructor
   ·intro h
    subst h
    have:=hT c (by simp)
    omega
   ·intro h
    subst h
    have:=hT (xq b) (by simp[Dh])
    rw[hu]at this
    omega
 termination_by l=>l.length
theorem Lv{a b:List UInt8}:(tx a==tx b)=decide (a=b):=by
 rw[Bool.eq_iff_iff,sD,decide_eq_true_iff]
 exact⟨Jc,fun h=>by rw[h]⟩
theorem vK(l T:List UInt8)(h:∀c∈T,c.toNat<128):(tx (jH l)==tx T)=(tx (Dh l)==tx T):=by
 rw[Lv,Lv]
 have:=Lu l T h
 by_cases h1:jH l=T
 ·rw[decide_eq_true h1,decide_eq_true (this.1 h1)]
 ·rw[decide_eq_false h1,decide_eq_false (fun h2=>h1 (this.2 h2))]
theorem gz(n:Int):ar (IntKind.i64.wrap n):=by
 unfold ar
 simp only[IntKind.wrap,IntKind.signed,IntKind.bits]
 simp
 split<;>omega
theorem bt{b c:Bool}(h:(bif b then c else false)=true):b=true∧c=true:=by cases b<;>cases c<;>simp_all
def j5(t:Ty)(v:Go.Ex.AV):Prop:=v.t=t∧db v∧ar v.n
theorem dP:ar 0:=⟨by decide,by decide⟩
theorem WW:da ⟨1,0⟩:=by unfold da;decide
theorem ty2:da ⟨2,0⟩:=by unfold da;decide
theorem ty4:da ⟨4,0⟩:=by unfold da;decide
theorem ty5:da ⟨5,0⟩:=by unfold da;decide
theorem qV{t:Ty}(h:da t):j5 t (jW t):=⟨rfl,⟨h,fun _=>⟨rfl,rfl⟩,(fun h=>by cases h)⟩,dP⟩
theorem Dj:∀b:Bool,j5 ⟨1,0⟩ (pT b)
 |false=>⟨rfl,⟨WW,(fun h=>by cases h),fun _=>.inr ⟨by decide,rfl,fun _=>.inl rfl,(fun h=>by cases h),(fun h=>by cases h)⟩⟩,dP⟩
 |true=>⟨rfl,⟨WW,(fun h=>by cases h),fun _=>.inr ⟨by decide,rfl,fun _=>.inr rfl,(fun h=>by cases h),(fun h=>by cases h)⟩⟩,(show ar 1 from⟨by decide,by decide⟩)⟩
theorem qW(n:Int):j5 ⟨1,0⟩ (bS n):=by
 unfold bS
 cases n==2
 ·exact Dj _
 ·exact qV WW
theorem Dk{s:ByteArray}(h:s.size≤256):j5 ⟨4,0⟩ (nY s):=
 ⟨rfl,⟨ty4,(fun h=>by cases h),fun _=>.inl ⟨rfl,rfl,h⟩⟩,dP⟩
theorem Vk(a b:Int):ar (h_ a b):=by
 unfold h_
 cases(decide (IntKind.i64.wrap (a+b)>a)==decide (b>0))
 ·exact dP
 ·exact gz _
theorem BE(a b:Int):ar (eT a b):=by
 unfold eT
 cases(decide (IntKind.i64.wrap (a-b)<a)==decide (b>0))
 ·exact dP
 ·exact gz _
theorem Lw(a b:Int):ar (fX a b).1:=by
 unfold fX gK
 cases(cA a b != aB.shr .i64 (IntKind.i64.wrap (cN a b)) 63)
 ·exact gz _
 ·exact dP
theorem Vl{op x y:Int}(hx:ar x)(hy:ar y):ar (dt op x y).1:=by
 unfold dt
 cases op==3
 ·cases op==4
  ·cases op==5
   ·cases op==6
    ·cases op==7
     ·cases op==8
      ·exact dP
      ·exact BE 0 x
     ·simp only[cond_true,cond_false]
      unfold nc
      cases y==0
      ·cases y == -1
       ·simp only[cond_false]
        have h1:=Int.natAbs_tmod x y
        have h2:x.natAbs % y.natAbs≤x.natAbs:=Nat.mod_le _ _
        unfold ar at hx ⊢
        rcases Int.le_total 0 x with h0|h0
        ·have:=Int.tmod_nonneg y h0
         omega
        ·have:=Int.tmod_nonneg y (show 0≤-x by omega)
         rw[Int.neg_tmod]at this
         omega
       ·exact dP
      ·exact dP
    ·simp only[cond_true,cond_false]
     unfold m_
     cases y==0
     ·cases y == -1
      ·exact gz _
      ·exact BE 0 x
     ·exact dP
   ·exact Lw x y
  ·exact BE x y
 ·exact Vk x y
theorem zc(v f t:Int):ar (bo v f t).1:=by
 unfold bo
 cases(bif !b7 f then true else !b7 t)
 ·cases(!bZ v)
  ·simp only[cond_false]
   cases decide (t≥f)
   ·simp only[cond_false]
    cases decide (v.tmod (aK (IntKind.i64.wrap (f-t))).1≥IntKind.i64.wrap ((aK (IntKind.i64.wrap (f-t))).1-v.tmod (aK (IntKind.i64.wrap (f-t))).1))
    ·simp only[cond_false]
     cases decide (IntKind.i64.wrap (0-v.tmod (aK (IntKind.i64.wrap (f-t))).1)≥IntKind.i64.wrap ((aK (IntKind.i64.wrap (f-t))).1+v.tmod (aK (IntKind.i64.wrap (f-t))).1))
     ·exact gz _
     ·exact gz _
    ·exact gz _
   ·simp only[cond_true]
    cases(bif (fX v (aK (IntKind.i64.wrap (t-f))).1).2 != 0 then true else !bZ (fX v (aK (IntKind.i64.wrap (t-f))).1).1)
    ·exact Lw _ _
    ·exact dP
  ·exact dP
 ·exact dP
theorem zd{n:Int}:bZ n=true↔-999999999999999999≤n∧n≤999999999999999999:=iO
theorem sT{v f t:Int}(h:(bo v f t).2=0):-999999999999999999≤(bo v f t).1∧(bo v f t).1≤999999999999999999:=by
 revert h
 unfold bo
 cases h1:(bif !b7 f then true else !b7 t)
 ·cases h2:(!bZ v)
  ·have h2:bZ v=true:=by simpa using h2
   have hv:=zd.1 h2
   simp only[cond_false]
   cases h3:decide (t≥f)
   ·have h3:=of_decide_eq_false h3
    have hf:(0≤f∧f≤18)∧(0≤t∧t≤18):=by
        rw[←fY,←fY]
        revert h1
        cases b7 f<;>cases b7 t<;>simp
    have hp:(aK (IntKind.i64.wrap (f-t))).1=((10^(f-t).toNat:Nat):Int):=by rw[ai (by omega) (by omega),xd (by omega)]
    have Fu:(10:Int)≤(aK (IntKind.i64.wrap (f-t))).1:=by
        rw[hp]
        have:10^1≤10^(f-t).toNat:=Nat.pow_le_pow_right (by decide) (by omega)
        omega
    have hq:-99999999999999999≤v.tdiv (aK (IntKind.i64.wrap (f-t))).1∧v.tdiv (aK (IntKind.i64.wrap (f-t))).1≤99999999999999999:=by
        generalize (aK (IntKind.i64.wrap (f-t))).1=p at *
        have e:=Int.natAbs_tdiv v p
        have hle:v.natAbs/p.natAbs≤v.natAbs/10:=Nat.div_le_div_left (by omega) (by decide)
        have:v.natAbs/10≤99999999999999999:=by omega
        have e2:(v.tdiv p).natAbs=v.natAbs/p.natAbs:=e
        omega
    have w0:IntKind.i64.wrap (v.tdiv (aK (IntKind.i64.wrap (f-t))).1)=v.tdiv (aK (IntKind.i64.wrap (f-t))).1:=ai (by omega) (by omega)
    simp only[cond_false]
    intro _
    rw[w0]
    have w1:IntKind.i64.wrap (v.tdiv (aK (IntKind.i64.wrap (f-t))).1+1)=v.tdiv (aK (IntKind.i64.wrap (f-t))).1+1:=ai (by omega) (by omega)
    have w2:IntKind.i64.wrap (v.tdiv (aK (IntKind.i64.wrap (f-t))).1-1)=v.tdiv (aK (IntKind.i64.wrap (f-t))).1-1:=ai (by omega) (by omega)
    rw[w1,w2]
    cases decide (v.tmod (aK (IntKind.i64.wrap (f-t))).1≥IntKind.i64.wrap ((aK (IntKind.i64.wrap (f-t))).1-v.tmod (aK (IntKind.i64.wrap (f-t))).1))
    ·cases decide (IntKind.i64.wrap (0-v.tmod (aK (IntKind.i64.wrap (f-t))).1)≥IntKind.i64.wrap ((aK (IntKind.i64.wrap (f-t))).1+v.tmod (aK (IntKind.i64.wrap (f-t))).1))
     ·simp only[cond_false];omega
     ·simp only[cond_false,cond_true];omega
    ·simp only[cond_true];omega
   ·simp only[cond_true]
    cases h4:(bif (fX v (aK (IntKind.i64.wrap (t-f))).1).2 != 0 then true else !bZ (fX v (aK (IntKind.i64.wrap (t-f))).1).1)
    ·intro _
     simp only[cond_false]
     apply zd.1
     revert h4
     cases(fX v (aK (IntKind.i64.wrap (t-f))).1).2 != 0<;>simp
    ·intro h;cases h
  ·intro h;cases h
 ·intro h;cases h
theorem pX{l:List UInt8}:((jI l).1=0∨(jI l).1=1):=by
 unfold jI
 cases(tx (jH l)==({data:={toList:=[84,82,85,69]:Array UInt8}:ByteArray}))
 ·cases(tx (jH l)==({data:={toList:=[70,65,76,83,69]:Array UInt8}:ByteArray}))<;>exact .inl rfl
 ·exact .inr rfl
theorem Lx(l:List UInt8):ar (bF l).1:=by
 by_cases h:(bF l).2.2=0
 ·have:=iO.1 (Js h).1
  exact⟨by omega,by omega⟩
 ·unfold bF at h ⊢
  dsimp only at h ⊢
  split
  ·exact dP
  ·split
   ·exact dP
   ·split
    ·exact dP
    ·rename_i h1 h2 h3
     rw[if_neg h1,if_neg h2,if_neg h3]at h
     exact(h rfl).elim
theorem Vm(l:List UInt8)(h:(dO l).2=0):ar (dO l).1:=by
 have:=sK h
 exact⟨by omega,by omega⟩
theorem Qr{l:List UInt8}{t:Ty}(ht:da t)(h4:t.k≠4)(h:(dC l t).2=0):j5 t (dC l t).1:=by
 unfold dC at h ⊢
 cases he:(fC l t).2 != 0
 ·simp only[cond_false]
  have he:(fC l t).2=0:=by simpa using he
  refine⟨rfl,⟨ht,(fun h=>by cases h),fun _=>.inr ⟨h4,rfl,fun k=>?_,fun k=>?_,fun k=>?_⟩⟩,?_⟩
  ·show(fC l t).1=0∨(fC l t).1=1
   unfold fC
   rw[show t.k=1 from k]
   exact pX
  ·show -999999999999999999≤(fC l t).1∧(fC l t).1≤999999999999999999
   unfold fC at he ⊢
   rw[show t.k=3 from k]at he ⊢
   have e:∀x:Int×Int,(bif (3:Int)==1 then jI l else bif (3:Int)==2 then Go.Ex.intOf l else bif (3:Int)==3 then x else bif (3:Int)==5 then dO l else(0,0))=x:=fun _=>rfl
   rw[e]at he ⊢
   cases hd:(bF l).2.2==0
   ·rw[hd]at he
    have:(bF l).2.2=0:=he
    rw[this]at hd;cases hd
   ·rw[hd]at he
    exact sT he
  ·show -719162≤(fC l t).1∧(fC l t).1≤2932896
   unfold fC at he ⊢
   rw[show t.k=5 from k]at he ⊢
   exact sK he
  ·show ar (fC l t).1
   unfold fC at he ⊢
   cases k1:t.k==1
   ·cases k2:t.k==2
    ·cases k3:t.k==3
     ·cases k5:t.k==5
      ·exact dP
      ·rw[k1,k2,k3,k5]at he
       exact Vm _ he
     ·simp only[cond_false,cond_true]
      cases(bF l).2.2==0
      ·exact Lx l
      ·exact zc _ _ _
    ·exact AJ l
   ·rcases pX (l:=l)with h|h
    ·show ar (jI l).1;rw[h];exact dP
    ·show ar (jI l).1;rw[h];exact⟨by decide,by decide⟩
 ·rw[he,cond_true]at h;cases h
theorem om{v:Go.Ex.AV}{t:Ty}(hv:db v)(hn:ar v.n)(h:(ax v t).2=0):j5 t (ax v t).1:=by
 unfold ax at h ⊢
 cases h1:(cf t.k t.sc != 0)
 ·have ht:da t:=lZ.1 (by simpa using h1)
  rw[h1]at h
  simp only[cond_false]at h ⊢
  cases h2:(bif bif decide (v.t.k<1)then true else decide (v.t.k>5)then true else bif bif bif v.t.k != t.k then v.t.k != 4 else false then t.k != 4 else false then bG v.t.k != bG t.k else false)
  ·rw[h2]at h
   simp only[cond_false]at h ⊢
   cases h3:v.aA
   ·rw[h3]at h
    simp only[cond_false]at h ⊢
    cases h4:t.k==4
    ·have k4:t.k≠4:=by simpa using h4
     rw[h4]at h
     simp only[cond_false]at h ⊢
     cases h5:v.t.k==4
     ·have j4:v.t.k≠4:=by simpa using h5
      rw[h5]at h
      simp only[cond_false]at h ⊢
      have EF:bG v.t.k=bG t.k:=by
         by_cases e:v.t.k=t.k
         ·rw[e]
         ·rw[show(v.t.k != t.k)=true by simpa using e,show(v.t.k != 4)=true by simpa using j4,show(t.k != 4)=true by simpa using k4]at h2
          simp only[cond_true]at h2
          have:(bG v.t.k != bG t.k)=false:=by
            revert h2
            cases(bif decide (v.t.k<1)then true else decide (v.t.k>5))<;>simp
          simpa using this
      have vL:∀k:Int,bG k=if k=3 then 2 else k:=fun k=>by
         unfold bG
         by_cases e:k=3<;>simp[e,Qp]
      rw[vL,vL]at EF
      cases h6:(bif v.t.k != 3 then t.k != 3 else false)
      ·rw[h6]at h
       simp only[cond_false]at h ⊢
       have h6':v.t.k=3∨t.k=3:=by
          rcases Classical.em (v.t.k=3)with e|e
          ·exact .inl e
          ·rw[show(v.t.k != 3)=true by simpa using e]at h6
           exact .inr (by simpa using h6)
       cases h7:(bif v.t.k==3 then !dZ v.t.sc else false)
       ·rw[h7]at h
        simp only[cond_false]at h ⊢
        cases h8:((bo v.n (cn v) t.sc).2 != 0)
        ·rw[h8]at h
         have h8:(bo v.n (cn v) t.sc).2=0:=by simpa using h8
         have kk:t.k=2∨t.k=3:=by
           rcases h6' with e|e
           ·rw[if_pos e]at EF
            split at EF<;>omega
           ·exact .inr e
         refine⟨rfl,⟨ht,(fun h=>by cases h),fun _=>.inr ⟨k4,rfl,fun k=>?_,fun k=>sT h8,fun k=>?_⟩⟩,zc _ _ _⟩
         ·have k:t.k=1:=k
          omega
         ·have k:t.k=5:=k
          omega
        ·rw[h8]at h
         have h8:(bo v.n (cn v) t.sc).2≠0:=by simpa using h8
         exact(h8 h).elim
       ·rw[h7]at h;cases h
      ·have h6:=bt h6
       have a3:v.t.k≠3:=by simpa using h6.1
       have b3:t.k≠3:=by simpa using h6.2
       rw[if_neg a3,if_neg b3]at EF
       rcases hv.2.2 h3 with⟨e,_⟩|⟨_,_,g1,g2,g3⟩
       ·exact(j4 e).elim
       ·exact⟨rfl,⟨ht,(fun h=>by cases h),fun _=>.inr ⟨k4,rfl,fun k=>g1 (EF.trans k),fun k=>(b3 k).elim,fun k=>g3 (EF.trans k)⟩⟩,hn⟩
     ·rw[h5]at h
      exact Qr ht k4 h
    ·have k4:t.k=4:=by simpa using h4
     rw[h4]at h
     simp only[cond_true]at h ⊢
     have et:t=⟨4,0⟩:=by
       rcases t with⟨k,sc⟩
       have e1:k=4:=k4
       have e2:sc=0:=ht.2.2.2.2 (by show k≠3;omega)
       rw[e1,e2]
     rw[et]
     unfold cY at h ⊢
     cases h5:v.t.k != 4
     ·rw[h5]at h
      simp only[cond_false]at h ⊢
      cases h6:decide ((v.s.size:Int)>256)
      ·have:=of_decide_eq_false h6
       exact Dk (by omega)
      ·rw[h6]at h;cases h
     ·rw[h5]at h
      simp only[cond_true]at h ⊢
      cases h6:decide (((tx (ez v)).size:Int)>256)
      ·have:=of_decide_eq_false h6
       exact Dk (by omega)
      ·rw[h6]at h;cases h
   ·exact qV ht
  ·rw[h2]at h;cases h
 ·rw[h1]at h
  have h1:cf t.k t.sc≠0:=by simpa using h1
  exact(h1 h).elim
theorem EG{op sub:Int}{t:Ty}{a b:Go.Ex.AV}(ha:db a)(hb:db b)(ia:ar a.n)(ib:ar b.n)(h9:op=9→t=⟨1,0⟩)(h17:op=17→t=⟨4,0⟩)(Ju:op=18→t=⟨2,0⟩)(h:(bb op sub t a b).2=true):j5 t (bb op sub t a b).1:=by
 have nv:∀x y:Int,ar x→ar y→(kR op t x y).2=true→j5 t (kR op t x y).1:=by
  intro x y hx hy h
  unfold kR at h ⊢
  have h:=(bt h).2
  have h56:bL t.k t.sc false (dt op x y).1 eB=0:=eq_of_beq h
  have hv:db ⟨t,false,(dt op x y).1,eB⟩:=gN.1 h56
  exact⟨rfl,hv,Vl hx hy⟩
 unfold bb at h ⊢
 cases k9:op==9
 ·rw[k9]at h
  simp only[cond_false]at h ⊢
  cases k17:op==17
  ·rw[k17]at h
   simp only[cond_false]at h ⊢
   cases k18:op==18
   ·rw[k18]at h
    simp only[cond_false]at h ⊢
    cases k3:(bif t.k==3 then op != 5 else false)
    ·rw[k3]at h
     exact nv _ _ ia ib h
    ·rw[k3]at h
     simp only[cond_true]at h ⊢
     cases kc:(bif (ax a t).2 != 0 then true else(ax b t).2 != 0)
     ·rw[kc]at h
      have e:(ax a t).2=0∧(ax b t).2=0:=by
        cases k1:(ax a t).2 != 0
        ·rw[k1]at kc
         exact⟨by simpa using k1,by simpa using kc⟩
        ·rw[k1]at kc;cases kc
      exact nv _ _ (om ha ia e.1).2.2 (om hb ib e.2).2.2 h
     ·rw[kc]at h;cases h
   ·rw[Ju (by simpa using k18)]
    have:=iS ha
    show j5 ⟨2,0⟩ (zG a.s.size)
    exact⟨rfl,⟨ty2,(fun h=>by cases h),fun _=>.inr ⟨(show(2:Int)≠4 by decide),rfl,(fun h=>by cases h),(fun h=>by cases h),(fun h=>by cases h)⟩⟩,(show ar (a.s.size:Int)from⟨by omega,by omega⟩)⟩
  ·rw[k17]at h
   rw[h17 (by simpa using k17)]
   have h56:bL 4 0 false 0 (a.s++b.s)=0:=eq_of_beq h
   have hv:db ⟨⟨4,0⟩,false,0,a.s++b.s⟩:=gN.1 h56
   exact⟨rfl,hv,dP⟩
 ·rw[h9 (by simpa using k9)]
  exact qW _
theorem Ly{a b:Ty}(ha:da a)(hb:da b):da ⟨3,if b.sc>a.sc then b.sc else a.sc⟩:=by
 obtain⟨_,_,a3,a4,_⟩:=ha
 obtain⟨_,_,b3,b4,_⟩:=hb
 refine⟨(show(1:Int)≤3 by decide),(show(3:Int)≤5 by decide),?_,?_,(fun h=>(h rfl).elim)⟩
 ·show 0≤(if b.sc>a.sc then b.sc else a.sc);split<;>omega
 ·show(if b.sc>a.sc then b.sc else a.sc)≤18;split<;>omega
theorem BF{a:Ty}{r:List Ty}(ha:da a)(hr:∀u∈r,da u):da (aG a r).1:=by
 have key:∀(r:List Ty) (x:Ty×Bool),da x.1→(∀u∈r,da u)→da (r.foldl fz x).1:=by
  intro r
  induction r with
  |nil=>intro x h _;exact h
  |cons u r ih=>
   intro x h hr
   refine ih _ ?_ (fun v hv=>hr v (List.mem_cons_of_mem _ hv))
   unfold fz
   cases(u.k==x.1.k&&(u.sc==x.1.sc&&true))
   ·cases(bif aH u.k u.sc then aH x.1.k x.1.sc else false)
    ·exact h
    ·exact Ly h (hr u (by simp))
   ·exact h
 exact key r (a,true) ha hr
theorem ze{op:Int}{l:List Ty}{P:Ty→Prop}(hl:∀t∈l,P t)(hn:l≠[]):∀t∈cM op l,P t:=by
 intro t ht
 unfold cM at ht
 split at ht
 ·exact hl t ht
 ·have ct:0<l.length:=List.length_pos_iff.2 hn
  rcases List.mem_append.1 ht with h|h
  ·unfold iu at h
   obtain⟨k,hk,rfl⟩:=List.mem_map.1 h
   have hk:=List.mem_range.1 hk
   rw[List.getD_eq_getElem?_getD,List.getElem?_eq_getElem (by omega)]
   exact hl _ (List.getElem_mem _)
  ·simp only[List.mem_singleton]at h
   subst h
   rw[List.getD_eq_getElem?_getD,List.getElem?_eq_getElem (by omega)]
   exact hl _ (List.getElem_mem _)
theorem BG{op:Int}{a b:Ty}{i:Bool}(ha:da a)(hb:da b)(h:(cH op a b i).2=true):da (cH op a b i).1:=by
 unfold cH at h ⊢
 cases i
 ·simp only[cond_false]at h ⊢
  cases k1:(bif op==6 then true else op==7)
  ·rw[k1]at h
   simp only[cond_false]at h ⊢
   cases k2:op==8
   ·rw[k2]at h
    simp only[cond_false]at h ⊢
    cases k3:(bif (bif aH a.k a.sc then aH b.k b.sc else false)then op==5 else false)
    ·rw[k3]at h
     simp only[cond_false]at h ⊢
     cases k4:(bif aH a.k a.sc then aH b.k b.sc else false)
     ·rw[k4]at h
      simp only[cond_false]at h ⊢
      cases k5:op==5
      ·rw[k5]at h
       simp only[cond_false]at h ⊢
       cases k6:(bif (bif op==4 then a.k==5&&(a.sc==0&&true)else false)then b.k==5&&(b.sc==0&&true)else false)
       ·exact ty5
       ·exact ty2
      ·rw[k5]at h;cases h
     ·exact Ly ha hb
    ·rw[k3]at h
     simp only[cond_true]at h ⊢
     have h:=of_decide_eq_true h
     obtain⟨_,_,a3,a4,_⟩:=ha
     obtain⟨_,_,b3,b4,_⟩:=hb
     rw[a_ (n:=a.sc+b.sc) (by omega)]at h ⊢
     exact⟨(show(1:Int)≤3 by decide),(show(3:Int)≤5 by decide),(show 0≤a.sc+b.sc by omega),h,(fun h=>(h rfl).elim)⟩
   ·exact ha
  ·rw[k1]at h;cases h
 ·exact ty2
theorem vM{sub:Int}{t:Ty}{v:Go.Ex.AV}{m c:Int}(h:bE 2 sub t v m c=true):bL v.t.k v.t.sc v.aA v.n v.s=0:=by
 unfold bE at h
 exact eq_of_beq (bt h).2
theorem Lz{sub:Int}{t:Ty}{v:Go.Ex.AV}{m c:Int}(h:bE 16 sub t v m c=true):da t∧m=1:=by
 unfold bE at h
 have h1:=bt (bt h).1
 exact⟨lZ.1 (eq_of_beq h1.2),eq_of_beq (bt h1.1).1⟩
theorem zf{ae:List Ty}{op sub:Int}{t:Ty}{v:Go.Ex.AV}{l:List Ty}{m:Int}(hc:∀u∈ae,da u)(hl:∀u∈l,da u)(hlen:m=l.length)(hm:bE op sub t v m ae.length=true)(h:(bA ae op sub t v l).2=true):da (bA ae op sub t v l).1:=by
 unfold bA at h ⊢
 split at h
 ·rename_i e
  rw[if_pos e]
  subst e
  have hs:=kr hm
  have hlt:sub.toNat<ae.length:=by omega
  show da (ae.getD sub.toNat ⟨0,0⟩)
  rw[List.getD_eq_getElem?_getD,List.getElem?_eq_getElem hlt]
  exact hc _ (List.getElem_mem _)
 rename_i n1
 rw[if_neg n1]
 split at h
 ·rename_i e
  rw[if_pos e]
  subst e
  exact(gN.1 (vM hm)).1
 rename_i n2
 rw[if_neg n2]
 have ct:=b8 hm n1 n2
 have bT:l≠[]:=by intro e;subst e;simp at hlen;omega
 split at h
 ·rename_i e;rw[if_pos e];exact WW
 rename_i n9
 rw[if_neg n9]
 split at h
 ·rename_i e;rw[if_pos e];exact WW
 rename_i n10
 rw[if_neg n10]
 split at h
 ·rename_i e;rw[if_pos e];exact WW
 rename_i n13
 rw[if_neg n13]
 split at h
 ·rename_i e;rw[if_pos e];exact ty4
 rename_i n17
 rw[if_neg n17]
 split at h
 ·rename_i e;rw[if_pos e];exact ty2
 rename_i n18
 rw[if_neg n18]
 split at h
 ·rename_i e
  rw[if_pos e]
  subst e
  exact(Lz hm).1
 rename_i n16
 rw[if_neg n16]
 split at h
 ·rename_i e
  rw[if_pos e]
  have hr:=ze (op:=op) (P:=da) hl bT
  split at h
  ·cases h
  ·rename_i a r qd
   rw[qd]at hr
   exact BF (hr a (by simp)) (fun u hu=>hr u (List.mem_cons_of_mem _ hu))
 ·rename_i n14
  rw[if_neg n14]
  have ct:0<l.length:=List.length_pos_iff.2 bT
  refine BG ?_ ?_ h
  ·rw[List.getD_eq_getElem?_getD,List.getElem?_eq_getElem ct];exact hl _ (List.getElem_mem _)
  ·rw[List.getD_eq_getElem?_getD,List.getElem?_eq_getElem (by omega)];exact hl _ (List.getElem_mem _)
theorem sU{c:Int}{op sub:Int}{t:Ty}{v:Go.Ex.AV}{args:List EX}(h:cu c (.mk op sub t v args)=true):bE op sub t v (args.length:Int) c=true∧ep c args=true:=by
 have:(bE op sub t v ((aa args).length:Int) c&&ep c args)=true:=by simpa only[cu]using h
 rw[ag]at this
 simpa using this
theorem sV{ae:List Ty}:∀{l:List EX} {tl:List Ty},bm ae l=some tl→tl.length=l.length
 |[],tl,h=>by simp only[bm,Option.some.injEq]at h;subst h;rfl
 |e::r,tl,h=>by
  simp only[bm]at h
  rcases he:ay ae e with⟨t,_|_⟩
  ·rw[he]at h;cases h
  ·rw[he]at h
   rcases hr:bm ae r with _|q
   ·rw[hr]at h;cases h
   ·rw[hr]at h
    simp only[Option.some.injEq]at h
    subst h
    simp[sV hr]
theorem jz{ae:List Ty}{op sub:Int}{t:Ty}{v:Go.Ex.AV}{args:List EX}(h:(ay ae (.mk op sub t v args)).2=true):∃tl,bm ae args=some tl:=by
 rcases hl:bm ae args with _|tl
 ·rw[lr hl]at h;cases h
 ·exact⟨tl,rfl⟩
mutual
theorem lG{ae:List Ty}(hc:∀u∈ae,da u):∀{e:EX},cu ae.length e=true→(ay ae e).2=true→da (ay ae e).1
 | .mk op sub t v args,hm,h=>by
   obtain⟨tl,hl⟩:=jz h
   obtain⟨h1,h2⟩:=sU hm
   rw[fA hl]at h ⊢
   exact zf hc (pY hc h2 hl) (by rw[sV hl]) h1 h
theorem pY{ae:List Ty}(hc:∀u∈ae,da u):∀{l:List EX} {tl:List Ty},ep ae.length l=true→bm ae l=some tl→∀u∈tl,da u
 |[],tl,_,h,u,hu=>by simp only[bm,Option.some.injEq]at h;subst h;cases hu
 |e::r,tl,hm,h,u,hu=>by
  simp only[ep,Bool.and_eq_true]at hm
  simp only[bm]at h
  rcases he:ay ae e with⟨t,_|_⟩
  ·rw[he]at h;cases h
  ·rw[he]at h
   rcases hr:bm ae r with _|q
   ·rw[hr]at h;cases h
   ·rw[hr]at h
    simp only[Option.some.injEq]at h
    subst h
    have:=lG hc hm.1 (by rw[he])
    rw[he]at this
    rcases List.mem_cons.1 hu with rfl|hu
    ·exact this
    ·exact pY hc hm.2 hr u hu
end
end Go.Proofs.Tryz
namespace Go.Proofs.Tryz
open Go Go.Dm Go.Ex
set_option maxRecDepth 100000
variable {gl:Nat→Option Obj}
theorem Qs(l:List UInt8):jI l=bif tx (Dh l)==({data:={toList:=[84,82,85,69]:Array UInt8}:ByteArray})then(1,0)else bif tx (Dh l)==({data:={toList:=[70,65,76,83,69]:Array UInt8}:ByteArray})then(0,0)else(0,22):=by
 have hT:=vK l [84,82,85,69] (by decide)
 have hF:=vK l [70,65,76,83,69] (by decide)
 unfold jI
 show(bif tx (jH l)==tx [84,82,85,69]then _ else bif tx (jH l)==tx [70,65,76,83,69]then _ else _)=_
 rw[hT,hF]
 rfl
theorem EH(a b:Int):dS a b=cf a b:=by
 unfold dS cf dZ
 congr 1
 rw[Bool.eq_iff_iff]
 by_cases h1:a<1
 ·simp[h1]
 ·by_cases h2:a>5
  ·simp[h1,h2]
  ·by_cases h3:b<0
   ·have h4:¬b≥0:=by omega
    simp[h1,h2,h3,h4]
   ·have h4:b≥0:=by omega
    by_cases h5:b>18
    ·have h6:¬b≤18:=by omega
     simp[h1,h2,h3,h5,h4,h6]
    ·have h6:b≤18:=by omega
     by_cases h7:a=3<;>by_cases h8:b=0<;>simp[h1,h2,h3,h4,h5,h6,h7,h8]
theorem LA(a b:Int)(h1:1≤a)(h5:a≤5):(!mW a b)=(bif bif decide (a<1)then true else decide (a>5)then true else bif bif bif a != b then a != 4 else false then b != 4 else false then bG a != bG b else false):=by
 have e:∀x:Int,fh x=bG x:=fun x=>rfl
 unfold mW
 rw[e,e,decide_eq_true (show a≥1 by omega),decide_eq_true h5,decide_eq_false (show¬a<1 by omega),decide_eq_false (show¬a>5 by omega)]
 generalize bG a=x
 generalize bG b=y
 by_cases h1:a=b<;>by_cases h2:a=4<;>by_cases h3:b=4<;>by_cases h4:x=y<;>simp_all[bne]<;>(cases a==b<;>cases b==4<;>cases a==4<;>rfl)
theorem ae9(s:ByteArray)(t:Ty)(Q:KT):vc bl BD bf Ru (f111.body.getD .skip) f111.results.toList [.d (.v (.string s)),.agg t.cs] Q=(((t.1==1)=true→s.size≤(1000:Nat)∧((tx (Dh s.data.1)=={data:={toList:=[(84:UInt8),(82:UInt8),(85:UInt8),(69:UInt8)]:Array UInt8}:ByteArray})=true→WQ Q t (1:Int))∧((tx (Dh s.data.1)=={data:={toList:=[(84:UInt8),(82:UInt8),(85:UInt8),(69:UInt8)]:Array UInt8}:ByteArray})=false→s.size≤(1000:Nat)∧((!tx (Dh s.data.1)=={data:={toList:=[(70:UInt8),(65:UInt8),(76:UInt8),(83:UInt8),(69:UInt8)]:Array UInt8}:ByteArray})=true→tA Q (22:Int))∧((!tx (Dh s.data.1)=={data:={toList:=[(70:UInt8),(65:UInt8),(76:UInt8),(83:UInt8),(69:UInt8)]:Array UInt8}:ByteArray})=false→WQ Q t (0:Int))))∧(Zfx t s Q (((t.1==2)=false→((t.1==3)=true→s.size≤(1000:Nat)∧(((bF s.data.1).2.2==(0:Int))=true→ar (bF s.data.1).1∧Zfa s t Q)∧Zfq s Q t)∧(Zf3 t s Q (((t.1==5)=false→WQ Q t (0:Int)))))))):=by kernel_rfl
theorem ae_(s:ByteArray)(t:Ty)(h1:s.size≤1000):Ct prog gl 111 [.d (.v (.string s)),.agg t.cs] (gives [.agg (dC s.data.toList t).1.cs,.d (.v (.int .i64 (dC s.data.toList t).2))]):=by
 refine cz vJ f111 Ru ⟨_,_,rfl,rfl⟩ ?_
 rw[ae9];dsimp -eta -iota -proj only[WQ,Zfi,Zem,tA,Z8,Zfx,Zfs,Zfa,Zfq,Zf3,Zfz]
 have hb:=Qs s.data.toList
 generalize hQ:gives [.agg (dC s.data.toList t).1.cs,.d (.v (.int .i64 (dC s.data.toList t).2))]=Q'
 (repeat' (first|(with_reducible refine And.intro ?_ ?_)|(intro hh;first|(exact absurd hh (by decide))|skip)))
 all_goals first
  |(exact h1)
  |(exact Lx _)
  |(rw[←hQ];refine⟨?_,rfl⟩;simp only[dC,fC,hb, *,cond_true,cond_false];first|done|rfl)
  |(rw[←hQ];refine⟨?_,rfl⟩;simp only[Bool.not_eq_true',Bool.not_eq_false']at *;simp only[dC,fC,hb, *,cond_true,cond_false];first|done|rfl)
  |(rw[←hQ];refine⟨?_,rfl⟩;simp_all[dC,fC];done)
  |skip
def LB(a:List R)(K:KT):Prop:=match a with
 |[.d (.v (.string s)),.agg [.v (.int .i64 y8),.v (.int .i64 lF)]]=>s.size≤1000∧K [.agg (dC s.data.toList (⟨y8,lF⟩:Ty)).1.cs,.d (.v (.int .i64 (dC s.data.toList (⟨y8,lF⟩:Ty)).2))] []
 |_=>False
theorem LC:CK gl LB 111:=fun a K h=>by
 unfold LB at h
 split at h
 ·obtain⟨h0,hk⟩:=h
  exact(ae_ _ (⟨_,_⟩:Ty) h0).gives hk
 ·exact h.elim
def BH:aj:=au BD 111 LB
theorem vN:ah prog gl BH:=af vJ LC
theorem ae'(s:ByteArray)(Q:KT):vc bl BH bf ZC (f95.body.getD .skip) f95.results.toList [.d (.v (.string s))] Q=(Q [.agg [.i 4,.i 0,.v (.bool false),.i 0,.v (.string s)]] []):=by kernel_rfl
theorem afa(s:ByteArray):Ct prog gl 95 [.d (.v (.string s))] (gives [.agg (nY s).cs]):=by
 refine cz vN f95 ZC ⟨_,_,rfl,rfl⟩ ?_
 rw[ae']
 exact⟨rfl,rfl⟩
def LD(a:List R)(K:KT):Prop:=match a with
 |[.d (.v (.string s))]=>K [.agg (nY s).cs] []
 |_=>False
theorem LF:CK gl LD 95:=fun a K h=>by
 unfold LD at h
 split at h
 ·exact(afa _).gives h
 ·exact h.elim
def BI:aj:=au BH 95 LD
theorem vO:ah prog gl BI:=af vN LF
def LG:Fi:={aj_ with lp:=[]}
theorem afb(v:Go.Ex.AV)(Q:KT):vc bl BI bf LG (f44.body.getD .skip) f44.results.toList [.agg v.cs] Q=((Zkb v Q)∧(v.2=false→ar v.3∧((v.1.1==1)=true→((v.3==0)=true→Zjf Q)∧((v.3==0)=false→Zj2 Q))∧((v.1.1==1)=false→((v.1.1==2)=true→Qo Q v)∧((v.1.1==2)=false→((v.1.1==3)=true→ar v.3∧(0:Int)≤v.1.2∧v.1.2≤18∧(((0:Int)==0)=true→Q [.d (.v (.string (tx (tP v.3 v.1.2))))] [])∧(((0:Int)==0)=false→Qo Q v))∧((v.1.1==3)=false→((v.1.1==4)=true→False)∧((v.1.1==4)=false→((v.1.1==5)=true→(-719162:Int)≤v.3∧v.3≤2932896∧(((0:Int)==0)=true→Q [.d (.v (.string (tx (n5 v.3))))] [])∧(((0:Int)==0)=false→Qo Q v))∧((v.1.1==5)=false→Vf Q))))))):=by kernel_rfl
theorem afc(v:Go.Ex.AV)(h1:jj v)(h2:v.t.k≠4):Ct prog gl 44 [.agg v.cs] (gives [.d (.v (.string (tx (ez v))))]):=by
 refine aw bN vO aF bD mixed (fn:=f44) (body:=f44.body.getD .skip) (by kernel_rfl) (by kernel_rfl) (by kernel_rfl) (fi:=LG) (by kernel_rfl) (by kernel_rfl) ⟨_,_,rfl,rfl⟩ ?_
 rw[afb];dsimp -eta -iota -proj only[Zkb,Zj1,Zi0,Zjf,Zit,Zj2,Zi1,Qo,Zhx,Vf,Zg1]
 obtain⟨a1,a2,a3,a4,a5,a6,a7⟩:=h1
 have e4:(v.t.k==4)=false:=by simpa using h2
 generalize hQ:gives [.d (.v (.string (tx (ez v))))]=Q'
 (repeat' (first|(with_reducible refine And.intro ?_ ?_)|(intro hh;first|(exact absurd hh (by decide))|(have hd:=of_decide_eq_true hh)|(have hd:=of_decide_eq_false hh)|(have hd:=eq_of_beq hh)|(have hd:=ne_of_beq_false hh)|(have hd:=bne_iff_ne.1 hh)|(have hd:=bne_eq_false_iff_eq.1 hh)|skip)))
 all_goals first
  |(exact a1)
  |(exact absurd ‹_› h2)
  |(rw[←hQ];refine⟨?_,rfl⟩;simp only[ez, *,cond_true,cond_false];first|done|rfl)
  |(rw[←hQ];refine⟨?_,rfl⟩;simp_all only[ez,cond_true,cond_false];first|done|rfl)
  |(exfalso;omega)
  |omega
  |rfl
  |(have:=a6 (by omega) (by assumption);omega)
  |skip
def Dl(a:List R)(K:KT):Prop:=match a with
 |[.agg [.v (.int .i64 qo),.v (.int .i64 ij),.v (.bool qp),.v (.int .i64 qq),.v (.string qs)]]=>jj (⟨⟨qo,ij⟩,qp,qq,qs⟩:Go.Ex.AV)∧(⟨⟨qo,ij⟩,qp,qq,qs⟩:Go.Ex.AV).t.k≠4∧K [.d (.v (.string (tx (ez (⟨⟨qo,ij⟩,qp,qq,qs⟩:Go.Ex.AV)))))] []
 |_=>False
theorem zg:CK gl Dl 44:=fun a K h=>by
 unfold Dl at h
 split at h
 ·obtain⟨h0,h1,hk⟩:=h
  exact(afc (⟨⟨_,_⟩,_,_,_⟩:Go.Ex.AV) h0 h1).gives hk
 ·exact h.elim
def BJ:aj:=au BI 44 Dl
theorem vP:ah prog gl BJ:=af vO zg
theorem afd(v:Go.Ex.AV)(t:Ty)(Q:KT):vc bl BJ bf Za (f92.body.getD .skip) f92.results.toList [.agg v.cs,.agg t.cs] Q=(((dS t.1 t.2 != (0:Int))=true→Q [.agg (Z8 (0:Int) (0:Int)),.d (.i (dS t.1 t.2))] [])∧((dS t.1 t.2 != (0:Int))=false→((!mW v.1.1 t.1)=true→tA Q (21:Int))∧((!mW v.1.1 t.1)=false→(Zj3 v Q t)∧(v.2=false→((t.1==4)=true→((v.1.1 != (4:Int))=true→WO v (v.1.1≠(4:Int)∧Zeq v Q))∧Zgh v Q)∧(Zfy t v Q (((v.1.1==4)=false→((bif v.1.1==3 then true else t.1==3)=true→((bif v.1.1==3 then bif decide (v.1.2<0)then true else decide (v.1.2>18)else false)=true→tA Q (10:Int))∧((bif v.1.1==3 then bif decide (v.1.2<0)then true else decide (v.1.2>18)else false)=false→ar v.3∧(((bo v.3 (bJ v.1.1 v.1.2 v.2 v.3 v.4) t.2).2 != (0:Int))=true→Q [.agg (Z8 (0:Int) (0:Int)),.d (.v (.int .i64 (bo v.3 (bJ v.1.1 v.1.2 v.2 v.3 v.4) t.2).2))] [])∧(((bo v.3 (bJ v.1.1 v.1.2 v.2 v.3 v.4) t.2).2 != (0:Int))=false→Q [.agg [.i t.1,.i t.2,.v (.bool false),.v (.int .i64 (bo v.3 (bJ v.1.1 v.1.2 v.2 v.3 v.4) t.2).1),.v (.string ⟨⟨[]⟩⟩)],.d (.i 0)] [])))∧((bif v.1.1==3 then true else t.1==3)=false→WI Q t v)))))))):=by kernel_rfl
theorem afe(v:Go.Ex.AV)(t:Ty)(h1:db v)(h2:ar v.n):Ct prog gl 92 [.agg v.cs,.agg t.cs] (gives [.agg (ax v t).1.cs,.d (.v (.int .i64 (ax v t).2))]):=by
 refine cz vP f92 Za ⟨_,_,rfl,rfl⟩ ?_
 rw[afd];dsimp -eta -iota -proj only[Z8,tA,Zj3,Zjo,Ziy,WT,WO,Zeq,Zgh,Zfy,Zft,WI,Zi6]
 have hk:=h1.1
 have hp:bJ v.t.k v.t.sc v.aA v.n v.s=cn v:=rfl
 have hw:(bif v.t.k==3 then true else t.k==3) = !(bif v.t.k != 3 then t.k != 3 else false):=by
  cases h:v.t.k==3<;>cases h':t.k==3<;>simp[bne,h,h']
 have hx:(bif v.t.k==3 then bif decide (v.t.sc<0)then true else decide (v.t.sc>18)else false)=(bif v.t.k==3 then !dZ v.t.sc else false):=by
  cases h:v.t.k==3
  ·rfl
  ·unfold dZ
   rw[cond_true,cond_true]
   by_cases h1:v.t.sc<0
   ·have h2:¬v.t.sc≥0:=by omega
    simp[h1,h2]
   ·have h2:v.t.sc≥0:=by omega
    by_cases h3:v.t.sc>18
    ·have h4:¬v.t.sc≤18:=by omega
     simp[h1,h2,h3,h4]
    ·have h4:v.t.sc≤18:=by omega
     simp[h1,h2,h3,h4]
 rw[hp,EH,LA v.t.k t.k hk.1 hk.2.1,hw,hx]
 clear hw hx hp
 have hz:=iS h1
 generalize hQ:gives [.agg (ax v t).1.cs,.d (.v (.int .i64 (ax v t).2))]=Q'
 (repeat' (first|(with_reducible refine And.intro ?_ ?_)|(intro hh;first|(exact absurd hh (by decide))|skip)))
 all_goals first
  |(exact l4 h1 h2)
  |(have:=(l4 h1 h2).2.2.2.2.2.2;omega)
  |(rw[←hQ];refine⟨?_,rfl⟩;(try simp only[Bool.not_eq_true',Bool.not_eq_false']at *);simp only[ax,cY, *,cond_true,cond_false];first|done|rfl)
  |(exfalso;simp_all;done)
  |(rw[←hQ];refine⟨?_,rfl⟩;unfold ax cY;rename_i k1 k2 k3 k4 k5;have k6:=hh;rw[k1,k2,k3,k4,k5,k6];rfl)
  |(rw[←hQ];refine⟨?_,rfl⟩;unfold ax cY;rename_i k1 k2 k3 k4 k5;have k6:=hh;simp only[k1,k2,k3,k4,k5,k6,cond_true,cond_false];rw[k6];rfl)
  |skip
def LH(a:List R)(K:KT):Prop:=match a with
 |[.agg [.v (.int .i64 qo),.v (.int .i64 ij),.v (.bool qp),.v (.int .i64 qq),.v (.string qs)],.agg [.v (.int .i64 y8),.v (.int .i64 lF)]]=>db (⟨⟨qo,ij⟩,qp,qq,qs⟩:Go.Ex.AV)∧ar (⟨⟨qo,ij⟩,qp,qq,qs⟩:Go.Ex.AV).n∧K [.agg (ax (⟨⟨qo,ij⟩,qp,qq,qs⟩:Go.Ex.AV) (⟨y8,lF⟩:Ty)).1.cs,.d (.v (.int .i64 (ax (⟨⟨qo,ij⟩,qp,qq,qs⟩:Go.Ex.AV) (⟨y8,lF⟩:Ty)).2))] []
 |_=>False
theorem LI:CK gl LH 92:=fun a K h=>by
 unfold LH at h
 split at h
 ·obtain⟨h0,h1,hk⟩:=h
  exact(afe (⟨⟨_,_⟩,_,_,_⟩:Go.Ex.AV) (⟨_,_⟩:Ty) h0 h1).gives hk
 ·exact h.elim
def BK:aj:=au BJ 92 LH
theorem vQ:ah prog gl BK:=af vP LI
end Go.Proofs.Tryz
namespace Go.Proofs.Tryz
open Go Go.Dm Go.Ex
set_option maxRecDepth 100000
def br(a:Go.Ex.AV):Int:=o4 a.t.k a.t.sc a.aA a.n a.s
noncomputable def xT(t:Ty)(a:Go.Ex.AV):Option Go.Ex.AV:=bif (ax a t).2==0 then some (ax a t).1 else none
noncomputable def gf(op:Int)(l:List (Option Go.Ex.AV)):Option Go.Ex.AV:=
 match l.getD 0 none with
 |none=>none
 |some a=>bif br a==(if op=11 then 1 else 0)then some (bS (br a))else
  match l.getD 1 none with
  |none=>none
  |some b=>some (bS (if op=11 then fT (br a) (br b)else gw (br a) (br b)))
noncomputable def fD(ty:Ty):List (Option Go.Ex.AV)→Option Go.Ex.AV
 |[]=>none
 |[x]=>x.bind (xT ty)
 |c::x::r=>match c with
  |none=>none
  |some c=>bif br c==1 then x.bind (xT ty)else fD ty r
noncomputable def gW(ty:Ty):List (Option Go.Ex.AV)→Option Go.Ex.AV
 |[]=>some (jW ty)
 |x::r=>match x.bind (xT ty)with
  |none=>none
  |some v=>bif v.aA then gW ty r else some v
def qt:List (Option Go.Ex.AV)→Option (List Go.Ex.AV)
 |[]=>some []
 |none::_=>none
 |some v::r=>match qt r with|none=>none|some l=>some (v::l)
noncomputable def BL(op sub:Int)(ty:Ty)(l:List Go.Ex.AV):Option Go.Ex.AV:=
 bif (bb op sub ty (l.getD 0 zeroV) (l.getD (l.length-1) zeroV)).2 then some (bb op sub ty (l.getD 0 zeroV) (l.getD (l.length-1) zeroV)).1 else none
noncomputable def nj(row:List Go.Ex.AV)(op sub:Int)(t:Ty)(v:Go.Ex.AV)(ty:Ty)(l:List (Option Go.Ex.AV)):Option Go.Ex.AV:=
 if op=1 then row[sub.toNat]?
 else if op=2 then some v
 else if op=10∨op=11 then gf op l
 else if op=12 then(l.getD 0 none).map fun a=>bS (hZ (br a))
 else if op=16 then(l.getD 0 none).bind (xT t)
 else if op=14 then fD ty l
 else if op=15 then gW ty l
 else match qt l with
  |none=>none
  |some vs=>if op=13 then some (pT (vs.any fun v=>v.aA))else bif vs.any (fun v=>v.aA)then some (jW ty)else BL op sub ty vs
mutual
noncomputable def jk(row:List Go.Ex.AV):EX→Option Go.Ex.AV
 | .mk op sub t v args=>nj row op sub t v (ay (ak row) (.mk op sub t v args)).1 (fE row args)
noncomputable def fE(row:List Go.Ex.AV):List EX→List (Option Go.Ex.AV)
 |[]=>[]
 |e::r=>jk row e::fE row r
end
theorem iK(row:List Go.Ex.AV):∀l:List EX,fE row l=l.map (jk row)
 |[]=>by simp only[fE,List.map_nil]
 |e::r=>by simp only[fE,iK row r,List.map_cons]
def dV(row:List Go.Ex.AV):Prop:=∀v∈row,db v∧ar v.n
theorem fo(row:List Go.Ex.AV):(ak row).length=row.length:=by simp[ak]
theorem LJ{row:List Go.Ex.AV}(h:dV row):∀u∈ak row,da u:=by
 intro u hu
 obtain⟨v,hv,rfl⟩:=List.mem_map.1 hu
 exact(h v hv).1.1
theorem LK{t:Ty}{a v:Go.Ex.AV}(ha:db a)(hn:ar a.n)(h:xT t a=some v):j5 t v:=by
 unfold xT at h
 cases hc:(ax a t).2==0
 ·rw[hc]at h;cases h
 ·rw[hc]at h
  simp only[cond_true,Option.some.injEq]at h
  subst h
  exact om ha hn (eq_of_beq hc)
theorem vR{ty:Ty}:∀{l:List (Option Go.Ex.AV)} {v:Go.Ex.AV},fD ty l=some v→∃a,some a∈l∧xT ty a=some v
 |[],v,h=>by cases h
 |[x],v,h=>by
  simp only[fD]at h
  cases x with
  |none=>cases h
  |some a=>exact⟨a,by simp,h⟩
 |c::x::r,v,h=>by
  simp only[fD]at h
  cases c with
  |none=>cases h
  |some c=>
   dsimp only at h
   cases hc:br c==1
   ·rw[hc]at h
    obtain⟨a,h1,h2⟩:=vR (l:=r) h
    exact⟨a,by simp[h1],h2⟩
   ·rw[hc]at h
    cases x with
    |none=>cases h
    |some a=>exact⟨a,by simp,h⟩
theorem vS{ty:Ty}:∀{l:List (Option Go.Ex.AV)} {v:Go.Ex.AV},gW ty l=some v→v=jW ty∨∃a,some a∈l∧xT ty a=some v
 |[],v,h=>by simp only[gW,Option.some.injEq]at h;exact .inl h.symm
 |x::r,v,h=>by
  simp only[gW]at h
  cases x with
  |none=>cases h
  |some a=>
   simp only[Option.bind_some]at h
   cases ha:xT ty a with
   |none=>rw[ha]at h;cases h
   |some w=>
    rw[ha]at h
    dsimp only at h
    cases hw:w.aA
    ·rw[hw]at h
     simp only[cond_false,Option.some.injEq]at h
     subst h
     exact .inr ⟨a,by simp,ha⟩
    ·rw[hw]at h
     rcases vS (l:=r) h with h|⟨b,h1,h2⟩
     ·exact .inl h
     ·exact .inr ⟨b,by simp[h1],h2⟩
theorem all_some:∀{l:List (Option Go.Ex.AV)} {vs:List Go.Ex.AV},qt l=some vs→l=vs.map some
 |[],vs,h=>by simp only[qt,Option.some.injEq]at h;subst h;rfl
 |none::r,vs,h=>by simp only[qt]at h;cases h
 |some v::r,vs,h=>by
  simp only[qt]at h
  cases hr:qt r with
  |none=>rw[hr]at h;cases h
  |some q=>
   rw[hr]at h
   simp only[Option.some.injEq]at h
   subst h
   rw[all_some hr];rfl
theorem oo{ae:List Ty}{op sub:Int}{t:Ty}{v:Go.Ex.AV}{l:List Ty}(h:op=9∨op=10∨op=11∨op=12∨op=13):(bA ae op sub t v l).1=⟨1,0⟩:=by
 rcases h with rfl|rfl|rfl|rfl|rfl<;>rfl
theorem Vn{row:List Go.Ex.AV}{op sub:Int}{t:Ty}{v:Go.Ex.AV}{tl:List Ty}{l:List (Option Go.Ex.AV)}{m:Int}(hr:dV row)(hn:ar v.n)(hlen:m=l.length)(hl:∀a,some a∈l→db a∧ar a.n)
  (hm:bE op sub t v m row.length=true) (uh:da (bA (ak row) op sub t v tl).1) {w:Go.Ex.AV}
  (h:nj row op sub t v (bA (ak row) op sub t v tl).1 l=some w):j5 (bA (ak row) op sub t v tl).1 w:=by
 unfold nj at h
 split at h
 ·rename_i e
  subst e
  have hs:=kr hm
  have hlt:sub.toNat<row.length:=by omega
  rw[List.getElem?_eq_getElem hlt]at h
  simp only[Option.some.injEq]at h
  subst h
  have:=hr _ (List.getElem_mem hlt)
  refine⟨?_,this.1,this.2⟩
  show _=(ak row).getD sub.toNat ⟨0,0⟩
  rw[List.getD_eq_getElem?_getD,List.getElem?_eq_getElem (by rw[fo];exact hlt)]
  simp[ak]
 split at h
 ·rename_i e
  subst e
  simp only[Option.some.injEq]at h
  subst h
  exact⟨rfl,gN.1 (vM hm),hn⟩
 split at h
 ·rename_i e
  rw[oo (by omega)]
  unfold gf at h
  split at h
  ·cases h
  ·rename_i a _
   cases hc:br a==(if op=11 then 1 else 0)
   ·rw[hc]at h
    simp only[cond_false]at h
    split at h
    ·cases h
    ·simp only[Option.some.injEq]at h;subst h;exact qW _
   ·rw[hc]at h
    simp only[cond_true,Option.some.injEq]at h;subst h;exact qW _
 split at h
 ·rename_i e
  rw[oo (by omega)]
  cases hx:l.getD 0 none with
  |none=>rw[hx]at h;cases h
  |some a=>rw[hx]at h;simp only[Option.map_some,Option.some.injEq]at h;subst h;exact qW _
 split at h
 ·rename_i e
  subst e
  cases hx:l.getD 0 none with
  |none=>rw[hx]at h;cases h
  |some a=>
   rw[hx]at h
   have ha:some a∈l:=by
    rw[List.getD_eq_getElem?_getD]at hx
    cases hg:l[0]? with
    |none=>rw[hg]at hx;cases hx
    |some b=>rw[hg]at hx;simp only[Option.getD_some]at hx;subst hx;exact List.mem_of_getElem? hg
   have:=hl a ha
   exact LK this.1 this.2 h
 split at h
 ·obtain⟨a,h1,h2⟩:=vR h
  have:=hl a h1
  exact LK this.1 this.2 h2
 split at h
 ·rcases vS h with h|⟨a,h1,h2⟩
  ·rw[h];exact qV uh
  ·have:=hl a h1
   exact LK this.1 this.2 h2
 rename_i n1 n2 n10 n12 n16 n14 n15
 split at h
 ·cases h
 rename_i vs oY
 have oY:=all_some oY
 have hg:∀a∈vs,db a∧ar a.n:=fun a ha=>hl a (by rw[oY];exact List.mem_map.2 ⟨a,ha,rfl⟩)
 split at h
 ·rename_i e
  rw[oo (by omega)]
  simp only[Option.some.injEq]at h;subst h;exact Dj _
 rename_i n13
 cases hz:vs.any (fun v=>v.aA)
 ·rw[hz]at h
  simp only[cond_false]at h
  have ct:=b8 hm n1 n2
  have hlv:vs.length=l.length:=by rw[oY];simp
  have S4:0<vs.length:=by omega
  unfold BL at h
  rw[List.getD_eq_getElem?_getD,List.getD_eq_getElem?_getD,List.getElem?_eq_getElem S4,List.getElem?_eq_getElem (show vs.length-1<vs.length by omega)]at h
  simp only[Option.getD_some]at h
  have ga:=hg _ (List.getElem_mem S4)
  have gb:=hg _ (List.getElem_mem (show vs.length-1<vs.length by omega))
  cases hq:(bb op sub (bA (ak row) op sub t v tl).1 vs[0] vs[vs.length-1]).2
  ·rw[hq]at h;cases h
  ·rw[hq]at h
   simp only[cond_true,Option.some.injEq]at h
   subst h
   refine EG ga.1 gb.1 ga.2 gb.2 (fun e=>oo (.inl e)) (fun e=>?_) (fun e=>?_) hq
   ·subst e;rfl
   ·subst e;rfl
 ·rw[hz]at h
  simp only[cond_true,Option.some.injEq]at h
  subst h
  exact qV uh
mutual
theorem pf{row:List Go.Ex.AV}(hr:dV row):∀{e:EX} {w:Go.Ex.AV},fits e→cu row.length e=true→(ay (ak row) e).2=true→jk row e=some w→j5 (ay (ak row) e).1 w
 | .mk op sub t v args,w,hf,hm,ht,h=>by
   obtain⟨tl,hl⟩:=jz ht
   obtain⟨h1,h2⟩:=sU hm
   obtain⟨⟨_,_,_,_,_,_,hn⟩,_,ss⟩:=ee hf
   have uh:=lG (LJ hr) (e:=.mk op sub t v args) (by rw[fo];exact hm) ht
   simp only[jk]at h
   rw[fA hl]at h uh ⊢
   exact Vn (m:=(args.length:Int)) hr hn (by rw[iK,List.length_map]) (LL hr ss h2 hl) h1 uh h
theorem LL{row:List Go.Ex.AV}(hr:dV row):∀{l:List EX} {tl:List Ty},eY l→ep row.length l=true→bm (ak row) l=some tl→∀a,some a∈fE row l→db a∧ar a.n
 |[],tl,_,_,_,a,ha=>by simp only[fE]at ha;cases ha
 |e::r,tl,hf,hm,hl,a,ha=>by
  simp only[ep,Bool.and_eq_true]at hm
  simp only[eY]at hf
  simp only[bm]at hl
  rcases he:ay (ak row) e with⟨t,_|_⟩
  ·rw[he]at hl;cases hl
  ·rw[he]at hl
   rcases hq:bm (ak row) r with _|q
   ·rw[hq]at hl;cases hl
   ·simp only[fE]at ha
    rcases List.mem_cons.1 ha with h|h
    ·exact(pf hr hf.1 hm.1 (by rw[he]) h.symm).2
    ·exact LL hr hf.2 hm.2 hq a h
end
end Go.Proofs.Tryz
