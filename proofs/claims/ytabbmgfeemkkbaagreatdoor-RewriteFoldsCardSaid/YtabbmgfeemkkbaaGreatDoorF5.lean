/- Part of the proof: contracts of functions; no condition. -/
import Derived.Test.YtabbmgfeemkkbaaGreatDoorE4
import Derived.Tactics
import Derived.Shelf.RegionOpenPlain
import Derived.WalkKit
import Derived.Deep.LoopGhost
import Derived.Deep.Draws
import Derived.Lib.Walk
import Derived.Sort.WalkB12
import Derived.Sort.EncStr
import Derived.Lib.SliceRun
import Derived.Laws.IdiomStrings
namespace Go.Proofs.Tryz
open Go Go.Dm Go.Ex Go.RowKit Go.Lib Go.Sort Go.Proofs
def j0(b:UInt8):Value:=.int .u8 (b.toNat:Int)
def xq(b:UInt8):UInt8:=if 97≤b.toNat∧b.toNat≤122 then b-32 else b
theorem tQ{w wr:World}{n iH off:Nat}{dk:Array UInt8}{i:Nat}(hi:i<dk.size)(hwr:wr=putRow j0 (Sort.ahead w n) iH off dk)(x:UInt8):
  wr.setCell ⟨iH,off+i,none⟩ (j0 x)=putRow j0 (Sort.ahead w n) iH off (dk.setIfInBounds i x):=by
 subst hwr
 rw[putRow_set j0 _ iH off dk i x hi]
theorem y9(w:World)(s:ByteArray)(cap:Nat):Holds j0 ((w.drew.alloc (.cells (bytesRow s cap) 5 ((bytesRow s cap).size,(bytesRow s cap).size+1)))) w.heap.size 0 s.data:=by
 intro j hj
 have e:=World.cell?_alloc_mark w.drew (bytesRow s cap) 5 ((bytesRow s cap).size,(bytesRow s cap).size+1) j
 have f:=World.frozen?_alloc_mark w.drew (bytesRow s cap) 5 (bytesRow s cap).size ((bytesRow s cap).size+1) j
 have hs:j<(bytesRow s cap).size:=by unfold bytesRow;have:s.data.size=s.size:=rfl;simp;omega
 rw[bytesRow_at s cap j hj]at e
 rw[Nat.zero_add]
 refine⟨?_,?_⟩
 ·show World.cell? _ ⟨w.drew.heap.size,j,none⟩=_
  rw[e]
  unfold j0
  rw[getElem!_pos s.data j hj]
 ·show World.frozen? _ ⟨w.drew.heap.size,j,none⟩=_
  rw[f,decide_eq_false (by omega:¬(bytesRow s cap).size≤j)];rfl
set_option maxHeartbeats 4000000 in
set_option maxRecDepth 1000000 in
theorem Bx(s:ByteArray)(hs:s.size≤1000)(w:World):
  Calls prog 136 #[.string s] w fun e w'=>∃(dk:Array UInt8) (q:Nat),e = .returned (.string ⟨dk⟩)∧dk.size=s.size∧(∀j,j<s.size→dk[j]! = xq s.data[j]!)∧
   w'=putRow j0 (Sort.ahead (w.drew.alloc (.cells (bytesRow s (grownCap w s.size 0 5)) 5 ((bytesRow s (grownCap w s.size 0 5)).size,(bytesRow s (grownCap w s.size 0 5)).size+1))) q) w.heap.size 0 dk:=by
 have hconv:=run_bytes_of_string (P:=prog) w 9 104 5 s underlying9 underlying104 underlying5
 have hH:=y9 w s (grownCap w s.size 0 5)
 generalize grownCap w s.size 0 5=cap at *
 generalize hW:w.drew.alloc (.cells (bytesRow s cap) 5 ((bytesRow s cap).size,(bytesRow s cap).size+1))=W at *
 clear hW
 go_enter func136,(show f136.ntmps=33 from by kernel_rfl)
 go_wp2
 generalize hblk:w.heap.size=iH at *
 have hsz:s.data.size=s.size:=rfl
 go_loopg [4] s.size (fun g s4 wr=>∃(k q:Nat) (dk:Array UInt8),k≤s.size∧s.size-k≤g∧s4 = .int .i64 k∧wr=putRow j0 (Sort.ahead W q) iH 0 dk∧dk.size=s.size∧(∀j,j<k→dk[j]! = xq s.data[j]!)∧(∀j,k≤j→dk[j]! = s.data[j]!))
 case atStart=>exact⟨0,0,s.data,Nat.zero_le _,by omega,rfl,(putRow_self j0 _ iH 0 s.data hH).symm,rfl,fun j h=>by omega,fun _ _=>rfl⟩
 case round=>
  obtain⟨k,q,dk,hk,hg,rfl,hwr,hds,hlow,hhigh⟩:=hrel
  have hHk:Sort.Holds j0 wr iH 0 dk:=by rw[hwr];exact holds_putRow j0 _ iH 0 s.data dk (holds_ahead j0 W q iH 0 s.data hH) (by omega)
  have W2:Aside (wr=putRow j0 (Sort.ahead W q) iH 0 dk):=hwr
  have I2:Aside ((∀j,j<k→dk[j]! = xq s.data[j]!)∧(∀j,k≤j→dk[j]! = s.data[j]!)):=⟨hlow,hhigh⟩
  clear hwr hlow hhigh
  by_cases hlt:k<s.size
  ·obtain⟨c1,f1⟩:=hHk k (by omega)
   rw[Nat.zero_add]at c1 f1
   have HH:Aside (Sort.Holds j0 wr iH 0 dk):=hHk
   clear hHk hH hconv
   unfold j0 at c1
   generalize hb:dk[k]! = b at c1
   have hb1:b.toNat<256:=b.toNat_lt
   have B:Aside (dk[k]! = b):=hb
   clear hb
   generalize hc:(b.toNat:Int)=c at c1
   have hc0:0≤c∧c≤255:=by omega
   have C:Aside ((b.toNat:Int)=c):=hc
   clear hc hb1
   by_cases h97:c≥97
   ·by_cases h122:c≤122
    ·go_wp2_with fail
     go_roundg (s.size-(k+1))
     case measure=>omega
     case rel=>
      have hb:b=s.data[k]!:=by rw[←B.out];exact I2.out.2 k (Nat.le_refl _)
      have hn:(Value.int IntKind.u8 (c-32))=j0 (xq b):=by
          have e:xq b=b-32:=by unfold xq;rw[if_pos (by have:=C.out;omega)]
          have h2:((b-32).toNat:Int)=c-32:=by
            have:=C.out
            rw[UInt8.toNat_sub_of_le _ _ (by show(32:UInt8).toNat≤b.toNat;show 32≤b.toNat;omega)]
            show((b.toNat-32:Nat):Int)=_
            omega
          unfold j0;rw[e,h2]
      have hst:=tQ (i:=k) (by omega) W2.out (xq b)
      rw[Nat.zero_add]at hst
      refine⟨k+1,q,dk.setIfInBounds k (xq b),by omega,Nat.le_refl _,by go_num,by rw[hn];exact hst,by simpa using hds,fun j hj=>?_,fun j hj=>?_⟩
      ·by_cases e:j=k
       ·subst e
        rw[getElem!_set_same _ _ _ (by omega),hb]
       ·rw[getElem!_set_other _ _ _ _ e];exact I2.out.1 j (by omega)
      ·rw[getElem!_set_other _ _ _ _ (by omega)];exact I2.out.2 j (by omega)
    ·go_wp2_with fail
     go_roundg (s.size-(k+1))
     case measure=>omega
     case rel=>
      have hb:b=s.data[k]!:=by rw[←B.out];exact I2.out.2 k (Nat.le_refl _)
      have e0:xq b=b:=by unfold xq;rw[if_neg (by have:=C.out;omega)]
      refine⟨k+1,q,dk,by omega,Nat.le_refl _,by go_num,W2.out,hds,fun j hj=>?_,fun j hj=>I2.out.2 j (by omega)⟩
      by_cases e:j=k
      ·subst e
       rw[B.out,←hb,e0]
      ·exact I2.out.1 j (by omega)
   ·go_wp2_with fail
    go_roundg (s.size-(k+1))
    case measure=>omega
    case rel=>
     have hb:b=s.data[k]!:=by rw[←B.out];exact I2.out.2 k (Nat.le_refl _)
     have e0:xq b=b:=by unfold xq;rw[if_neg (by have:=C.out;omega)]
     refine⟨k+1,q,dk,by omega,Nat.le_refl _,by go_num,W2.out,hds,fun j hj=>?_,fun j hj=>I2.out.2 j (by omega)⟩
     by_cases e:j=k
     ·subst e
      rw[B.out,←hb,e0]
     ·exact I2.out.1 j (by omega)
  ·have:k=s.size:=by omega
   subst this
   have hcells:∀j (hj:j<dk.toList.length),wr.cell? ((⟨iH,0,none⟩:Addr).add j)=some (.int .u8 (dk.toList[j].toNat:Int)):=fun j hj=>by
    have:=(hHk j (by simpa using hj)).1
    unfold j0 at this
    rw[Addr.add_lit,this,getElem!_pos dk j (by simpa using hj)]
    rfl
   have hback:=run_convert_bytes_back (P:=prog) wr 104 9 5 ⟨iH,0,none⟩ cap dk.toList underlying104 underlying5 underlying9 hcells
   rw[Array.length_toList,hds,Array.toArray_toList]at hback
   have HH:Aside (Sort.Holds j0 wr iH 0 dk):=hHk
   clear hHk hH hconv hcells
   go_wp2
   go_ret
   exact⟨dk,q,rfl,hds,fun j hj=>I2.out.1 j hj,by rw[hblk];exact W2.out⟩
theorem y_{w:World}{C:Array Value}{q:Nat}{dk:Array UInt8}{m:Nat×Nat}:mB [] w.heap.size w (putRow j0 (Sort.ahead (w.drew.alloc (.cells C 5 m)) q) w.heap.size 0 dk):=by
 refine⟨rfl,rfl,rfl,?_,fun k hk _=>?_⟩
 ·show w.heap.size≤(Array.modify _ _ _).size
  rw[Array.size_modify]
  show w.heap.size≤(w.heap.push _).size
  simp
 ·show(Array.modify (w.heap.push _) _ _)[k]? = _
  rw[Array.getElem?_modify,if_neg (by omega),Array.getElem?_push,if_neg (by omega)]
def Dh(l:List UInt8):List UInt8:=l.map xq
theorem aeZ{gl:Nat→Option Obj}(s:ByteArray)(hs:s.size≤1000):Ct prog gl 136 [.d (.v (.string s))] (gives [.d (.v (.string (tx (Dh s.data.toList))))]):=by
 refine Qk (xs:=[.string s]) (gM func136 (by kernel_rfl) (by kernel_rfl)) rfl fun w hg=>?_
 refine(Bx s hs w).mono fun e w' ⟨dk,q,he,hd,bC,hw⟩=>?_
 have:(⟨dk⟩:ByteArray)=tx (Dh s.data.toList):=by
  unfold tx Dh
  congr 1
  apply Array.ext
  ·simp;exact hd
  ·intro i h1 h2
   have:=bC i (by omega)
   rw[getElem!_pos dk i h1,getElem!_pos s.data i (by show i<s.size;omega)]at this
   rw[this];simp
 rw[←this]
 exact⟨he,hw▸y_⟩
def Lg(a:List R)(K:KT):Prop:=match a with
 |[.d (.v (.string s))]=>s.size≤1000∧K [.d (.v (.string (tx (Dh s.data.toList))))] []
 |_=>False
theorem Lh{gl:Nat→Option Obj}(a:List R)(K:KT)(h:Lg a K):Ct prog gl 136 a K:=by
 unfold Lg at h
 split at h
 ·exact Ct.gives (aeZ _ h.1) h.2
 ·exact h.elim
end Go.Proofs.Tryz
namespace Go.Ex
open Go Go.Dm
theorem sR:∀(l:List UInt8) (acc:Nat),l.all dT=true→aE acc l+1≤(acc+1)*10^l.length
 |[],acc,_=>by simp[sL]
 |c::r,acc,h=>by
  simp only[List.all_cons,Bool.and_eq_true]at h
  have hc:=eG.1 h.1
  rw[iP,List.length_cons,Nat.pow_succ]
  refine Nat.le_trans (sR r _ h.2) ?_
  have:(10*acc+(c.toNat-48)+1)≤(acc+1)*10:=by omega
  calc (10*acc+(c.toNat-48)+1)*10^r.length≤((acc+1)*10)*10^r.length:=Nat.mul_le_mul_right _ this
   _=(acc+1)*(10^r.length*10):=by rw[Nat.mul_assoc,Nat.mul_comm 10]
theorem sS:∀(l:List UInt8) (acc:Nat),l.all dT=true→aE acc l≤1000000000000000000→Lib.parseUint10 acc l = .ok (aE acc l)
 |[],acc,_,_=>rfl
 |c::r,acc,h,hb=>by
  simp only[List.all_cons,Bool.and_eq_true]at h
  have hc:=eG.1 h.1
  rw[iP]at hb ⊢
  have hle:=qP r (10*acc+(c.toNat-48))
  simp only[Lib.parseUint10]
  rw[if_pos hc,if_neg (by omega),if_neg (by omega),show acc*10+(c.toNat-48)=10*acc+(c.toNat-48) by omega]
  exact sS r _ h.2 hb
theorem iR{l:List UInt8}(h:aR l=true)(hl:l.length≤10):numOf l=(aE 0 l:Int)∧aE 0 l<10^l.length:=by
 obtain⟨c,r,rfl,hc,ha⟩:=pa h
 have hb:=sR (c::r) 0 ha
 have hp:10^(c::r).length≤10^10:=Nat.pow_le_pow_right (by decide) hl
 refine⟨?_,by omega⟩
 have hu:=sS (c::r) 0 ha (by omega)
 generalize aE 0 (c::r)=N at *
 have key:Lib.atoiAll (c::r) = .ok (N:Int):=by
  unfold Lib.atoiAll
  have hn:¬(c.toNat=43∨c.toNat=45):=by omega
  have NN:¬c.toNat=45:=by omega
  dsimp only
  rw[if_neg hn]
  unfold Lib.parseMag
  rw[if_neg (by simp),hu]
  dsimp only
  rw[if_neg (by omega),if_neg (by omega),if_neg NN]
 unfold numOf
 rw[key]
theorem za{a b:List UInt8}(ha:a≠[])(hb:b≠[]):aR (a++b)=(aR a&&aR b):=by
 unfold aR
 have e1:a.isEmpty=false:=by cases a<;>simp_all
 have e2:b.isEmpty=false:=by cases b<;>simp_all
 have e3:(a++b).isEmpty=false:=by cases a<;>simp_all
 rw[e1,e2,e3,List.all_append]
 simp
theorem Li{l:List UInt8}(h:l.length=10):dO l =
  if l[4]? = some 45∧l[7]? = some 45∧aR (l.take 4)=true∧aR ((l.take 7).drop 5)=true∧aR (l.drop 8)=true then dp (aE 0 (l.take 4)) (aE 0 ((l.take 7).drop 5)) (aE 0 (l.drop 8))else(0,12):=by
 have l1:(l.take 4).length=4:=by rw[List.length_take];omega
 have l2:((l.take 7).drop 5).length=2:=by rw[List.length_drop,List.length_take];omega
 have l3:(l.drop 8).length=2:=by rw[List.length_drop];omega
 unfold dO
 have ne:∀{l:List UInt8} {n:Nat},l.length=n+1→l≠[]:=fun h e=>by rw[e]at h;simp at h
 rw[za (by intro e;have:=congrArg List.length e;rw[List.length_append,l1]at this;simp at this) (ne l3),za (ne l1) (ne l2)]
 by_cases hc:l[4]? = some 45∧l[7]? = some 45∧aR (l.take 4)=true∧aR ((l.take 7).drop 5)=true∧aR (l.drop 8)=true
 ·obtain⟨c1,c2,c3,c4,c5⟩:=hc
  rw[if_pos ⟨h,c1,c2,by rw[c3,c4,c5];rfl⟩,if_pos ⟨c1,c2,c3,c4,c5⟩,(iR c3 (by omega)).1,(iR c4 (by omega)).1,(iR c5 (by omega)).1]
 ·rw[if_neg hc,if_neg]
  intro⟨_,c1,c2,c3⟩
  simp only[Bool.and_eq_true]at c3
  exact hc ⟨c1,c2,c3.1.1,c3.1.2,c3.2⟩
end Go.Ex
namespace Go.Proofs.Tryz
open Go Go.Dm Go.Ex
set_option maxRecDepth 100000
variable {gl:Nat→Option Obj}
def da(t:Ty):Prop:=1≤t.k∧t.k≤5∧0≤t.sc∧t.sc≤18∧(t.k≠3→t.sc=0)
theorem Qp(a b:Int):(a==b)=decide (a=b):=by by_cases h:a=b<;>simp[h]
theorem lZ{k sc:Int}:cf k sc=0↔da ⟨k,sc⟩:=by
 unfold cf dZ da
 simp only[Qp,bne]
 by_cases h1:k<1<;>by_cases h2:k>5<;>by_cases h3:sc≥0<;>by_cases h4:sc≤18<;>by_cases h5:sc=0<;>by_cases h6:k=3<;>simp[h1,h2,h3,h4,h5,h6]<;>omega
def db(v:Go.Ex.AV):Prop:=da v.t∧(v.aA=true→v.n=0∧v.s=eB)∧
 (v.aA=false→(v.t.k=4∧v.n=0∧v.s.size≤256)∨(v.t.k≠4∧v.s=eB∧(v.t.k=1→v.n=0∨v.n=1)∧(v.t.k=3→-999999999999999999≤v.n∧v.n≤999999999999999999)∧(v.t.k=5→-719162≤v.n∧v.n≤2932896)))
theorem gN{v:Go.Ex.AV}:bL v.t.k v.t.sc v.aA v.n v.s=0↔db v:=by
 obtain⟨⟨k,sc⟩,aA,n,s⟩:=v
 unfold db bL
 dsimp only
 by_cases ht:cf k sc=0
 ·rw[ht]
  have zI:=lZ.1 ht
  have hs:∀{P Q:Prop},((s==eB)=true→(P↔Q))→((s==eB)=false→(P↔Q))→(P↔Q):=fun h1 h2=>by
   cases hb:s==eB
   ·exact h2 hb
   ·exact h1 hb
  refine hs (fun hb=>?_) (fun hb=>?_)
  ·have he:=sD.1 hb
   have h0:eB.size=0:=rfl
   have hse:s.size=0:=by rw[he];rfl
   show(bif (0:Int) != 0 then 0 else _)=0↔_
   rw[show(s=={data:={toList:=[]:Array UInt8}:ByteArray})=true from hb]
   unfold bZ
   simp only[Qp,bne]
   cases aA
   ·by_cases k1:k=1
    ·subst k1;by_cases a:n=0<;>by_cases b:n=1<;>simp[a,b,zI,he]
    ·by_cases k3:k=3
     ·subst k3;by_cases a:(-999999999999999999:Int)≤n<;>by_cases b:n≤(999999999999999999:Int)<;>simp[a,b,zI,he]
     ·by_cases k5:k=5
      ·subst k5;by_cases a:n≥(-719162:Int)<;>by_cases b:n≤(2932896:Int)<;>simp[a,b,zI,he]
      ·by_cases k4:k=4
       ·subst k4;by_cases a:n=0<;>simp[a,zI,he,h0]
       ·simp[k1,k3,k4,k5,zI,he]
   ·by_cases a:n=0<;>simp[a,zI,he]
  ·have he:=adv.1 hb
   show(bif (0:Int) != 0 then 0 else _)=0↔_
   rw[show(s=={data:={toList:=[]:Array UInt8}:ByteArray})=false from hb]
   unfold bZ
   simp only[Qp,bne]
   cases aA
   ·by_cases k1:k=1
    ·subst k1;simp[zI,he]
    ·by_cases k3:k=3
     ·subst k3;simp[zI,he]
     ·by_cases k5:k=5
      ·subst k5;simp[zI,he]
      ·by_cases k4:k=4
       ·subst k4;by_cases a:n=0<;>by_cases b:(s.size:Int)≤256<;>simp[a,b,zI,he]<;>omega
       ·simp[k1,k3,k4,k5,zI,he]
   ·simp[zI,he]
 ·have:(cf k sc != 0)=true:=by simpa using ht
  rw[this,cond_true]
  have hn:¬da ⟨k,sc⟩:=fun h=>ht (lZ.2 h)
  constructor
  ·intro h;exact(ht h).elim
  ·intro h;exact(hn h.1).elim
theorem l4{v:Go.Ex.AV}(h:db v)(hn:ar v.n):jj v:=by
 obtain⟨⟨h1,h2,h3,h4,h5⟩,h6,h7⟩:=h
 refine⟨hn,h1,h2,h3,h4,fun hk hz=>?_,?_⟩
 ·rcases h7 hz with⟨e,_⟩|⟨_,_,_,_,h⟩
  ·omega
  ·exact h hk
 ·cases hz:v.aA
  ·rcases h7 hz with⟨_,_,h⟩|⟨_,h,_⟩
   ·exact h
   ·rw[h];decide
  ·rw[(h6 hz).2];decide
theorem iS{v:Go.Ex.AV}(h:db v):v.s.size≤256:=by
 obtain⟨_,h6,h7⟩:=h
 cases hz:v.aA
 ·rcases h7 hz with⟨_,_,h⟩|⟨_,h,_⟩
  ·exact h
  ·rw[h];decide
 ·rw[(h6 hz).2];decide
noncomputable def ax(v:Go.Ex.AV)(t:Ty):Go.Ex.AV×Int:=
 bif cf t.k t.sc != 0 then(zeroV,cf t.k t.sc)
 else bif (bif bif decide (v.t.k<1)then true else decide (v.t.k>5)then true else bif bif bif v.t.k != t.k then v.t.k != 4 else false then t.k != 4 else false then bG v.t.k != bG t.k else false)then(zeroV,21)
 else bif v.aA then(jW t,0)
 else bif t.k==4 then cY v
 else bif v.t.k==4 then dC v.s.data.toList t
 else bif (bif v.t.k != 3 then t.k != 3 else false)then(⟨t,false,v.n,eB⟩,0)
 else bif (bif v.t.k==3 then !dZ v.t.sc else false)then(zeroV,10)
 else bif (bo v.n (cn v) t.sc).2 != 0 then(zeroV,(bo v.n (cn v) t.sc).2)else(⟨t,false,(bo v.n (cn v) t.sc).1,eB⟩,0)
def WT(a0:Ty):List D:=[.i a0.1,.i a0.2,.v (.bool true),.i 0,.v (.string ⟨⟨[]⟩⟩)]
def Ziy(a0:Ty):List R:=[.agg (WT a0),.d (.i 0)]
def Zjo(a0:KT)(a1:Ty):Prop:=a0 (Ziy a1) []
def Zj3(a0:Go.Ex.AV)(a1:KT)(a2:Ty):Prop:=a0.2=true→Zjo a1 a2
def Zft(a0:Go.Ex.AV)(a1:KT)(a2:Ty):Prop:=(a0.1.1==4)=true→a0.4.size≤(1000:Nat)∧a1 [.agg [.v (.int .i64 (dC a0.4.data.1 {k:=a2.1,sc:=a2.2:Ty}).1.1.1),.v (.int .i64 (dC a0.4.data.1 {k:=a2.1,sc:=a2.2:Ty}).1.1.2),.v (.bool (dC a0.4.data.1 {k:=a2.1,sc:=a2.2:Ty}).1.2),.v (.int .i64 (dC a0.4.data.1 {k:=a2.1,sc:=a2.2:Ty}).1.3),.v (.string (dC a0.4.data.1 {k:=a2.1,sc:=a2.2:Ty}).1.4)],.d (.v (.int .i64 (dC a0.4.data.1 {k:=a2.1,sc:=a2.2:Ty}).2))] []
def Zfy(a0:Ty)(a1:Go.Ex.AV)(a2:KT)(k':Prop):Prop:=(a0.1==4)=false→(Zft a1 a2 a0)∧k'
def Zi6(a0:Ty)(a1:Go.Ex.AV):List R:=[.agg [.i a0.1,.i a0.2,.v (.bool false),.i a1.3,.v (.string ⟨⟨[]⟩⟩)],.d (.i 0)]
def WI(a0:KT)(a1:Ty)(a2:Go.Ex.AV):Prop:=a0 (Zi6 a1 a2) []
theorem ae0(v:Go.Ex.AV)(t:Ty)(Q:KT):vc bl Bw bf RH (f124.body.getD .skip) f124.results.toList [.agg v.cs,.agg t.cs] Q=(((cf t.1 t.2 != (0:Int))=true→Q [.agg (Z8 (0:Int) (0:Int)),.d (.i (cf t.1 t.2))] [])∧((cf t.1 t.2 != (0:Int))=false→((bif bif decide (v.1.1<1)then true else decide (v.1.1>5)then true else bif bif bif v.1.1 != t.1 then v.1.1 != (4:Int)else false then t.1 != (4:Int)else false then bG v.1.1 != bG t.1 else false)=true→tA Q (21:Int))∧((bif bif decide (v.1.1<1)then true else decide (v.1.1>5)then true else bif bif bif v.1.1 != t.1 then v.1.1 != (4:Int)else false then t.1 != (4:Int)else false then bG v.1.1 != bG t.1 else false)=false→(Zj3 v Q t)∧(v.2=false→((t.1==4)=true→WO v (Q [.agg [.v (.int .i64 (cY {t:={k:=v.1.1,sc:=v.1.2:Ty},aA:=v.2,n:=v.3,s:=v.4:AV}).1.1.1),.v (.int .i64 (cY {t:={k:=v.1.1,sc:=v.1.2:Ty},aA:=v.2,n:=v.3,s:=v.4:AV}).1.1.2),.v (.bool (cY {t:={k:=v.1.1,sc:=v.1.2:Ty},aA:=v.2,n:=v.3,s:=v.4:AV}).1.2),.v (.int .i64 (cY {t:={k:=v.1.1,sc:=v.1.2:Ty},aA:=v.2,n:=v.3,s:=v.4:AV}).1.3),.v (.string (cY {t:={k:=v.1.1,sc:=v.1.2:Ty},aA:=v.2,n:=v.3,s:=v.4:AV}).1.4)],.d (.v (.int .i64 (cY {t:={k:=v.1.1,sc:=v.1.2:Ty},aA:=v.2,n:=v.3,s:=v.4:AV}).2))] []))∧(Zfy t v Q (((v.1.1==4)=false→((bif v.1.1 != (3:Int)then t.1 != (3:Int)else false)=true→WI Q t v)∧((bif v.1.1 != (3:Int)then t.1 != (3:Int)else false)=false→((bif v.1.1==3 then !dZ v.1.2 else false)=true→tA Q (10:Int))∧((bif v.1.1==3 then !dZ v.1.2 else false)=false→(((bo v.3 (bU v.1.1 v.1.2 v.2 v.3 v.4) t.2).2 != (0:Int))=true→Q [.agg (Z8 (0:Int) (0:Int)),.d (.v (.int .i64 (bo v.3 (bU v.1.1 v.1.2 v.2 v.3 v.4) t.2).2))] [])∧(((bo v.3 (bU v.1.1 v.1.2 v.2 v.3 v.4) t.2).2 != (0:Int))=false→Q [.agg [.i t.1,.i t.2,.v (.bool false),.v (.int .i64 (bo v.3 (bU v.1.1 v.1.2 v.2 v.3 v.4) t.2).1),.v (.string ⟨⟨[]⟩⟩)],.d (.i 0)] [])))))))))):=by kernel_rfl
theorem ae1(G:aZ gl)(v:Go.Ex.AV)(t:Ty)(h1:db v)(h2:ar v.n):Ct prog gl 124 [.agg v.cs,.agg t.cs] (gives [.agg (ax v t).1.cs,.d (.v (.int .i64 (ax v t).2))]):=by
 refine aw bN (vE G) aF bD mixed (fn:=f124) (body:=f124.body.getD .skip) (by kernel_rfl) (by kernel_rfl) (by kernel_rfl) (fi:=RH) (by kernel_rfl) (by kernel_rfl) ⟨_,_,rfl,rfl⟩ ?_
 rw[ae0];dsimp -eta -iota -proj only[Z8,tA,Zj3,Zjo,Ziy,WT,WO,Zfy,Zft,WI,Zi6]
 have hp:bU v.t.k v.t.sc v.aA v.n v.s=cn v:=rfl
 rw[hp]
 generalize hQ:gives [.agg (ax v t).1.cs,.d (.v (.int .i64 (ax v t).2))]=Q'
 (repeat' (first|(with_reducible refine And.intro ?_ ?_)|(intro hh;first|(exact absurd hh (by decide))|skip)))
 all_goals first
  |(exact l4 h1 h2)
  |(have:=(l4 h1 h2).2.2.2.2.2.2;omega)
  |(rw[←hQ];refine⟨?_,rfl⟩;simp only[ax, *,cond_true,cond_false];first|done|rfl)
def Lj(a:List R)(K:KT):Prop:=match a with
 |[.agg [.v (.int .i64 qo),.v (.int .i64 ij),.v (.bool qp),.v (.int .i64 qq),.v (.string qs)],.agg [.v (.int .i64 y8),.v (.int .i64 lF)]]=>db (⟨⟨qo,ij⟩,qp,qq,qs⟩:Go.Ex.AV)∧ar (⟨⟨qo,ij⟩,qp,qq,qs⟩:Go.Ex.AV).n∧K [.agg (ax (⟨⟨qo,ij⟩,qp,qq,qs⟩:Go.Ex.AV) (⟨y8,lF⟩:Ty)).1.cs,.d (.v (.int .i64 (ax (⟨⟨qo,ij⟩,qp,qq,qs⟩:Go.Ex.AV) (⟨y8,lF⟩:Ty)).2))] []
 |_=>False
theorem Lk(G:aZ gl):CK gl Lj 124:=fun a K h=>by
 unfold Lj at h
 split at h
 ·obtain⟨h0,h1,hk⟩:=h
  exact(ae1 G (⟨⟨_,_⟩,_,_,_⟩:Go.Ex.AV) (⟨_,_⟩:Ty) h0 h1).gives hk
 ·exact h.elim
def By:aj:=au Bw 124 Lj
theorem vF(G:aZ gl):ah prog gl By:=af (vE G) (Lk G)
def dt(op x y:Int):Int×Int:=
 bif op==3 then(h_ x y,lh x y)else bif op==4 then(eT x y,ic x y)else bif op==5 then fX x y else bif op==6 then m_ x y else bif op==7 then nc x y else bif op==8 then(je x,kp x)else(0,0)
def kR(op:Int)(t:Ty)(x y:Int):Go.Ex.AV×Bool:=(⟨t,false,(dt op x y).1,eB⟩,bif (dt op x y).2==0 then bL t.k t.sc false (dt op x y).1 eB==0 else false)
noncomputable def bb(op sub:Int)(t:Ty)(a b:Go.Ex.AV):Go.Ex.AV×Bool:=
 bif op==9 then(bS (dU sub a b).1,true)
 else bif op==17 then(nY (a.s++b.s),bL 4 0 false 0 (a.s++b.s)==0)
 else bif op==18 then(zG a.s.size,true)
 else bif (bif t.k==3 then op != 5 else false)then(bif (bif (ax a t).2 != 0 then true else(ax b t).2 != 0)then(zeroV,false)else kR op t (ax a t).1.n (ax b t).1.n)
 else kR op t a.n b.n
def WU(a0:List D)(k:Int→Int→Bool→Int→ByteArray→Prop):Prop:=∃(n:Int),PU a0 n fun aN b aW cD=>k n aN b aW cD
def Vg(a0:List D)(k:Int→Int→Bool→Int→ByteArray→Prop):Prop:=a0.length=5∧WU a0 fun n aN b aW cD=>k n aN b aW cD
def Zd6(a0:List (List D))(k:Int→Int→Bool→Int→ByteArray→Int→Int→Bool→Int→ByteArray→Prop):Prop:=zF a0 fun es=>uD (0:Int) es fun cells=>Vg cells fun n aN b aW cD=>zF a0 fun es=>zF a0 fun kS=>Ib es kS fun cells=>Vg cells fun bO dv kU c_ jn=>k n aN b aW cD bO dv kU c_ jn
def Ziv(a0:ByteArray):List R:=[.agg [.i 2,.i 0,.v (.bool false),.i (↑a0.size:Int),.v (.string ⟨⟨[]⟩⟩)],.d (.v (.bool true))]
def Zje(a0:Int)(a1:KT)(a2:ByteArray):Prop:=(a0==18)=true→a1 (Ziv a2) []
def Zjt(a0:Int)(a1:KT)(a2:ByteArray)(k:Prop):Prop:=(a0==17)=false→(Zje a0 a1 a2)∧k
def S2:List R:=[.agg (Z8 (0:Int) (0:Int)),.d (.v (.bool false))]
def Ll(a0:KT):Prop:=a0 S2 []
def Zfv(a0:Ty)(a1 a2 a3:Int)(a4:Bool)(a5:Int)(a6:ByteArray)(a7 a8:Int)(a9:Bool)(eV:Int)(fI:ByteArray)(a12:KT)(k':Prop):Prop:=(bif a0.1==3 then a1 != (5:Int)else false)=true→db {t:={k:=a2,sc:=a3:Ty},aA:=a4,n:=a5,s:=a6:AV}∧ar a5∧db {t:={k:=a7,sc:=a8:Ty},aA:=a9,n:=eV,s:=fI:AV}∧ar eV∧((bif (ax {t:={k:=a2,sc:=a3:Ty},aA:=a4,n:=a5,s:=a6:AV} {k:=a0.1,sc:=a0.2:Ty}).2 != (0:Int)then true else(ax {t:={k:=a7,sc:=a8:Ty},aA:=a9,n:=eV,s:=fI:AV} {k:=a0.1,sc:=a0.2:Ty}).2 != (0:Int))=true→Ll a12)∧k'
def Zg2(a0:Ty):List R:=[.agg (Zem a0 (0:Int)),.d (.v (.bool (bif (0:Int)==0 then bL a0.1 a0.2 false (0:Int) {data:={toList:=[]:Array UInt8}:ByteArray}==(0:Int)else false)))]
def Zhk(a0:Int)(a1:KT)(a2:Ty):Prop:=((a0==8)=false→a1 (Zg2 a2) [])
def Zz(a0:Int)(a1:KT)(a2 a3 a4:Int)(a5:Bool)(a6:Int)(a7:ByteArray)(a8 a9:Int)(eV:Bool)(fI:Int)(a12:ByteArray)(cl:Ty):Prop:=((a0==9)=true→a1 [.agg [.v (.int .i64 (bS (dU a2 {t:={k:=a3,sc:=a4:Ty},aA:=a5,n:=a6,s:=a7:AV} {t:={k:=a8,sc:=a9:Ty},aA:=eV,n:=fI,s:=a12:AV}).1).1.1),.v (.int .i64 (bS (dU a2 {t:={k:=a3,sc:=a4:Ty},aA:=a5,n:=a6,s:=a7:AV} {t:={k:=a8,sc:=a9:Ty},aA:=eV,n:=fI,s:=a12:AV}).1).1.2),.v (.bool (bS (dU a2 {t:={k:=a3,sc:=a4:Ty},aA:=a5,n:=a6,s:=a7:AV} {t:={k:=a8,sc:=a9:Ty},aA:=eV,n:=fI,s:=a12:AV}).1).2),.v (.int .i64 (bS (dU a2 {t:={k:=a3,sc:=a4:Ty},aA:=a5,n:=a6,s:=a7:AV} {t:={k:=a8,sc:=a9:Ty},aA:=eV,n:=fI,s:=a12:AV}).1).3),.v (.string (bS (dU a2 {t:={k:=a3,sc:=a4:Ty},aA:=a5,n:=a6,s:=a7:AV} {t:={k:=a8,sc:=a9:Ty},aA:=eV,n:=fI,s:=a12:AV}).1).4)],.d (.v (.bool true))] [])∧((a0==9)=false→((a0==17)=true→a7.size.add a12.size≤(9223372036854775807:Nat)∧a1 [.agg [.i 4,.i 0,.v (.bool false),.i 0,.v (.string (a7++a12))],.d (.v (.bool (bL (4:Int) (0:Int) false (0:Int) (a7++a12)==(0:Int))))] [])∧(Zjt a0 a1 a7 (((a0==18)=false→(Zfv cl a0 a3 a4 a5 a6 a7 a8 a9 eV fI a12 a1 (((bif (ax {t:={k:=a3,sc:=a4:Ty},aA:=a5,n:=a6,s:=a7:AV} {k:=cl.1,sc:=cl.2:Ty}).2 != (0:Int)then true else(ax {t:={k:=a8,sc:=a9:Ty},aA:=eV,n:=fI,s:=a12:AV} {k:=cl.1,sc:=cl.2:Ty}).2 != (0:Int))=false→((a0==3)=true→a1 [.agg [.i cl.1,.i cl.2,.v (.bool false),.i (h_ (ax {t:={k:=a3,sc:=a4:Ty},aA:=a5,n:=a6,s:=a7:AV} {k:=cl.1,sc:=cl.2:Ty}).1.3 (ax {t:={k:=a8,sc:=a9:Ty},aA:=eV,n:=fI,s:=a12:AV} {k:=cl.1,sc:=cl.2:Ty}).1.3),.v (.string ⟨⟨[]⟩⟩)],.d (.v (.bool (bif lh (ax {t:={k:=a3,sc:=a4:Ty},aA:=a5,n:=a6,s:=a7:AV} {k:=cl.1,sc:=cl.2:Ty}).1.3 (ax {t:={k:=a8,sc:=a9:Ty},aA:=eV,n:=fI,s:=a12:AV} {k:=cl.1,sc:=cl.2:Ty}).1.3==(0:Int)then bL cl.1 cl.2 false (h_ (ax {t:={k:=a3,sc:=a4:Ty},aA:=a5,n:=a6,s:=a7:AV} {k:=cl.1,sc:=cl.2:Ty}).1.3 (ax {t:={k:=a8,sc:=a9:Ty},aA:=eV,n:=fI,s:=a12:AV} {k:=cl.1,sc:=cl.2:Ty}).1.3) {data:={toList:=[]:Array UInt8}:ByteArray}==(0:Int)else false)))] [])∧((a0==3)=false→((a0==4)=true→a1 [.agg [.i cl.1,.i cl.2,.v (.bool false),.i (eT (ax {t:={k:=a3,sc:=a4:Ty},aA:=a5,n:=a6,s:=a7:AV} {k:=cl.1,sc:=cl.2:Ty}).1.3 (ax {t:={k:=a8,sc:=a9:Ty},aA:=eV,n:=fI,s:=a12:AV} {k:=cl.1,sc:=cl.2:Ty}).1.3),.v (.string ⟨⟨[]⟩⟩)],.d (.v (.bool (bif ic (ax {t:={k:=a3,sc:=a4:Ty},aA:=a5,n:=a6,s:=a7:AV} {k:=cl.1,sc:=cl.2:Ty}).1.3 (ax {t:={k:=a8,sc:=a9:Ty},aA:=eV,n:=fI,s:=a12:AV} {k:=cl.1,sc:=cl.2:Ty}).1.3==(0:Int)then bL cl.1 cl.2 false (eT (ax {t:={k:=a3,sc:=a4:Ty},aA:=a5,n:=a6,s:=a7:AV} {k:=cl.1,sc:=cl.2:Ty}).1.3 (ax {t:={k:=a8,sc:=a9:Ty},aA:=eV,n:=fI,s:=a12:AV} {k:=cl.1,sc:=cl.2:Ty}).1.3) {data:={toList:=[]:Array UInt8}:ByteArray}==(0:Int)else false)))] [])∧((a0==4)=false→((a0==5)=true→a1 [.agg [.i cl.1,.i cl.2,.v (.bool false),.v (.int .i64 (fX (ax {t:={k:=a3,sc:=a4:Ty},aA:=a5,n:=a6,s:=a7:AV} {k:=cl.1,sc:=cl.2:Ty}).1.3 (ax {t:={k:=a8,sc:=a9:Ty},aA:=eV,n:=fI,s:=a12:AV} {k:=cl.1,sc:=cl.2:Ty}).1.3).1),.v (.string ⟨⟨[]⟩⟩)],.d (.v (.bool (bif (fX (ax {t:={k:=a3,sc:=a4:Ty},aA:=a5,n:=a6,s:=a7:AV} {k:=cl.1,sc:=cl.2:Ty}).1.3 (ax {t:={k:=a8,sc:=a9:Ty},aA:=eV,n:=fI,s:=a12:AV} {k:=cl.1,sc:=cl.2:Ty}).1.3).2==(0:Int)then bL cl.1 cl.2 false (fX (ax {t:={k:=a3,sc:=a4:Ty},aA:=a5,n:=a6,s:=a7:AV} {k:=cl.1,sc:=cl.2:Ty}).1.3 (ax {t:={k:=a8,sc:=a9:Ty},aA:=eV,n:=fI,s:=a12:AV} {k:=cl.1,sc:=cl.2:Ty}).1.3).1 {data:={toList:=[]:Array UInt8}:ByteArray}==(0:Int)else false)))] [])∧((a0==5)=false→((a0==6)=true→a1 [.agg [.i cl.1,.i cl.2,.v (.bool false),.v (.int .i64 (m_ (ax {t:={k:=a3,sc:=a4:Ty},aA:=a5,n:=a6,s:=a7:AV} {k:=cl.1,sc:=cl.2:Ty}).1.3 (ax {t:={k:=a8,sc:=a9:Ty},aA:=eV,n:=fI,s:=a12:AV} {k:=cl.1,sc:=cl.2:Ty}).1.3).1),.v (.string ⟨⟨[]⟩⟩)],.d (.v (.bool (bif (m_ (ax {t:={k:=a3,sc:=a4:Ty},aA:=a5,n:=a6,s:=a7:AV} {k:=cl.1,sc:=cl.2:Ty}).1.3 (ax {t:={k:=a8,sc:=a9:Ty},aA:=eV,n:=fI,s:=a12:AV} {k:=cl.1,sc:=cl.2:Ty}).1.3).2==(0:Int)then bL cl.1 cl.2 false (m_ (ax {t:={k:=a3,sc:=a4:Ty},aA:=a5,n:=a6,s:=a7:AV} {k:=cl.1,sc:=cl.2:Ty}).1.3 (ax {t:={k:=a8,sc:=a9:Ty},aA:=eV,n:=fI,s:=a12:AV} {k:=cl.1,sc:=cl.2:Ty}).1.3).1 {data:={toList:=[]:Array UInt8}:ByteArray}==(0:Int)else false)))] [])∧((a0==6)=false→((a0==7)=true→a1 [.agg [.i cl.1,.i cl.2,.v (.bool false),.v (.int .i64 (nc (ax {t:={k:=a3,sc:=a4:Ty},aA:=a5,n:=a6,s:=a7:AV} {k:=cl.1,sc:=cl.2:Ty}).1.3 (ax {t:={k:=a8,sc:=a9:Ty},aA:=eV,n:=fI,s:=a12:AV} {k:=cl.1,sc:=cl.2:Ty}).1.3).1),.v (.string ⟨⟨[]⟩⟩)],.d (.v (.bool (bif (nc (ax {t:={k:=a3,sc:=a4:Ty},aA:=a5,n:=a6,s:=a7:AV} {k:=cl.1,sc:=cl.2:Ty}).1.3 (ax {t:={k:=a8,sc:=a9:Ty},aA:=eV,n:=fI,s:=a12:AV} {k:=cl.1,sc:=cl.2:Ty}).1.3).2==(0:Int)then bL cl.1 cl.2 false (nc (ax {t:={k:=a3,sc:=a4:Ty},aA:=a5,n:=a6,s:=a7:AV} {k:=cl.1,sc:=cl.2:Ty}).1.3 (ax {t:={k:=a8,sc:=a9:Ty},aA:=eV,n:=fI,s:=a12:AV} {k:=cl.1,sc:=cl.2:Ty}).1.3).1 {data:={toList:=[]:Array UInt8}:ByteArray}==(0:Int)else false)))] [])∧((a0==7)=false→((a0==8)=true→a1 [.agg [.i cl.1,.i cl.2,.v (.bool false),.i (je (ax {t:={k:=a3,sc:=a4:Ty},aA:=a5,n:=a6,s:=a7:AV} {k:=cl.1,sc:=cl.2:Ty}).1.3),.v (.string ⟨⟨[]⟩⟩)],.d (.v (.bool (bif kp (ax {t:={k:=a3,sc:=a4:Ty},aA:=a5,n:=a6,s:=a7:AV} {k:=cl.1,sc:=cl.2:Ty}).1.3==(0:Int)then bL cl.1 cl.2 false (je (ax {t:={k:=a3,sc:=a4:Ty},aA:=a5,n:=a6,s:=a7:AV} {k:=cl.1,sc:=cl.2:Ty}).1.3) {data:={toList:=[]:Array UInt8}:ByteArray}==(0:Int)else false)))] [])∧Zhk a0 a1 cl))))))))∧((bif cl.1==3 then a0 != (5:Int)else false)=false→((a0==3)=true→a1 [.agg [.i cl.1,.i cl.2,.v (.bool false),.i (h_ a6 fI),.v (.string ⟨⟨[]⟩⟩)],.d (.v (.bool (bif lh a6 fI==0 then bL cl.1 cl.2 false (h_ a6 fI) {data:={toList:=[]:Array UInt8}:ByteArray}==(0:Int)else false)))] [])∧((a0==3)=false→((a0==4)=true→a1 [.agg [.i cl.1,.i cl.2,.v (.bool false),.i (eT a6 fI),.v (.string ⟨⟨[]⟩⟩)],.d (.v (.bool (bif ic a6 fI==0 then bL cl.1 cl.2 false (eT a6 fI) {data:={toList:=[]:Array UInt8}:ByteArray}==(0:Int)else false)))] [])∧((a0==4)=false→((a0==5)=true→a1 [.agg [.i cl.1,.i cl.2,.v (.bool false),.v (.int .i64 (fX a6 fI).1),.v (.string ⟨⟨[]⟩⟩)],.d (.v (.bool (bif (fX a6 fI).2==(0:Int)then bL cl.1 cl.2 false (fX a6 fI).1 {data:={toList:=[]:Array UInt8}:ByteArray}==(0:Int)else false)))] [])∧((a0==5)=false→((a0==6)=true→a1 [.agg [.i cl.1,.i cl.2,.v (.bool false),.v (.int .i64 (m_ a6 fI).1),.v (.string ⟨⟨[]⟩⟩)],.d (.v (.bool (bif (m_ a6 fI).2==(0:Int)then bL cl.1 cl.2 false (m_ a6 fI).1 {data:={toList:=[]:Array UInt8}:ByteArray}==(0:Int)else false)))] [])∧((a0==6)=false→((a0==7)=true→a1 [.agg [.i cl.1,.i cl.2,.v (.bool false),.v (.int .i64 (nc a6 fI).1),.v (.string ⟨⟨[]⟩⟩)],.d (.v (.bool (bif (nc a6 fI).2==(0:Int)then bL cl.1 cl.2 false (nc a6 fI).1 {data:={toList:=[]:Array UInt8}:ByteArray}==(0:Int)else false)))] [])∧((a0==7)=false→((a0==8)=true→a1 [.agg [.i cl.1,.i cl.2,.v (.bool false),.i (je a6),.v (.string ⟨⟨[]⟩⟩)],.d (.v (.bool (bif kp a6==0 then bL cl.1 cl.2 false (je a6) {data:={toList:=[]:Array UInt8}:ByteArray}==(0:Int)else false)))] [])∧Zhk a0 a1 cl))))))))))
theorem Vh(op sub:Int)(y:Ty)(w:Go.Ex.AV)(args:List EX)(t:Ty)(x:List (List D))(a b:Go.Ex.AV)(Q:KT):vc bl By bf Rr (f106.body.getD .skip) f106.results.toList [.agg (aT op sub y w (aa args)),.agg t.cs,.d (.sl x)] Q=(Zd6 x fun n aN b aW cD bO dv kU c_ jn=>(Zz op Q sub n aN b aW cD bO dv kU c_ jn t)∧Zz op Q sub n aN b aW cD bO dv kU c_ jn t):=by kernel_rfl
theorem Vi(G:aZ gl)(op sub:Int)(y:Ty)(w:Go.Ex.AV)(args:List EX)(t:Ty)(x:List (List D))(a b:Go.Ex.AV)(h1:db a)(h2:db b)(h3:ar a.n)(h4:ar b.n)(h5:x[0]? = some a.cs)(h6:x[x.length-1]? = some b.cs)(h7:x.length≤1000):Ct prog gl 106 [.agg (aT op sub y w (aa args)),.agg t.cs,.d (.sl x)] (gives [.agg (bb op sub t a b).1.cs,.d (.v (.bool (bb op sub t a b).2))]):=by
 refine aw bN (vF G) aF bD mixed (fn:=f106) (body:=f106.body.getD .skip) (by kernel_rfl) (by kernel_rfl) (by kernel_rfl) (fi:=Rr) (by kernel_rfl) (by kernel_rfl) ⟨_,_,rfl,rfl⟩ ?_
 rw[Vh];dsimp -eta -iota -proj only[Zd6,zF,fy,uD,Vg,WU,PU,Ib,Zz,Zjt,Zje,Ziv,Zfv,Ll,S2,Z8,Zhk,Zg2,Zem]
 have ct:0<x.length:=(List.getElem?_eq_some_iff.1 h5).1
 have e1:IntKind.i64.wrap ((x.length:Int)-1)=((x.length-1:Nat):Int):=by rw[a_ (by omega)];omega
 generalize hQ:gives [.agg (bb op sub t a b).1.cs,.d (.v (.bool (bb op sub t a b).2))]=Q'
 refine⟨x,rfl,⟨by decide,by omega⟩,a.cs,h5,rfl,a.t.k,a.t.sc,a.aA,a.n,a.s,rfl,x,rfl,x,rfl,?_⟩
 rw[e1]
 refine⟨⟨by omega,by omega⟩,b.cs,by rw[Int.toNat_natCast];exact h6,rfl,b.t.k,b.t.sc,b.aA,b.n,b.s,rfl,?_⟩
 (repeat' (first|(with_reducible refine And.intro ?_ ?_)|(intro hh;first|(exact absurd hh (by decide))|skip)))
 all_goals first
  |assumption
  |(rw[←hQ];refine⟨?_,rfl⟩;simp only[bb,kR,dt, *,cond_true,cond_false];first|done|rfl)
  |(have:=iS h1;have:=iS h2;show a.s.size+b.s.size≤_;omega)
def Bz(a:List R)(K:KT):Prop:=match a with
 |[.agg x0,.agg [.v (.int .i64 y8),.v (.int .i64 lF)],.d (.sl x)]=>∃(op:Int) (sub:Int) (y:Ty) (w:Go.Ex.AV) (args:List EX) (a:Go.Ex.AV) (b:Go.Ex.AV),x0=(aT op sub y w (aa args))∧db a∧db b∧ar a.n∧ar b.n∧x[0]? = some a.cs∧x[x.length-1]? = some b.cs∧x.length≤1000∧K [.agg (bb op sub (⟨y8,lF⟩:Ty) a b).1.cs,.d (.v (.bool (bb op sub (⟨y8,lF⟩:Ty) a b).2))] []
 |_=>False
theorem ED(G:aZ gl):CK gl Bz 106:=fun a K h=>by
 unfold Bz at h
 split at h
 ·obtain⟨op,sub,y,w,args,a,b,rfl,h0,h1,h2,h3,h4,h5,h6,hk⟩:=h
  exact(Vi G op sub y w args (⟨_,_⟩:Ty) _ a b h0 h1 h2 h3 h4 h5 h6).gives hk
 ·exact h.elim
def oe:aj:=au By 106 Bz
theorem kC(G:aZ gl):ah prog gl oe:=af (vF G) (ED G)
def BA:aj:=au Kd 136 Lg
theorem vG:ah prog gl BA:=af Ep Lh
theorem gV{l:List UInt8}(h:aR l=true):l.all dT=true:=by
 unfold aR at h
 simp only[Bool.and_eq_true]at h
 exact h.2
theorem og{s:ByteArray}{c:UInt8}{r:List UInt8}(h:s.data.toList=c::r):s[Int.toNat 0]? = some c∧s.size=r.length+1∧s.extract 1 s.size=tx r:=by
 have e:s=tx (c::r):=by rw[←h];rfl
 subst e
 refine⟨ni (l:=c::r) (x:=0) (Nat.zero_lt_succ _),by rw[az];rfl,?_⟩
 rw[gL];rfl
theorem Di(N:Nat)(h:N≤9223372036854775808)(b:Bool):dL (N:Int) b=(gy N b).1∧dM (N:Int) b=(gy N b).2:=lE (by omega) (by simp only[ba];omega)
def Zgm(a0:Int)(a1:ByteArray)(k:Nat→Nat→Prop):Prop:=Qn a0 a1 fun l h=>(a1.extract l h).size≤(2000:Nat)∧k l h
def Zgs(a0:Int)(a1:ByteArray)(a2:KT)(k:Nat→Nat→Prop):Prop:=Zgm a0 a1 fun l h=>((!aR (a1.extract l h).data.1)=true→dK a2 (0:Int) (12:Int))∧k l h
def NT(a0:Int)(k:Prop):Prop:=9≤a0∧a0≤9223372036854775808∧k
def Zhu(a0:ByteArray)(a1 a2:Nat)(a3:KT)(k:Prop):Prop:=(!aR (a0.extract a1 a2).data.1)=false→(a0.extract a1 a2).size≤(2000:Nat)∧(a0.extract a1 a2).data.1.all dT=true∧NT (9223372036854775808:Int) (((!decide ((↑(aE (0:Nat) (a0.extract a1 a2).data.toList):Int)≤9223372036854775808))=true→dK a3 (0:Int) (10:Int))∧k)
def Zif(a0:ByteArray)(a1:KT)(k:Prop):Prop:=(!aR a0.data.1)=false→a0.size≤(2000:Nat)∧a0.data.1.all dT=true∧NT (9223372036854775808:Int) (((!decide ((↑(aE (0:Nat) a0.data.toList):Int)≤9223372036854775808))=true→dK a1 (0:Int) (10:Int))∧k)
theorem ae3(s:ByteArray)(Q:KT):vc bl BA bf RU (f137.body.getD .skip) f137.results.toList [.d (.v (.string s))] Q=((decide ((↑s.size:Int)>0)=true→Fv (0:Int) s fun c=>(((↑c.toNat:Int)==45)=true→Zgs (1:Int) s Q fun l h=>(Zhu s l h Q (((!decide ((↑(aE (0:Nat) (s.extract l h).data.toList):Int)≤9223372036854775808))=false→Q [.d (.i (dL (bif decide ((↑(aE (0:Nat) (s.extract l h).data.toList):Int)≤9223372036854775808)then(↑(aE (0:Nat) (s.extract l h).data.1):Int)else(0:Int)) ((↑c.toNat:Int)==45))),.d (.i (dM (bif decide ((↑(aE (0:Nat) (s.extract l h).data.toList):Int)≤9223372036854775808)then(↑(aE (0:Nat) (s.extract l h).data.1):Int)else(0:Int)) ((↑c.toNat:Int)==45)))] []))))∧(((↑c.toNat:Int)==45)=false→s.size≤(2000:Nat)∧((!aR s.data.1)=true→dK Q (0:Int) (12:Int))∧(Zif s Q (((!decide ((↑(aE (0:Nat) s.data.toList):Int)≤9223372036854775808))=false→Q [.d (.i (dL (bif decide ((↑(aE (0:Nat) s.data.toList):Int)≤9223372036854775808)then(↑(aE (0:Nat) s.data.1):Int)else(0:Int)) ((↑c.toNat:Int)==45))),.d (.i (dM (bif decide ((↑(aE (0:Nat) s.data.toList):Int)≤9223372036854775808)then(↑(aE (0:Nat) s.data.1):Int)else(0:Int)) ((↑c.toNat:Int)==45)))] [])))))∧(decide ((↑s.size:Int)>0) = !true→(false=true→Zgs (1:Int) s Q fun l h=>(Zhu s l h Q (((!decide ((↑(aE (0:Nat) (s.extract l h).data.toList):Int)≤9223372036854775808))=false→Q [.d (.i (dL (bif decide ((↑(aE (0:Nat) (s.extract l h).data.toList):Int)≤9223372036854775808)then(↑(aE (0:Nat) (s.extract l h).data.1):Int)else(0:Int)) false)),.d (.i (dM (bif decide ((↑(aE (0:Nat) (s.extract l h).data.toList):Int)≤9223372036854775808)then(↑(aE (0:Nat) (s.extract l h).data.1):Int)else(0:Int)) false))] []))))∧(false=false→s.size≤(2000:Nat)∧((!aR s.data.1)=true→dK Q (0:Int) (12:Int))∧(Zif s Q (((!decide ((↑(aE (0:Nat) s.data.toList):Int)≤9223372036854775808))=false→Q [.d (.i (dL (bif decide ((↑(aE (0:Nat) s.data.toList):Int)≤9223372036854775808)then(↑(aE (0:Nat) s.data.1):Int)else(0:Int)) false)),.d (.i (dM (bif decide ((↑(aE (0:Nat) s.data.toList):Int)≤9223372036854775808)then(↑(aE (0:Nat) s.data.1):Int)else(0:Int)) false))] [])))))):=by kernel_rfl
theorem ae4(s:ByteArray)(h1:s.size≤1000):Ct prog gl 137 [.d (.v (.string s))] (gives [.d (.v (.int .i64 (Go.Ex.intOf s.data.toList).1)),.d (.v (.int .i64 (Go.Ex.intOf s.data.toList).2))]):=by
 refine cz vG f137 RU ⟨_,_,rfl,rfl⟩ ?_
 rw[ae3];dsimp -eta -iota -proj only[Fv,Zgs,Zgm,Qn,fb,dK,Zhu,NT,Zif]
 have key:∀(l:List UInt8) (neg:Bool),Go.Ex.intOf s.data.toList=(bif aR l then(bif decide (aE 0 l≤9223372036854775808)then gy (aE 0 l) neg else(0,10))else(0,12))→l.length≤1000→
   ((tx l).size≤2000∧((!aR l)=true→gives [.d (.v (.int .i64 (Go.Ex.intOf s.data.toList).1)),.d (.v (.int .i64 (Go.Ex.intOf s.data.toList).2))] [.d (.v (.int .i64 0)),.d (.v (.int .i64 12))] [])∧
   ((!aR l)=false→(tx l).size≤2000∧l.all dT=true∧(9:Int)≤9223372036854775808∧(9223372036854775808:Int)≤9223372036854775808∧
     ((!decide ((aE 0 l:Int)≤9223372036854775808))=true→gives [.d (.v (.int .i64 (Go.Ex.intOf s.data.toList).1)),.d (.v (.int .i64 (Go.Ex.intOf s.data.toList).2))] [.d (.v (.int .i64 0)),.d (.v (.int .i64 10))] [])∧
     ((!decide ((aE 0 l:Int)≤9223372036854775808))=false→gives [.d (.v (.int .i64 (Go.Ex.intOf s.data.toList).1)),.d (.v (.int .i64 (Go.Ex.intOf s.data.toList).2))] [.d (.v (.int .i64 (dL (bif decide ((aE 0 l:Int)≤9223372036854775808)then(aE 0 l:Int)else 0) neg))),.d (.v (.int .i64 (dM (bif decide ((aE 0 l:Int)≤9223372036854775808)then(aE 0 l:Int)else 0) neg)))] []))):=by
  intro l neg hi hl
  refine⟨by rw[az];omega,fun h=>?_,fun h=>⟨by rw[az];omega,gV (by simpa using h),by decide,by decide,fun h2=>?_,fun h2=>?_⟩⟩
  ·rw[hi,show aR l=false by simpa using h];exact⟨rfl,rfl⟩
  ·have h2:¬(aE 0 l:Int)≤9223372036854775808:=by simpa using h2
   rw[hi,show aR l=true by simpa using h,decide_eq_false (by omega)];exact⟨rfl,rfl⟩
  ·have h2:aE 0 l≤9223372036854775808:=by
    have:(aE 0 l:Int)≤9223372036854775808:=by simpa using h2
    omega
   rw[hi,show aR l=true by simpa using h,decide_eq_true h2,decide_eq_true (by omega:(aE 0 l:Int)≤9223372036854775808),cond_true,cond_true,cond_true,(Di _ h2 neg).1,(Di _ h2 neg).2];exact⟨rfl,rfl⟩
 have FY:=El s.data.toList
 rcases jY s.data.toList with⟨hn,r,hr,ht⟩|⟨hn,ht,hh⟩
 ·obtain⟨a1,a2,a3⟩:=og hr
  rw[hn,ht]at FY
  have hk:=key r true FY (by omega)
  refine⟨fun _=>⟨by decide,trivial,45,a1,fun _=>⟨1,s.size,rfl,rfl,by omega,Nat.le_refl _,trivial,?_⟩,fun h=>(by cases h)⟩,fun h=>?_⟩
  ·rw[a3];exact hk
  ·rw[decide_eq_true (by omega)]at h;cases h
 ·rw[hn,ht]at FY
  have hk:=key s.data.toList false FY (by rw[size_data];exact h1)
  refine⟨fun h0=>?_,fun h0=>⟨fun h=>(by cases h),fun _=>hk⟩⟩
  obtain⟨c,r,hr⟩:∃c r,s.data.toList=c::r:=by
   cases hs:s.data.toList with
   |nil=>have:=size_data s;rw[hs]at this;have:=of_decide_eq_true h0;simp at *;omega
   |cons c r=>exact⟨c,r,rfl⟩
  obtain⟨a1,a2,a3⟩:=og hr
  have hc:((c.toNat:Int)==45)=false:=by
   rw[hr]at hh
   simp only[List.head?_cons,ne_eq,Option.some.injEq]at hh
   rw[beq_eq_false_iff_ne]
   intro e
   exact hh (UInt8.toNat_inj.1 (by show c.toNat=45;omega))
  refine⟨by decide,trivial,c,a1,fun h=>?_,fun _=>?_⟩
  ·rw[hc]at h;cases h
  ·rw[hc];exact hk
def Lm(a:List R)(K:KT):Prop:=match a with
 |[.d (.v (.string s))]=>s.size≤1000∧K [.d (.v (.int .i64 (Go.Ex.intOf s.data.toList).1)),.d (.v (.int .i64 (Go.Ex.intOf s.data.toList).2))] []
 |_=>False
theorem Ln:CK gl Lm 137:=fun a K h=>by
 unfold Lm at h
 split at h
 ·obtain⟨h0,hk⟩:=h
  exact(ae4 _ h0).gives hk
 ·exact h.elim
def BB:aj:=au BA 137 Lm
theorem vH:ah prog gl BB:=af vG Ln
structure DX where
 m:List UInt8
 neg:Bool
 x:Nat
def Vj(p:DX):St:={tm:=[(0,.d (.v (.string (tx p.m)))),(2,.d (.v (.int .i64 0))),(3,.d (.v (.int .i64 0))),(4,.d (.v (.int .i64 0))),(5,.d (.v (.bool p.neg))),(6,.d (.v (.int .i64 (p.x:Int))))],hp:=[],kn:=[],gd:=[]}
def kD(s:ByteArray)(k:Nat)(p:DX):Prop:=p.m=Lib.trimPrefix s.data.toList [45]∧p.neg=Ek s.data.toList∧p.x≤p.m.length∧(∀c∈p.m.take p.x,c≠46)∧k=p.m.length-p.x
def Lo(s:ByteArray):Fi:={ZH with lx:=[(5,{X:=DX,sh:=Vj,P:=fun _=>kD s})]}
theorem EE{N:Nat}(h:N≤999999999999999999)(b:Bool):(gy N b).2=0:=by
 unfold gy
 cases b
 ·rw[cond_false,decide_eq_true (by omega)];rfl
 ·rw[cond_true,decide_eq_true (by omega)];rfl
def oh(s:ByteArray):List R:=[.d (.v (.int .i64 (bF s.data.toList).1)),.d (.v (.int .i64 (bF s.data.toList).2.1)),.d (.v (.int .i64 (bF s.data.toList).2.2))]
theorem iT(s:ByteArray)(w p:List UInt8)(neg:Bool)(hp:p.all dT=true)(hl:w.length+p.length≤1000)(h0:aR w=false→bF s.data.toList=(0,0,12))
  (h1:aR w=true→bF s.data.toList=bif decide ((p.length:Int)>18)then(0,0,10)else bif decide (aE 0 (w++p)≤999999999999999999)then((gy (aE 0 (w++p)) neg).1,(p.length:Int),0)else(0,0,10)):
  (tx w).size≤2000∧((!aR w)=true→gives (oh s) [.d (.v (.int .i64 0)),.d (.v (.int .i64 0)),.d (.v (.int .i64 12))] [])∧
  ((!aR w)=false→(decide (((tx p).size:Int)>18)=true→gives (oh s) [.d (.v (.int .i64 0)),.d (.v (.int .i64 0)),.d (.v (.int .i64 10))] [])∧
    (decide (((tx p).size:Int)>18)=false→(tx w).size.add (tx p).size≤9223372036854775807∧(tx w++tx p).size≤2000∧(w++p).all dT=true∧(9:Int)≤999999999999999999∧(999999999999999999:Int)≤9223372036854775808∧
     ((!decide ((aE 0 (tx w++tx p).data.toList:Int)≤999999999999999999))=true→gives (oh s) [.d (.v (.int .i64 0)),.d (.v (.int .i64 0)),.d (.v (.int .i64 10))] [])∧
     ((!decide ((aE 0 (tx w++tx p).data.toList:Int)≤999999999999999999))=false→gives (oh s) [.d (.v (.int .i64 (dL (bif decide ((aE 0 (tx w++tx p).data.toList:Int)≤999999999999999999)then(aE 0 (w++p):Int)else 0) neg))),.d (.v (.int .i64 ((tx p).size:Int))),.d (.v (.int .i64 (dM (bif decide ((aE 0 (tx w++tx p).data.toList:Int)≤999999999999999999)then(aE 0 (w++p):Int)else 0) neg)))] []))):=by
 have e:(tx w++tx p).data.toList=w++p:=by rw[aD];rfl
 rw[e,az,az]
 refine⟨by omega,fun h=>?_,fun h=>⟨fun h2=>?_,fun h2=>⟨?_,?_,?_,by decide,by decide,fun h3=>?_,fun h3=>?_⟩⟩⟩
 ·unfold oh;rw[h0 (by simpa using h)];exact⟨rfl,rfl⟩
 all_goals have hw:aR w=true:=by simpa using h
 all_goals have h1:=h1 hw
 ·unfold oh;rw[h1,h2];exact⟨rfl,rfl⟩
 all_goals rw[h2,cond_false]at h1
 ·show w.length+p.length≤_;omega
 ·rw[aD,az,List.length_append];omega
 ·rw[List.all_append,hp,gV hw];rfl
 ·have h3:¬(aE 0 (w++p):Int)≤999999999999999999:=by simpa using h3
  rw[decide_eq_false (by omega),cond_false]at h1
  unfold oh;rw[h1];exact⟨rfl,rfl⟩
 ·have h3:(aE 0 (w++p):Int)≤999999999999999999:=by simpa using h3
  rw[decide_eq_true (by omega),cond_true]at h1
  unfold oh;rw[h1,decide_eq_true h3,cond_true,(Di _ (by omega) neg).1,(Di _ (by omega) neg).2,EE (by omega)]
  exact⟨rfl,rfl⟩
theorem xr{m:List UInt8}{x:Nat}(h:x<m.length)(hx:m[x]=46)(bC:∀c∈m.take x,c≠46):m.takeWhile (· != 46)=m.take x∧(m.dropWhile (· != 46)).drop 1=m.drop (x+1)∧m.any (·==46)=true:=by
 have e:m=m.take x++(46::m.drop (x+1)):=by
  rw[←hx,←List.drop_eq_getElem_cons h,List.take_append_drop]
 have ht:(m.take x).takeWhile (· != 46)=m.take x∧(m.take x).dropWhile (· != 46)=[]:=pb (fun c hc=>by simpa using bC c hc)
 generalize m.take x=a at *
 generalize m.drop (x+1)=b at *
 subst e
 refine⟨?_,?_,?_⟩
 ·rw[List.takeWhile_append_of_pos (fun c hc=>by simpa using bC c hc)];simp
 ·rw[List.dropWhile_append_of_pos (fun c hc=>by simpa using bC c hc)];simp
 ·simp
theorem xt{m:List UInt8}(bC:∀c∈m,c≠46):m.takeWhile (· != 46)=m∧(m.dropWhile (· != 46)).drop 1=[]∧m.any (·==46)=false:=by
 have ht:=pb (p:=(· != 46)) (l:=m) (fun c hc=>by simpa using bC c hc)
 refine⟨ht.1,by rw[ht.2];rfl,?_⟩
 rw[List.any_eq_false]
 intro c hc;simpa using bC c hc
def WV(a0:DX):St:={tm:=[(0,.d (.v (.string (tx a0.1)))),(2,.i 0),(3,.i 0),(4,.i 0),(5,.d (.v (.bool a0.2))),(6,.i (↑a0.3:Int))],hp:=[],kn:=[],gd:=[]:St}
def Zfc(a0:Nat)(a1:DX)(a2:ByteArray):Prop:=∃(m:Nat),∃(x':DX),m<a0∧{tm:=[(0,.d (.v (.string (tx a1.1)))),(2,.i 0),(3,.i 0),(4,.i 0),(5,.d (.v (.bool a1.2))),(6,.i (IntKind.i64.wrap ((↑a1.3:Int)+1)))],hp:=[],kn:=[],gd:=[]:St}=(WV x')∧kD a2 m x'
def Zin(a0:DX)(a1 a2:Nat)(a3:KT)(k:Prop):Prop:=((tx a0.1).extract a1 a2).size≤(2000:Nat)∧((!aR ((tx a0.1).extract a1 a2).data.1)=true→K6 a3 (12:Int))∧k
def Zbg(a0:DX)(a1:KT):Prop:=fb fun l h=>l=(0:Nat)∧V.i (↑a0.3:Int)=V.i (↑h:Int)∧l≤h∧h≤(tx a0.1).size∧True∧(decide ((↑a0.3:Int)<(↑(tx a0.1).size:Int))=true→fb fun gh iv=>V.i (IntKind.i64.wrap ((↑a0.3:Int)+1))=V.i (↑gh:Int)∧iv=(tx a0.1).size∧gh≤iv∧iv≤(tx a0.1).size∧True∧Zin a0 gh iv a1 (((!aR ((tx a0.1).extract gh iv).data.1)=false→Zin a0 l h a1 (((!aR ((tx a0.1).extract l h).data.1)=false→(decide ((↑((tx a0.1).extract gh iv).size:Int)>18)=true→K6 a1 (10:Int))∧(decide ((↑((tx a0.1).extract gh iv).size:Int)>18)=false→((tx a0.1).extract l h).size.add ((tx a0.1).extract gh iv).size≤(9223372036854775807:Nat)∧((tx a0.1).extract l h++(tx a0.1).extract gh iv).size≤(2000:Nat)∧(((tx a0.1).extract l h).data.1++((tx a0.1).extract gh iv).data.1).all dT=true∧NT (999999999999999999:Int) (((!decide ((↑(aE (0:Nat) ((tx a0.1).extract l h++(tx a0.1).extract gh iv).data.toList):Int)≤999999999999999999))=true→K6 a1 (10:Int))∧((!decide ((↑(aE (0:Nat) ((tx a0.1).extract l h++(tx a0.1).extract gh iv).data.toList):Int)≤999999999999999999))=false→a1 [.d (.i (dL (bif decide ((↑(aE (0:Nat) ((tx a0.1).extract l h++(tx a0.1).extract gh iv).data.toList):Int)≤999999999999999999)then(↑(aE (0:Nat) (((tx a0.1).extract l h).data.1++((tx a0.1).extract gh iv).data.1)):Int)else(0:Int)) a0.2)),.d (.i (↑((tx a0.1).extract gh iv).size:Int)),.d (.i (dM (bif decide ((↑(aE (0:Nat) ((tx a0.1).extract l h++(tx a0.1).extract gh iv).data.toList):Int)≤999999999999999999)then(↑(aE (0:Nat) (((tx a0.1).extract l h).data.1++((tx a0.1).extract gh iv).data.1)):Int)else(0:Int)) a0.2))] []))))))))∧(decide ((↑a0.3:Int)<(↑(tx a0.1).size:Int))=false→Zin a0 l h a1 (((!aR ((tx a0.1).extract l h).data.1)=false→(decide ((↑{data:={toList:=[]:Array UInt8}:ByteArray}.size:Int)>18)=true→K6 a1 (10:Int))∧(decide ((↑{data:={toList:=[]:Array UInt8}:ByteArray}.size:Int)>18)=false→((tx a0.1).extract l h).size≤(9223372036854775807:Nat)∧((tx a0.1).extract l h++{data:={toList:=[]:Array UInt8}:ByteArray}).size≤(2000:Nat)∧(((tx a0.1).extract l h).data.1++[]).all dT=true∧NT (999999999999999999:Int) (((!decide ((↑(aE (0:Nat) ((tx a0.1).extract l h++{data:={toList:=[]:Array UInt8}:ByteArray}).data.toList):Int)≤999999999999999999))=true→K6 a1 (10:Int))∧((!decide ((↑(aE (0:Nat) ((tx a0.1).extract l h++{data:={toList:=[]:Array UInt8}:ByteArray}).data.toList):Int)≤999999999999999999))=false→a1 [.d (.i (dL (bif decide ((↑(aE (0:Nat) ((tx a0.1).extract l h++{data:={toList:=[]:Array UInt8}:ByteArray}).data.toList):Int)≤999999999999999999)then(↑(aE (0:Nat) (((tx a0.1).extract l h).data.1++[])):Int)else(0:Int)) a0.2)),.d (.i (↑{data:={toList:=[]:Array UInt8}:ByteArray}.size:Int)),.d (.i (dM (bif decide ((↑(aE (0:Nat) ((tx a0.1).extract l h++{data:={toList:=[]:Array UInt8}:ByteArray}).data.toList):Int)≤999999999999999999)then(↑(aE (0:Nat) (((tx a0.1).extract l h).data.1++[])):Int)else(0:Int)) a0.2))] []))))))
def Zg(a0:ByteArray)(a1:KT):Prop:=∀(n:Nat) (x:DX),kD a0 n x→(decide ((↑x.3:Int)<(↑(tx x.1).size:Int))=true→0≤(↑x.3:Int)∧True∧∃(c:UInt8),(tx x.1)[(↑x.3:Int).toNat]? = some c∧(((↑c.toNat:Int) != (46:Int))=true→Zfc n x a0)∧(((↑c.toNat:Int) != (46:Int))=false→Zbg x a1))∧(decide ((↑x.3:Int)<(↑(tx x.1).size:Int)) = !true→(false=true→Zfc n x a0)∧(false=false→Zbg x a1))
theorem ae5(s:ByteArray)(Q:KT):vc bl BB bf (Lo s) (f138.body.getD .skip) f138.results.toList [.d (.v (.string s))] Q=((decide ((↑s.size:Int)>0)=true→Fv (0:Int) s fun c=>(((↑c.toNat:Int)==45)=true→Qn (1:Int) s fun l h=>∃(x0:DX),({tm:=[(0,.d (.v (.string (s.extract l h)))),(2,.i 0),(3,.i 0),(4,.i 0),(5,.d (.v (.bool ((↑c.toNat:Int)==45)))),(6,.i 0)],hp:=[],kn:=[],gd:=[]:St}=(WV x0)∧∃(n:Nat),kD s n x0)∧Zg s Q)∧(((↑c.toNat:Int)==45)=false→∃(x0:DX),({tm:=[(0,.d (.v (.string s))),(2,.i 0),(3,.i 0),(4,.i 0),(5,.d (.v (.bool ((↑c.toNat:Int)==45)))),(6,.i 0)],hp:=[],kn:=[],gd:=[]:St}=(WV x0)∧∃(n:Nat),kD s n x0)∧Zg s Q))∧(decide ((↑s.size:Int)>0) = !true→(false=true→Qn (1:Int) s fun l h=>∃(x0:DX),({tm:=[(0,.d (.v (.string (s.extract l h)))),(2,.i 0),(3,.i 0),(4,.i 0),(5,.d (.v (.bool false))),(6,.i 0)],hp:=[],kn:=[],gd:=[]:St}=(WV x0)∧∃(n:Nat),kD s n x0)∧Zg s Q)∧(false=false→∃(x0:DX),({tm:=[(0,.d (.v (.string s))),(2,.i 0),(3,.i 0),(4,.i 0),(5,.d (.v (.bool false))),(6,.i 0)],hp:=[],kn:=[],gd:=[]:St}=(WV x0)∧∃(n:Nat),kD s n x0)∧Zg s Q))):=by kernel_rfl
theorem ae6(s:ByteArray)(h1:s.size≤1000):Ct prog gl 138 [.d (.v (.string s))] (gives [.d (.v (.int .i64 (bF s.data.toList).1)),.d (.v (.int .i64 (bF s.data.toList).2.1)),.d (.v (.int .i64 (bF s.data.toList).2.2))]):=by
 refine aw bN vH aF bD mixed (fn:=f138) (body:=f138.body.getD .skip) (by kernel_rfl) (by kernel_rfl) (by kernel_rfl) (fi:=(Lo s)) (by kernel_rfl) (by kernel_rfl) ⟨_,_,rfl,rfl⟩ ?_
 rw[ae5];dsimp -eta -iota -proj only[Fv,Qn,fb,WV,Zg,Zfc,Zbg,Zin,K6,Zff,NT]
 have hlt:(Lib.trimPrefix s.data.toList [45]).length≤1000:=by
  have:=er s.data.toList [45]
  rw[size_data]at this;omega
 rcases jY s.data.toList with⟨hn,r,hr,ht⟩|⟨hn,ht,hh⟩
 ·obtain⟨a1,a2,a3⟩:=og hr
  refine⟨fun _=>⟨by decide,trivial,45,a1,fun _=>⟨1,s.size,rfl,rfl,by omega,Nat.le_refl _,trivial,⟨r,true,0⟩,⟨by rw[a3];rfl,r.length,ht.symm,hn.symm,Nat.zero_le _,fun c h=>(by cases h),rfl⟩,?_⟩,fun h=>(by cases h)⟩,fun h=>?_⟩
  ·(
   intro n x hx
   obtain⟨x1,x2,x3,x4,x5⟩:=hx
   have f_:=pc s.data.toList
   dsimp only at f_
   rw[←x1,←x2]at f_
   have hlen:x.m.length≤1000:=by rw[x1];exact hlt
   have S3:(tx x.m).size=x.m.length:=az _
   have iA:∀h:x.x<x.m.length,x.m[x.x]=46→((tx (x.m.drop (x.x+1))).size≤2000∧((!aR (x.m.drop (x.x+1)))=true→gives (oh s) [.d (.v (.int .i64 0)),.d (.v (.int .i64 0)),.d (.v (.int .i64 12))] []))∧(aR (x.m.drop (x.x+1))=true→_):=fun h hc=>by
    obtain⟨y1,y2,y3⟩:=xr h hc x4
    rw[y1,y2,y3]at f_
    refine⟨⟨by rw[az,List.length_drop];omega,fun hd=>?_⟩,fun hd=>iT s (x.m.take x.x) (x.m.drop (x.x+1)) x.neg (gV hd) (by rw[List.length_take,List.length_drop];omega) (fun hw=>by rw[f_,hw];rfl) (fun hw=>by rw[f_,hw,hd];rfl)⟩
    unfold oh
    rw[f_,show aR (x.m.drop (x.x+1))=false by simpa using hd]
    cases aR (x.m.take x.x)<;>exact⟨rfl,rfl⟩
   have iB:¬x.x<x.m.length→_:=fun h=>by
    have hx:x.m.take x.x=x.m:=List.take_of_length_le (by omega)
    rw[hx]at x4
    obtain⟨y1,y2,y3⟩:=xt x4
    rw[y1,y2,y3]at f_
    exact iT s x.m [] x.neg rfl (by simp;omega) (fun hw=>by rw[f_,hw];rfl) (fun hw=>by rw[f_,hw];rfl)
   have wx:IntKind.i64.wrap ((x.x:Int)+1)=((x.x+1:Nat):Int):=aL (by omega)
   rw[S3]
   refine⟨fun hi=>?_,fun hi=>⟨fun h=>(by cases h),fun _=>⟨0,x.x,rfl,rfl,Nat.zero_le _,x3,trivial,fun h=>?_,fun _=>?_⟩⟩⟩
   ·have hi:=of_decide_eq_true hi
    have hi:x.x<x.m.length:=by omega
    refine⟨by omega,trivial,x.m[x.x],ni hi,fun hc=>?_,fun hc=>⟨0,x.x,rfl,rfl,Nat.zero_le _,x3,trivial,fun _=>⟨x.x+1,x.m.length,by rw[wx],rfl,by omega,Nat.le_refl _,trivial,?_⟩,fun h=>?_⟩⟩
    ·refine⟨n-1,⟨x.m,x.neg,x.x+1⟩,by omega,by rw[wx],x1,x2,hi,fun c hm=>?_,by show n-1=x.m.length-(x.x+1);omega⟩
     rw[List.take_add_one,List.getElem?_eq_getElem hi,Option.toList_some,List.mem_append,List.mem_singleton]at hm
     rcases hm with hm|rfl
     ·exact x4 c hm
     ·intro e
      rw[e]at hc
      exact absurd hc (by decide)
    ·have hc:x.m[x.x]=46:=by
           apply UInt8.toNat_inj.1
           have:((x.m[x.x].toNat:Int))=46:=by simpa using hc
           show _=46
           omega
     obtain⟨k1,k2⟩:=iA hi hc
     have e1:(tx x.m).extract 0 x.x=tx (x.m.take x.x):=fZ _ _
     have e2:(tx x.m).extract (x.x+1) x.m.length=tx (x.m.drop (x.x+1)):=by rw[←S3];exact gL _ _
     rw[e1,e2]
     exact⟨k1.1,k1.2,fun hd=>k2 (by have hd:(!aR (x.m.drop (x.x+1)))=false:=hd;simpa using hd)⟩
    ·rw[decide_eq_true (by omega)]at h;cases h
   ·rw[decide_eq_true (by have:=of_decide_eq_true h;omega)]at hi;cases hi
   ·have hi:¬x.x<x.m.length:=fun h=>by rw[decide_eq_true (by omega)]at hi;cases hi
    have e1:(tx x.m).extract 0 x.x=tx x.m:=by
         have:(tx x.m).extract 0 x.x=tx (x.m.take x.x):=fZ _ _
         rw[this,List.take_of_length_le (by omega)]
    rw[e1]
    exact iB hi)
  ·rw[decide_eq_true (by omega)]at h;cases h
 ·refine⟨fun h0=>?_,fun h0=>⟨fun h=>(by cases h),fun _=>⟨⟨s.data.toList,false,0⟩,⟨rfl,s.data.toList.length,ht.symm,hn.symm,Nat.zero_le _,fun c h=>(by cases h),rfl⟩,?_⟩⟩⟩
  ·obtain⟨c,r,hr⟩:∃c r,s.data.toList=c::r:=by
    cases hs:s.data.toList with
    |nil=>have:=size_data s;rw[hs]at this;have:=of_decide_eq_true h0;simp at *;omega
    |cons c r=>exact⟨c,r,rfl⟩
   obtain⟨a1,a2,a3⟩:=og hr
   have hc:((c.toNat:Int)==45)=false:=by
    rw[hr]at hh
    simp only[List.head?_cons,ne_eq,Option.some.injEq]at hh
    rw[beq_eq_false_iff_ne]
    intro e
    exact hh (UInt8.toNat_inj.1 (by show c.toNat=45;omega))
   refine⟨by decide,trivial,c,a1,fun h=>?_,fun _=>⟨⟨s.data.toList,false,0⟩,⟨by rw[hc];rfl,s.data.toList.length,ht.symm,hn.symm,Nat.zero_le _,fun c h=>(by cases h),rfl⟩,?_⟩⟩
   ·rw[hc]at h;cases h
   ·(
    intro n x hx
    obtain⟨x1,x2,x3,x4,x5⟩:=hx
    have f_:=pc s.data.toList
    dsimp only at f_
    rw[←x1,←x2]at f_
    have hlen:x.m.length≤1000:=by rw[x1];exact hlt
    have S3:(tx x.m).size=x.m.length:=az _
    have iA:∀h:x.x<x.m.length,x.m[x.x]=46→((tx (x.m.drop (x.x+1))).size≤2000∧((!aR (x.m.drop (x.x+1)))=true→gives (oh s) [.d (.v (.int .i64 0)),.d (.v (.int .i64 0)),.d (.v (.int .i64 12))] []))∧(aR (x.m.drop (x.x+1))=true→_):=fun h hc=>by
         obtain⟨y1,y2,y3⟩:=xr h hc x4
         rw[y1,y2,y3]at f_
         refine⟨⟨by rw[az,List.length_drop];omega,fun hd=>?_⟩,fun hd=>iT s (x.m.take x.x) (x.m.drop (x.x+1)) x.neg (gV hd) (by rw[List.length_take,List.length_drop];omega) (fun hw=>by rw[f_,hw];rfl) (fun hw=>by rw[f_,hw,hd];rfl)⟩
         unfold oh
         rw[f_,show aR (x.m.drop (x.x+1))=false by simpa using hd]
         cases aR (x.m.take x.x)<;>exact⟨rfl,rfl⟩
    have iB:¬x.x<x.m.length→_:=fun h=>by
         have hx:x.m.take x.x=x.m:=List.take_of_length_le (by omega)
         rw[hx]at x4
         obtain⟨y1,y2,y3⟩:=xt x4
         rw[y1,y2,y3]at f_
         exact iT s x.m [] x.neg rfl (by simp;omega) (fun hw=>by rw[f_,hw];rfl) (fun hw=>by rw[f_,hw];rfl)
    have wx:IntKind.i64.wrap ((x.x:Int)+1)=((x.x+1:Nat):Int):=aL (by omega)
    rw[S3]
    refine⟨fun hi=>?_,fun hi=>⟨fun h=>(by cases h),fun _=>⟨0,x.x,rfl,rfl,Nat.zero_le _,x3,trivial,fun h=>?_,fun _=>?_⟩⟩⟩
    ·have hi:=of_decide_eq_true hi
     have hi:x.x<x.m.length:=by omega
     refine⟨by omega,trivial,x.m[x.x],ni hi,fun hc=>?_,fun hc=>⟨0,x.x,rfl,rfl,Nat.zero_le _,x3,trivial,fun _=>⟨x.x+1,x.m.length,by rw[wx],rfl,by omega,Nat.le_refl _,trivial,?_⟩,fun h=>?_⟩⟩
     ·refine⟨n-1,⟨x.m,x.neg,x.x+1⟩,by omega,by rw[wx],x1,x2,hi,fun c hm=>?_,by show n-1=x.m.length-(x.x+1);omega⟩
      rw[List.take_add_one,List.getElem?_eq_getElem hi,Option.toList_some,List.mem_append,List.mem_singleton]at hm
      rcases hm with hm|rfl
      ·exact x4 c hm
      ·intro e
       rw[e]at hc
       exact absurd hc (by decide)
     ·have hc:x.m[x.x]=46:=by
             apply UInt8.toNat_inj.1
             have:((x.m[x.x].toNat:Int))=46:=by simpa using hc
             show _=46
             omega
      obtain⟨k1,k2⟩:=iA hi hc
      have e1:(tx x.m).extract 0 x.x=tx (x.m.take x.x):=fZ _ _
      have e2:(tx x.m).extract (x.x+1) x.m.length=tx (x.m.drop (x.x+1)):=by rw[←S3];exact gL _ _
      rw[e1,e2]
      exact⟨k1.1,k1.2,fun hd=>k2 (by have hd:(!aR (x.m.drop (x.x+1)))=false:=hd;simpa using hd)⟩
     ·rw[decide_eq_true (by omega)]at h;cases h
    ·rw[decide_eq_true (by have:=of_decide_eq_true h;omega)]at hi;cases hi
    ·have hi:¬x.x<x.m.length:=fun h=>by rw[decide_eq_true (by omega)]at hi;cases hi
     have e1:(tx x.m).extract 0 x.x=tx x.m:=by
          have:(tx x.m).extract 0 x.x=tx (x.m.take x.x):=fZ _ _
          rw[this,List.take_of_length_le (by omega)]
     rw[e1]
     exact iB hi)
  ·(
   intro n x hx
   obtain⟨x1,x2,x3,x4,x5⟩:=hx
   have f_:=pc s.data.toList
   dsimp only at f_
   rw[←x1,←x2]at f_
   have hlen:x.m.length≤1000:=by rw[x1];exact hlt
   have S3:(tx x.m).size=x.m.length:=az _
   have iA:∀h:x.x<x.m.length,x.m[x.x]=46→((tx (x.m.drop (x.x+1))).size≤2000∧((!aR (x.m.drop (x.x+1)))=true→gives (oh s) [.d (.v (.int .i64 0)),.d (.v (.int .i64 0)),.d (.v (.int .i64 12))] []))∧(aR (x.m.drop (x.x+1))=true→_):=fun h hc=>by
    obtain⟨y1,y2,y3⟩:=xr h hc x4
    rw[y1,y2,y3]at f_
    refine⟨⟨by rw[az,List.length_drop];omega,fun hd=>?_⟩,fun hd=>iT s (x.m.take x.x) (x.m.drop (x.x+1)) x.neg (gV hd) (by rw[List.length_take,List.length_drop];omega) (fun hw=>by rw[f_,hw];rfl) (fun hw=>by rw[f_,hw,hd];rfl)⟩
    unfold oh
    rw[f_,show aR (x.m.drop (x.x+1))=false by simpa using hd]
    cases aR (x.m.take x.x)<;>exact⟨rfl,rfl⟩
   have iB:¬x.x<x.m.length→_:=fun h=>by
    have hx:x.m.take x.x=x.m:=List.take_of_length_le (by omega)
    rw[hx]at x4
    obtain⟨y1,y2,y3⟩:=xt x4
    rw[y1,y2,y3]at f_
    exact iT s x.m [] x.neg rfl (by simp;omega) (fun hw=>by rw[f_,hw];rfl) (fun hw=>by rw[f_,hw];rfl)
   have wx:IntKind.i64.wrap ((x.x:Int)+1)=((x.x+1:Nat):Int):=aL (by omega)
   rw[S3]
   refine⟨fun hi=>?_,fun hi=>⟨fun h=>(by cases h),fun _=>⟨0,x.x,rfl,rfl,Nat.zero_le _,x3,trivial,fun h=>?_,fun _=>?_⟩⟩⟩
   ·have hi:=of_decide_eq_true hi
    have hi:x.x<x.m.length:=by omega
    refine⟨by omega,trivial,x.m[x.x],ni hi,fun hc=>?_,fun hc=>⟨0,x.x,rfl,rfl,Nat.zero_le _,x3,trivial,fun _=>⟨x.x+1,x.m.length,by rw[wx],rfl,by omega,Nat.le_refl _,trivial,?_⟩,fun h=>?_⟩⟩
    ·refine⟨n-1,⟨x.m,x.neg,x.x+1⟩,by omega,by rw[wx],x1,x2,hi,fun c hm=>?_,by show n-1=x.m.length-(x.x+1);omega⟩
     rw[List.take_add_one,List.getElem?_eq_getElem hi,Option.toList_some,List.mem_append,List.mem_singleton]at hm
     rcases hm with hm|rfl
     ·exact x4 c hm
     ·intro e
      rw[e]at hc
      exact absurd hc (by decide)
    ·have hc:x.m[x.x]=46:=by
      apply UInt8.toNat_inj.1
      have:((x.m[x.x].toNat:Int))=46:=by simpa using hc
      show _=46
      omega
     obtain⟨k1,k2⟩:=iA hi hc
     have e1:(tx x.m).extract 0 x.x=tx (x.m.take x.x):=fZ _ _
     have e2:(tx x.m).extract (x.x+1) x.m.length=tx (x.m.drop (x.x+1)):=by rw[←S3];exact gL _ _
     rw[e1,e2]
     exact⟨k1.1,k1.2,fun hd=>k2 (by have hd:(!aR (x.m.drop (x.x+1)))=false:=hd;simpa using hd)⟩
    ·rw[decide_eq_true (by omega)]at h;cases h
   ·rw[decide_eq_true (by have:=of_decide_eq_true h;omega)]at hi;cases hi
   ·have hi:¬x.x<x.m.length:=fun h=>by rw[decide_eq_true (by omega)]at hi;cases hi
    have e1:(tx x.m).extract 0 x.x=tx x.m:=by
         have:(tx x.m).extract 0 x.x=tx (x.m.take x.x):=fZ _ _
         rw[this,List.take_of_length_le (by omega)]
    rw[e1]
    exact iB hi)
def Lp(a:List R)(K:KT):Prop:=match a with
 |[.d (.v (.string s))]=>s.size≤1000∧K [.d (.v (.int .i64 (bF s.data.toList).1)),.d (.v (.int .i64 (bF s.data.toList).2.1)),.d (.v (.int .i64 (bF s.data.toList).2.2))] []
 |_=>False
theorem Lq:CK gl Lp 138:=fun a K h=>by
 unfold Lp at h
 split at h
 ·obtain⟨h0,hk⟩:=h
  exact(ae6 _ h0).gives hk
 ·exact h.elim
def BC:aj:=au BB 138 Lp
theorem vI:ah prog gl BC:=af vH Lq
def Zji(a0:ByteArray)(k:Nat→Nat→Prop):Prop:=Zgf a0 fun l h=>(a0.extract l h).size≤(2000:Nat)∧k l h
def Zb(a0:ByteArray)(a1:KT):Prop:=WN a0 fun l h=>(a0.extract l h).size≤(2000:Nat)∧(a0.extract l h).data.1.all dT=true∧NT (9999:Int) (Zji a0 fun gh iv=>(a0.extract gh iv).data.1.all dT=true∧NT (99:Int) (Zgm (8:Int) a0 fun Dg Br=>(a0.extract Dg Br).data.1.all dT=true∧NT (99:Int) (a1 [.d (.v (.int .i64 (dp (IntKind.i64.wrap (bif decide ((↑(aE (0:Nat) (a0.extract l h).data.toList):Int)≤9999)then(↑(aE (0:Nat) (a0.extract l h).data.1):Int)else(0:Int))) (IntKind.i64.wrap (bif decide ((↑(aE (0:Nat) (a0.extract gh iv).data.toList):Int)≤99)then(↑(aE (0:Nat) (a0.extract gh iv).data.1):Int)else(0:Int))) (IntKind.i64.wrap (bif decide ((↑(aE (0:Nat) (a0.extract Dg Br).data.toList):Int)≤99)then(↑(aE (0:Nat) (a0.extract Dg Br).data.1):Int)else(0:Int)))).1)),.d (.v (.int .i64 (dp (IntKind.i64.wrap (bif decide ((↑(aE (0:Nat) (a0.extract l h).data.toList):Int)≤9999)then(↑(aE (0:Nat) (a0.extract l h).data.1):Int)else(0:Int))) (IntKind.i64.wrap (bif decide ((↑(aE (0:Nat) (a0.extract gh iv).data.toList):Int)≤99)then(↑(aE (0:Nat) (a0.extract gh iv).data.1):Int)else(0:Int))) (IntKind.i64.wrap (bif decide ((↑(aE (0:Nat) (a0.extract Dg Br).data.toList):Int)≤99)then(↑(aE (0:Nat) (a0.extract Dg Br).data.1):Int)else(0:Int)))).2))] [])))
def Ze(a0:ByteArray)(a1:KT):Prop:=Zgs (8:Int) a0 a1 fun l h=>((!aR (a0.extract l h).data.1)=false→Zb a0 a1)
def Zb5(a0:KT)(a1:ByteArray):Prop:=(true=true→dK a0 (0:Int) (12:Int))∧(true=false→Zb a1 a0)
def Zf(a0:ByteArray)(a1:KT):Prop:=Zji a0 fun l h=>((!aR (a0.extract l h).data.1)=false→Ze a0 a1)∧((!aR (a0.extract l h).data.1) = !false→Zb5 a1 a0)
def Zh(a0:ByteArray)(a1:KT):Prop:=(true=false→Ze a0 a1)∧(true = !false→Zb5 a1 a0)
def Zj(a0:ByteArray)(a1:KT):Prop:=WN a0 fun l h=>(a0.extract l h).size≤(2000:Nat)∧((!aR (a0.extract l h).data.1)=false→Zf a0 a1)∧((!aR (a0.extract l h).data.1) = !false→Zh a0 a1)
def Zl(a0:ByteArray)(a1:KT):Prop:=(true=false→Zf a0 a1)∧(true = !false→Zh a0 a1)
def Zt(a0:ByteArray)(a1:KT):Prop:=Fv (7:Int) a0 fun c=>(((↑c.toNat:Int) != (45:Int))=false→Zj a0 a1)∧(((↑c.toNat:Int) != (45:Int)) = !false→Zl a0 a1)
def Zu(a0:ByteArray)(a1:KT):Prop:=(true=false→Zj a0 a1)∧(true = !false→Zl a0 a1)
theorem ae7(s:ByteArray)(Q:KT):vc bl BC bf RV (f139.body.getD .skip) f139.results.toList [.d (.v (.string s))] Q=((((↑s.size:Int) != (10:Int))=false→Fv (4:Int) s fun c=>(((↑c.toNat:Int) != (45:Int))=false→Zt s Q)∧(((↑c.toNat:Int) != (45:Int)) = !false→Zu s Q))∧(((↑s.size:Int) != (10:Int)) = !false→(true=false→Zt s Q)∧(true = !false→Zu s Q))):=by kernel_rfl
theorem ae8(s:ByteArray)(h1:s.size≤1000):Ct prog gl 139 [.d (.v (.string s))] (gives [.d (.v (.int .i64 (dO s.data.toList).1)),.d (.v (.int .i64 (dO s.data.toList).2))]):=by
 refine cz vI f139 RV ⟨_,_,rfl,rfl⟩ ?_
 rw[ae7];dsimp -eta -iota -proj only[Fv,Zt,Zj,WN,fb,Zf,Zji,Zgf,Ze,Zgs,Zgm,Qn,dK,Zb,NT,Zb5,Zh,Zl,Zu]
 generalize hQ:gives [.d (.v (.int .i64 (dO s.data.toList).1)),.d (.v (.int .i64 (dO s.data.toList).2))]=Q'
 have at':∀(i:Nat) (h:i<s.size),s.data.toList[i]? = some (s[i]'h):=fun i h=>by
  rw[List.getElem?_eq_getElem (by rw[size_data];exact h)];rfl
 have gt:∀(i:Nat) (h:i<s.size),s[(i:Int).toNat]? = some (s[i]'h):=fun i h=>by
  rw[Int.toNat_natCast];exact getElem?_pos s i h
 have b45:∀b:UInt8,((b.toNat:Int) != 45)=false→b=45:=fun b h=>by
  have:(b.toNat:Int)=45:=by simpa using h
  apply UInt8.toNat_inj.1;show b.toNat=45;omega
 have n45:∀b:UInt8,((b.toNat:Int) != 45)=true→b≠45:=fun b h e=>by
  subst e;cases h
 refine⟨fun hA=>?_,fun hA=>?_⟩
 ·have hA:s.size=10:=by have:(s.size:Int)=10:=by simpa using hA
                        omega
  have hL:s.data.toList.length=10:=by rw[size_data];exact hA
  have zb:=Li hL
  rw[at' 4 (by omega),at' 7 (by omega)]at zb
  have e1:s.extract 0 4=tx (s.data.toList.take 4):=fZ _ _
  have e2:s.extract 5 7=tx ((s.data.toList.take 7).drop 5):=xe _ _ _
  have e3:s.extract 8 s.size=tx (s.data.toList.drop 8):=gL _ _
  have l1:(s.data.toList.take 4).length=4:=by rw[List.length_take];omega
  have l2:((s.data.toList.take 7).drop 5).length=2:=by rw[List.length_drop,List.length_take];omega
  have l3:(s.data.toList.drop 8).length=2:=by rw[List.length_drop];omega
  have z1:(s.extract 0 4).size≤2000:=by rw[e1,az];omega
  have z2:(s.extract 5 7).size≤2000:=by rw[e2,az];omega
  have z3:(s.extract 8 s.size).size≤2000:=by rw[e3,az];omega
  have d1:aR (s.extract 0 4).data.toList=aR (s.data.toList.take 4):=by rw[e1];rfl
  have d2:aR (s.extract 5 7).data.toList=aR ((s.data.toList.take 7).drop 5):=by rw[e2];rfl
  have d3:aR (s.extract 8 s.size).data.toList=aR (s.data.toList.drop 8):=by rw[e3];rfl
  have nt:∀{b:Bool},(!b)=true→b=false:=fun {b} h=>by cases b<;>simp_all
  have nf:∀{b:Bool},(!b)=false→b=true:=fun {b} h=>by cases b<;>simp_all
  refine⟨by decide,trivial,s[4]'(by omega),gt 4 (by omega),fun hB=>?_,fun hB=>?_⟩
  ·refine⟨by decide,trivial,s[7]'(by omega),gt 7 (by omega),fun hC=>?_,fun hC=>?_⟩
   ·refine⟨0,4,rfl,rfl,by omega,by omega,trivial,z1,fun hD=>?_,fun hD=>?_⟩
    ·refine⟨5,7,rfl,rfl,by omega,by omega,trivial,z2,fun hE=>?_,fun hE=>?_⟩
     ·refine⟨8,s.size,rfl,rfl,by omega,by omega,trivial,z3,fun hF=>?_,fun hF=>⟨0,4,rfl,rfl,by omega,by omega,trivial,z1,gV (nf hD),by decide,by decide,5,7,rfl,rfl,by omega,by omega,trivial,z2,gV (nf hE),by decide,by decide,8,s.size,rfl,rfl,by omega,by omega,trivial,z3,gV (nf hF),by decide,by decide,?_⟩⟩
      ·have:dO s.data.toList=(0,12):=by
           rw[zb,if_neg];intro⟨_,_,_,_,h⟩
           have:=nt hF
           rw[d3,h]at this;cases this
       rw[this]at hQ
       rw[←hQ];exact⟨rfl,rfl⟩
      ·have y1:=(d1.symm.trans (nf hD));have y2:=(d2.symm.trans (nf hE));have y3:=(d3.symm.trans (nf hF))
       rw[if_pos ⟨by rw[b45 _ hB],by rw[b45 _ hC],y1,y2,y3⟩]at zb
       have n1:=(iR y1 (by omega)).2
       have n2:=(iR y2 (by omega)).2
       have n3:=(iR y3 (by omega)).2
       rw[l1]at n1;rw[l2]at n2;rw[l3]at n3
       rw[zb]at hQ
       rw[e1,e2,e3]
       generalize s.data.toList.take 4=q1 at *
       generalize (s.data.toList.take 7).drop 5=q2 at *
       generalize s.data.toList.drop 8=q3 at *
       have w1:IntKind.i64.wrap (bif decide ((aE 0 q1:Int)≤9999)then(aE 0 q1:Int)else 0)=aE 0 q1:=by rw[decide_eq_true (by omega),cond_true,ai (by omega) (by omega)]
       have w2:IntKind.i64.wrap (bif decide ((aE 0 q2:Int)≤99)then(aE 0 q2:Int)else 0)=aE 0 q2:=by rw[decide_eq_true (by omega),cond_true,ai (by omega) (by omega)]
       have w3:IntKind.i64.wrap (bif decide ((aE 0 q3:Int)≤99)then(aE 0 q3:Int)else 0)=aE 0 q3:=by rw[decide_eq_true (by omega),cond_true,ai (by omega) (by omega)]
       rw[←hQ]
       show [R.d (D.v (.int .i64 (dp (IntKind.i64.wrap (bif decide ((aE 0 q1:Int)≤9999)then(aE 0 q1:Int)else 0)) (IntKind.i64.wrap (bif decide ((aE 0 q2:Int)≤99)then(aE 0 q2:Int)else 0)) (IntKind.i64.wrap (bif decide ((aE 0 q3:Int)≤99)then(aE 0 q3:Int)else 0))).1)),R.d (D.v (.int .i64 (dp (IntKind.i64.wrap (bif decide ((aE 0 q1:Int)≤9999)then(aE 0 q1:Int)else 0)) (IntKind.i64.wrap (bif decide ((aE 0 q2:Int)≤99)then(aE 0 q2:Int)else 0)) (IntKind.i64.wrap (bif decide ((aE 0 q3:Int)≤99)then(aE 0 q3:Int)else 0))).2))]=_∧_=_
       rw[w1,w2,w3]
       exact⟨rfl,rfl⟩
     ·have:dO s.data.toList=(0,12):=by
          rw[zb,if_neg];intro⟨_,_,_,h,_⟩
          have:=nt hE
          rw[d2,h]at this;cases this
      rw[this]at hQ
      (repeat' (first|(with_reducible refine And.intro ?_ ?_)|(intro hh;first|(exact absurd hh (by decide))|(have hd:=of_decide_eq_true hh)|(have hd:=of_decide_eq_false hh)|(have hd:=eq_of_beq hh)|(have hd:=ne_of_beq_false hh)|(have hd:=bne_iff_ne.1 hh)|(have hd:=bne_eq_false_iff_eq.1 hh)|skip)))
      rw[←hQ];exact⟨rfl,rfl⟩
    ·have:dO s.data.toList=(0,12):=by
         rw[zb,if_neg];intro⟨_,_,h,_,_⟩
         have:=nt hD
         rw[d1,h]at this;cases this
     rw[this]at hQ
     (repeat' (first|(with_reducible refine And.intro ?_ ?_)|(intro hh;first|(exact absurd hh (by decide))|(have hd:=of_decide_eq_true hh)|(have hd:=of_decide_eq_false hh)|(have hd:=eq_of_beq hh)|(have hd:=ne_of_beq_false hh)|(have hd:=bne_iff_ne.1 hh)|(have hd:=bne_eq_false_iff_eq.1 hh)|skip)))
     rw[←hQ];exact⟨rfl,rfl⟩
   ·have:dO s.data.toList=(0,12):=by
     rw[zb,if_neg];intro⟨_,h,_⟩
     exact n45 _ hC (Option.some.inj h)
    rw[this]at hQ
    (repeat' (first|(with_reducible refine And.intro ?_ ?_)|(intro hh;first|(exact absurd hh (by decide))|(have hd:=of_decide_eq_true hh)|(have hd:=of_decide_eq_false hh)|(have hd:=eq_of_beq hh)|(have hd:=ne_of_beq_false hh)|(have hd:=bne_iff_ne.1 hh)|(have hd:=bne_eq_false_iff_eq.1 hh)|skip)))
    rw[←hQ];exact⟨rfl,rfl⟩
  ·have:dO s.data.toList=(0,12):=by
    rw[zb,if_neg];intro⟨h,_⟩
    exact n45 _ hB (Option.some.inj h)
   rw[this]at hQ
   (repeat' (first|(with_reducible refine And.intro ?_ ?_)|(intro hh;first|(exact absurd hh (by decide))|(have hd:=of_decide_eq_true hh)|(have hd:=of_decide_eq_false hh)|(have hd:=eq_of_beq hh)|(have hd:=ne_of_beq_false hh)|(have hd:=bne_iff_ne.1 hh)|(have hd:=bne_eq_false_iff_eq.1 hh)|skip)))
   rw[←hQ];exact⟨rfl,rfl⟩
 ·have:dO s.data.toList=(0,12):=by
   unfold dO
   rw[if_neg]
   intro⟨h,_⟩
   rw[size_data]at h
   rw[h]at hA
   cases hA
  rw[this]at hQ
  (repeat' (first|(with_reducible refine And.intro ?_ ?_)|(intro hh;first|(exact absurd hh (by decide))|(have hd:=of_decide_eq_true hh)|(have hd:=of_decide_eq_false hh)|(have hd:=eq_of_beq hh)|(have hd:=ne_of_beq_false hh)|(have hd:=bne_iff_ne.1 hh)|(have hd:=bne_eq_false_iff_eq.1 hh)|skip)))
  rw[←hQ];exact⟨rfl,rfl⟩
def Lr(a:List R)(K:KT):Prop:=match a with
 |[.d (.v (.string s))]=>s.size≤1000∧K [.d (.v (.int .i64 (dO s.data.toList).1)),.d (.v (.int .i64 (dO s.data.toList).2))] []
 |_=>False
theorem Ls:CK gl Lr 139:=fun a K h=>by
 unfold Lr at h
 split at h
 ·obtain⟨h0,hk⟩:=h
  exact(ae8 _ h0).gives hk
 ·exact h.elim
def BD:aj:=au BC 139 Lr
theorem vJ:ah prog gl BD:=af vI Ls
end Go.Proofs.Tryz
