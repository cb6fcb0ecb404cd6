/- Part of the proof: contracts of functions; no condition. -/
import Derived.Test.YtabbmgfeemkkbaaGreatDoorDm0
import Derived.Laws.AppendOwn
import Derived.Laws.OwnMore
import Derived.Laws.MakeOwn
import Derived.Laws.Cells
import Derived.Laws.CopyRow
import Derived.Laws.Tables
import Derived.Laws.World
import Derived.Laws.Entries
namespace Go.Dm
theorem aJ{α:Type}(l:List (Nat×α))(k j:Nat)(v:α):lk (pt l k v) j=if k=j then some v else lk l j:=by
 induction l with
 |nil=>
  simp only[pt,lk]
  by_cases h:k=j
  ·subst h;simp
  ·have:Nat.beq k j=false:=by simpa[Bool.eq_false_iff,Nat.beq_eq]using h
   simp[this,h]
 |cons p r ih=>
  obtain⟨a,x⟩:=p
  simp only[pt]
  by_cases h1:a=k
  ·subst h1
   have:Nat.beq a a=true:=by simp
   simp only[this,lk]
   by_cases h:a=j
   ·subst h;simp
   ·have:Nat.beq a j=false:=by simpa[Bool.eq_false_iff,Nat.beq_eq]using h
    simp[this,h]
  ·have e1:Nat.beq a k=false:=by simpa[Bool.eq_false_iff,Nat.beq_eq]using h1
   simp only[e1]
   split
   ·simp only[lk]
    by_cases h:k=j
    ·subst h;simp
    ·have:Nat.beq k j=false:=by simpa[Bool.eq_false_iff,Nat.beq_eq]using h
     simp[this,h]
   ·simp only[lk,ih]
    by_cases h:a=j
    ·subst h
     have:¬k=a:=fun e=>h1 e.symm
     simp[this]
    ·have:Nat.beq a j=false:=by simpa[Bool.eq_false_iff,Nat.beq_eq]using h
     simp[this]
theorem pz{α:Type}(l:List (Nat×α))(k j:Nat):lk (rm l k) j=if k=j then none else lk l j:=by
 induction l with
 |nil=>simp[rm,lk]
 |cons p r ih=>
  obtain⟨a,x⟩:=p
  simp only[rm]
  by_cases h1:a=k
  ·subst h1
   have:Nat.beq a a=true:=by simp
   simp only[this,ih,lk]
   by_cases h:a=j
   ·subst h;simp
   ·have:Nat.beq a j=false:=by simpa[Bool.eq_false_iff,Nat.beq_eq]using h
    simp[this,h]
  ·have e1:Nat.beq a k=false:=by simpa[Bool.eq_false_iff,Nat.beq_eq]using h1
   simp only[e1,lk,ih]
   by_cases h:a=j
   ·subst h
    have:¬k=a:=fun e=>h1 e.symm
    simp[this]
   ·have:Nat.beq a j=false:=by simpa[Bool.eq_false_iff,Nat.beq_eq]using h
    simp[this]
theorem beq_false{a b:Nat}:Nat.beq a b=false↔a≠b:=by
 simp[Bool.eq_false_iff,Nat.beq_eq]
def plain:Value→Bool
 | .bool _=>true
 | .int _ _=>true
 | .string _=>true
 | .pointer none=>true
 | .nilIface=>true
 | .nilFunc=>true
 | .map none=>true
 |_=>false
inductive Rd (ok:Nat→Prop) (w:World):Value→D→Prop
 |v {x:Value} (h:plain x=true):Rd ok w x (.v x)
 |nil:Rd ok w (.slice none 0 0) (.sl [])
 |aA {a:Addr} {cap:Nat}:Rd ok w (.slice (some a) 0 cap) (.sl [])
 |wm {d:TypeId} {z:Value}:Rd ok w (.iface d z) .wm
 |sl {b off cap:Nat} {es:List (List D)} (sz:Nat) (x:Nat→Nat→Value) (dy:es.length≤cap)
  (fQ:es≠[]→ok b) (hsz:∀c∈es,c.length=sz)
  (hc:∀i j,i<es.length→j<sz→w.cell? ⟨b,off+(i*sz+j),none⟩=some (x i j))
  (hr:∀i j,i<es.length→j<sz→Rd ok w (x i j) ((es.getD i []).getD j default)):
  Rd ok w (.slice (some ⟨b,off,none⟩) es.length cap) (.sl es)
theorem Rd.mono{ok ok':Nat→Prop}{w w':World}{v:Value}{d:D}(h:Rd ok w v d)(h1:∀b,ok b→ok' b)(h2:∀b,ok b→w'.heap[b]? = w.heap[b]?):Rd ok' w' v d:=by
 induction h with
 |v h=>exact .v h
 |nil=>exact .nil
 |aA=>exact .aA
 |wm=>exact .wm
 | @sl b off cap es sz x dy fQ hsz hc hr ih=>
   refine .sl sz x dy (fun h=>h1 _ (fQ h)) hsz (fun i j hi hj=>?_) (fun i j hi hj=>ih i j hi hj)
   have bT:es≠[]:=by intro h;subst h;simp at hi
   rw[World.cell?_of_block (w:=w) (h2 _ (fQ bT))]
   exact hc i j hi hj
theorem Rd.one{ok:Nat→Prop}{w:World}{v:Value}{d:D}(h:Rd ok w v d):v.oneCell'=true:=by
 cases h with
 |v h=>cases v<;>simp_all[plain,Value.oneCell']
 |nil=>rfl
 |aA=>rfl
 |wm=>rfl
 |sl=>rfl
def aq:Value→Option Nat
 | .map (some g)=>some g
 | .slice (some a) _ _=>some a.block
 | .pointer (some a)=>some a.block
 |_=>none
inductive VR (ok:Nat→Prop) (φ:Nat→Value) (hp:List (Nat×B)) (w:World):V→Value→Prop
 |dead (v:Value):VR ok φ hp w .dead v
 |d {v:Value} {x:D} (h:Rd ok w v x):VR ok φ hp w (.d x) v
 |nil:VR ok φ hp w .nil (.slice none 0 0)
 |agg {cs:List V} {xs:Array Value} (hs:xs.size=cs.length) (h:∀(i:Nat) (c:V) (x:Value),cs[i]? = some c→xs[i]? = some x→VR ok φ hp w c x):VR ok φ hp w (.agg cs) (.agg xs)
 |pq {cs:List V} {xs:Array Value} (hs:xs.size=cs.length) (h:∀(i:Nat) (c:V) (x:Value),cs[i]? = some c→xs[i]? = some x→VR ok φ hp w c x):VR ok φ hp w (.pq cs) (.tuple xs)
 |ref {k off g:Nat} {cs:List V} (hb:lk hp k=some (.box cs)) (h:φ k = .pointer (some ⟨g,0,none⟩)):VR ok φ hp w (.ref k off) (.pointer (some ⟨g,off,none⟩))
 |own {k sz:Nat} {es:List (List D)} {v:Value} (hb:(∃e,lk hp k=some (.bu e sz es))∨lk hp k=some (.j9 sz es)) (h:φ k=v):VR ok φ hp w (.own k) v
 |gg {k i off g n cap sz:Nat} {es:List (List D)} (hb:(∃e,lk hp k=some (.bu e sz es))∨lk hp k=some (.j9 sz es)) (h:φ k = .slice (some ⟨g,0,none⟩) n cap):
  VR ok φ hp w (.gg k i off) (.pointer (some ⟨g,i*sz+off,none⟩))
 |bW {b off:Nat} {cs:List D} (x:Nat→Value) (fQ:cs≠[]→ok b) (hc:∀j,j<cs.length→w.cell? ⟨b,off+j,none⟩=some (x j))
  (hr:∀j,j<cs.length→Rd ok w (x j) (cs.getD j default)):VR ok φ hp w (.bW cs) (.pointer (some ⟨b,off,none⟩))
 |fn {f:Nat} {cs:List V} {xs:Array Value} (hs:xs.size=cs.length) (h:∀(i:Nat) (c:V) (x:Value),cs[i]? = some c→xs[i]? = some x→VR ok φ hp w c x):VR ok φ hp w (.fn f cs) (.func (.func f) #[] xs)
 |We {l:Nat}:VR ok φ hp w (.We l) (.func (.yield l) #[] #[])
 |rl {k n c g:Nat} {cs:List V} (hb:lk hp k=some (.box cs)) (h:φ k = .pointer (some ⟨g,0,none⟩)):VR ok φ hp w (.rl k n c) (.slice (some ⟨g,0,none⟩) n n)
 |j_ {k g:Nat} {es:List (Value×V)} (hb:lk hp k=some (.mp es)) (h:φ k = .map (some g)):VR ok φ hp w (.j_ k) (.map (some g))
 |vw {k lo n g m cap iE off sz:Nat} {es:List (List D)} (hb:(∃e,lk hp k=some (.bu e sz es))∨lk hp k=some (.j9 sz es)) (h:φ k = .slice (some ⟨g,0,none⟩) m cap)
  (hle:lo+n≤m) (dy:n≤iE) (gZ:0<n→off=lo*sz):VR ok φ hp w (.vw k lo n) (.slice (some ⟨g,off,none⟩) n iE)
theorem kh(k:Nat)(cs:List V):V.fK k cs=false↔∀c∈cs,V.names k c=false:=by
 induction cs with
 |nil=>simp[V.fK]
 |cons c r ih=>
  simp only[V.fK,List.mem_cons,forall_eq_or_imp]
  cases h:V.names k c<;>simp[ih]
def cI(hp hp':List (Nat×B))(k:Nat):Prop:=
 match lk hp k with
 |none=>True
 |some (.box _)=>∃cs,lk hp' k=some (.box cs)
 |some (.bu _ sz _)=>∃es,(∃e,lk hp' k=some (.bu e sz es))∨lk hp' k=some (.j9 sz es)
 |some (.j9 sz _)=>∃es,(∃e,lk hp' k=some (.bu e sz es))∨lk hp' k=some (.j9 sz es)
 |some (.mp _)=>∃es,lk hp' k=some (.mp es)
theorem cI.refl(hp:List (Nat×B))(k:Nat):cI hp hp k:=by
 unfold cI
 split
 ·trivial
 ·rename_i cs h;exact⟨cs,h⟩
 ·rename_i e sz es h;exact⟨es,.inl ⟨e,h⟩⟩
 ·rename_i sz es h;exact⟨es,.inr h⟩
 ·rename_i es h;exact⟨es,h⟩
theorem cI.mp{hp hp':List (Nat×B)}{k:Nat}{es:List (Value×V)}(h:cI hp hp' k)(hb:lk hp k=some (.mp es)):∃iz,lk hp' k=some (.mp iz):=by
 unfold cI at h;rw[hb]at h;exact h
theorem cI.box{hp hp':List (Nat×B)}{k:Nat}{cs:List V}(h:cI hp hp' k)(hb:lk hp k=some (.box cs)):∃eN,lk hp' k=some (.box eN):=by
 unfold cI at h;rw[hb]at h;exact h
theorem cI.bu{hp hp':List (Nat×B)}{k sz:Nat}{es:List (List D)}(h:cI hp hp' k)(hb:(∃e,lk hp k=some (.bu e sz es))∨lk hp k=some (.j9 sz es)):
  ∃iz,(∃e,lk hp' k=some (.bu e sz iz))∨lk hp' k=some (.j9 sz iz):=by
 unfold cI at h
 rcases hb with⟨e,hb⟩|hb
 ·rw[hb]at h;exact h
 ·rw[hb]at h;exact h
theorem gj{k:Nat}{cs:List V}{c:V}{i:Nat}(hc:cs[i]? = some c)(h:V.names k c=true):V.fK k cs=true:=by
 cases hn:V.fK k cs
 ·rw[kh]at hn;rw[hn c (List.mem_of_getElem? hc)]at h;cases h
 ·rfl
theorem VR.mono{ok ok':Nat→Prop}{φ φ':Nat→Value}{hp hp':List (Nat×B)}{w w':World}{c:V}{v:Value}(h:VR ok φ hp w c v)
  (h1:∀b,ok b→ok' b) (h2:∀b,ok b→w'.heap[b]? = w.heap[b]?)
  (h3:∀k,V.names k c=true→lk hp k≠none→φ' k=φ k)
  (h4:∀k,V.names k c=true→cI hp hp' k):
  VR ok' φ' hp' w' c v:=by
 induction h with
 |dead v=>exact .dead v
 |d h=>exact .d (h.mono h1 h2)
 |nil=>exact .nil
 | @agg cs xs hs h ih=>
   exact .agg hs fun i c x hc hx=>ih i c x hc hx (fun k hk=>h3 k (by simpa[V.names]using gj hc hk)) (fun k hk=>h4 k (by simpa[V.names]using gj hc hk))
 | @pq cs xs hs h ih=>
   exact .pq hs fun i c x hc hx=>ih i c x hc hx (fun k hk=>h3 k (by simpa[V.names]using gj hc hk)) (fun k hk=>h4 k (by simpa[V.names]using gj hc hk))
 | @ref k off g cs hb h=>
   obtain⟨eN,cJ⟩:=(h4 k (by simp[V.names])).box hb
   exact .ref cJ (by rw[h3 _ (by simp[V.names]) (by rw[hb];simp)];exact h)
 | @own k sz es v hb h=>
   obtain⟨iz,cJ⟩:=(h4 k (by simp[V.names])).bu hb
   exact .own cJ (by rw[h3 _ (by simp[V.names]) (by rcases hb with⟨_,hb⟩|hb<;>(rw[hb];simp))];exact h)
 | @gg k i off g n cap sz es hb h=>
   obtain⟨iz,he⟩:=(h4 k (by simp[V.names])).bu hb
   exact .gg he (by rw[h3 _ (by simp[V.names]) (by rcases hb with⟨_,hb⟩|hb<;>(rw[hb];simp))];exact h)
 | @bW b off cs x fQ hc hr=>
   refine .bW x (fun h=>h1 _ (fQ h)) (fun j hj=>?_) (fun j hj=>(hr j hj).mono h1 h2)
   have bT:cs≠[]:=by intro h;subst h;simp at hj
   rw[World.cell?_of_block (w:=w) (h2 _ (fQ bT))]
   exact hc j hj
 | @fn f cs xs hs h ih=>
   exact .fn hs fun i c x hc hx=>ih i c x hc hx (fun k hk=>h3 k (by simpa[V.names]using gj hc hk)) (fun k hk=>h4 k (by simpa[V.names]using gj hc hk))
 |We=>exact .We
 | @rl k n c g cs hb h=>
   obtain⟨eN,cJ⟩:=(h4 k (by simp[V.names])).box hb
   exact .rl cJ (by rw[h3 _ (by simp[V.names]) (by rw[hb];simp)];exact h)
 | @j_ k g es hb h=>
   obtain⟨iz,cJ⟩:=(h4 k (by simp[V.names])).mp hb
   exact .j_ cJ (by rw[h3 _ (by simp[V.names]) (by rw[hb];simp)];exact h)
 | @vw k lo n g m cap iE off sz es hb h hle dy gZ=>
   obtain⟨iz,he⟩:=(h4 k (by simp[V.names])).bu hb
   exact .vw he (by rw[h3 _ (by simp[V.names]) (by rcases hb with⟨_,hb⟩|hb<;>(rw[hb];simp))];exact h) hle dy gZ
theorem VR.one{ok:Nat→Prop}{φ:Nat→Value}{hp:List (Nat×B)}{w:World}{c:V}{v:Value}(h:VR ok φ hp w c v)(hc:rp c=true)
  (hφ:∀k,(φ k).oneCell'=true):v.oneCell'=true:=by
 cases h<;>first|(simp[rp]at hc;done)|rfl|skip
 ·rename_i h;exact h.one
 ·rename_i h;rw[←h];exact hφ _
def BR(B0:Nat)(ok:Nat→Prop)(φ:Nat→Value)(hp:List (Nat×B))(w:World)(v:Value):B→Prop
 | .box cs=>∃g arr T,v = .pointer (some ⟨g,0,none⟩)∧w.heap[g]? = some (.cells arr T (0,0))∧arr.size=cs.length∧
  ∀(j:Nat) (c:V) (x:Value),cs[j]? = some c→arr[j]? = some x→VR ok φ hp w c x
 | .bu e sz es=>0<sz∧(∀c∈es,c.length=sz)∧∃xs,w.ownsRow B0 e sz v es.length xs∧
  ∀i j,i<es.length→j<sz→Rd ok w (xs.getD (i*sz+j) undef) ((es.getD i []).getD j default)
 | .j9 sz es=>0<sz∧(∀c∈es,c.length=sz)∧Rd ok w v (.sl es)∧(v = .slice none 0 0∨∃g n cap,v = .slice (some ⟨g,0,none⟩) n cap)
 | .mp es=>∃g gk clock,v = .map (some g)∧w.heap[g]? = some (.map gk clock)∧gk.size=es.length∧(∀x∈es,plain x.1=true)∧
  ∀(j:Nat) (x:Value×V) (y:MapEntry),es[j]? = some x→gk[j]? = some y→y.key=x.1∧VR ok φ hp w x.2 y.val
def B.aM:B→Bool
 | .j9 .. =>false
 |_=>true
structure mB (bx:List Nat) (B:Nat) (w w':World):Prop where
 os:w'.os=w.os
 tape:w'.tape=w.tape
 output:w'.output=w.output
 size:w.heap.size≤w'.heap.size
 block:∀k,k<B→k∉bx→w'.heap[k]? = w.heap[k]?
theorem mB.refl(bx:List Nat)(B:Nat)(w:World):mB bx B w w:=⟨rfl,rfl,rfl,Nat.le_refl _,fun _ _ _=>rfl⟩
theorem mB.trans{bx:List Nat}{B:Nat}{a b c:World}(h:mB bx B a b)(k:mB bx B b c):mB bx B a c:=
 ⟨k.os.trans h.os,k.tape.trans h.tape,k.output.trans h.output,Nat.le_trans h.size k.size,fun i hi hb=>(k.block i hi hb).trans (h.block i hi hb)⟩
structure Zr where
 n:Nat
 z:Nat→Option Obj
 ro:Nat→Nat→Value
 gl:Nat→Option Obj
 sub:∀b o,gl b=some o→z b=some o
def mark(D:Nat):Deferred:={target:=.collected D,args:=#[]}
structure Rel (B0:Nat) (bx:List Nat) (W0:World) (aI:Nat→Prop) (Z:Zr) (N:Nat) (ok:Nat→Prop) (φ:Nat→Value) (s:St) (a:Act) (w:World):Prop where
 sz:a.tmps.size=N
 tm:∀t x,lk s.tm t=some x→VR ok φ s.hp w x (a.tmps.getD t undef)
 gd:∀t t' w' x,lk s.gd t=some (t',w',x)→a.tmps.getD t' undef = .bool w'→VR ok φ s.hp w x (a.tmps.getD t undef)
 gu:∀t t' w' b,lk s.gd t=some (t',w',.d (.v (.bool b)))→a.tmps.getD t' undef≠.bool w'→a.tmps.getD t undef=undef
 kn:∀t b,lk s.kn t=some b→a.tmps.getD t undef = .bool b
 rt:∀d l t x,nth s.rt d=some l→lk l t=some x→VR ok φ s.hp w x (Z.ro d t)
 hp:∀k b,lk s.hp k=some b→BR B0 ok φ s.hp w (φ k) b
 act:∀k b g,lk s.hp k=some b→b.aM=true→aq (φ k)=some g→¬ok g∧(B0≤g∨g∈bx)
 inj:∀k k' b b' g,k≠k'→lk s.hp k=some b→lk s.hp k'=some b'→b.aM=true→b'.aM=true→aq (φ k)=some g→aq (φ k')≠some g
 one:∀k,(φ k).oneCell'=true
 fH:∀b,ok b→b<w.heap.size
 kT:∀b,ok b→aI b∨B0≤b
 aI:∀b,aI b→ok b
 l8:mB bx B0 W0 w
 b0:B0≤w.heap.size
 df:∃Ds:List Nat,Ds.Nodup∧a.defers=Ds.map mark∧∀D∈Ds,(B0≤D∧Z.n≤D)∧ok D∧w.heap[D]? = some (.deferred (some []))
 zs:Z.n≤w.heap.size
 kz:∀b o,Z.z b=some o→ok b∧w.heap[b]? = some o
 oP:∀(i g:Nat),bx[i]? = some g→φ (100000+i) = .pointer (some ⟨g,0,none⟩)∧∃cs,lk s.hp (100000+i)=some (.box cs)
end Go.Dm
