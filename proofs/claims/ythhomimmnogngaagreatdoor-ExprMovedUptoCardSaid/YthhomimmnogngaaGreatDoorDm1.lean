/- A part of the proof: contracts of functions, by a verified generator of conditions; no condition of its own. -/
import Derived.Test.YthhomimmnogngaaGreatDoorDm0
import Derived.Laws.AppendOwn
import Derived.Laws.OwnMore
import Derived.Laws.MakeOwn
import Derived.Laws.Cells
import Derived.Laws.CopyRow
import Derived.Laws.Tables
import Derived.Laws.World
import Derived.Laws.Entries
namespace Go.Dm
theorem lk_pt{α:Type}(l:List (Nat×α))(k j:Nat)(v:α):lk (pt l k v) j=if k=j then some v else lk l j:=by
 induction l with
 |nil=>
  simp only[pt,lk]
  by_cases h:k=j
  ·subst h;simp
  ·have:Nat.beq k j=false:=by simpa[Bool.eq_false_iff,Nat.beq_eq]using h
   simp[this,h]
 |cons p r ih=>
  obtain⟨a,x⟩:=p
  simp only[pt]
  by_cases h1:a=k
  ·subst h1
   have:Nat.beq a a=true:=by simp
   simp only[this,lk]
   by_cases h:a=j
   ·subst h;simp
   ·have:Nat.beq a j=false:=by simpa[Bool.eq_false_iff,Nat.beq_eq]using h
    simp[this,h]
  ·have e1:Nat.beq a k=false:=by simpa[Bool.eq_false_iff,Nat.beq_eq]using h1
   simp only[e1]
   split
   ·simp only[lk]
    by_cases h:k=j
    ·subst h;simp
    ·have:Nat.beq k j=false:=by simpa[Bool.eq_false_iff,Nat.beq_eq]using h
     simp[this,h]
   ·simp only[lk,ih]
    by_cases h:a=j
    ·subst h
     have:¬k=a:=fun e=>h1 e.symm
     simp[this]
    ·have:Nat.beq a j=false:=by simpa[Bool.eq_false_iff,Nat.beq_eq]using h
     simp[this]
theorem lk_rm{α:Type}(l:List (Nat×α))(k j:Nat):lk (rm l k) j=if k=j then none else lk l j:=by
 induction l with
 |nil=>simp[rm,lk]
 |cons p r ih=>
  obtain⟨a,x⟩:=p
  simp only[rm]
  by_cases h1:a=k
  ·subst h1
   have:Nat.beq a a=true:=by simp
   simp only[this,ih,lk]
   by_cases h:a=j
   ·subst h;simp
   ·have:Nat.beq a j=false:=by simpa[Bool.eq_false_iff,Nat.beq_eq]using h
    simp[this,h]
  ·have e1:Nat.beq a k=false:=by simpa[Bool.eq_false_iff,Nat.beq_eq]using h1
   simp only[e1,lk,ih]
   by_cases h:a=j
   ·subst h
    have:¬k=a:=fun e=>h1 e.symm
    simp[this]
   ·have:Nat.beq a j=false:=by simpa[Bool.eq_false_iff,Nat.beq_eq]using h
    simp[this]
theorem beq_false{a b:Nat}:Nat.beq a b=false↔a≠b:=by
 simp[Bool.eq_false_iff,Nat.beq_eq]
def plain:Value→Bool
 | .bool _=>true
 | .int _ _=>true
 | .string _=>true
 | .pointer none=>true
 | .nilIface=>true
 | .nilFunc=>true
 | .map none=>true
 |_=>false
inductive Rd (ok:Nat→Prop) (w:World):Value→D→Prop
 |v {x:Value} (h:plain x=true):Rd ok w x (.v x)
 |nil:Rd ok w (.slice none 0 0) (.sl [])
 |nul {a:Addr} {cap:Nat}:Rd ok w (.slice (some a) 0 cap) (.sl [])
 |opq {d:TypeId} {z:Value}:Rd ok w (.iface d z) .opq
 |sl {b off cap:Nat} {es:List (List D)} (sz:Nat) (x:Nat→Nat→Value) (hcap:es.length≤cap)
  (hok:es≠[]→ok b) (hsz:∀c∈es,c.length=sz)
  (hc:∀i j,i<es.length→j<sz→w.cell? ⟨b,off+(i*sz+j),none⟩=some (x i j))
  (hr:∀i j,i<es.length→j<sz→Rd ok w (x i j) ((es.getD i []).getD j default)):
  Rd ok w (.slice (some ⟨b,off,none⟩) es.length cap) (.sl es)
theorem Rd.mono{ok ok':Nat→Prop}{w w':World}{v:Value}{d:D}(h:Rd ok w v d)(h1:∀b,ok b→ok' b)(h2:∀b,ok b→w'.heap[b]? = w.heap[b]?):Rd ok' w' v d:=by
 induction h with
 |v h=>exact .v h
 |nil=>exact .nil
 |nul=>exact .nul
 |opq=>exact .opq
 | @sl b off cap es sz x hcap hok hsz hc hr ih=>
   refine .sl sz x hcap (fun h=>h1 _ (hok h)) hsz (fun i j hi hj=>?_) (fun i j hi hj=>ih i j hi hj)
   have hne:es≠[]:=by intro h;subst h;simp at hi
   rw[World.cell?_of_block (w:=w) (h2 _ (hok hne))]
   exact hc i j hi hj
theorem Rd.one{ok:Nat→Prop}{w:World}{v:Value}{d:D}(h:Rd ok w v d):v.oneCell'=true:=by
 cases h with
 |v h=>cases v<;>simp_all[plain,Value.oneCell']
 |nil=>rfl
 |nul=>rfl
 |opq=>rfl
 |sl=>rfl
def blockOf:Value→Option Nat
 | .map (some g)=>some g
 | .slice (some a) _ _=>some a.block
 | .pointer (some a)=>some a.block
 |_=>none
inductive VR (ok:Nat→Prop) (φ:Nat→Value) (hp:List (Nat×B)) (w:World):V→Value→Prop
 |dead (v:Value):VR ok φ hp w .dead v
 |d {v:Value} {x:D} (h:Rd ok w v x):VR ok φ hp w (.d x) v
 |nil:VR ok φ hp w .nil (.slice none 0 0)
 |agg {cs:List V} {xs:Array Value} (hs:xs.size=cs.length) (h:∀(i:Nat) (c:V) (x:Value),cs[i]? = some c→xs[i]? = some x→VR ok φ hp w c x):VR ok φ hp w (.agg cs) (.agg xs)
 |tup {cs:List V} {xs:Array Value} (hs:xs.size=cs.length) (h:∀(i:Nat) (c:V) (x:Value),cs[i]? = some c→xs[i]? = some x→VR ok φ hp w c x):VR ok φ hp w (.tup cs) (.tuple xs)
 |ref {k off g:Nat} {cs:List V} (hb:lk hp k=some (.box cs)) (h:φ k = .pointer (some ⟨g,0,none⟩)):VR ok φ hp w (.ref k off) (.pointer (some ⟨g,off,none⟩))
 |own {k sz:Nat} {es:List (List D)} {v:Value} (hb:(∃e,lk hp k=some (.lst e sz es))∨lk hp k=some (.fro sz es)) (h:φ k=v):VR ok φ hp w (.own k) v
 |optr {k i off g n cap sz:Nat} {es:List (List D)} (hb:(∃e,lk hp k=some (.lst e sz es))∨lk hp k=some (.fro sz es)) (h:φ k = .slice (some ⟨g,0,none⟩) n cap):
  VR ok φ hp w (.optr k i off) (.pointer (some ⟨g,i*sz+off,none⟩))
 |dptr {b off:Nat} {cs:List D} (x:Nat→Value) (hok:cs≠[]→ok b) (hc:∀j,j<cs.length→w.cell? ⟨b,off+j,none⟩=some (x j))
  (hr:∀j,j<cs.length→Rd ok w (x j) (cs.getD j default)):VR ok φ hp w (.dptr cs) (.pointer (some ⟨b,off,none⟩))
 |fn {f:Nat} {cs:List V} {xs:Array Value} (hs:xs.size=cs.length) (h:∀(i:Nat) (c:V) (x:Value),cs[i]? = some c→xs[i]? = some x→VR ok φ hp w c x):VR ok φ hp w (.fn f cs) (.func (.func f) #[] xs)
 |yld {l:Nat}:VR ok φ hp w (.yld l) (.func (.yield l) #[] #[])
 |arrv {k n c g:Nat} {cs:List V} (hb:lk hp k=some (.box cs)) (h:φ k = .pointer (some ⟨g,0,none⟩)):VR ok φ hp w (.arrv k n c) (.slice (some ⟨g,0,none⟩) n n)
 |mref {k g:Nat} {es:List (Value×V)} (hb:lk hp k=some (.mp es)) (h:φ k = .map (some g)):VR ok φ hp w (.mref k) (.map (some g))
 |vw {k lo n g m cap cap' off sz:Nat} {es:List (List D)} (hb:(∃e,lk hp k=some (.lst e sz es))∨lk hp k=some (.fro sz es)) (h:φ k = .slice (some ⟨g,0,none⟩) m cap)
  (hle:lo+n≤m) (hcap:n≤cap') (hoff:0<n→off=lo*sz):VR ok φ hp w (.vw k lo n) (.slice (some ⟨g,off,none⟩) n cap')
theorem namesL_iff(k:Nat)(cs:List V):V.namesL k cs=false↔∀c∈cs,V.names k c=false:=by
 induction cs with
 |nil=>simp[V.namesL]
 |cons c r ih=>
  simp only[V.namesL,List.mem_cons,forall_eq_or_imp]
  cases h:V.names k c<;>simp[ih]
def Sim(hp hp':List (Nat×B))(k:Nat):Prop:=
 match lk hp k with
 |none=>True
 |some (.box _)=>∃cs,lk hp' k=some (.box cs)
 |some (.lst _ sz _)=>∃es,(∃e,lk hp' k=some (.lst e sz es))∨lk hp' k=some (.fro sz es)
 |some (.fro sz _)=>∃es,(∃e,lk hp' k=some (.lst e sz es))∨lk hp' k=some (.fro sz es)
 |some (.mp _)=>∃es,lk hp' k=some (.mp es)
theorem Sim.refl(hp:List (Nat×B))(k:Nat):Sim hp hp k:=by
 unfold Sim
 split
 ·trivial
 ·rename_i cs h;exact⟨cs,h⟩
 ·rename_i e sz es h;exact⟨es,.inl ⟨e,h⟩⟩
 ·rename_i sz es h;exact⟨es,.inr h⟩
 ·rename_i es h;exact⟨es,h⟩
theorem Sim.mp{hp hp':List (Nat×B)}{k:Nat}{es:List (Value×V)}(h:Sim hp hp' k)(hb:lk hp k=some (.mp es)):∃es',lk hp' k=some (.mp es'):=by
 unfold Sim at h;rw[hb]at h;exact h
theorem Sim.box{hp hp':List (Nat×B)}{k:Nat}{cs:List V}(h:Sim hp hp' k)(hb:lk hp k=some (.box cs)):∃cs',lk hp' k=some (.box cs'):=by
 unfold Sim at h;rw[hb]at h;exact h
theorem Sim.lst{hp hp':List (Nat×B)}{k sz:Nat}{es:List (List D)}(h:Sim hp hp' k)(hb:(∃e,lk hp k=some (.lst e sz es))∨lk hp k=some (.fro sz es)):
  ∃es',(∃e,lk hp' k=some (.lst e sz es'))∨lk hp' k=some (.fro sz es'):=by
 unfold Sim at h
 rcases hb with⟨e,hb⟩|hb
 ·rw[hb]at h;exact h
 ·rw[hb]at h;exact h
theorem names_part{k:Nat}{cs:List V}{c:V}{i:Nat}(hc:cs[i]? = some c)(h:V.names k c=true):V.namesL k cs=true:=by
 cases hn:V.namesL k cs
 ·rw[namesL_iff]at hn;rw[hn c (List.mem_of_getElem? hc)]at h;cases h
 ·rfl
theorem VR.mono{ok ok':Nat→Prop}{φ φ':Nat→Value}{hp hp':List (Nat×B)}{w w':World}{c:V}{v:Value}(h:VR ok φ hp w c v)
  (h1:∀b,ok b→ok' b) (h2:∀b,ok b→w'.heap[b]? = w.heap[b]?)
  (h3:∀k,V.names k c=true→lk hp k≠none→φ' k=φ k)
  (h4:∀k,V.names k c=true→Sim hp hp' k):
  VR ok' φ' hp' w' c v:=by
 induction h with
 |dead v=>exact .dead v
 |d h=>exact .d (h.mono h1 h2)
 |nil=>exact .nil
 | @agg cs xs hs h ih=>
   exact .agg hs fun i c x hc hx=>ih i c x hc hx (fun k hk=>h3 k (by simpa[V.names]using names_part hc hk)) (fun k hk=>h4 k (by simpa[V.names]using names_part hc hk))
 | @tup cs xs hs h ih=>
   exact .tup hs fun i c x hc hx=>ih i c x hc hx (fun k hk=>h3 k (by simpa[V.names]using names_part hc hk)) (fun k hk=>h4 k (by simpa[V.names]using names_part hc hk))
 | @ref k off g cs hb h=>
   obtain⟨cs',hb'⟩:=(h4 k (by simp[V.names])).box hb
   exact .ref hb' (by rw[h3 _ (by simp[V.names]) (by rw[hb];simp)];exact h)
 | @own k sz es v hb h=>
   obtain⟨es',hb'⟩:=(h4 k (by simp[V.names])).lst hb
   exact .own hb' (by rw[h3 _ (by simp[V.names]) (by rcases hb with⟨_,hb⟩|hb<;>(rw[hb];simp))];exact h)
 | @optr k i off g n cap sz es hb h=>
   obtain⟨es',he⟩:=(h4 k (by simp[V.names])).lst hb
   exact .optr he (by rw[h3 _ (by simp[V.names]) (by rcases hb with⟨_,hb⟩|hb<;>(rw[hb];simp))];exact h)
 | @dptr b off cs x hok hc hr=>
   refine .dptr x (fun h=>h1 _ (hok h)) (fun j hj=>?_) (fun j hj=>(hr j hj).mono h1 h2)
   have hne:cs≠[]:=by intro h;subst h;simp at hj
   rw[World.cell?_of_block (w:=w) (h2 _ (hok hne))]
   exact hc j hj
 | @fn f cs xs hs h ih=>
   exact .fn hs fun i c x hc hx=>ih i c x hc hx (fun k hk=>h3 k (by simpa[V.names]using names_part hc hk)) (fun k hk=>h4 k (by simpa[V.names]using names_part hc hk))
 |yld=>exact .yld
 | @arrv k n c g cs hb h=>
   obtain⟨cs',hb'⟩:=(h4 k (by simp[V.names])).box hb
   exact .arrv hb' (by rw[h3 _ (by simp[V.names]) (by rw[hb];simp)];exact h)
 | @mref k g es hb h=>
   obtain⟨es',hb'⟩:=(h4 k (by simp[V.names])).mp hb
   exact .mref hb' (by rw[h3 _ (by simp[V.names]) (by rw[hb];simp)];exact h)
 | @vw k lo n g m cap cap' off sz es hb h hle hcap hoff=>
   obtain⟨es',he⟩:=(h4 k (by simp[V.names])).lst hb
   exact .vw he (by rw[h3 _ (by simp[V.names]) (by rcases hb with⟨_,hb⟩|hb<;>(rw[hb];simp))];exact h) hle hcap hoff
theorem VR.one{ok:Nat→Prop}{φ:Nat→Value}{hp:List (Nat×B)}{w:World}{c:V}{v:Value}(h:VR ok φ hp w c v)(hc:cellV c=true)
  (hφ:∀k,(φ k).oneCell'=true):v.oneCell'=true:=by
 cases h<;>first|(simp[cellV]at hc;done)|rfl|skip
 ·rename_i h;exact h.one
 ·rename_i h;rw[←h];exact hφ _
def BR(B0:Nat)(ok:Nat→Prop)(φ:Nat→Value)(hp:List (Nat×B))(w:World)(v:Value):B→Prop
 | .box cs=>∃g arr T,v = .pointer (some ⟨g,0,none⟩)∧w.heap[g]? = some (.cells arr T (0,0))∧arr.size=cs.length∧
  ∀(j:Nat) (c:V) (x:Value),cs[j]? = some c→arr[j]? = some x→VR ok φ hp w c x
 | .lst e sz es=>0<sz∧(∀c∈es,c.length=sz)∧∃xs,w.ownsRow B0 e sz v es.length xs∧
  ∀i j,i<es.length→j<sz→Rd ok w (xs.getD (i*sz+j) undef) ((es.getD i []).getD j default)
 | .fro sz es=>0<sz∧(∀c∈es,c.length=sz)∧Rd ok w v (.sl es)∧(v = .slice none 0 0∨∃g n cap,v = .slice (some ⟨g,0,none⟩) n cap)
 | .mp es=>∃g ents clock,v = .map (some g)∧w.heap[g]? = some (.map ents clock)∧ents.size=es.length∧(∀x∈es,plain x.1=true)∧
  ∀(j:Nat) (x:Value×V) (y:MapEntry),es[j]? = some x→ents[j]? = some y→y.key=x.1∧VR ok φ hp w x.2 y.val
def B.active:B→Bool
 | .fro .. =>false
 |_=>true
structure Upd (bx:List Nat) (B:Nat) (w w':World):Prop where
 os:w'.os=w.os
 tape:w'.tape=w.tape
 output:w'.output=w.output
 size:w.heap.size≤w'.heap.size
 block:∀k,k<B→k∉bx→w'.heap[k]? = w.heap[k]?
theorem Upd.refl(bx:List Nat)(B:Nat)(w:World):Upd bx B w w:=⟨rfl,rfl,rfl,Nat.le_refl _,fun _ _ _=>rfl⟩
theorem Upd.trans{bx:List Nat}{B:Nat}{a b c:World}(h:Upd bx B a b)(k:Upd bx B b c):Upd bx B a c:=
 ⟨k.os.trans h.os,k.tape.trans h.tape,k.output.trans h.output,Nat.le_trans h.size k.size,fun i hi hb=>(k.block i hi hb).trans (h.block i hi hb)⟩
structure Zr where
 n:Nat
 z:Nat→Option Obj
 ro:Nat→Nat→Value
 gl:Nat→Option Obj
 sub:∀b o,gl b=some o→z b=some o
def mark(D:Nat):Deferred:={target:=.collected D,args:=#[]}
structure Rel (B0:Nat) (bx:List Nat) (W0:World) (ok0:Nat→Prop) (Z:Zr) (N:Nat) (ok:Nat→Prop) (φ:Nat→Value) (s:St) (a:Act) (w:World):Prop where
 sz:a.tmps.size=N
 tm:∀t x,lk s.tm t=some x→VR ok φ s.hp w x (a.tmps.getD t undef)
 gd:∀t t' w' x,lk s.gd t=some (t',w',x)→a.tmps.getD t' undef = .bool w'→VR ok φ s.hp w x (a.tmps.getD t undef)
 gu:∀t t' w' b,lk s.gd t=some (t',w',.d (.v (.bool b)))→a.tmps.getD t' undef≠.bool w'→a.tmps.getD t undef=undef
 kn:∀t b,lk s.kn t=some b→a.tmps.getD t undef = .bool b
 rt:∀d l t x,nth s.rt d=some l→lk l t=some x→VR ok φ s.hp w x (Z.ro d t)
 hp:∀k b,lk s.hp k=some b→BR B0 ok φ s.hp w (φ k) b
 act:∀k b g,lk s.hp k=some b→b.active=true→blockOf (φ k)=some g→¬ok g∧(B0≤g∨g∈bx)
 inj:∀k k' b b' g,k≠k'→lk s.hp k=some b→lk s.hp k'=some b'→b.active=true→b'.active=true→blockOf (φ k)=some g→blockOf (φ k')≠some g
 one:∀k,(φ k).oneCell'=true
 okl:∀b,ok b→b<w.heap.size
 oks:∀b,ok b→ok0 b∨B0≤b
 ok0:∀b,ok0 b→ok b
 upd:Upd bx B0 W0 w
 b0:B0≤w.heap.size
 df:∃Ds:List Nat,Ds.Nodup∧a.defers=Ds.map mark∧∀D∈Ds,(B0≤D∧Z.n≤D)∧ok D∧w.heap[D]? = some (.deferred (some []))
 zs:Z.n≤w.heap.size
 kz:∀b o,Z.z b=some o→ok b∧w.heap[b]? = some o
 pin:∀(i g:Nat),bx[i]? = some g→φ (100000+i) = .pointer (some ⟨g,0,none⟩)∧∃cs,lk s.hp (100000+i)=some (.box cs)
end Go.Dm
