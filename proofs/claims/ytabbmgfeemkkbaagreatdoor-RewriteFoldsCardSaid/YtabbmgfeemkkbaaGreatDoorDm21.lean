/- Part of the proof: contracts of functions; no condition. -/
import Derived.Test.YtabbmgfeemkkbaaGreatDoorDm17
import Derived.RangeFuncLeaves
import Derived.RangeFuncRecord
namespace Go.Dm
variable {P:Program} {E:Env} {C:aj} {I:Nat→List V→List V→St→(V→St→Prop)→Prop}
variable {B0:Nat} {bx:List Nat} {W0:World} {aI:Nat→Prop} {Z:Zr} {N:Nat}
theorem Gd{ok:Nat→Prop}{φ:Nat→Value}{s:St}{w:World}{xs:Array Value}{cs:List D}(hs:xs.size=cs.length)(h:∀(i:Nat) (x:D) (v:Value),cs[i]? = some x→xs[i]? = some v→Rd ok w v x):VR ok φ s.hp w (.agg (vd cs)) (.agg xs):=
 .agg (by rw[iM];exact hs) fun i c x hc hx=>by
  rw[oQ]at hc
  cases hO:cs[i]? with
  |none=>rw[hO]at hc;cases hc
  |some d=>rw[hO]at hc;simp at hc;subst hc;exact .d (h i d x hO hx)
def wW:Obj→Bool
 | .cells .. =>true
 | .map .. =>true
 |_=>false
theorem uB{w:World}{L:Nat}{o o':Obj}(hL:w.heap[L]? = some o)(ho:wW o=false)(Wv:wW o'=false)(a:Addr):(w.putObj L o').cell? a=w.cell? a:=by
 by_cases e:a.block=L
 ·have h1:(w.putObj L o').heap[a.block]? = some o':=by rw[e];exact World.putObj_heap_same (Array.getElem?_eq_some_iff.1 hL).1
  have h2:w.heap[a.block]? = some o:=by rw[e];exact hL
  unfold World.cell?
  rw[h1,h2]
  cases o<;>cases o'<;>first|rfl|(simp[wW]at ho;done)|(simp[wW]at Wv;done)
 ·exact World.cell?_of_block (World.putObj_heap_other e)
theorem Rd.iq{ok ok':Nat→Prop}{w w':World}{v:Value}{d:D}(h:Rd ok w v d)(h1:∀b,ok b→ok' b)(hc:∀a,w'.cell? a=w.cell? a):Rd ok' w' v d:=by
 induction h with
 |v h=>exact .v h
 |nil=>exact .nil
 |aA=>exact .aA
 |wm=>exact .wm
 | @sl b off cap es sz x dy fQ hsz E' hr ih=>
   exact .sl sz x dy (fun h=>h1 _ (fQ h)) hsz (fun i j hi hj=>by rw[hc];exact E' i j hi hj) (fun i j hi hj=>ih i j hi hj)
theorem VR.iq{ok ok':Nat→Prop}{φ:Nat→Value}{hp:List (Nat×B)}{w w':World}{c:V}{v:Value}(h:VR ok φ hp w c v)(h1:∀b,ok b→ok' b)(hc:∀a,w'.cell? a=w.cell? a):VR ok' φ hp w' c v:=by
 induction h with
 |dead v=>exact .dead v
 |d h=>exact .d (h.iq h1 hc)
 |nil=>exact .nil
 |agg hs h ih=>exact .agg hs ih
 |pq hs h ih=>exact .pq hs ih
 |ref hb h=>exact .ref hb h
 |own hb h=>exact .own hb h
 |gg hb h=>exact .gg hb h
 |bW x fQ E' hr=>exact .bW x (fun h=>h1 _ (fQ h)) (fun j hj=>by rw[hc];exact E' j hj) (fun j hj=>(hr j hj).iq h1 hc)
 |fn hs h ih=>exact .fn hs ih
 |We=>exact .We
 |j_ hb h=>exact .j_ hb h
 |rl hb h=>exact .rl hb h
 |vw hb h h1 h2 h3=>exact .vw hb h h1 h2 h3
theorem D_{w:World}{base:Nat}{e:TypeId}{size:Nat}{v:Value}{k:Nat}{xs:List Value}(h:w.ownsRow base e size v k xs){L:Nat}{o o':Obj}(hL:w.heap[L]? = some o)(ho:wW o=false):(w.putObj L o').ownsRow base e size v k xs:=by
 refine h.kept (row:=some L) ⟨rfl,rfl,rfl,by simp,fun k _ hk=>World.putObj_heap_other (fun e=>hk (by rw[e]))⟩ ?_
 rcases h.2 with⟨rfl,_⟩|⟨g,cap,cur,rfl,_,hgb,_⟩
 ·exact .inl rfl
 ·refine .inr fun e'=>?_
  obtain rfl:g=L:=by simpa[Value.ownBlock]using e'
  rw[hgb]at hL;cases hL;cases ho
theorem BR.Ea{ok:Nat→Prop}{φ:Nat→Value}{hp:List (Nat×B)}{w:World}{v:Value}{b:B}(h:BR B0 ok φ hp w v b){L:Nat}{o o':Obj}(hL:w.heap[L]? = some o)(ho:wW o=false)(Wv:wW o'=false):BR B0 ok φ hp (w.putObj L o') v b:=by
 have hc:=uB hL ho Wv
 cases b with
 |box cs=>
  obtain⟨g,arr,T,h1,h2,h3,h4⟩:=h
  refine⟨g,arr,T,h1,?_,h3,fun j c x a b=>(h4 j c x a b).iq (fun _ h=>h) hc⟩
  rw[World.putObj_heap_other (by rintro rfl;rw[h2]at hL;cases hL;cases ho)]
  exact h2
 |bu e sz es=>
  obtain⟨h1,h2,xs,h3,h4⟩:=h
  exact⟨h1,h2,xs,D_ h3 hL ho,fun i j a b=>(h4 i j a b).iq (fun _ h=>h) hc⟩
 |j9 sz es=>
  obtain⟨h1,h2,h3,h4⟩:=h
  exact⟨h1,h2,h3.iq (fun _ h=>h) hc,h4⟩
 |mp es=>
  obtain⟨g,gk,clock,h1,h2,h3,h5,h4⟩:=h
  refine⟨g,gk,clock,h1,?_,h3,h5,fun j x y a b=>⟨(h4 j x y a b).1,(h4 j x y a b).2.iq (fun _ h=>h) hc⟩⟩
  rw[World.putObj_heap_other (by rintro rfl;rw[h2]at hL;cases hL;cases ho)]
  exact h2
theorem Rel.Ea{ok:Nat→Prop}{φ:Nat→Value}{s:St}{a:Act}{w:World}(r:Rel B0 bx W0 aI Z N ok φ s a w){L:Nat}{o o':Obj}(hL:w.heap[L]? = some o)(ho:wW o=false)(Wv:wW o'=false)
  (hB:B0≤L) (Z':Zr) (hz:∀b o,Z'.z b=some o→ok b∧(w.putObj L o').heap[b]? = some o) (XZ:Z'.ro=Z.ro) (hn:Z'.n≤w.heap.size)
  {a':Act} (Oq:a'.tmps=a.tmps) (hdf:∃Ds:List Nat,Ds.Nodup∧a'.defers=Ds.map mark∧∀D∈Ds,(B0≤D∧Z'.n≤D)∧ok D∧(w.putObj L o').heap[D]? = some (.deferred (some []))):
  Rel B0 bx W0 aI Z' N ok φ s a' (w.putObj L o'):=by
 have hc:=uB hL ho Wv
 exact {
  sz:=by rw[Oq];exact r.sz
  tm:=fun t x h=>by rw[Oq];exact(r.tm t x h).iq (fun _ h=>h) hc
  gd:=fun t t' w' x h hw=>by rw[Oq]at hw ⊢;exact(r.gd t t' w' x h hw).iq (fun _ h=>h) hc
  gu:=fun t t' w' b h hw=>by rw[Oq]at hw ⊢;exact r.gu t t' w' b h hw
  kn:=fun t b h=>by rw[Oq];exact r.kn t b h
  rt:=fun d l t x hl h=>by rw[XZ];exact(r.rt d l t x hl h).iq (fun _ h=>h) hc
  hp:=fun k b h=>(r.hp k b h).Ea hL ho Wv
  act:=r.act
  inj:=r.inj
  one:=r.one
  fH:=fun b h=>by simpa using r.fH b h
  kT:=r.kT
  aI:=r.aI
  l8:=r.l8.trans ⟨rfl,rfl,rfl,by simp,fun k hk _=>World.putObj_heap_other (by omega)⟩
  b0:=by simpa using r.b0
  df:=hdf
  zs:=by simpa using hn
  kz:=hz
  oP:=r.oP}
theorem Rel.reZ{ok:Nat→Prop}{φ:Nat→Value}{s:St}{a:Act}{w:World}(r:Rel B0 bx W0 aI Z N ok φ s a w)(Z':Zr)(hz:∀b o,Z'.z b=some o→ok b∧w.heap[b]? = some o)(hn:Z'.n≤w.heap.size){N':Nat}{s':St}{a':Act}
 (Ww:s'.hp=s.hp) (qC:s'.gd=[]) (hsz:a'.tmps.size=N') (Ub:∀t x,lk s'.tm t=some x→VR ok φ s.hp w x (a'.tmps.getD t undef)) (hkn:∀t b,lk s'.kn t=some b→a'.tmps.getD t undef = .bool b)
 (Ot:∀d l t x,nth s'.rt d=some l→lk l t=some x→VR ok φ s.hp w x (Z'.ro d t))
 (hdf:∃Ds:List Nat,Ds.Nodup∧a'.defers=Ds.map mark∧∀D∈Ds,(B0≤D∧Z'.n≤D)∧ok D∧w.heap[D]? = some (.deferred (some []))):
 Rel B0 bx W0 aI Z' N' ok φ s' a' w:={
 sz:=hsz
 tm:=by rw[Ww];exact Ub
 gd:=fun t t' w' x h=>by rw[qC]at h;simp[lk]at h
 gu:=fun t t' w' b h=>by rw[qC]at h;simp[lk]at h
 kn:=hkn
 rt:=by rw[Ww];exact Ot
 hp:=by rw[Ww];exact r.hp
 act:=by rw[Ww];exact r.act
 inj:=by rw[Ww];exact r.inj
 one:=r.one
 fH:=r.fH
 kT:=r.kT
 aI:=r.aI
 l8:=r.l8
 b0:=r.b0
 df:=hdf
 zs:=hn
 kz:=hz
 oP:=by rw[Ww];exact r.oP}
theorem Rel.Ge{ok ok':Nat→Prop}{φ:Nat→Value}{s:St}{a:Act}{w:World}(r:Rel B0 bx W0 aI Z N ok φ s a w)(h1:∀b,ok b→ok' b)(hl:∀b,ok' b→b<w.heap.size)(hs:∀b,ok' b→aI b∨B0≤b)
 (ha:∀k b g,lk s.hp k=some b→b.aM=true→aq (φ k)=some g→¬ok' g):Rel B0 bx W0 aI Z N ok' φ s a w:={
 sz:=r.sz
 tm:=fun t x h=>(r.tm t x h).iq h1 (fun _=>rfl)
 gd:=fun t t' w' x h hw=>(r.gd t t' w' x h hw).iq h1 (fun _=>rfl)
 gu:=r.gu
 kn:=r.kn
 rt:=fun d l t x hl h=>(r.rt d l t x hl h).iq h1 (fun _=>rfl)
 hp:=fun k b h=>(r.hp k b h).keep (fun _=>False) (fun _ _ h=>h.elim) h1 (fun _ _=>rfl) (fun _ _ _=>rfl) (fun k _=>cI.refl _ k) (fun _ _ _=>rfl)
 act:=fun k b g h h2 h3=>⟨ha k b g h h2 h3,(r.act k b g h h2 h3).2⟩
 inj:=r.inj
 one:=r.one
 fH:=hl
 kT:=hs
 aI:=fun b h=>h1 b (r.aI b h)
 l8:=r.l8
 b0:=r.b0
 df:=by
  obtain⟨Ds,e1,e2,e3⟩:=r.df
  exact⟨Ds,e1,e2,fun D hD=>⟨(e3 D hD).1,h1 D (e3 D hD).2.1,(e3 D hD).2.2⟩⟩
 zs:=r.zs
 kz:=fun b o h=>⟨h1 b (r.kz b o h).1,(r.kz b o h).2⟩
 oP:=r.oP}
theorem tM:∀{bY:List V} {ok:Nat→Prop} {φ:Nat→Value} {s s':St} {a:Act} {w:World} {nx:List Cp} {vs:List Value},Rel B0 bx W0 aI Z N ok φ s a w→vs.length=bY.length→
  (∀(i:Nat) (c:V) (x:Value),bY[i]? = some c→vs[i]? = some x→VR ok φ s.hp w c x)→gF s bY=some (nx,s')→
  ∃ok',Rel B0 bx W0 aI Z N ok' φ s' a w∧(∀b,ok b→ok' b)∧(kV nx).length=vs.length∧(∀(i:Nat) (c:V) (x:Value),(kV nx)[i]? = some c→vs[i]? = some x→VR ok' (fun _=>.int .i64 0) [] w c x):=by
 intro bY
 induction bY with
 |nil=>
  intro ok φ s s' a w nx vs r hl hv h
  simp only[gF,Option.some.injEq,Prod.mk.injEq]at h
  obtain⟨rfl,rfl⟩:=h
  exact⟨ok,r,fun _ h=>h,by simp at hl;simp[kV,hl],fun i c x h=>by simp[kV]at h⟩
 |cons c0 bY ih=>
  intro ok φ s s' a w nx vs r hl hv h
  cases vs with
  |nil=>simp at hl
  |cons v0 vs=>
  have wy:vs.length=bY.length:=by simpa using hl
  have yq:=hv 0 c0 v0 rfl rfl
  have rJ:∀(i:Nat) (c:V) (x:Value),bY[i]? = some c→vs[i]? = some x→VR ok φ s.hp w c x:=fun i c x h1 h2=>hv (i+1) c x (by simpa using h1) (by simpa using h2)
  have fin:∀{jK:Nat→Prop} {s1:St} {c:Cp} {l:List Cp},(∀b,ok b→jK b)→Rel B0 bx W0 aI Z N jK φ s1 a w→(∀(i:Nat) (c:V) (x:Value),bY[i]? = some c→vs[i]? = some x→VR jK φ s1.hp w c x)→
    VR jK (fun _=>.int .i64 0) [] w (kV [c]).head! v0→gF s1 bY=some (l,s')→nx=c::l→
    ∃ok',Rel B0 bx W0 aI Z N ok' φ s' a w∧(∀b,ok b→ok' b)∧(kV nx).length=(v0::vs).length∧(∀(i:Nat) (c:V) (x:Value),(kV nx)[i]? = some c→(v0::vs)[i]? = some x→VR ok' (fun _=>.int .i64 0) [] w c x):=by
   intro jK s1 c l h1 r1 Cs hc hf he
   subst he
   obtain⟨pF,r2,h2,p',hv2⟩:=ih r1 wy Cs hf
   have e:kV (c::l)=(kV [c]).head! :: kV l:=by cases c<;>rfl
   refine⟨pF,r2,fun b hb=>h2 b (h1 b hb),by rw[e];simp[p'],fun i c' x h3 h4=>?_⟩
   rw[e]at h3
   cases i with
   |zero=>simp at h3 h4;subst h3;subst h4;exact hc.iq h2 (fun _=>rfl)
   |succ i=>exact hv2 i c' x (by simpa using h3) (by simpa using h4)
  have Of:(∀cs,c0≠.bW cs)→(∀k,c0≠.ref k 0)→∃ok',Rel B0 bx W0 aI Z N ok' φ s' a w∧(∀b,ok b→ok' b)∧(kV nx).length=(v0::vs).length∧(∀(i:Nat) (c:V) (x:Value),(kV nx)[i]? = some c→(v0::vs)[i]? = some x→VR ok' (fun _=>.int .i64 0) [] w c x):=by
   intro n1 n2
   have h':(match tV s c0 with|some (x,s)=>(match gF s bY with|some (l,s)=>some (Cp.d x::l,s)|none=>none)|none=>none)=some (nx,s'):=by
    rw[←h]
    cases c0 with
    |bW cs=>exact(n1 cs rfl).elim
    |ref k off=>cases off with
     |zero=>exact(n2 k rfl).elim
     |succ n=>rfl
    |_=>rfl
   split at h'
   ·rename_i x s1 hd
    split at h'
    ·rename_i l s2 hf
     simp only[Option.some.injEq,Prod.mk.injEq]at h'
     obtain⟨rfl,rfl⟩:=h'
     obtain⟨jK,r1,cK,h1,mn⟩:=oU r yq hd
     exact fin h1 r1 (fun i c x h2 h3=>(rJ i c x h2 h3).mono h1 (fun _ _=>rfl) (fun _ _ _=>rfl) (fun j _=>mn j)) (.d cK) hf rfl
    ·cases h'
   ·cases h'
  cases c0 with
  |bW cs=>
   simp only[gF]at h
   split at h
   ·rename_i l s1 hf
    simp only[Option.some.injEq,Prod.mk.injEq]at h
    obtain⟨rfl,rfl⟩:=h
    exact fin (c:=.ptr cs) (fun _ h=>h) r rJ (yq.rZ (fun k=>rfl)) hf rfl
   ·cases h
  |ref k off=>
   cases off with
   |succ n=>exact Of (fun _ h=>by cases h) (fun _ h=>by cases h)
   |zero=>
    simp only[gF]at h
    split at h
    rotate_left
    ·cases h
    rename_i cs hk FR hb
    split at h
    rotate_left
    ·cases h
    rename_i ds s1 hds
    split at h
    rotate_left
    ·cases h
    rename_i l s2 hf
    simp only[Option.some.injEq,Prod.mk.injEq]at h
    obtain⟨rfl,rfl⟩:=h
    have hlt:k<100000:=by
       rcases Nat.lt_or_ge k 100000 with h'|h'
       ·exact h'
       ·rw[Nat.ble_eq_true_of_le h']at hk;cases hk
    cases yq
    rename_i g eN cJ hφ
    obtain⟨g',arr,T,hp,hh,hs,hr⟩:=r.hp k _ hb
    rw[hφ]at hp;simp at hp;subst hp
    obtain⟨jK,r1,zy,cK,h1,mn⟩:=gq (vs:=arr.toList) r (by simpa using hs) (fun i c y hc hy=>hr i c y hc (by simpa using hy)) hds
    have ajx:=(mn k).box hb
    obtain⟨Xm,hb1⟩:=ajx
    have hg:aq (φ k)=some g:=by rw[hφ];rfl
    obtain⟨hno,hB⟩:=r1.act k _ g hb1 rfl hg
    have hB':B0≤g:=by
       rcases hB with hB|hB
       ·exact hB
       ·obtain⟨i,hi⟩:=List.getElem?_of_mem hB
        obtain⟨p1,cs2,p2⟩:=r1.oP i g hi
        exact(r1.inj k (100000+i) _ _ g (by omega) hb1 p2 rfl rfl hg (by rw[p1];rfl)).elim
    have r2:=r1.drop hlt
    have yD:∀j b,lk (s1.drop k).hp j=some b→k≠j∧∃b',lk s1.hp j=some b'∧b'.aM=b.aM:=fun j b h=>by
       simp only[St.drop]at h
       rw[pz]at h
       split at h
       ·cases h
       ·rename_i e
        rw[dm]at h
        cases h0:lk s1.hp j with
        |none=>rw[h0]at h;cases h
        |some b0=>
         rw[h0]at h
         simp only[Option.map_some,Option.some.injEq]at h
         subst h
         exact⟨e,b0,rfl,by cases b0<;>rfl⟩
    have r3:Rel B0 bx W0 aI Z N (fun b=>jK b∨b=g) φ (s1.drop k) a w:=r2.Ge (fun b hb=>.inl hb) (fun b hb=>by
         rcases hb with hb|rfl
         ·exact r1.fH b hb
         ·exact(Array.getElem?_eq_some_iff.1 hh).1) (fun b hb=>by
         rcases hb with hb|rfl
         ·exact r1.kT b hb
         ·exact .inr hB') (fun j b g' hj ha oT=>by
         obtain⟨e1,b',e2,e3⟩:=yD j b hj
         rintro(hx|rfl)
         ·exact(r1.act j b' g' e2 (by rw[e3];exact ha) oT).1 hx
         ·exact r1.inj k j _ b' g' e1 hb1 e2 rfl (by rw[e3];exact ha) hg oT)
    have apy:ds.length=arr.size:=zy.trans hs.symm
    refine fin (c:=.ptr ds) (jK:=fun b=>jK b∨b=g) (fun b hb=>.inl (h1 b hb)) r3 (fun i c x h2 h3=>?_) ?_ hf rfl
    ·have hnk:V.names k c=false:=(kh k bY).1 FR c (List.mem_of_getElem? h2)
     have:=(rJ i c x h2 h3).mono h1 (fun _ _=>rfl) (fun _ _ _=>rfl) (fun j _=>mn j)
     refine this.mono (fun b hb=>.inl hb) (fun _ _=>rfl) (fun _ _ _=>rfl) (fun j hj=>?_)
     have bT:k≠j:=by rintro rfl;rw[hnk]at hj;cases hj
     have:=mG k j s1.hp
     unfold cI at this ⊢
     simp only[St.drop]
     rw[pz,if_neg bT]
     exact this
    ·have jS:∀j,j<ds.length→w.cell? ⟨g,0+j,none⟩=some (arr.getD j undef):=fun j hj=>by
         have tp:j<arr.size:=by omega
         simp[World.cell?,hh,tp]
     refine .bW (fun j=>arr.getD j undef) (fun _=>.inr rfl) jS (fun j hj=>?_)
     have tp:j<arr.size:=by omega
     have e1:arr.getD j undef=arr[j]:=by simp[tp]
     rw[e1]
     refine(cK j (ds.getD j default) arr[j] (by simp[hj]) (by simp[tp])).iq (fun b hb=>.inl hb) (fun _=>rfl)
  |_=>exact Of (fun _ h=>by cases h) (fun _ h=>by cases h)
end Go.Dm
namespace Go.Dm
variable {P:Program} {E:Env} {C:aj} {I:Nat→List V→List V→St→(V→St→Prop)→Prop}
variable {B0:Nat} {bx:List Nat} {W0:World} {aI:Nat→Prop} {N:Nat}
def FW(F:Fence):Prop:=F=Fence.wide∨∃l,F=Fence.wide.inRound l
theorem FW.fn{F:Fence}(h:FW F)(f:Nat):F.fn f:=by rcases h with rfl|⟨l,rfl⟩<;>trivial
theorem FW.depth{F:Fence}(h:FW F){p:Prop}:F.depth.isSome=true→p:=by rcases h with rfl|⟨l,rfl⟩<;>(intro h;simp[Fence.wide,Fence.inRound]at h)
theorem FW.calls{F:Fence}(h:FW F){n f:Nat}{args:Array Value}{w:World}{R:Ending→World→Prop}(hc:Calls P f args w R):CallsIn F n P f args w R:=by
 rcases h with rfl|⟨l,rfl⟩
 ·exact callsIn_wide.2 hc
 ·exact(callsIn_wide (n:=n)).2 hc
theorem FW.rows{F:Fence}(h:FW F){n:Nat}{row:String}{args:Array Value}{w:World}{R:Value→World→Prop}(hc:Rows P row args w R):RowsIn F n P row args w R:=by
 intro c cs _
 obtain⟨v,w',h1,h2⟩:=hc c cs
 refine⟨v,w',h1,?_⟩
 rcases h with rfl|⟨l,rfl⟩
 ·exact stepsIn_wide.2 h2
 ·exact stepsIn_wide.2 h2
theorem Ou{F:Fence}(hF:FW F){o:Oper}{a:Act}{next next':Act→World→Prop}{Q:Exit→Act→World→Prop}(hn:∀a w,next a w→next' a w)(hl:¬LetsOut Q){r:Result Next}(h:o.upon P a next Q r):o.uponIn F 0 P a next' Q r:=by
 cases r with
 |halt x w'=>
  cases x<;>first|exact h|exact(h:False).elim
 |ok x w'=>
  cases x with
  |value v=>exact hn _ _ h
  |skip=>exact hn _ _ h
  |defer d=>exact hn _ _ h
  |enter f args=>
   refine⟨hF.depth,hF.calls ((h:Calls P f args w' _).mono fun e tu h=>?_)⟩
   cases e with
   |returned v=>exact hn _ _ h
   |panicked c=>exact h
   |outgrown=>exact h
  |row row args=>exact⟨hF.depth,hF.rows ((h:Rows P row args w' _).mono fun v tu h=>hn _ _ h)⟩
  |_=>exact(h:False).elim
theorem Gf{F:Fence}(hF:FW F){Q:Exit→Act→World→Prop}(hl:¬LetsOut Q){ops:Array Oper}(Q_:∀(i:Nat) (o:Oper),ops[i]? = some o→∀c,o.op≠.defer c):
  ∀(l:List Nat) (a:Act) (w:World),wpOps P ops Q l a w→wpOpsIn F 0 P ops Q l a w:=by
 intro l
 induction l with
 |nil=>intro a w h;exact h
 |cons i rest ih=>
  intro a w h
  unfold wpOps at h
  unfold wpOpsIn
  cases ho:ops[i]? with
  |none=>rw[ho]at h;exact ih a w h
  |some o=>
   rw[ho]at h
   simp only at h ⊢
   split
   ·rename_i hw
    rw[if_pos hw]at h
    rcases h with h|h
    ·refine⟨fun f _=>hF.fn f,?_⟩
     have e:o.semAt F.round a.eval=execOp a.eval o:=by
      cases hr:F.round with
      |none=>rfl
      |some l=>exact Oper.semAt_eq _ _ _ (Q_ i o ho)
     rw[e]
     exact Ou hF ih hl h
    ·exact(hl h.2).elim
   ·rename_i hw
    rw[if_neg hw]at h
    exact⟨fun f _=>hF.fn f,ih _ _ h⟩
def YieldAt(P:Program)(l:Nat)(y:Value)(W:World)(R:Bool→World→Prop):Prop:=
 ∃fn tmps assign body,(Instr.yield l #[y]).run P W = .ok (.round l fn tmps assign body) W∧RoundIn Fence.wide 0 P l fn tmps assign body W (fun e W'=>∃b,e = .returned (.bool b)∧R b W')
def Its(P:Program)(f:Nat)(nx:List Cp)(xs:List R):Prop:=
 qc P f∧∀(w:World) (ok:Nat→Prop) (vs:List Value) (l:Nat),(∀b,ok b→b<w.heap.size)→vs.length=(kV nx).length→(∀(i:Nat) (c:V) (x:Value),(kV nx)[i]? = some c→vs[i]? = some x→VR ok (fun _=>.int .i64 0) [] w c x)→
  ∀(J:Nat→World→Prop) (X:World→Prop),J 0 w→(∀i W n,J i W→J i {W with drawn:=n})→(∀W n,X W→X {W with drawn:=n})→
  (∀i x W y,xs[i]? = some x→J i W→(∀b,ok b→W.heap[b]? = w.heap[b]?)→cC ok W [] [x] [y]→YieldAt P l y W (fun b W'=>(∀b,ok b→W'.heap[b]? = W.heap[b]?)∧(b=true→J (i+1) W')∧(b=false→X W')))→
  Calls P f (#[.func (.yield l) #[] #[]]++vs.toArray) w (fun e W=>(∃v,e = .returned v)∧(J xs.length W∨X W))
def Aj(P:Program)(E:Env):Prop:=∀f nx K,E.it f nx K→∃xs,Its P f nx xs∧K xs
theorem Gg{F:Fence}{n:Nat}{c:Code}{Q:Exit→Act→World→Prop}{a a':Act}{w:World}(e:a=a')(h:c.wpIn F n P Q a' w):c.wpIn F n P Q a w:=e▸h
theorem yK{Z:Zr}(K:Ex→St→Prop):¬LetsOut (Qof B0 bx W0 aI Z N K):=fun⟨_,_,_,_,_,_,h⟩=>h
theorem Gh{Ds Uc:List Nat}(h:Ds.map mark=Uc.map mark):Ds=Uc:=by
 induction Ds generalizing Uc with
 |nil=>cases Uc with
  |nil=>rfl
  |cons d r=>simp at h
 |cons d r ih=>cases Uc with
  |nil=>simp at h
  |cons d' r'=>
   simp only[List.map_cons,List.cons.injEq]at h
   rw[ih h.2]
   have:=h.1
   simp[mark]at this
   rw[this]
open Classical in
theorem uC{gl:Nat→Option Obj}(hE:c8 P E)(hC:ah P gl C)(hI:Cz P gl I)(hT:Aj P E)(hm:P.follows .mixedOrders=true)(fi:Fi):∀(c:Code) (tw:Bool),fx N fi.sc tw c=true→∀(F:Fence),(F=Fence.wide∨(tw=true∧∃l,F=Fence.wide.inRound l))→
  ∀(Z:Zr),Z.gl=gl→∀(K:Ex→St→Prop) (ok:Nat→Prop) (φ:Nat→Value) (s:St) (a:Act) (w:World),
  Rel B0 bx W0 aI Z N ok φ s a w→p8 E C I fi c s K→c.wpIn F 0 P (Qof B0 bx W0 aI Z N K) a w:=by
 intro c
 induction c with
 |skip=>intro _ _ F hF Z _ K ok φ s a w r h;exact wpIn_skip ⟨ok,φ,s,r,h⟩
 |exit id=>intro _ _ F hF Z _ K ok φ s a w r h;exact wpIn_exit ⟨ok,φ,s,r,h⟩
 |ret=>intro _ _ F hF Z _ K ok φ s a w r h;exact wpIn_ret ⟨ok,φ,s,r,h⟩
 |region id ops d=>
  intro tw hc F hF Z mK K ok φ s a w r h
  subst mK
  have hFW:FW F:=hF.imp (fun h=>h) (fun h=>h.2)
  cases d with
  |false=>
   simp only[fx,Bool.and_eq_true]at hc
   simp only[p8]at h
   have:=Ad (Q:=Qof B0 bx W0 aI Z N K) hE hC hI (uA hc.1) (fun ok φ s a w r h=>⟨ok,φ,_,r.iL fi.keep ops.toList,h⟩) ops.toList 0 (fun j=>by simp) ok φ s a w r h
   refine wpIn_region (Gf hFW (yK K) (pM hc.2) _ _ _ ?_)
   rw[List.range_eq_range']
   simpa using this
  |true=>
   simp only[fx,Bool.and_eq_true]at hc
   simp only[p8]at h
   obtain⟨⟨⟨h1,h0⟩,h2⟩,h3⟩:=hc
   split at h
   ·exact h.elim
   rename_i zN ajz
   rw[ajz]at h3
   refine wpIn_region_draw fun t=>Gf hFW (yK K) (pM h0) _ _ _ ?_
   exact Ag hE hC hI hm h2 (uA h1) (fun ok φ s a w r h=>⟨ok,φ,_,r.iL fi.keep ops.toList,h⟩) (fun c a w ⟨_,_,_,_,h⟩=>h) h3 r h t
 |seq x y T8 T9=>
  intro tw hc F hF Z mK K ok φ s a w r h
  subst mK
  simp only[fx,Bool.and_eq_true]at hc
  simp only[p8]at h
  refine wpIn_seq (wpIn_mono (T8 tw hc.1 F hF Z rfl _ ok φ s a w r h) fun e a' w' hq=>?_)
  obtain⟨ok',φ',s',r',hk⟩:=hq
  cases e<;>simp only[Exit.then]at hk ⊢
  ·exact T9 tw hc.2 F hF Z rfl K ok' φ' s' a' w' r' hk
  ·exact⟨ok',φ',s',r',hk⟩
  ·exact⟨ok',φ',s',r',hk⟩
 |cond c x y T8 T9=>
  intro tw hc F hF Z mK K ok φ s a w r h
  subst mK
  simp only[fx,Bool.and_eq_true]at hc
  simp only[p8]at h
  obtain⟨b,hb,s',r',hk⟩:=yF r h
  refine wpIn_cond_split hb (fun e=>?_) (fun e=>?_)
  ·subst e;exact T8 tw hc.1 F hF Z rfl K ok φ s' a w r' (by simpa using hk)
  ·subst e;exact T9 tw hc.2 F hF Z rfl K ok φ s' a w r' (by simpa using hk)
 |block id b ih=>
  intro tw hc F hF Z mK K ok φ s a w r h
  subst mK
  simp only[fx]at hc
  simp only[p8]at h
  refine wpIn_block (wpIn_mono (ih tw hc F hF Z rfl _ ok φ s a w r h) fun e a' w' hq=>?_)
  obtain⟨ok',φ',s',r',hk⟩:=hq
  cases e with
  |exit i=>
   simp only[Exit.inBlock]
   dsimp only at hk
   split at hk
   ·rename_i he
    rw[if_pos (Nat.eq_of_beq_eq_true he)]
    exact⟨ok',φ',s',r',hk⟩
   ·rename_i he
    rw[if_neg (fun h=>by subst h;simp at he)]
    exact⟨ok',φ',s',r',hk⟩
  |normal=>exact⟨ok',φ',s',r',hk⟩
  |ret=>exact⟨ok',φ',s',r',hk⟩
  |goto l=>exact hk.elim
  |panic ch=>exact hk.elim
  |outgrown=>exact hk.elim
 |loop b ih=>
  intro tw hc F hF Z mK K ok φ s a w r h
  subst mK
  simp only[fx]at hc
  simp only[p8]at h
  split at h
  ·exact h.elim
  rename_i live dk hlp
  have go:∀(J:Nat→St→Prop) (Kp:Nat→Ex→St→Prop),(∃n,J n (cU (match lk fi.cv (cV b)with|some cv=>cv|none=>[]) (clean live dk s)))→
    (∀n e t_,Kp n e t_→match e with | .normal=>∃m,m<n∧J m (cU (match lk fi.cv (cV b)with|some cv=>cv|none=>[]) (clean live dk t_))|e=>K e t_)→
    (∀n s',J n s'→p8 E C I fi b s' (Kp n))→(Code.loop b).wpIn F 0 P (Qof B0 bx W0 aI Z N K) a w:=by
   intro J Kp ⟨n0,h0⟩ hKp Gi
   let p:Act→World→Nat→Prop:=fun a w n=>∃ok φ s,J n s∧Rel B0 bx W0 aI Z N ok φ s a w
   refine wpIn_loop (fun a w=>∃n,p a w n) (fun a w=>least? (p a w)) (by obtain⟨Ud,φc,_,rc⟩:=Rel.cU (match lk fi.cv (cV b)with|some cv=>cv|none=>[]) (r.clean live dk);exact⟨n0,Ud,φc,_,h0,rc⟩) fun a' w' hp=>?_
   obtain⟨⟨jK,φ1,s1,hj,r1⟩,_⟩:=pN hp
   refine wpIn_mono (ih tw hc F hF Z rfl _ jK φ1 s1 a' w' r1 (Gi _ _ hj)) fun e a2 w2 hq=>?_
   obtain⟨pF,φ2,s2,r2,hk⟩:=hq
   cases e with
   |normal=>
    simp only[Exit.then]
    dsimp only at hk
    obtain⟨m,Wu,hJ⟩:=hKp _ _ _ hk
    have N7:p a2 w2 m:=by
     obtain⟨Ud,φc,_,rc⟩:=Rel.cU (match lk fi.cv (cV b)with|some cv=>cv|none=>[]) (r2.clean live dk)
     exact⟨Ud,φc,_,hJ,rc⟩
    exact⟨⟨m,N7⟩,Nat.lt_of_le_of_lt ((pN ⟨m,N7⟩).2 m N7) Wu⟩
   |exit i=>exact⟨pF,φ2,s2,r2,hKp _ _ _ hk⟩
   |ret=>exact⟨pF,φ2,s2,r2,hKp _ _ _ hk⟩
   |goto l=>exact hk.elim
   |panic ch=>exact hk.elim
   |outgrown=>exact hk.elim
  split at h
  ·obtain⟨J,h0,Gi⟩:=h
   exact go J _ h0 (fun n e t_ hk=>hk) (fun n s' hj=>Gi n s' hj)
  ·rename_i l hl
   obtain⟨x0,⟨h1,n,h2⟩,h3⟩:=h
   refine go (fun n s=>∃x,s=l.sh x∧l.P x0 n x) (fun n e t_=>match e with | .normal=>∃m x',m<n∧cU (match lk fi.cv (cV b)with|some cv=>cv|none=>[]) (clean live dk t_)=l.sh x'∧l.P x0 m x'|e=>K e t_) ⟨n,x0,h1,h2⟩ (fun n e t_ hk=>?_) ?_
   ·cases e with
    |normal=>obtain⟨m,x',h4,h5,h6⟩:=hk;exact⟨m,h4,x',h5,h6⟩
    |exit id=>exact hk
    |ret=>exact hk
   ·rintro n s' ⟨x,rfl,hp⟩
    exact h3 n x hp
 |rangeFunc g ps assign body T8 T9=>
  intro tw hc F hF Z mK K ok φ s a w r h
  subst mK
  simp only[fx,Bool.and_eq_true,Bool.not_eq_true']at hc
  obtain⟨⟨⟨ajB,hps⟩,hca⟩,hcb⟩:=hc
  have hFw:F=Fence.wide:=by
   rcases hF with hF|⟨h,_⟩
   ·exact hF
   ·rw[ajB]at h;cases h
  subst hFw
  simp only[p8]at h
  split at h
  rotate_left
  ·exact h.elim
  rename_i p live dk f bY Q7 hlp Wt
  have ajC:ps = #[p]:=by rw[←Q7]
  subst ajC
  have hpN:p<N:=by simpa using hps
  split at h
  ·exact h.elim
  rename_i nx s1 hfz
  have hvg:=bI r (g:=[]) (fun t b h=>by cases h) g
  rw[Wt]at hvg
  generalize hav:a.eval g=gv at hvg
  cases hvg
  rename_i lb hlb hvl
  obtain⟨jK,r1,N9,fw,hcv⟩:=tM (vs:=lb.toList) r (by simpa using hlb) (fun i c x h1 h2=>hvl i c x h1 (by simpa using h2)) hfz
  obtain⟨xs,X0,nB⟩:=hT _ _ _ h
  have ajE:∃(J:Nat→St→Prop) (Ka:Nat→Ex→St→Prop) (Kb:Nat→Ex→St→Prop),J 0 (cU (match lk fi.cv (cV assign)with|some cv=>cv|none=>[]) (clean live dk s1))∧
    (∀(i:Nat) (x:R) (s':St),xs[i]? = some x→J i s'→match Wg x with|none=>False|some v=>p8 E C I fi assign (TK s' p v) (Ka i))∧
    (∀i e s1,Ka i e s1→match e with | .normal=>p8 E C I fi body s1 (Kb i)|_=>False)∧
    (∀i e s2,Kb i e s2→match e with | .normal=>J (i+1) (cU (match lk fi.cv (cV assign)with|some cv=>cv|none=>[]) (clean live dk (p7 s2)))|e=>K e (clean live dk (p7 s2)))∧
    ∀s',J xs.length s'→K .normal s':=by
   split at nB
   ·obtain⟨J,hJ0,hJr,hJe⟩:=nB
    exact⟨J,_,_,hJ0,fun i x s' h1 h2=>hJr i x s' h1 h2,fun i e s1 hk=>hk,fun i e s2 hk=>hk,hJe⟩
   ·rename_i l hl
    obtain⟨x0,⟨h1,h2⟩,FK,h3,h4⟩:=nB
    refine⟨fun i s=>∃x,s=l.sh x∧l.P x0 i x,
     fun i e s1=>match e with | .normal=>p8 E C I fi body s1 (fun e s2=>match e with | .normal=>∃x',cU (match lk fi.cv (cV assign)with|some cv=>cv|none=>[]) (clean live dk (p7 s2))=l.sh x'∧l.P x0 (i+1) x'|e=>K e (clean live dk (p7 s2)))|_=>False,
     fun i e s2=>match e with | .normal=>∃x',cU (match lk fi.cv (cV assign)with|some cv=>cv|none=>[]) (clean live dk (p7 s2))=l.sh x'∧l.P x0 (i+1) x'|e=>K e (clean live dk (p7 s2)),
     ⟨x0,h1,h2⟩,?_,fun i e s1 hk=>by cases e<;>exact hk,fun i e s2 hk=>by cases e<;>exact hk,?_⟩
    ·rintro i y s' hy ⟨x,rfl,hp⟩
     obtain⟨z,rfl⟩:=FK i y hy
     have:=h3 i z x hy hp
     cases E7:Wg (l.el z)with
     |none=>rw[E7]at this;exact this.elim
     |some v=>rw[E7]at this;exact this
    ·rintro s' ⟨x,rfl,hp⟩
     exact h4 x hp
  obtain⟨J,Ka,Kb,hJ0,hJr,hKa,hKb,hJe⟩:=ajE
  obtain⟨Ds,hDn,Ri,Ue⟩:=r1.df
  refine wpIn_rangeFunc ?_
  intro fn Rh
  obtain⟨rec,wX⟩:∃rec:LoopState→Option Code→Loop,rec=fun st pe=>{state:=st,pending:=pe,fn,tmps:=a.tmps,params:=#[p],assign,body,defers:=w.heap.size}:=⟨_,rfl⟩
  obtain⟨W1,Rj⟩:∃W1,(w.alloc (.deferred (some []))).alloc (.loop (rec .ready none))=W1:=⟨_,rfl⟩
  have hsz:W1.heap.size=w.heap.size+2:=by rw[←Rj];simp
  have hL1:W1.heap[w.heap.size+1]? = some (.loop (rec .ready none)):=by
   rw[←Rj];have:=World.alloc_heap_new (w.alloc (.deferred (some []))) (.loop (rec .ready none));rwa[World.size_alloc]at this
  have hold:∀b,b<w.heap.size→W1.heap[b]? = w.heap[b]?:=fun b hb=>by
   rw[←Rj];exact(heap_alloc_old _ _ b (by simp;omega)).trans (heap_alloc_old w _ b hb)
  have hK1:W1.heap[w.heap.size]? = some (.deferred (some [])):=by
   rw[←Rj];exact(heap_alloc_old _ _ _ (by simp)).trans (World.alloc_heap_new w _)
  have hUp:mB [] w.heap.size w W1:=⟨by rw[←Rj];rfl,by rw[←Rj];rfl,by rw[←Rj];rfl,by omega,fun k hk _=>hold k hk⟩
  have hBw:=r.b0
  have rW:=r1.later hUp
  let pF:Nat→Prop:=fun b=>jK b∨b=w.heap.size∨b=w.heap.size+1
  have rW2:Rel B0 bx W0 aI Z N pF φ s1 a W1:=rW.Ge (fun b hb=>.inl hb) (fun b hb=>by
   rcases hb with hb|rfl|rfl
   ·exact rW.fH b hb
   ·omega
   ·omega) (fun b hb=>by
   rcases hb with hb|rfl|rfl
   ·exact rW.kT b hb
   ·exact .inr hBw
   ·exact .inr (by omega)) (fun k b g' hk ha hg=>by
   have h1:=(rW.act k b g' hk ha hg).1
   have h2:=(r1.hp k b hk).cy ha hg
   rintro(hx|rfl|rfl)
   ·exact h1 hx
   ·omega
   ·omega)
  let J':Nat→World→Prop:=fun i W=>∃ok' φ' s',J i s'∧Rel B0 bx W0 aI Z N ok' φ' s' a W∧(∀b,pF b→ok' b)∧W.heap[w.heap.size+1]? = some (.loop (rec .ready none))∧W.heap[w.heap.size]? = some (.deferred (some []))∧
   ∀D∈Ds,W.heap[D]? = some (.deferred (some []))
  let X':World→Prop:=fun W=>∃c ok' φ' s',Rel B0 bx W0 aI Z N ok' φ' s' a W∧((c=Code.ret∧K .ret s')∨∃id,c=Code.exit id∧K (.exit id) s')∧(∀b,pF b→ok' b)∧W.heap[w.heap.size+1]? = some (.loop (rec .done (some c)))∧W.heap[w.heap.size]? = some (.deferred (some []))∧
   ∀D∈Ds,W.heap[D]? = some (.deferred (some []))
  have hZL:∀o,Z.z (w.heap.size+1)≠some o:=fun o hz=>by
   have:=(Array.getElem?_eq_some_iff.1 (r.kz _ o hz).2).1;omega
  have Gj:∀D∈Ds,D<w.heap.size:=fun D hD=>(Array.getElem?_eq_some_iff.1 (Ue D hD).2.2).1
  have pL:=X0.2 W1 jK lb.toList (w.heap.size+1) (fun b hb=>rW.fH b hb) fw.symm (fun i c x h1 h2=>(hcv i c x h1 h2).bare (fun _ h=>h) (fun b hb=>hold b (r1.fH b hb))) J' X' ?_ ?_ ?_ ?_
  ·refine⟨w.heap.size+1,[mark w.heap.size],W1,{target:=.fn (.func f) lb,args:=#[.func (.yield (w.heap.size+1)) #[] #[]]},W1,f,
    #[.func (.yield (w.heap.size+1)) #[] #[]]++lb,W1,?_,?_,fun _ _=>trivial,?_,fun h=>by simp[Fence.wide]at h,?_⟩
   ·rw[←Rj,wX];exact run_enterLoop_outer _ _ _ _ _
   ·simp only[resolve,hav,Sem.run_bind,Deferred.ofValue,Sem.run_pure,Result.andThen_ok]
    simp[Act.eval]
   ·simp only[invoke]
    rw[nF X0.1]
   ·refine(callsIn_wide.2 pL).mono ?_
    rintro e W ⟨⟨v,rfl⟩,hW⟩
    have fin:∀(ok':Nat→Prop) (φ':Nat→Value) (s':St) (st:LoopState) (pe:Option Code),Rel B0 bx W0 aI Z N ok' φ' s' a W→(∀b,pF b→ok' b)→W.heap[w.heap.size+1]? = some (.loop (rec st pe))→W.heap[w.heap.size]? = some (.deferred (some []))→
      (∀D∈Ds,W.heap[D]? = some (.deferred (some [])))→Rel B0 bx W0 aI Z N ok' φ' s' {a with defers:=[mark w.heap.size]++a.defers} (W.putObj (w.heap.size+1) (.loop {rec st pe with state:=.exhausted})):=by
     intro ok' φ' s' st pe r' mM hL hD Ov
     refine r'.Ea hL rfl rfl (by omega) Z (fun b o hz=>?_) rfl (by exact r'.zs) rfl ⟨w.heap.size::Ds,List.nodup_cons.2 ⟨fun hm=>by have:=Gj _ hm;omega,hDn⟩,by simp[Ri],fun D Ow=>?_⟩
     ·have bT:b≠w.heap.size+1:=by rintro rfl;exact hZL o hz
      exact⟨(r'.kz b o hz).1,(World.putObj_heap_other bT).trans (r'.kz b o hz).2⟩
     ·rcases List.mem_cons.1 Ow with rfl|Ow
      ·exact⟨⟨hBw,r.zs⟩,mM _ (.inr (.inl rfl)),(World.putObj_heap_other (by omega)).trans hD⟩
      ·have:=Gj D Ow
       exact⟨(Ue D Ow).1,mM _ (.inl (Ue D Ow).2.1),(World.putObj_heap_other (by omega)).trans (Ov D Ow)⟩
    have he:∀st pe,st≠LoopState.busy→W.heap[w.heap.size+1]? = some (.loop (rec st pe))→(Instr.endLoop (w.heap.size+1)).run P W = .ok pe (W.putObj (w.heap.size+1) (.loop {rec st pe with state:=.exhausted})):=by
     intro st pe hst hL
     have:=run_endLoop (P:=P) hL (by rw[wX];exact hst)
     rw[wX]at this ⊢;exact this
    rcases hW with⟨ok',φ',s',hJ',r',mM,hL,hD,Ov⟩|⟨c,ok',φ',s',r',l9,mM,hL,hD,Ov⟩
    ·exact⟨none,_,he _ _ (by simp) hL,ok',φ',s',fin ok' φ' s' _ _ r' mM hL hD Ov,hJe s' hJ'⟩
    ·refine⟨some c,_,he _ _ (by simp) hL,?_⟩
     have rf:=fin ok' φ' s' _ _ r' mM hL hD Ov
     rcases l9 with⟨rfl,hk⟩|⟨id,rfl,hk⟩
     ·exact wpIn_ret ⟨ok',φ',s',rf,hk⟩
     ·exact wpIn_exit ⟨ok',φ',s',rf,hk⟩
  ·obtain⟨Ud,φc,hoc,rc⟩:=Rel.cU (match lk fi.cv (cV assign)with|some cv=>cv|none=>[]) (rW2.clean live dk)
   exact⟨Ud,φc,_,hJ0,rc,hoc,hL1,hK1,fun D hD=>(hold D (Gj D hD)).trans (Ue D hD).2.2⟩
  ·rintro i W n ⟨ok',φ',s',h1,h2,h3⟩
   exact⟨ok',φ',s',h1,h2.later ⟨rfl,rfl,rfl,Nat.le_refl _,fun _ _ _=>rfl⟩,h3⟩
  ·rintro W n ⟨c,ok',φ',s',h1,h2,h3⟩
   exact⟨c,ok',φ',s',h1.later ⟨rfl,rfl,rfl,Nat.le_refl _,fun _ _ _=>rfl⟩,h2,h3⟩
  ·rintro i x W y hx ⟨ok',φ',s',hJi,r',mM,hL,hD,Ov⟩ yi hA
   have sk:=hJr i x s' hx hJi
   split at sk
   ·exact sk.elim
   rename_i v hv
   have hyv:VR ok' φ' s'.hp W v y:=by
    cases hA with
    |d h _=>simp only[Wg,Option.some.injEq]at hv;subst hv;exact .d (h.mono (fun b hb=>mM b (.inl hb)) (fun _ _=>rfl))
    |agg hs h _=>
     simp only[Wg,Option.some.injEq]at hv;subst hv
     exact Gd hs (fun i d x hc hx=>(h i d x hc hx).mono (fun b hb=>mM b (.inl hb)) (fun _ _=>rfl))
    |ptr h _=>cases hv
    |fn h _=>cases hv
   have hy:=run_yield (P:=P) (args:=#[y]) hL (by rw[wX];rfl)
   rw[wX]at hy
   refine⟨fn,_,assign,body,hy,?_⟩
   let Z1:Zr:={n:=W.heap.size,z:=fun b=>if ok' b then W.heap[b]? else none,ro:=fun d t=>(match d with|0=>a.tmps.getD t undef|d+1=>Z.ro d t),gl:=Z.gl,sub:=fun b o h=>(if_pos (r'.kz b o (Z.sub b o h)).1).trans (r'.kz b o (Z.sub b o h)).2}
   have hZ1:∀b o,Z1.z b=some o→ok' b∧W.heap[b]? = some o:=fun b o h=>by
    simp only[Z1]at h
    split at h
    ·rename_i hb;exact⟨hb,h⟩
    ·cases h
   have hpa:p<a.tmps.size:=by rw[r'.sz];exact hpN
   have rR:Rel B0 bx W0 aI Z1 N ok' φ' (TK s' p v) {tmps:=(a.put (some p) y).tmps,defers:=[]} W:=by
    refine r'.reZ Z1 hZ1 (Nat.le_refl _) rfl rfl ?_ (fun t u hu=>?_) (fun t b hb=>by simp[TK,lk]at hb) (fun d l t u hd hu=>?_) ⟨[],by simp,rfl,by simp⟩
    ·simp only[Act.put,Array.size_setIfInBounds];exact r'.sz
    ·simp only[TK]at hu
     rw[aJ]at hu
     rw[ek a p t y hpa]
     by_cases e:p=t
     ·subst e
      rw[if_pos rfl]at hu ⊢
      simp only[Option.some.injEq]at hu
      subst hu;exact hyv
     ·rw[if_neg e]at hu
      rw[if_neg (Ne.symm e)]
      exact r'.tm t u hu
    ·cases d with
     |zero=>simp only[TK,nth,Option.some.injEq]at hd;subst hd;exact r'.tm t u hu
     |succ d=>exact r'.rt d l t u hd hu
   have hFr:∀l,(Fence.wide.inRound l=Fence.wide∨(true=true∧∃l',Fence.wide.inRound l=Fence.wide.inRound l')):=fun l=>.inr ⟨rfl,l,rfl⟩
   have ajJ:=T8 true hca _ (hFr (w.heap.size+1)) Z1 rfl _ ok' φ' _ _ W rR sk
   refine roundIn_of_wpIn (n:=0) trivial ?_
   refine Gg (a':={tmps:=(a.put (some p) y).tmps,defers:=[]}) (by simp[Act.put]) (wpIn_mono ajJ ?_)
   rintro e a3 W3 ⟨ok3,φ3,s3,r3,Uf⟩
   cases e<;>simp only[Exit.then]at Uf ⊢<;>first|exact Uf.elim|exact(hKa _ _ _ Uf).elim|skip
   have Uf:=hKa _ _ _ Uf
   dsimp only at Uf
   have Ak:∀b,ok' b→b<W.heap.size→ok3 b∧W3.heap[b]? = W.heap[b]?:=fun b hb hlt=>by
    have hz:Z1.z b=some W.heap[b]:=by
     simp only[Z1];rw[if_pos hb];simp[hlt]
    obtain⟨e1,e2⟩:=r3.kz b _ hz
    exact⟨e1,by rw[e2];simp[hlt]⟩
   have Ox:ok' (w.heap.size+1):=mM _ (.inr (.inr rfl))
   have ajL:ok' w.heap.size:=mM _ (.inr (.inl rfl))
   have hL3:W3.heap[w.heap.size+1]? = some (.loop (rec .ready none)):=(Ak _ Ox (r'.fH _ Ox)).2.trans hL
   refine⟨_,run_beginRound hL3 (by rw[wX]),?_⟩
   obtain⟨W4,hW4⟩:∃W4,W3.putObj (w.heap.size+1) (.loop {rec .ready none with state:=.busy})=W4:=⟨_,rfl⟩
   rw[hW4]
   have hL4:W4.heap[w.heap.size+1]? = some (.loop {rec .ready none with state:=.busy}):=by rw[←hW4];exact World.putObj_heap_same (Array.getElem?_eq_some_iff.1 hL3).1
   let Z2:Zr:={n:=W.heap.size,z:=fun b=>if b=w.heap.size+1 then some (.loop {rec .ready none with state:=.busy})else if ok' b then W.heap[b]? else none,ro:=Z1.ro,gl:=Z.gl,sub:=fun b o h=>(if_neg (by have:=(Array.getElem?_eq_some_iff.1 (r.kz b o (Z.sub b o h)).2).1;omega)).trans ((if_pos (r'.kz b o (Z.sub b o h)).1).trans (r'.kz b o (Z.sub b o h)).2)}
   have r4:Rel B0 bx W0 aI Z2 N ok3 φ3 s3 a3 W4:=by
    rw[←hW4]
    refine r3.Ea hL3 rfl rfl (by omega) Z2 (fun b o hz=>?_) rfl (by exact r3.zs) rfl ?_
    ·simp only[Z2]at hz
     split at hz
     ·rename_i hb;subst hb
      exact⟨(Ak _ Ox (r'.fH _ Ox)).1,by rw[hW4,hL4];exact hz⟩
     ·rename_i hb
      split at hz
      ·rename_i cJ
       obtain⟨e1,e2⟩:=Ak b cJ (r'.fH b cJ)
       exact⟨e1,(World.putObj_heap_other hb).trans (e2.trans hz)⟩
      ·cases hz
    ·obtain⟨Ds3,e1,e2,e3⟩:=r3.df
     refine⟨Ds3,e1,e2,fun D hD=>⟨(e3 D hD).1,(e3 D hD).2.1,?_⟩⟩
     rw[World.putObj_heap_other (by rintro rfl;have:=(e3 _ hD).2.2;rw[hL3]at this;cases this)]
     exact(e3 D hD).2.2
   refine wpIn_mono (T9 true hcb _ (hFr (w.heap.size+1)) Z2 rfl _ ok3 φ3 s3 a3 W4 r4 Uf) ?_
   rintro e a5 W5 ⟨Ug,φ5,s5,r5,X6⟩
   have Wx:W5.heap[w.heap.size+1]? = some (.loop {rec .ready none with state:=.busy}):=(r5.kz (w.heap.size+1) (.loop {rec .ready none with state:=.busy}) (by simp[Z2])).2
   have X7:Ug (w.heap.size+1):=(r5.kz (w.heap.size+1) (.loop {rec .ready none with state:=.busy}) (by simp[Z2])).1
   have o3:∀b,ok' b→b≠w.heap.size+1→Ug b∧W5.heap[b]? = W.heap[b]?:=fun b hb bT=>by
    have hlt:=r'.fH b hb
    have hz:Z2.z b=some W.heap[b]:=by
     simp only[Z2];rw[if_neg bT,if_pos hb];simp[hlt]
    obtain⟨e1,e2⟩:=r5.kz b _ hz
    exact⟨e1,by rw[e2];simp[hlt]⟩
   have back:∀(o':Loop),Rel B0 bx W0 aI Z N Ug φ5 (p7 s5) a (W5.putObj (w.heap.size+1) (.loop o'))∧(∀b,pF b→Ug b)∧(W5.putObj (w.heap.size+1) (.loop o')).heap[w.heap.size+1]? = some (.loop o')∧
     (W5.putObj (w.heap.size+1) (.loop o')).heap[w.heap.size]? = some (.deferred (some []))∧(∀D∈Ds,(W5.putObj (w.heap.size+1) (.loop o')).heap[D]? = some (.deferred (some [])))∧
     ∀b,jK b→(W5.putObj (w.heap.size+1) (.loop o')).heap[b]? = W.heap[b]?:=fun o'=>by
    have X8:∀D∈Ds,(W5.putObj (w.heap.size+1) (.loop o')).heap[D]? = some (.deferred (some [])):=fun D hD=>by
     have:=Gj D hD
     rw[World.putObj_heap_other (by omega),(o3 D (mM D (.inl (Ue D hD).2.1)) (by omega)).2]
     exact Ov D hD
    have ht:Rel B0 bx W0 aI ⟨W.heap.size,fun _=>none,Z1.ro,fun _=>none,fun _ _ h=>h⟩ N Ug φ5 s5 a5 (W5.putObj (w.heap.size+1) (.loop o')):=by
     refine r5.Ea Wx rfl rfl (by omega) ⟨W.heap.size,fun _=>none,Z1.ro,fun _=>none,fun _ _ h=>h⟩ (fun b o hz=>by cases hz) rfl (by exact r5.zs) rfl ?_
     obtain⟨Ds3,e1,e2,e3⟩:=r5.df
     refine⟨Ds3,e1,e2,fun D hD=>⟨(e3 D hD).1,(e3 D hD).2.1,?_⟩⟩
     rw[World.putObj_heap_other (by rintro rfl;have:=(e3 _ hD).2.2;rw[Wx]at this;cases this)]
     exact(e3 D hD).2.2
    refine⟨?_,fun b hb=>?_,World.putObj_heap_same (Array.getElem?_eq_some_iff.1 Wx).1,?_,X8,fun b hb=>?_⟩
    ·refine ht.reZ Z (fun b o hz=>?_) ?_ ?_ ?_ r'.sz (fun t u hu=>?_) (fun t b hb=>?_) (fun d l t u hd hu=>?_) ⟨Ds,hDn,Ri,fun D hD=>⟨(Ue D hD).1,?_,X8 D hD⟩⟩
     ·obtain⟨e1,e2⟩:=r'.kz b o hz
      have bT:b≠w.heap.size+1:=by rintro rfl;exact hZL o hz
      obtain⟨e3,e4⟩:=o3 b e1 bT
      exact⟨e3,(World.putObj_heap_other bT).trans (e4.trans e2)⟩
     ·exact Nat.le_trans r'.zs (by simpa using r5.zs)
     ·unfold p7;split<;>rfl
     ·unfold p7;split<;>rfl
     ·unfold p7 at hu
      split at hu
      ·rename_i tm rt Ot
       exact ht.rt 0 tm t u (by rw[Ot];rfl) hu
      ·simp[lk]at hu
     ·unfold p7 at hb
      split at hb<;>simp[lk]at hb
     ·unfold p7 at hd
      split at hd
      ·rename_i tm rt Ot
       exact ht.rt (d+1) l t u (by rw[Ot];exact hd) hu
      ·simp[nth]at hd
     ·have:=Gj D hD
      exact(o3 D (mM D (.inl (Ue D hD).2.1)) (by omega)).1
    ·by_cases e:b=w.heap.size+1
     ·subst e;exact X7
     ·exact(o3 b (mM b hb) e).1
    ·rw[World.putObj_heap_other (by omega),(o3 _ ajL (by omega)).2];exact hD
    ·have hlt:=r1.fH b hb
     rw[World.putObj_heap_other (by omega),(o3 b (mM b (.inl hb)) (by omega)).2]
   have Wy:(match e with | .normal=>J (i+1) (cU (match lk fi.cv (cV assign)with|some cv=>cv|none=>[]) (clean live dk (p7 s5))) | .exit i=>K (.exit i) (clean live dk (p7 s5)) | .ret=>K .ret (clean live dk (p7 s5))|_=>False):=by
    cases e<;>first|exact X6.elim|exact hKb _ _ _ X6
   cases e with
   |normal=>
    have he:=run_endRound (P:=P) none Wx
    obtain⟨b1,b2,b3,b4,b5,b6⟩:=back {{rec .ready none with state:=.busy} with state:=.ready,pending:=none}
    refine⟨_,_,he,true,rfl,b6,fun _=>?_,fun h=>by cases h⟩
    obtain⟨Ud,φc,hoc,rc⟩:=Rel.cU (match lk fi.cv (cV assign)with|some cv=>cv|none=>[]) (b1.clean live dk)
    exact⟨Ud,φc,_,Wy,rc,fun b hb=>hoc b (b2 b hb),by rw[wX]at b3 ⊢;exact b3,b4,b5⟩
   |ret=>
    have he:=run_endRound (P:=P) (some .ret) Wx
    obtain⟨b1,b2,b3,b4,b5,b6⟩:=back {{rec .ready none with state:=.busy} with state:=.done,pending:=some .ret}
    exact⟨_,_,he,false,rfl,b6,fun h=>(by cases h),fun _=>⟨.ret,Ug,φ5,_,b1.clean live dk,.inl ⟨rfl,Wy⟩,b2,by rw[wX]at b3 ⊢;exact b3,b4,b5⟩⟩
   |exit id=>
    have he:=run_endRound (P:=P) (some (.exit id)) Wx
    obtain⟨b1,b2,b3,b4,b5,b6⟩:=back {{rec .ready none with state:=.busy} with state:=.done,pending:=some (.exit id)}
    exact⟨_,_,he,false,rfl,b6,fun h=>(by cases h),fun _=>⟨.exit id,Ug,φ5,_,b1.clean live dk,.inr ⟨id,rfl,Wy⟩,b2,by rw[wX]at b3 ⊢;exact b3,b4,b5⟩⟩
   |goto l=>exact Wy.elim
   |panic ch=>exact Wy.elim
   |outgrown=>exact Wy.elim
 |_=>intro _ _ F hF Z _ K ok φ s a w r h;exact h.elim
end Go.Dm
namespace Go.Dm
variable {P:Program} {E:Env} {C:aj} {I:Nat→List V→List V→St→(V→St→Prop)→Prop}
variable {B0:Nat} {bx:List Nat} {W0:World} {aI:Nat→Prop} {Z:Zr} {N:Nat}
variable {ok:Nat→Prop} {φ:Nat→Value} {s:St} {a:Act} {w:World}
theorem Rel.lay(r:Rel B0 bx W0 aI Z N ok φ s a w)(t:Nat){x:V}(h:VR ok φ s.hp w x (a.tmps.getD t undef)):Rel B0 bx W0 aI Z N ok φ {s with tm:=pt s.tm t x} a w:=
 {r with
  tm:=fun u y hy=>by
    dsimp only at hy
    rw[aJ]at hy
    by_cases e:t=u
    ·subst e;simp at hy;subst hy;exact h
    ·rw[if_neg e]at hy;exact r.tm u y hy}
theorem Al{rs:List R}{vs:List Value}{bs:List Nat}(hA:cC ok w bs rs vs):∀(t:Nat) (pre:List Nat) (φ:Nat→Value) (s:St),(pre++bs).Nodup→(∀b∈bs,b<B0∧¬ok b)→
  (∀(i:Nat) (v:Value),vs[i]? = some v→a.tmps.getD (t+i) undef=v)→(∀k,100000+pre.length≤k→lk s.hp k=none)→
  (∀k b g,lk s.hp k=some b→aq (φ k)=some g→g∈pre)→Rel B0 pre W0 aI Z N ok φ s a w→∃φ',Rel B0 (pre++bs) W0 aI Z N ok φ' (jC rs t (100000+pre.length) s) a w:=by
 induction hA with
 |nil=>intro t pre φ s _ _ _ _ _ r;exact⟨φ,by simpa[jC]using r⟩
 | @d bs rs vs x v cK hA ih=>
   intro t pre φ s hn hb hv hk hg r
   have h0:=hv 0 v rfl
   exact ih (t+1) pre φ _ hn hb (fun i v h=>by rw[Nat.add_assoc,Nat.add_comm 1 i];exact hv (i+1) v (by simpa using h)) hk hg (r.lay t (x:=.d x) (by rw[Nat.add_zero]at h0;rw[h0];exact .d cK))
 | @agg bs rs vs cs xs hs cK hA ih=>
   intro t pre φ s hn hb hv hk hg r
   have h0:=hv 0 _ rfl
   exact ih (t+1) pre φ _ hn hb (fun i v h=>by rw[Nat.add_assoc,Nat.add_comm 1 i];exact hv (i+1) v (by simpa using h)) hk hg (r.lay t (x:=.agg (vd cs)) (by rw[Nat.add_zero]at h0;rw[h0];exact Gd hs cK))
 | @ptr bs rs vs cs v cK hA ih=>
   intro t pre φ s hn hb hv hk hg r
   have h0:=hv 0 v rfl
   exact ih (t+1) pre φ _ hn hb (fun i v h=>by rw[Nat.add_assoc,Nat.add_comm 1 i];exact hv (i+1) v (by simpa using h)) hk hg (r.lay t (x:=.bW cs) (by rw[Nat.add_zero]at h0;rw[h0];exact cK.bare (fun _ h=>h) (fun _ _=>rfl)))
 | @fn bs rs vs f bY v cK hA ih=>
   intro t pre φ s hn hb hv hk hg r
   have h0:=hv 0 v rfl
   exact ih (t+1) pre φ _ hn hb (fun i v h=>by rw[Nat.add_assoc,Nat.add_comm 1 i];exact hv (i+1) v (by simpa using h)) hk hg (r.lay t (x:=.fn f (kV bY)) (by rw[Nat.add_zero]at h0;rw[h0];exact cK.bare (fun _ h=>h) (fun _ _=>rfl)))
 | @box bs rs vs cs n z' hA ih=>
   intro t pre φ s hn hb hv hk hg r
   have h0:=hv 0 _ rfl
   rw[Nat.add_zero]at h0
   have FR:n∉pre:=fun hm=>by
    have:=List.nodup_append.1 hn
    exact this.2.2 n hm n (by simp) rfl
   have bT:∀k b,lk s.hp k=some b→b.aM=true→aq (φ k)≠some n:=fun k b h1 _ h2=>FR (hg k b n h1 h2)
   have qg:=hk (100000+pre.length) (Nat.le_refl _)
   obtain⟨r1,hm⟩:=r.FZ (tq:=pre++[n]) (fun g hg=>by simp[hg]) (key:=100000+pre.length) (n:=n) (cs:=cs) qg (hb n (by simp)).2 (.inr (by simp)) bT z' (fun i g hi=>by
    rw[List.getElem?_append]at hi
    split at hi
    ·rename_i hlt
     obtain⟨e1,eN,e2⟩:=r.oP i g hi
     have nE:100000+pre.length≠100000+i:=by omega
     exact⟨by simp only[aO];rw[if_neg (Ne.symm nE)];exact e1,eN,by rw[aJ,if_neg nE];exact e2⟩
    ·rename_i Wq
     have hi0:i-pre.length=0:=by
      cases hc:i-pre.length with
      |zero=>rfl
      |succ m=>rw[hc]at hi;simp at hi
     rw[hi0]at hi
     simp at hi;subst hi
     have:i=pre.length:=by omega
     subst this
     exact⟨by simp[aO],vd cs,by simp[aJ]⟩)
   have r2:=r1.lay t (x:=.ref (100000+pre.length) 0) (by
    rw[h0]
    exact .ref (cs:=vd cs) (by simp[St.bp,aJ]) (by simp[aO]))
   have hn':((pre++[n])++bs).Nodup:=by simpa using hn
   have hlen:100000+(pre++[n]).length=100000+pre.length+1:=by simp;omega
   obtain⟨φ',r3⟩:=ih (t+1) (pre++[n]) _ _ hn' (fun b h=>hb b (by simp[h])) (fun i v h=>by rw[Nat.add_assoc,Nat.add_comm 1 i];exact hv (i+1) v (by simpa using h)) (fun k Rk=>by
    simp only[St.bp]
    rw[aJ,if_neg (by omega)]
    exact hk k (by omega)) (fun k b g h1 h2=>by
    simp only[St.bp]at h1
    rw[aJ]at h1
    by_cases e:100000+pre.length=k
    ·subst e
     simp only[aO,if_true,aq,Option.some.injEq]at h2
     simp[h2]
    ·rw[if_neg e]at h1
     simp only[aO,if_neg (Ne.symm e)]at h2
     simp[hg k b g h1 h2]) r2
   refine⟨φ',?_⟩
   rw[hlen]at r3
   simpa[jC,List.append_assoc,St.bp]using r3
theorem Am{rs:List R}{vs:List Value}{bs:List Nat}(hA:cC ok w bs rs vs):∀key,iD rs key=List.range' key bs.length:=by
 induction hA with
 |nil=>intro key;rfl
 |d _ _ ih=>intro key;exact ih key
 |agg _ _ _ ih=>intro key;exact ih key
 |ptr _ _ ih=>intro key;exact ih key
 |fn _ _ ih=>intro key;exact ih key
 |box _ _ ih=>intro key;simp only[iD,List.length_cons,List.range'_succ];rw[ih]
def wY(P:Program)(tmps:Array Value)(w:World)(rs:List ResultVar)(ys:List Value):Prop:=
 ∀f:ResultVar→Sem Value,(∀u,f (.tmp u)=pure (tmps.getD u undef))→(∀p t,f (.cell p t)=(do loadVar t (←asAddr (tmps.getD p undef))))→(rs.mapM f).run P w = .ok ys w
theorem sn(hE:c8 P E)(r:Rel B0 bx W0 aI Z N ok φ s a w):
  ∀(rs:List ResultVar) (vs:List V),tF E s rs=some vs→∃ys:List Value,wY P a.tmps w rs ys∧ys.length=vs.length∧∀(i:Nat) (c:V) (x:Value),vs[i]? = some c→ys[i]? = some x→VR ok φ s.hp w c x:=by
 intro rs
 induction rs with
 |nil=>intro vs h;simp[tF]at h;subst h;exact⟨[],fun f _ _=>by simp,rfl,fun i c x h=>by simp at h⟩
 |cons rv rs ih=>
  intro vs h
  have cons:∀(v:V) (l:List V) (y:Value),(∀f:ResultVar→Sem Value,(∀u,f (.tmp u)=pure (a.tmps.getD u undef))→(∀p t,f (.cell p t)=(do loadVar t (←asAddr (a.tmps.getD p undef))))→(f rv).run P w = .ok y w)→VR ok φ s.hp w v y→tF E s rs=some l→vs=v::l→
    ∃ys:List Value,wY P a.tmps w (rv::rs) ys∧ys.length=vs.length∧∀(i:Nat) (c:V) (x:Value),vs[i]? = some c→ys[i]? = some x→VR ok φ s.hp w c x:=by
   intro v l y h1 h2 h3 h4
   subst h4
   obtain⟨ys,e1,e2,e3⟩:=ih l h3
   refine⟨y::ys,fun f hf hc=>by rw[List.mapM_cons];simp[h1 f hf hc,e1 f hf hc],by simp[e2],fun i c x hc hx=>?_⟩
   cases i with
   |zero=>simp at hc hx;subst hc;subst hx;exact h2
   |succ i=>exact e3 i c x (by simpa using hc) (by simpa using hx)
  cases rv with
  |tmp t=>
   simp only[tF]at h
   split at h
   ·rename_i v l h1 h2
    simp only[Option.some.injEq]at h
    exact cons v l _ (fun f hf _=>by rw[hf];rfl) (r.tm t v h1) h2 h.symm
   ·cases h
  |cell p t=>
   simp only[tF]at h
   split at h
   rotate_left
   ·cases h
   rename_i ti k off dY Ub
   split at h
   rotate_left
   ·cases h
   rename_i cs hb
   split at h
   rotate_left
   ·cases h
   rename_i l rI
   split at h
   rotate_left
   ·cases h
   rename_i v Oh E7 F2
   simp only[Option.some.injEq]at h
   have hp:=r.tm p _ Ub
   obtain⟨v',y,h1,h2,h3⟩:=pA (hE.ti dY) r hp (K:=fun u=>u=v) (by simp only[jN,hb,rI,E7])
   subst h2
   refine cons v' Oh y (fun f _ hc=>?_) h3 F2 h.symm
   rw[hc]
   have h1:=h1 w (fun _ _=>rfl)
   generalize a.tmps.getD p undef=x at hp h1
   cases hp
   simp only[Instr.loadAt,Instr.sureAddr,Sem.run_bind,Sem.run_pure,Result.andThen_ok]at h1
   simp only[asAddr,Sem.run_bind,Sem.run_pure,Result.andThen_ok]
   exact h1
theorem wZ:∀(bk:List Nat) {ok:Nat→Prop} {s:St} {fin:List (List D)} {s':St},Rel B0 bx W0 aI Z N ok φ s a w→rF s bk=some (fin,s')→
  ∃ok',Rel B0 bx W0 aI Z N ok' φ s' a w∧TZ ok' w (bk.map (iH φ)) fin∧(∀b,ok b→ok' b)∧(∀j,cI s.hp s'.hp j)∧∀j∈bk,∃cs,lk s.hp j=some (.box cs):=by
 intro bk
 induction bk with
 |nil=>
  intro ok s fin s' r h
  simp[rF]at h;obtain⟨rfl,rfl⟩:=h
  exact⟨ok,r,⟨rfl,fun i n cs h=>by simp at h⟩,fun _ h=>h,cI.refl _,fun j h=>by cases h⟩
 |cons k bk ih=>
  intro ok s fin s' r h
  simp only[rF]at h
  split at h
  rotate_left
  ·cases h
  rename_i cs hb
  split at h
  rotate_left
  ·cases h
  rename_i xs s1 hds
  split at h
  rotate_left
  ·cases h
  rename_i l s2 hl
  simp only[Option.some.injEq,Prod.mk.injEq]at h
  obtain⟨rfl,rfl⟩:=h
  obtain⟨g,arr,T,hp,hh,hs,hr⟩:=r.hp k _ hb
  obtain⟨jK,r1,zy,cK,h1,mn⟩:=gq (vs:=arr.toList) r (by simpa using hs) (fun i c y hc hy=>hr i c y hc (by simpa using hy)) hds
  obtain⟨pF,r2,⟨hf1,hf2⟩,h2,DU,zx⟩:=ih r1 hl
  refine⟨pF,r2,⟨by simp[←hf1],fun i n eN hi hc=>?_⟩,fun b hb=>h2 b (h1 b hb),fun j=>(mn j).trans (DU j),fun j hj=>?_⟩
  ·cases i with
   |zero=>
    simp at hi hc;subst hi;subst hc
    have:iH φ k=g:=by simp[iH,hp]
    rw[this]
    exact⟨arr,T,hh,by omega,fun i x v hx hv=>(cK i x v hx (by simpa using hv)).mono h2 (fun _ _=>rfl)⟩
   |succ i=>exact hf2 i n eN (by simpa using hi) (by simpa using hc)
  ·rcases List.mem_cons.1 hj with rfl|hj
   ·exact⟨cs,hb⟩
   ·obtain⟨eN,l9⟩:=zx j hj
    cases h0:lk s.hp j with
    |none=>rw[um hds h0]at l9;cases l9
    |some b=>
     cases b with
     |box DM=>exact⟨DM,rfl⟩
     |bu e sz es=>
      obtain⟨iz,h3⟩:=(mn j).bu (.inl ⟨e,h0⟩)
      rcases h3 with⟨_,h3⟩|h3<;>(rw[h3]at l9;cases l9)
     |j9 sz es=>
      obtain⟨iz,h3⟩:=(mn j).bu (.inr h0)
      rcases h3 with⟨_,h3⟩|h3<;>(rw[h3]at l9;cases l9)
     |mp es=>
      obtain⟨iz,h3⟩:=(mn j).mp h0
      rw[h3]at l9;cases l9
theorem pO{fn:Func}{tmps:Array Value}{ys:List Value}(h:wY P tmps w fn.results.toList ys):(results fn tmps).run P w = .ok (ko ys) w:=by
 unfold results
 have e:fn.results=fn.results.toList.toArray:=by simp
 rw[e,List.mapM_toArray]
 simp only[Sem.run_bind,Sem.run_map]
 unfold wY at h
 rw[h]
 ·simp only[Result.andThen_ok]
  match ys with
  |[]=>rfl
  |[y]=>rfl
  |x::y::l=>rfl
 ·intro u;rfl
 ·intro p t;rfl
theorem nL{fn:Func}{R:Ending→World→Prop}{Z:Zr}(hz:∀b o,Z.z b=some o→b<Z.n){tmps:Array Value}(ajN:∀(a:Act) (w:World),Rel B0 bx W0 aI Z N ok φ s a w→a.tmps=tmps→a.defers=[]→∃v,(results fn tmps).run P w = .ok v w∧R (.returned v) w):
  ∀(Ds:List Nat) (a:Act) (w:World),Rel B0 bx W0 aI Z N ok φ s a w→a.tmps=tmps→a.defers=Ds.map mark→LeavesInM Fence.wide 0 P fn tmps R (Ds.map mark) .returning w:=by
 intro Ds
 induction Ds with
 |nil=>intro a w r ht hd;exact ajN a w r ht hd
 |cons D Ds ih=>
  intro a w r ht hd
  obtain⟨Uc,e1,e2,e3⟩:=r.df
  have Ov:Uc=D::Ds:=(Gh (e2.symm.trans hd))
  subst Ov
  obtain⟨f1,f2,f3⟩:=e3 D (by simp)
  obtain⟨n1,n2⟩:=List.nodup_cons.1 e1
  refine⟨by simp,.inl ⟨D,_,rfl,run_takeDeferred f3,?_⟩⟩
  refine ih {a with defers:=Ds.map mark} _ (r.Ea f3 rfl rfl f1.1 Z (fun b o h=>⟨(r.kz b o h).1,(World.putObj_heap_other (by rintro rfl;have:=hz _ o h;have:=f1.2;omega)).trans (r.kz b o h).2⟩) rfl r.zs rfl ⟨Ds,n2,rfl,fun D' Ow=>?_⟩) ht rfl
  obtain⟨g1,g2,g3⟩:=e3 D' (by simp[Ow])
  exact⟨g1,g2,(World.putObj_heap_other (by rintro rfl;exact n1 Ow)).trans g3⟩
theorem aw{gl:Nat→Option Obj}(hE:c8 P E)(hC:ah P gl C)(hI:Cz P gl I)(hT:Aj P E)(hm:P.follows .mixedOrders=true){f:Nat}{fn:Func}{body:Code}(hf:P.funcs[f]? = some fn)(hb:fn.body=some body)(x_:(fn.name == "runtime.NumGoroutine")=false)
  {fi:Fi} {args:List R} (hN:Nat.ble args.length fn.ntmps=true) (Gk:fx fn.ntmps fi.sc false body=true) {Q:KT} (hex:∃res fin,Q res fin)
  (h:vc E C I fi body fn.results.toList args Q):Ct P gl f args Q:=by
 refine⟨⟨fn,hf,x_,by rw[hb];rfl⟩,hex,fun w ok vs bs mK fQ hbs Q_ hA=>?_⟩
 refine callsIn_wide.1 (callsIn_of_wp_marks (F:=Fence.wide) (n:=0) hf hb trivial ?_)
 have hlen:args.length=vs.length:=wM hA
 have hle:args.length≤fn.ntmps:=Nat.le_of_ble_eq_true hN
 have Ub:∀(i:Nat) (v:Value),vs[i]? = some v→(vs.toArray++Array.replicate (fn.ntmps-vs.toArray.size) undef).getD (0+i) undef=v:=by
  intro i v hv
  have hlt:=(List.getElem?_eq_some_iff.1 hv).1
  rw[Nat.zero_add,Array.getD_eq_getD_getElem?,Array.getElem?_append_left (by simpa using hlt)]
  simp[hv]
 have r0:Rel w.heap.size [] w ok ⟨w.heap.size,gl,fun _ _=>undef,gl,fun _ _ h=>h⟩ fn.ntmps ok (fun _=>.int .i64 0) {tm:=[],hp:=[],kn:=[],gd:=[]} {tmps:=vs.toArray++Array.replicate (fn.ntmps-vs.toArray.size) undef,defers:=[]} w:={
  sz:=by simp;omega
  tm:=fun t x h=>by simp[lk]at h
  gd:=fun t t' w' x h=>by simp[lk]at h
  gu:=fun t t' w' b h=>by simp[lk]at h
  kn:=fun t b h=>by simp[lk]at h
  hp:=fun k b h=>by simp[lk]at h
  act:=fun k b g h=>by simp[lk]at h
  inj:=fun k k' b b' g _ h=>by simp[lk]at h
  one:=fun k=>rfl
  fH:=fQ
  kT:=fun b h=>.inl h
  aI:=fun b h=>h
  l8:=.refl _ _ _
  b0:=Nat.le_refl _
  rt:=fun d l t x h=>by simp[nth]at h
  df:=⟨[],by simp,rfl,by simp⟩
  zs:=Nat.le_refl _
  kz:=mK
  oP:=fun i g h=>by simp at h}
 obtain⟨φ1,r1⟩:=Al (B0:=w.heap.size) (W0:=w) (aI:=ok) hA 0 [] _ _ (by simpa using Q_) hbs Ub (fun k _=>by simp[lk]) (fun k b g h=>by simp[lk]at h) r0
 simp only[List.nil_append,List.length_nil,Nat.add_zero]at r1
 refine wpIn_mono (uC hE hC hI hT hm fi body false Gk Fence.wide (.inl rfl) _ rfl _ ok φ1 _ _ w r1 h) fun e a' w' hq=>?_
 obtain⟨ok',φ',s',r',hk⟩:=hq
 have key:TM E fn.results.toList (iD args 100000) Q .normal s'→LeavesInM Fence.wide 0 P fn a'.tmps (FX ok bs w Q) a'.defers .returning w':=by
  intro hk
  obtain⟨Ds,_,Ri,_⟩:=r'.df
  rw[Ri]
  refine nL (fun b o h=>fQ b (mK b o h).1) (fun a'' w' r' Oq hde=>?_) Ds a' w' r' rfl Ri
  simp only[TM]at hk
  split at hk
  ·exact hk.elim
  rename_i vs1 qd
  split at hk
  ·exact hk.elim
  rename_i rs ks s1 F2
  split at hk
  rotate_left
  ·exact hk.elim
  rename_i fin s2 ajO yp
  obtain⟨ys,dE,z7,N5⟩:=sn hE r' _ _ qd
  obtain⟨jK,r2,h1,mn,hA1,tt⟩:=mI r' z7 N5 F2
  obtain⟨pF,r3,hF,h2,DU,Oe⟩:=wZ _ r2 yp
  have X9:=r6 _ ajO
  rw[km]at X9
  obtain⟨Ra,NN,hn3⟩:=List.nodup_append.1 X9
  have hbk:iD args 100000=List.range' 100000 bs.length:=Am hA 100000
  have X_:∀j∈ks,(∃cs,lk s2.hp j=some (.box cs))∧∃g,φ' j = .pointer (some ⟨g,0,none⟩):=fun j hj=>by
   obtain⟨⟨cs,hc⟩,hg⟩:=tt j hj
   exact⟨(DU j).box hc,hg⟩
  have ajP:(iD args 100000).map (iH φ')=bs:=by
   rw[hbk]
   apply List.ext_getElem?
   intro i
   rw[List.getElem?_map]
   by_cases hlt:i<bs.length
   ·rw[List.getElem?_range' hlt]
    have hi:bs[i]? = some bs[i]:=List.getElem?_eq_getElem hlt
    obtain⟨e1,_⟩:=r3.oP i bs[i] hi
    rw[hi]
    simp[iH,e1]
   ·rw[List.getElem?_eq_none (l:=bs) (by omega),List.getElem?_eq_none (by simp;omega)]
    rfl
  rw[Oq]at dE
  refine⟨ko ys,pO dE,rs,fin,ys,pF,ks.map (iH φ'),rfl,hk,r3.aI,fun b hb=>r3.kT b hb,r3.fH,r3.l8,(hA1.mono h2).res,uu r3 X_ Ra,fun b hb=>?_,by rw[ajP]at hF;exact hF⟩
  obtain⟨j,hj,rfl⟩:=List.mem_map.1 hb
  obtain⟨⟨cs,hc⟩,g,hg⟩:=X_ j hj
  have hblk:iH φ' j=g:=by simp[iH,hg]
  rw[hblk]
  obtain⟨e1,e2⟩:=r3.act j _ g hc rfl (by rw[hg];rfl)
  refine⟨?_,e1⟩
  rcases e2 with e2|e2
  ·exact e2
  ·obtain⟨i,hi⟩:=List.getElem?_of_mem e2
   obtain⟨p1,eN,p2⟩:=r3.oP i g hi
   have hlt:=(List.getElem?_eq_some_iff.1 hi).1
   have hm:100000+i∈iD args 100000:=by
    rw[hbk,List.mem_range'_1];omega
   exact(r3.inj j (100000+i) _ _ g (fun e=>hn3 j hj _ hm e) hc p2 rfl rfl (by rw[hg];rfl) (by rw[p1];rfl)).elim
 cases e with
 |normal=>exact key hk
 |ret=>exact key hk
 |exit i=>exact hk.elim
 |goto l=>exact hk.elim
 |panic ch=>exact hk.elim
 |outgrown=>exact hk.elim
def au(C:aj)(f0:Nat)(c:List R→KT→Prop):aj:=
 fun f a K=>match Nat.beq f f0 with|true=>c a K|false=>C f a K
theorem af{P:Program}{gl:Nat→Option Obj}{C:aj}{f0:Nat}{c:List R→KT→Prop}(h:ah P gl C)(hc:∀a K,c a K→Ct P gl f0 a K):ah P gl (au C f0 c):=by
 intro f a K hk
 unfold au at hk
 split at hk
 ·rename_i e
  have:f=f0:=Nat.eq_of_beq_eq_true e
  subst this
  exact hc a K hk
 ·exact h f a K hk
def gives(r:List R):KT:=fun r' c=>r'=r∧c=[]
theorem Ct.gives{P:Program}{gl:Nat→Option Obj}{f:Nat}{a r:List R}{K:KT}(h:Ct P gl f a (gives r))(hk:K r []):Ct P gl f a K:=
 h.mono fun r' c ⟨h1,h2⟩=>by subst h1;subst h2;exact hk
theorem aS{c:Bool}{A B:Prop}(h1:c=true→A)(h2:c=false→B):(c=true→A)∧(c=false→B):=⟨h1,h2⟩
end Go.Dm
namespace Go.Dm
variable {P:Program} {E:Env} {C:aj} {I:Nat→List V→List V→St→(V→St→Prop)→Prop}
def kR:Nat→List V→List (Nat×V)
 |_,[]=>[]
 |t,v::r=>(t,v)::kR (t+1) r
theorem Oy(l:List V):∀(t j:Nat) (x:V),lk (kR t l) j=some x→t≤j∧l[j-t]? = some x:=by
 induction l with
 |nil=>intro t j x h;simp[kR,lk]at h
 |cons v r ih=>
  intro t j x h
  simp only[kR,lk]at h
  split at h
  ·rename_i e
   have:t=j:=Nat.eq_of_beq_eq_true e
   subst this
   simp at h;subst h
   exact⟨Nat.le_refl _,by simp⟩
  ·obtain⟨h1,h2⟩:=ih (t+1) j x h
   refine⟨by omega,?_⟩
   have:j-t=(j-(t+1))+1:=by omega
   rw[this];simpa using h2
def Oz{α:Type}:List α→Nat
 |[]=>0
 |_::r=>Oz r+1
theorem OA{α:Type}(l:List α):Oz l=l.length:=by
 induction l with
 |nil=>rfl
 |cons _ _ ih=>simp[Oz,ih]
abbrev Ya:=List (Nat×(Nat×Nat×Code×List ResultVar×Fi))
def inl(E:Env)(C:aj)(I:Nat→List V→List V→St→(V→St→Prop)→Prop)(OB:Ya)(f:Nat)(args bY:List V)(s:St)(K:V→St→Prop):Prop:=
 match lk OB f with
 |none=>False
 |some (off,nt,body,res,fi)=>
  match Nat.ble (Oz (app args bY)) nt with
  |false=>False
  |true=>
   p8 {E with off:=off} C I fi body {tm:=kR 0 (app args bY),hp:=s.hp,kn:=[],gd:=[],rt:=s.tm::s.rt} fun e s'=>
    match e with
    | .exit _=>False
    |_=>(match tF E s' res with|none=>False|some vs=>K (zL vs) {tm:=(p7 s').tm,hp:=s'.hp,kn:=s.kn,gd:=[],rt:=(p7 s').rt})
def so(P:Program)(OB:Ya):Prop:=∀f off nt body res fi,lk OB f=some (off,nt,body,res,fi)→
 ∃fn,P.funcs[f]? = some fn∧fn.body=some body∧fn.results.toList=res∧fn.ntmps=nt∧(fn.name == "runtime.NumGoroutine")=false∧fx nt fi.sc false body=true
theorem Eb:so P []:=fun f off nt body res fi h=>by simp[lk]at h
theorem so.cons{OB:Ya}(h:so P OB){f off:Nat}{fn:Func}{body:Code}{fi:Fi}(hf:P.funcs[f]? = some fn)(hb:fn.body=some body)(hn:(fn.name == "runtime.NumGoroutine")=false)(hc:fx fn.ntmps fi.sc false body=true):
  so P ((f,(off,fn.ntmps,body,fn.results.toList,fi))::OB):=by
 intro f' apY nt' an8 apZ fi' h'
 simp only[lk]at h'
 split at h'
 ·rename_i e
  have:f=f':=Nat.eq_of_beq_eq_true e
  subst this
  simp only[Option.some.injEq,Prod.mk.injEq]at h'
  obtain⟨rfl,rfl,rfl,rfl,rfl⟩:=h'
  exact⟨fn,hf,hb,rfl,rfl,hn,hc⟩
 ·exact h _ _ _ _ _ _ h'
theorem lg(hp:List (Nat×B))(k:Nat)(b:B)(h:lk hp k=some b):k∈kg hp:=by
 induction hp with
 |nil=>simp[lk]at h
 |cons p r ih=>
  obtain⟨a,x⟩:=p
  simp only[lk]at h
  simp only[kg,List.mem_cons]
  split at h
  ·rename_i e;exact .inl (Nat.eq_of_beq_eq_true e).symm
  ·exact .inr (ih h)
theorem yL{ok:Nat→Prop}{φ:Nat→Value}{hp:List (Nat×B)}{w:World}{vs:List V}{ys:List Value}(hl:ys.length=vs.length)(h:∀(i:Nat) (c:V) (x:Value),vs[i]? = some c→ys[i]? = some x→VR ok φ hp w c x):VR ok φ hp w (zL vs) (ko ys):=by
 match vs,ys,hl with
 |[],[],_=>exact .pq (by simp) (fun i c x h1 h2=>h i c x h1 (by simp at h2))
 |[v],[y],_=>exact h 0 v y rfl rfl
 |v::v'::r,y::y'::q,hl=>exact .pq (by simp at hl ⊢;omega) (fun i c x h1 h2=>h i c x h1 (by simpa using h2))
open Classical in
theorem OC{gl:Nat→Option Obj}(hE:c8 P E)(hC:ah P gl C)(hI:Cz P gl I)(hT:Aj P E)(hm:P.follows .mixedOrders=true){OB:Ya}(hF:so P OB):Cz P gl (inl E C I OB):=by
 intro B0 bx W0 aI Z N ok φ s a w f args bY K vs cs mK r h hlv oY hlc hO
 subst mK
 unfold inl at h
 split at h
 ·exact h.elim
 rename_i off nt body res fi Ol
 split at h
 ·exact h.elim
 rename_i hle
 have ap1:args.length+bY.length≤nt:=by
  have:=Nat.le_of_ble_eq_true hle
  rw[OA,km]at this
  simpa using this
 rw[km]at h
 obtain⟨fn,hf,hb,qd,hnt,x_,Gk⟩:=hF _ _ _ _ _ _ Ol
 refine⟨⟨fn,hf,x_,by rw[hb];rfl⟩,callsIn_wide.1 (callsIn_of_wp_marks (F:=Fence.wide) (n:=0) hf hb trivial ?_)⟩
 have hE':c8 P {E with off:=off}:=⟨hE.te⟩
 have hT':Aj P {E with off:=off}:=fun f nx K h=>hT f nx K h
 let Uh:Nat→Prop:=fun b=>ok b∨(B0≤b∧b<w.heap.size∧∀k b',lk s.hp k=some b'→b'.aM=true→aq (φ k)≠some b)
 let Z':Zr:=⟨w.heap.size,fun b=>if Uh b then w.heap[b]? else none,fun d t=>match d with|0=>a.tmps.getD t undef|d+1=>Z.ro d t,Z.gl,fun b o h=>by
  have:=r.kz b o (Z.sub b o h)
  rw[if_pos (.inl this.1)];exact this.2⟩
 have hZ':∀b o,Z'.z b=some o→Uh b∧w.heap[b]? = some o:=fun b o h=>by
  simp only[Z']at h
  split at h
  ·rename_i hb;exact⟨hb,h⟩
  ·cases h
 have rz:Rel B0 bx W0 aI Z N Uh φ s a w:=r.Ge (fun b hb=>.inl hb) (fun b hb=>by
  rcases hb with hb|hb
  ·exact r.fH b hb
  ·exact hb.2.1) (fun b hb=>by
  rcases hb with hb|hb
  ·exact r.kT b hb
  ·exact .inr hb.1) (fun k b g hk ha hg=>by
  rintro(hx|hx)
  ·exact(r.act k b g hk ha hg).1 hx
  ·exact hx.2.2 k b hk ha hg)
 let tm0:Array Value:=(vs++cs).toArray++Array.replicate (fn.ntmps-(vs++cs).toArray.size) undef
 have ajQ:∀(i:Nat) (v:Value),(vs++cs)[i]? = some v→tm0.getD i undef=v:=by
  intro i v hv
  have hlt:=(List.getElem?_eq_some_iff.1 hv).1
  simp only[tm0]
  rw[Array.getD_eq_getD_getElem?,Array.getElem?_append_left (by simpa using hlt)]
  simp only[List.getElem?_toArray,hv,Option.getD_some]
 have rc:Rel B0 bx W0 aI Z' fn.ntmps Uh φ {tm:=kR 0 (args++bY),hp:=s.hp,kn:=[],gd:=[],rt:=s.tm::s.rt} {tmps:=tm0,defers:=[]} w:=by
  refine rz.reZ Z' hZ' (Nat.le_refl _) rfl rfl ?_ (fun t x hx=>?_) (fun t b hb=>by simp[lk]at hb) (fun d l t x hd hx=>?_) ⟨[],by simp,rfl,by simp⟩
  ·simp only[tm0];simp;omega
  ·obtain⟨_,h2⟩:=Oy _ 0 t x hx
   rw[Nat.sub_zero]at h2
   have hlt:t<(vs++cs).length:=by have:=(List.getElem?_eq_some_iff.1 h2).1;simp at this ⊢;omega
   have hv:(vs++cs)[t]? = some (vs++cs)[t]:=List.getElem?_eq_getElem hlt
   rw[ajQ t _ hv]
   rw[List.getElem?_append]at h2 hv
   rw[hlv]at hv
   have key:VR ok φ s.hp w x (vs++cs)[t]:=by
    split at h2
    ·rename_i h3
     rw[if_pos h3]at hv
     exact oY t x _ h2 hv
    ·rename_i h3
     rw[if_neg h3]at hv
     exact hO _ x _ h2 hv
   exact key.iq (fun b hb=>.inl hb) (fun _=>rfl)
  ·cases d with
   |zero=>simp only[nth,Option.some.injEq]at hd;subst hd;exact rz.tm t x hx
   |succ d=>exact rz.rt d l t x hd hx
 refine wpIn_mono (uC hE' hC hI hT' hm fi body false (by rw[hnt];exact Gk) Fence.wide (.inl rfl) Z' rfl _ Uh φ _ _ w rc h) fun e a' w' hq=>?_
 obtain⟨pF,φ2,s2,r2,hk⟩:=hq
 have fin:(match tF E s2 res with|none=>False|some vs=>K (zL vs) {tm:=(p7 s2).tm,hp:=s2.hp,kn:=s.kn,gd:=[],rt:=(p7 s2).rt})→
   LeavesInM Fence.wide 0 P fn a'.tmps (fun e tu=>∃v,e = .returned v∧xO B0 bx W0 aI Z N a (fa (kg s.hp) φ s w) K v tu) a'.defers .returning w':=by
  intro hk
  split at hk
  ·exact hk.elim
  rename_i rvs hrv
  obtain⟨Ds,_,Ri,_⟩:=r2.df
  rw[Ri]
  refine nL (Z:=Z') (fun b o h=>?_) (fun a'' w3 r3 Oq hde=>?_) Ds a' w' r2 rfl Ri
  ·obtain⟨hz,_⟩:=hZ' b o h
   exact rz.fH b hz
  obtain⟨ys,dE,z7,N5⟩:=sn hE r3 _ _ hrv
  rw[Oq]at dE
  refine⟨ko ys,pO (by rw[qd];exact dE),_,rfl,zL rvs,_,pF,φ2,hk,?_,yL z7 N5,?_⟩
  ·refine r3.reZ Z (fun b o hz=>?_) (Nat.le_trans r.zs r3.zs) rfl rfl r.sz (fun t x hx=>?_) r.kn (fun d l t x hd hx=>?_) ?_
   ·obtain⟨e1,e2⟩:=r.kz b o hz
    have:Z'.z b=some o:=by simp only[Z'];rw[if_pos (.inl e1)];exact e2
    exact r3.kz b o this
   ·simp only[p7]at hx
    split at hx
    ·rename_i tm rt Ot
     exact r3.rt 0 tm t x (by rw[Ot];rfl) hx
    ·simp[lk]at hx
   ·simp only[p7]at hd
    split at hd
    ·rename_i tm rt Ot
     exact r3.rt (d+1) l t x (by rw[Ot];exact hd) hx
    ·simp[nth]at hd
   ·obtain⟨Ds0,e1,e2,e3⟩:=r.df
    refine⟨Ds0,e1,e2,fun D hD=>?_⟩
    obtain⟨f1,f2,f3⟩:=e3 D hD
    have:Z'.z D=some (.deferred (some [])):=by simp only[Z'];rw[if_pos (.inl f2)];exact f3
    exact⟨f1,r3.kz D _ this⟩
  ·refine⟨r3.zs,fun g hg hn=>?_,fun k b' g h1 h2 h3 hlt=>?_⟩
   ·by_cases hz:Uh g
    ·have:Z'.z g=some w.heap[g]:=by simp only[Z'];rw[if_pos hz];simp[hg]
     rw[(r3.kz g _ this).2];simp[hg]
    ·have hB:g<B0:=by
      rcases Nat.lt_or_ge g B0 with h|h
      ·exact h
      ·exact(hz (.inr ⟨h,hg,fun k b' hk ha he=>hn k b' (lg _ k b' hk) hk ha he⟩)).elim
     have zx:g∉bx:=fun hm=>by
      obtain⟨i,hi⟩:=List.getElem?_of_mem hm
      obtain⟨p1,eN,p2⟩:=r.oP i g hi
      exact hn _ _ (lg _ _ _ p2) p2 rfl (by rw[p1];rfl)
     exact(r3.l8.block g hB zx).trans (r.l8.block g hB zx).symm
   ·by_cases hx:∃k0 b,lk s.hp k0=some b∧b.aM=true∧aq (φ k0)=some g
    ·obtain⟨k0,b,e1,e2,e3⟩:=hx
     exact⟨k0,b,e1,e2,e3,.inr (lg _ k0 b e1)⟩
    ·exfalso
     obtain⟨hno,hB⟩:=r3.act k b' g h1 h2 h3
     rcases hB with hB|hB
     ·have hz:Uh g:=.inr ⟨hB,hlt,fun k b' hk ha he=>hx ⟨k,b',hk,ha,he⟩⟩
      have:Z'.z g=some w.heap[g]:=by simp only[Z'];rw[if_pos hz];simp[hlt]
      exact hno (r3.kz g _ this).1
     ·obtain⟨i,hi⟩:=List.getElem?_of_mem hB
      obtain⟨p1,eN,p2⟩:=r.oP i g hi
      exact hx ⟨_,_,p2,rfl,by rw[p1];rfl⟩
 cases e with
 |normal=>exact fin hk
 |ret=>exact fin hk
 |exit i=>exact hk.elim
 |goto l=>exact hk.elim
 |panic ch=>exact hk.elim
 |outgrown=>exact hk.elim
end Go.Dm
