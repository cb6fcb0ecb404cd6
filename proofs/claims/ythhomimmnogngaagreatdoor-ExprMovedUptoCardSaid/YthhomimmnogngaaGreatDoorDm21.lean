/- A part of the proof: contracts of functions, by a verified generator of conditions; no condition of its own. -/
import Derived.Test.YthhomimmnogngaaGreatDoorDm17
import Derived.RangeFuncLeaves
import Derived.RangeFuncRecord
namespace Go.Dm
variable {P:Program} {E:Env} {C:CallT} {I:Nat→List V→List V→St→(V→St→Prop)→Prop}
variable {B0:Nat} {bx:List Nat} {W0:World} {ok0:Nat→Prop} {Z:Zr} {N:Nat}
theorem vd_agg{ok:Nat→Prop}{φ:Nat→Value}{s:St}{w:World}{xs:Array Value}{cs:List D}(hs:xs.size=cs.length)(h:∀(i:Nat) (x:D) (v:Value),cs[i]? = some x→xs[i]? = some v→Rd ok w v x):VR ok φ s.hp w (.agg (vd cs)) (.agg xs):=
 .agg (by rw[vd_length];exact hs) fun i c x hc hx=>by
  rw[vd_get]at hc
  cases hcs:cs[i]? with
  |none=>rw[hcs]at hc;cases hc
  |some d=>rw[hcs]at hc;simp at hc;subst hc;exact .d (h i d x hcs hx)
def isCl:Obj→Bool
 | .cells .. =>true
 | .map .. =>true
 |_=>false
theorem cell_turn{w:World}{L:Nat}{o o':Obj}(hL:w.heap[L]? = some o)(ho:isCl o=false)(ho':isCl o'=false)(a:Addr):(w.putObj L o').cell? a=w.cell? a:=by
 by_cases e:a.block=L
 ·have h1:(w.putObj L o').heap[a.block]? = some o':=by rw[e];exact World.putObj_heap_same (Array.getElem?_eq_some_iff.1 hL).1
  have h2:w.heap[a.block]? = some o:=by rw[e];exact hL
  unfold World.cell?
  rw[h1,h2]
  cases o<;>cases o'<;>first|rfl|(simp[isCl]at ho;done)|(simp[isCl]at ho';done)
 ·exact World.cell?_of_block (World.putObj_heap_other e)
theorem Rd.cmono{ok ok':Nat→Prop}{w w':World}{v:Value}{d:D}(h:Rd ok w v d)(h1:∀b,ok b→ok' b)(hc:∀a,w'.cell? a=w.cell? a):Rd ok' w' v d:=by
 induction h with
 |v h=>exact .v h
 |nil=>exact .nil
 |nul=>exact .nul
 |opq=>exact .opq
 | @sl b off cap es sz x hcap hok hsz hcc hr ih=>
   exact .sl sz x hcap (fun h=>h1 _ (hok h)) hsz (fun i j hi hj=>by rw[hc];exact hcc i j hi hj) (fun i j hi hj=>ih i j hi hj)
theorem VR.cmono{ok ok':Nat→Prop}{φ:Nat→Value}{hp:List (Nat×B)}{w w':World}{c:V}{v:Value}(h:VR ok φ hp w c v)(h1:∀b,ok b→ok' b)(hc:∀a,w'.cell? a=w.cell? a):VR ok' φ hp w' c v:=by
 induction h with
 |dead v=>exact .dead v
 |d h=>exact .d (h.cmono h1 hc)
 |nil=>exact .nil
 |agg hs h ih=>exact .agg hs ih
 |tup hs h ih=>exact .tup hs ih
 |ref hb h=>exact .ref hb h
 |own hb h=>exact .own hb h
 |optr hb h=>exact .optr hb h
 |dptr x hok hcc hr=>exact .dptr x (fun h=>h1 _ (hok h)) (fun j hj=>by rw[hc];exact hcc j hj) (fun j hj=>(hr j hj).cmono h1 hc)
 |fn hs h ih=>exact .fn hs ih
 |yld=>exact .yld
 |mref hb h=>exact .mref hb h
 |arrv hb h=>exact .arrv hb h
 |vw hb h h1 h2 h3=>exact .vw hb h h1 h2 h3
theorem owns_turn{w:World}{base:Nat}{e:TypeId}{size:Nat}{v:Value}{k:Nat}{xs:List Value}(h:w.ownsRow base e size v k xs){L:Nat}{o o':Obj}(hL:w.heap[L]? = some o)(ho:isCl o=false):(w.putObj L o').ownsRow base e size v k xs:=by
 refine h.kept (row:=some L) ⟨rfl,rfl,rfl,by simp,fun k _ hk=>World.putObj_heap_other (fun e=>hk (by rw[e]))⟩ ?_
 rcases h.2 with⟨rfl,_⟩|⟨g,cap,cur,rfl,_,hgb,_⟩
 ·exact .inl rfl
 ·refine .inr fun e'=>?_
  obtain rfl:g=L:=by simpa[Value.ownBlock]using e'
  rw[hgb]at hL;cases hL;cases ho
theorem BR.turn{ok:Nat→Prop}{φ:Nat→Value}{hp:List (Nat×B)}{w:World}{v:Value}{b:B}(h:BR B0 ok φ hp w v b){L:Nat}{o o':Obj}(hL:w.heap[L]? = some o)(ho:isCl o=false)(ho':isCl o'=false):BR B0 ok φ hp (w.putObj L o') v b:=by
 have hc:=cell_turn hL ho ho'
 cases b with
 |box cs=>
  obtain⟨g,arr,T,h1,h2,h3,h4⟩:=h
  refine⟨g,arr,T,h1,?_,h3,fun j c x a b=>(h4 j c x a b).cmono (fun _ h=>h) hc⟩
  rw[World.putObj_heap_other (by rintro rfl;rw[h2]at hL;cases hL;cases ho)]
  exact h2
 |lst e sz es=>
  obtain⟨h1,h2,xs,h3,h4⟩:=h
  exact⟨h1,h2,xs,owns_turn h3 hL ho,fun i j a b=>(h4 i j a b).cmono (fun _ h=>h) hc⟩
 |fro sz es=>
  obtain⟨h1,h2,h3,h4⟩:=h
  exact⟨h1,h2,h3.cmono (fun _ h=>h) hc,h4⟩
 |mp es=>
  obtain⟨g,ents,clock,h1,h2,h3,h5,h4⟩:=h
  refine⟨g,ents,clock,h1,?_,h3,h5,fun j x y a b=>⟨(h4 j x y a b).1,(h4 j x y a b).2.cmono (fun _ h=>h) hc⟩⟩
  rw[World.putObj_heap_other (by rintro rfl;rw[h2]at hL;cases hL;cases ho)]
  exact h2
theorem Rel.turn{ok:Nat→Prop}{φ:Nat→Value}{s:St}{a:Act}{w:World}(r:Rel B0 bx W0 ok0 Z N ok φ s a w){L:Nat}{o o':Obj}(hL:w.heap[L]? = some o)(ho:isCl o=false)(ho':isCl o'=false)
  (hB:B0≤L) (Z':Zr) (hz:∀b o,Z'.z b=some o→ok b∧(w.putObj L o').heap[b]? = some o) (hro:Z'.ro=Z.ro) (hn:Z'.n≤w.heap.size)
  {a':Act} (hta:a'.tmps=a.tmps) (hdf:∃Ds:List Nat,Ds.Nodup∧a'.defers=Ds.map mark∧∀D∈Ds,(B0≤D∧Z'.n≤D)∧ok D∧(w.putObj L o').heap[D]? = some (.deferred (some []))):
  Rel B0 bx W0 ok0 Z' N ok φ s a' (w.putObj L o'):=by
 have hc:=cell_turn hL ho ho'
 exact {
  sz:=by rw[hta];exact r.sz
  tm:=fun t x h=>by rw[hta];exact(r.tm t x h).cmono (fun _ h=>h) hc
  gd:=fun t t' w' x h hw=>by rw[hta]at hw ⊢;exact(r.gd t t' w' x h hw).cmono (fun _ h=>h) hc
  gu:=fun t t' w' b h hw=>by rw[hta]at hw ⊢;exact r.gu t t' w' b h hw
  kn:=fun t b h=>by rw[hta];exact r.kn t b h
  rt:=fun d l t x hl h=>by rw[hro];exact(r.rt d l t x hl h).cmono (fun _ h=>h) hc
  hp:=fun k b h=>(r.hp k b h).turn hL ho ho'
  act:=r.act
  inj:=r.inj
  one:=r.one
  okl:=fun b h=>by simpa using r.okl b h
  oks:=r.oks
  ok0:=r.ok0
  upd:=r.upd.trans ⟨rfl,rfl,rfl,by simp,fun k hk _=>World.putObj_heap_other (by omega)⟩
  b0:=by simpa using r.b0
  df:=hdf
  zs:=by simpa using hn
  kz:=hz
  pin:=r.pin}
theorem Rel.reZ{ok:Nat→Prop}{φ:Nat→Value}{s:St}{a:Act}{w:World}(r:Rel B0 bx W0 ok0 Z N ok φ s a w)(Z':Zr)(hz:∀b o,Z'.z b=some o→ok b∧w.heap[b]? = some o)(hn:Z'.n≤w.heap.size){N':Nat}{s':St}{a':Act}
 (hhp:s'.hp=s.hp) (hgd:s'.gd=[]) (hsz:a'.tmps.size=N') (htm:∀t x,lk s'.tm t=some x→VR ok φ s.hp w x (a'.tmps.getD t undef)) (hkn:∀t b,lk s'.kn t=some b→a'.tmps.getD t undef = .bool b)
 (hrt:∀d l t x,nth s'.rt d=some l→lk l t=some x→VR ok φ s.hp w x (Z'.ro d t))
 (hdf:∃Ds:List Nat,Ds.Nodup∧a'.defers=Ds.map mark∧∀D∈Ds,(B0≤D∧Z'.n≤D)∧ok D∧w.heap[D]? = some (.deferred (some []))):
 Rel B0 bx W0 ok0 Z' N' ok φ s' a' w:={
 sz:=hsz
 tm:=by rw[hhp];exact htm
 gd:=fun t t' w' x h=>by rw[hgd]at h;simp[lk]at h
 gu:=fun t t' w' b h=>by rw[hgd]at h;simp[lk]at h
 kn:=hkn
 rt:=by rw[hhp];exact hrt
 hp:=by rw[hhp];exact r.hp
 act:=by rw[hhp];exact r.act
 inj:=by rw[hhp];exact r.inj
 one:=r.one
 okl:=r.okl
 oks:=r.oks
 ok0:=r.ok0
 upd:=r.upd
 b0:=r.b0
 df:=hdf
 zs:=hn
 kz:=hz
 pin:=by rw[hhp];exact r.pin}
theorem Rel.addOk{ok ok':Nat→Prop}{φ:Nat→Value}{s:St}{a:Act}{w:World}(r:Rel B0 bx W0 ok0 Z N ok φ s a w)(h1:∀b,ok b→ok' b)(hl:∀b,ok' b→b<w.heap.size)(hs:∀b,ok' b→ok0 b∨B0≤b)
 (ha:∀k b g,lk s.hp k=some b→b.active=true→blockOf (φ k)=some g→¬ok' g):Rel B0 bx W0 ok0 Z N ok' φ s a w:={
 sz:=r.sz
 tm:=fun t x h=>(r.tm t x h).cmono h1 (fun _=>rfl)
 gd:=fun t t' w' x h hw=>(r.gd t t' w' x h hw).cmono h1 (fun _=>rfl)
 gu:=r.gu
 kn:=r.kn
 rt:=fun d l t x hl h=>(r.rt d l t x hl h).cmono h1 (fun _=>rfl)
 hp:=fun k b h=>(r.hp k b h).keep (fun _=>False) (fun _ _ h=>h.elim) h1 (fun _ _=>rfl) (fun _ _ _=>rfl) (fun k _=>Sim.refl _ k) (fun _ _ _=>rfl)
 act:=fun k b g h h2 h3=>⟨ha k b g h h2 h3,(r.act k b g h h2 h3).2⟩
 inj:=r.inj
 one:=r.one
 okl:=hl
 oks:=hs
 ok0:=fun b h=>h1 b (r.ok0 b h)
 upd:=r.upd
 b0:=r.b0
 df:=by
  obtain⟨Ds,e1,e2,e3⟩:=r.df
  exact⟨Ds,e1,e2,fun D hD=>⟨(e3 D hD).1,h1 D (e3 D hD).2.1,(e3 D hD).2.2⟩⟩
 zs:=r.zs
 kz:=fun b o h=>⟨h1 b (r.kz b o h).1,(r.kz b o h).2⟩
 pin:=r.pin}
theorem frzCaps_sound:∀{caps:List V} {ok:Nat→Prop} {φ:Nat→Value} {s s':St} {a:Act} {w:World} {cps:List Cp} {vs:List Value},Rel B0 bx W0 ok0 Z N ok φ s a w→vs.length=caps.length→
  (∀(i:Nat) (c:V) (x:Value),caps[i]? = some c→vs[i]? = some x→VR ok φ s.hp w c x)→frzCaps s caps=some (cps,s')→
  ∃ok',Rel B0 bx W0 ok0 Z N ok' φ s' a w∧(∀b,ok b→ok' b)∧(cpV cps).length=vs.length∧(∀(i:Nat) (c:V) (x:Value),(cpV cps)[i]? = some c→vs[i]? = some x→VR ok' (fun _=>.int .i64 0) [] w c x):=by
 intro caps
 induction caps with
 |nil=>
  intro ok φ s s' a w cps vs r hl hv h
  simp only[frzCaps,Option.some.injEq,Prod.mk.injEq]at h
  obtain⟨rfl,rfl⟩:=h
  exact⟨ok,r,fun _ h=>h,by simp at hl;simp[cpV,hl],fun i c x h=>by simp[cpV]at h⟩
 |cons c0 caps ih=>
  intro ok φ s s' a w cps vs r hl hv h
  cases vs with
  |nil=>simp at hl
  |cons v0 vs=>
  have hl':vs.length=caps.length:=by simpa using hl
  have hv0:=hv 0 c0 v0 rfl rfl
  have hvr:∀(i:Nat) (c:V) (x:Value),caps[i]? = some c→vs[i]? = some x→VR ok φ s.hp w c x:=fun i c x h1 h2=>hv (i+1) c x (by simpa using h1) (by simpa using h2)
  have fin:∀{ok1:Nat→Prop} {s1:St} {c:Cp} {l:List Cp},(∀b,ok b→ok1 b)→Rel B0 bx W0 ok0 Z N ok1 φ s1 a w→(∀(i:Nat) (c:V) (x:Value),caps[i]? = some c→vs[i]? = some x→VR ok1 φ s1.hp w c x)→
    VR ok1 (fun _=>.int .i64 0) [] w (cpV [c]).head! v0→frzCaps s1 caps=some (l,s')→cps=c::l→
    ∃ok',Rel B0 bx W0 ok0 Z N ok' φ s' a w∧(∀b,ok b→ok' b)∧(cpV cps).length=(v0::vs).length∧(∀(i:Nat) (c:V) (x:Value),(cpV cps)[i]? = some c→(v0::vs)[i]? = some x→VR ok' (fun _=>.int .i64 0) [] w c x):=by
   intro ok1 s1 c l h1 r1 hv1 hc hf he
   subst he
   obtain⟨ok2,r2,h2,hl2,hv2⟩:=ih r1 hl' hv1 hf
   have e:cpV (c::l)=(cpV [c]).head! :: cpV l:=by cases c<;>rfl
   refine⟨ok2,r2,fun b hb=>h2 b (h1 b hb),by rw[e];simp[hl2],fun i c' x h3 h4=>?_⟩
   rw[e]at h3
   cases i with
   |zero=>simp at h3 h4;subst h3;subst h4;exact hc.cmono h2 (fun _=>rfl)
   |succ i=>exact hv2 i c' x (by simpa using h3) (by simpa using h4)
  have viaD:(∀cs,c0≠.dptr cs)→(∀k,c0≠.ref k 0)→∃ok',Rel B0 bx W0 ok0 Z N ok' φ s' a w∧(∀b,ok b→ok' b)∧(cpV cps).length=(v0::vs).length∧(∀(i:Nat) (c:V) (x:Value),(cpV cps)[i]? = some c→(v0::vs)[i]? = some x→VR ok' (fun _=>.int .i64 0) [] w c x):=by
   intro n1 n2
   have h':(match toD s c0 with|some (x,s)=>(match frzCaps s caps with|some (l,s)=>some (Cp.d x::l,s)|none=>none)|none=>none)=some (cps,s'):=by
    rw[←h]
    cases c0 with
    |dptr cs=>exact(n1 cs rfl).elim
    |ref k off=>cases off with
     |zero=>exact(n2 k rfl).elim
     |succ n=>rfl
    |_=>rfl
   split at h'
   ·rename_i x s1 hd
    split at h'
    ·rename_i l s2 hf
     simp only[Option.some.injEq,Prod.mk.injEq]at h'
     obtain⟨rfl,rfl⟩:=h'
     obtain⟨ok1,r1,hrd,h1,hs1⟩:=toD_sound r hv0 hd
     exact fin h1 r1 (fun i c x h2 h3=>(hvr i c x h2 h3).mono h1 (fun _ _=>rfl) (fun _ _ _=>rfl) (fun j _=>hs1 j)) (.d hrd) hf rfl
    ·cases h'
   ·cases h'
  cases c0 with
  |dptr cs=>
   simp only[frzCaps]at h
   split at h
   ·rename_i l s1 hf
    simp only[Option.some.injEq,Prod.mk.injEq]at h
    obtain⟨rfl,rfl⟩:=h
    exact fin (c:=.ptr cs) (fun _ h=>h) r hvr (hv0.toBare (fun k=>rfl)) hf rfl
   ·cases h
  |ref k off=>
   cases off with
   |succ n=>exact viaD (fun _ h=>by cases h) (fun _ h=>by cases h)
   |zero=>
    simp only[frzCaps]at h
    split at h
    rotate_left
    ·cases h
    rename_i cs hk hnn hb
    split at h
    rotate_left
    ·cases h
    rename_i ds s1 hds
    split at h
    rotate_left
    ·cases h
    rename_i l s2 hf
    simp only[Option.some.injEq,Prod.mk.injEq]at h
    obtain⟨rfl,rfl⟩:=h
    have hlt:k<100000:=by
       rcases Nat.lt_or_ge k 100000 with h'|h'
       ·exact h'
       ·rw[Nat.ble_eq_true_of_le h']at hk;cases hk
    cases hv0
    rename_i g cs' hb' hφ
    obtain⟨g',arr,T,hp,hh,hs,hr⟩:=r.hp k _ hb
    rw[hφ]at hp;simp at hp;subst hp
    obtain⟨ok1,r1,hl1,hrd,h1,hs1⟩:=toDs_sound (vs:=arr.toList) r (by simpa using hs) (fun i c y hc hy=>hr i c y hc (by simpa using hy)) hds
    have hbx1:=(hs1 k).box hb
    obtain⟨cs1,hb1⟩:=hbx1
    have hg:blockOf (φ k)=some g:=by rw[hφ];rfl
    obtain⟨hno,hB⟩:=r1.act k _ g hb1 rfl hg
    have hB':B0≤g:=by
       rcases hB with hB|hB
       ·exact hB
       ·obtain⟨i,hi⟩:=List.getElem?_of_mem hB
        obtain⟨p1,cs2,p2⟩:=r1.pin i g hi
        exact(r1.inj k (100000+i) _ _ g (by omega) hb1 p2 rfl rfl hg (by rw[p1];rfl)).elim
    have r2:=r1.drop hlt
    have hdrop:∀j b,lk (s1.drop k).hp j=some b→k≠j∧∃b',lk s1.hp j=some b'∧b'.active=b.active:=fun j b h=>by
       simp only[St.drop]at h
       rw[lk_rm]at h
       split at h
       ·cases h
       ·rename_i e
        rw[lk_strikeH]at h
        cases h0:lk s1.hp j with
        |none=>rw[h0]at h;cases h
        |some b0=>
         rw[h0]at h
         simp only[Option.map_some,Option.some.injEq]at h
         subst h
         exact⟨e,b0,rfl,by cases b0<;>rfl⟩
    have r3:Rel B0 bx W0 ok0 Z N (fun b=>ok1 b∨b=g) φ (s1.drop k) a w:=r2.addOk (fun b hb=>.inl hb) (fun b hb=>by
         rcases hb with hb|rfl
         ·exact r1.okl b hb
         ·exact(Array.getElem?_eq_some_iff.1 hh).1) (fun b hb=>by
         rcases hb with hb|rfl
         ·exact r1.oks b hb
         ·exact .inr hB') (fun j b g' hj ha hg'=>by
         obtain⟨e1,b',e2,e3⟩:=hdrop j b hj
         rintro(hx|rfl)
         ·exact(r1.act j b' g' e2 (by rw[e3];exact ha) hg').1 hx
         ·exact r1.inj k j _ b' g' e1 hb1 e2 rfl (by rw[e3];exact ha) hg hg')
    have hl1':ds.length=arr.size:=hl1.trans hs.symm
    refine fin (c:=.ptr ds) (ok1:=fun b=>ok1 b∨b=g) (fun b hb=>.inl (h1 b hb)) r3 (fun i c x h2 h3=>?_) ?_ hf rfl
    ·have hnk:V.names k c=false:=(namesL_iff k caps).1 hnn c (List.mem_of_getElem? h2)
     have:=(hvr i c x h2 h3).mono h1 (fun _ _=>rfl) (fun _ _ _=>rfl) (fun j _=>hs1 j)
     refine this.mono (fun b hb=>.inl hb) (fun _ _=>rfl) (fun _ _ _=>rfl) (fun j hj=>?_)
     have hne:k≠j:=by rintro rfl;rw[hnk]at hj;cases hj
     have:=sim_strike k j s1.hp
     unfold Sim at this ⊢
     simp only[St.drop]
     rw[lk_rm,if_neg hne]
     exact this
    ·have hcell:∀j,j<ds.length→w.cell? ⟨g,0+j,none⟩=some (arr.getD j undef):=fun j hj=>by
         have hj':j<arr.size:=by omega
         simp[World.cell?,hh,hj']
     refine .dptr (fun j=>arr.getD j undef) (fun _=>.inr rfl) hcell (fun j hj=>?_)
     have hj':j<arr.size:=by omega
     have e1:arr.getD j undef=arr[j]:=by simp[hj']
     rw[e1]
     refine(hrd j (ds.getD j default) arr[j] (by simp[hj]) (by simp[hj'])).cmono (fun b hb=>.inl hb) (fun _=>rfl)
  |_=>exact viaD (fun _ h=>by cases h) (fun _ h=>by cases h)
end Go.Dm
namespace Go.Dm
variable {P:Program} {E:Env} {C:CallT} {I:Nat→List V→List V→St→(V→St→Prop)→Prop}
variable {B0:Nat} {bx:List Nat} {W0:World} {ok0:Nat→Prop} {N:Nat}
def FW(F:Fence):Prop:=F=Fence.wide∨∃l,F=Fence.wide.inRound l
theorem FW.fn{F:Fence}(h:FW F)(f:Nat):F.fn f:=by rcases h with rfl|⟨l,rfl⟩<;>trivial
theorem FW.depth{F:Fence}(h:FW F){p:Prop}:F.depth.isSome=true→p:=by rcases h with rfl|⟨l,rfl⟩<;>(intro h;simp[Fence.wide,Fence.inRound]at h)
theorem FW.calls{F:Fence}(h:FW F){n f:Nat}{args:Array Value}{w:World}{R:Ending→World→Prop}(hc:Calls P f args w R):CallsIn F n P f args w R:=by
 rcases h with rfl|⟨l,rfl⟩
 ·exact callsIn_wide.2 hc
 ·exact(callsIn_wide (n:=n)).2 hc
theorem FW.rows{F:Fence}(h:FW F){n:Nat}{row:String}{args:Array Value}{w:World}{R:Value→World→Prop}(hc:Rows P row args w R):RowsIn F n P row args w R:=by
 intro c cs _
 obtain⟨v,w',h1,h2⟩:=hc c cs
 refine⟨v,w',h1,?_⟩
 rcases h with rfl|⟨l,rfl⟩
 ·exact stepsIn_wide.2 h2
 ·exact stepsIn_wide.2 h2
theorem upon_in{F:Fence}(hF:FW F){o:Oper}{a:Act}{next next':Act→World→Prop}{Q:Exit→Act→World→Prop}(hn:∀a w,next a w→next' a w)(hl:¬LetsOut Q){r:Result Next}(h:o.upon P a next Q r):o.uponIn F 0 P a next' Q r:=by
 cases r with
 |halt x w'=>
  cases x<;>first|exact h|exact(h:False).elim
 |ok x w'=>
  cases x with
  |value v=>exact hn _ _ h
  |skip=>exact hn _ _ h
  |defer d=>exact hn _ _ h
  |enter f args=>
   refine⟨hF.depth,hF.calls ((h:Calls P f args w' _).mono fun e w'' h=>?_)⟩
   cases e with
   |returned v=>exact hn _ _ h
   |panicked c=>exact h
   |outgrown=>exact h
  |row row args=>exact⟨hF.depth,hF.rows ((h:Rows P row args w' _).mono fun v w'' h=>hn _ _ h)⟩
  |_=>exact(h:False).elim
theorem ops_in{F:Fence}(hF:FW F){Q:Exit→Act→World→Prop}(hl:¬LetsOut Q){ops:Array Oper}(hnd:∀(i:Nat) (o:Oper),ops[i]? = some o→∀c,o.op≠.defer c):
  ∀(l:List Nat) (a:Act) (w:World),wpOps P ops Q l a w→wpOpsIn F 0 P ops Q l a w:=by
 intro l
 induction l with
 |nil=>intro a w h;exact h
 |cons i rest ih=>
  intro a w h
  unfold wpOps at h
  unfold wpOpsIn
  cases ho:ops[i]? with
  |none=>rw[ho]at h;exact ih a w h
  |some o=>
   rw[ho]at h
   simp only at h ⊢
   split
   ·rename_i hw
    rw[if_pos hw]at h
    rcases h with h|h
    ·refine⟨fun f _=>hF.fn f,?_⟩
     have e:o.semAt F.round a.eval=execOp a.eval o:=by
      cases hr:F.round with
      |none=>rfl
      |some l=>exact Oper.semAt_eq _ _ _ (hnd i o ho)
     rw[e]
     exact upon_in hF ih hl h
    ·exact(hl h.2).elim
   ·rename_i hw
    rw[if_neg hw]at h
    exact⟨fun f _=>hF.fn f,ih _ _ h⟩
def YieldAt(P:Program)(l:Nat)(y:Value)(W:World)(R:Bool→World→Prop):Prop:=
 ∃fn tmps assign body,(Instr.yield l #[y]).run P W = .ok (.round l fn tmps assign body) W∧RoundIn Fence.wide 0 P l fn tmps assign body W (fun e W'=>∃b,e = .returned (.bool b)∧R b W')
def Its(P:Program)(f:Nat)(cps:List Cp)(xs:List R):Prop:=
 FnOk P f∧∀(w:World) (ok:Nat→Prop) (vs:List Value) (l:Nat),(∀b,ok b→b<w.heap.size)→vs.length=(cpV cps).length→(∀(i:Nat) (c:V) (x:Value),(cpV cps)[i]? = some c→vs[i]? = some x→VR ok (fun _=>.int .i64 0) [] w c x)→
  ∀(J:Nat→World→Prop) (X:World→Prop),J 0 w→(∀i W n,J i W→J i {W with drawn:=n})→(∀W n,X W→X {W with drawn:=n})→
  (∀i x W y,xs[i]? = some x→J i W→(∀b,ok b→W.heap[b]? = w.heap[b]?)→ArgsR ok W [] [x] [y]→YieldAt P l y W (fun b W'=>(∀b,ok b→W'.heap[b]? = W.heap[b]?)∧(b=true→J (i+1) W')∧(b=false→X W')))→
  Calls P f (#[.func (.yield l) #[] #[]]++vs.toArray) w (fun e W=>(∃v,e = .returned v)∧(J xs.length W∨X W))
def ItOk(P:Program)(E:Env):Prop:=∀f cps K,E.it f cps K→∃xs,Its P f cps xs∧K xs
theorem wpIn_act{F:Fence}{n:Nat}{c:Code}{Q:Exit→Act→World→Prop}{a a':Act}{w:World}(e:a=a')(h:c.wpIn F n P Q a' w):c.wpIn F n P Q a w:=e▸h
theorem not_lets{Z:Zr}(K:Ex→St→Prop):¬LetsOut (Qof B0 bx W0 ok0 Z N K):=fun⟨_,_,_,_,_,_,h⟩=>h
theorem mark_inj{Ds Ds':List Nat}(h:Ds.map mark=Ds'.map mark):Ds=Ds':=by
 induction Ds generalizing Ds' with
 |nil=>cases Ds' with
  |nil=>rfl
  |cons d r=>simp at h
 |cons d r ih=>cases Ds' with
  |nil=>simp at h
  |cons d' r'=>
   simp only[List.map_cons,List.cons.injEq]at h
   rw[ih h.2]
   have:=h.1
   simp[mark]at this
   rw[this]
open Classical in
theorem awp_sound{gl:Nat→Option Obj}(hE:EnvOk P E)(hC:CallsOk P gl C)(hI:IOk P gl I)(hT:ItOk P E)(hm:P.follows .mixedOrders=true)(fi:Fi):∀(c:Code) (inR:Bool),codeB N fi.sc inR c=true→∀(F:Fence),(F=Fence.wide∨(inR=true∧∃l,F=Fence.wide.inRound l))→
  ∀(Z:Zr),Z.gl=gl→∀(K:Ex→St→Prop) (ok:Nat→Prop) (φ:Nat→Value) (s:St) (a:Act) (w:World),
  Rel B0 bx W0 ok0 Z N ok φ s a w→awp E C I fi c s K→c.wpIn F 0 P (Qof B0 bx W0 ok0 Z N K) a w:=by
 intro c
 induction c with
 |skip=>intro _ _ F hF Z _ K ok φ s a w r h;exact wpIn_skip ⟨ok,φ,s,r,h⟩
 |exit id=>intro _ _ F hF Z _ K ok φ s a w r h;exact wpIn_exit ⟨ok,φ,s,r,h⟩
 |ret=>intro _ _ F hF Z _ K ok φ s a w r h;exact wpIn_ret ⟨ok,φ,s,r,h⟩
 |region id ops d=>
  intro inR hc F hF Z hgl K ok φ s a w r h
  subst hgl
  have hFW:FW F:=hF.imp (fun h=>h) (fun h=>h.2)
  cases d with
  |false=>
   simp only[codeB,Bool.and_eq_true]at hc
   simp only[awp]at h
   have:=aOps_sound (Q:=Qof B0 bx W0 ok0 Z N K) hE hC hI (dstB_spec hc.1) (fun ok φ s a w r h=>⟨ok,φ,_,r.endRegion fi.keep ops.toList,h⟩) ops.toList 0 (fun j=>by simp) ok φ s a w r h
   refine wpIn_region (ops_in hFW (not_lets K) (noDefB_spec hc.2) _ _ _ ?_)
   rw[List.range_eq_range']
   simpa using this
  |true=>
   simp only[codeB,Bool.and_eq_true]at hc
   simp only[awp]at h
   obtain⟨⟨⟨h1,h0⟩,h2⟩,h3⟩:=hc
   split at h
   ·exact h.elim
   rename_i sch hsch
   rw[hsch]at h3
   refine wpIn_region_draw fun t=>ops_in hFW (not_lets K) (noDefB_spec h0) _ _ _ ?_
   exact region_any hE hC hI hm h2 (dstB_spec h1) (fun ok φ s a w r h=>⟨ok,φ,_,r.endRegion fi.keep ops.toList,h⟩) (fun c a w ⟨_,_,_,_,h⟩=>h) h3 r h t
 |seq x y ih1 ih2=>
  intro inR hc F hF Z hgl K ok φ s a w r h
  subst hgl
  simp only[codeB,Bool.and_eq_true]at hc
  simp only[awp]at h
  refine wpIn_seq (wpIn_mono (ih1 inR hc.1 F hF Z rfl _ ok φ s a w r h) fun e a' w' hq=>?_)
  obtain⟨ok',φ',s',r',hk⟩:=hq
  cases e<;>simp only[Exit.then]at hk ⊢
  ·exact ih2 inR hc.2 F hF Z rfl K ok' φ' s' a' w' r' hk
  ·exact⟨ok',φ',s',r',hk⟩
  ·exact⟨ok',φ',s',r',hk⟩
 |cond c x y ih1 ih2=>
  intro inR hc F hF Z hgl K ok φ s a w r h
  subst hgl
  simp only[codeB,Bool.and_eq_true]at hc
  simp only[awp]at h
  obtain⟨b,hb,s',r',hk⟩:=aCond_sound r h
  refine wpIn_cond_split hb (fun e=>?_) (fun e=>?_)
  ·subst e;exact ih1 inR hc.1 F hF Z rfl K ok φ s' a w r' (by simpa using hk)
  ·subst e;exact ih2 inR hc.2 F hF Z rfl K ok φ s' a w r' (by simpa using hk)
 |block id b ih=>
  intro inR hc F hF Z hgl K ok φ s a w r h
  subst hgl
  simp only[codeB]at hc
  simp only[awp]at h
  refine wpIn_block (wpIn_mono (ih inR hc F hF Z rfl _ ok φ s a w r h) fun e a' w' hq=>?_)
  obtain⟨ok',φ',s',r',hk⟩:=hq
  cases e with
  |exit i=>
   simp only[Exit.inBlock]
   dsimp only at hk
   split at hk
   ·rename_i he
    rw[if_pos (Nat.eq_of_beq_eq_true he)]
    exact⟨ok',φ',s',r',hk⟩
   ·rename_i he
    rw[if_neg (fun h=>by subst h;simp at he)]
    exact⟨ok',φ',s',r',hk⟩
  |normal=>exact⟨ok',φ',s',r',hk⟩
  |ret=>exact⟨ok',φ',s',r',hk⟩
  |goto l=>exact hk.elim
  |panic ch=>exact hk.elim
  |outgrown=>exact hk.elim
 |loop b ih=>
  intro inR hc F hF Z hgl K ok φ s a w r h
  subst hgl
  simp only[codeB]at hc
  simp only[awp]at h
  split at h
  ·exact h.elim
  rename_i live dk hlp
  have go:∀(J:Nat→St→Prop) (Kp:Nat→Ex→St→Prop),(∃n,J n (nilOwn (match lk fi.cv (codeId b)with|some cv=>cv|none=>[]) (clean live dk s)))→
    (∀n e s'',Kp n e s''→match e with | .normal=>∃m,m<n∧J m (nilOwn (match lk fi.cv (codeId b)with|some cv=>cv|none=>[]) (clean live dk s''))|e=>K e s'')→
    (∀n s',J n s'→awp E C I fi b s' (Kp n))→(Code.loop b).wpIn F 0 P (Qof B0 bx W0 ok0 Z N K) a w:=by
   intro J Kp ⟨n0,h0⟩ hKp hstep
   let p:Act→World→Nat→Prop:=fun a w n=>∃ok φ s,J n s∧Rel B0 bx W0 ok0 Z N ok φ s a w
   refine wpIn_loop (fun a w=>∃n,p a w n) (fun a w=>least? (p a w)) (by obtain⟨okc,φc,_,rc⟩:=Rel.nilOwn (match lk fi.cv (codeId b)with|some cv=>cv|none=>[]) (r.clean live dk);exact⟨n0,okc,φc,_,h0,rc⟩) fun a' w' hp=>?_
   obtain⟨⟨ok1,φ1,s1,hj,r1⟩,_⟩:=least?_spec hp
   refine wpIn_mono (ih inR hc F hF Z rfl _ ok1 φ1 s1 a' w' r1 (hstep _ _ hj)) fun e a2 w2 hq=>?_
   obtain⟨ok2,φ2,s2,r2,hk⟩:=hq
   cases e with
   |normal=>
    simp only[Exit.then]
    dsimp only at hk
    obtain⟨m,hm',hJ⟩:=hKp _ _ _ hk
    have hp2:p a2 w2 m:=by
     obtain⟨okc,φc,_,rc⟩:=Rel.nilOwn (match lk fi.cv (codeId b)with|some cv=>cv|none=>[]) (r2.clean live dk)
     exact⟨okc,φc,_,hJ,rc⟩
    exact⟨⟨m,hp2⟩,Nat.lt_of_le_of_lt ((least?_spec ⟨m,hp2⟩).2 m hp2) hm'⟩
   |exit i=>exact⟨ok2,φ2,s2,r2,hKp _ _ _ hk⟩
   |ret=>exact⟨ok2,φ2,s2,r2,hKp _ _ _ hk⟩
   |goto l=>exact hk.elim
   |panic ch=>exact hk.elim
   |outgrown=>exact hk.elim
  split at h
  ·obtain⟨J,h0,hstep⟩:=h
   exact go J _ h0 (fun n e s'' hk=>hk) (fun n s' hj=>hstep n s' hj)
  ·rename_i l hl
   obtain⟨x0,⟨h1,n,h2⟩,h3⟩:=h
   refine go (fun n s=>∃x,s=l.sh x∧l.P x0 n x) (fun n e s''=>match e with | .normal=>∃m x',m<n∧nilOwn (match lk fi.cv (codeId b)with|some cv=>cv|none=>[]) (clean live dk s'')=l.sh x'∧l.P x0 m x'|e=>K e s'') ⟨n,x0,h1,h2⟩ (fun n e s'' hk=>?_) ?_
   ·cases e with
    |normal=>obtain⟨m,x',h4,h5,h6⟩:=hk;exact⟨m,h4,x',h5,h6⟩
    |exit id=>exact hk
    |ret=>exact hk
   ·rintro n s' ⟨x,rfl,hp⟩
    exact h3 n x hp
 |rangeFunc g ps assign body ih1 ih2=>
  intro inR hc F hF Z hgl K ok φ s a w r h
  subst hgl
  simp only[codeB,Bool.and_eq_true,Bool.not_eq_true']at hc
  obtain⟨⟨⟨hinR,hps⟩,hca⟩,hcb⟩:=hc
  have hFw:F=Fence.wide:=by
   rcases hF with hF|⟨h,_⟩
   ·exact hF
   ·rw[hinR]at h;cases h
  subst hFw
  simp only[awp]at h
  split at h
  rotate_left
  ·exact h.elim
  rename_i p live dk f caps hpl hlp hfe
  have hps':ps = #[p]:=by rw[←hpl]
  subst hps'
  have hpN:p<N:=by simpa using hps
  split at h
  ·exact h.elim
  rename_i cps s1 hfz
  have hvg:=vr_ev r (g:=[]) (fun t b h=>by cases h) g
  rw[hfe]at hvg
  generalize hav:a.eval g=gv at hvg
  cases hvg
  rename_i lb hlb hvl
  obtain⟨ok1,r1,hok1,hcl,hcv⟩:=frzCaps_sound (vs:=lb.toList) r (by simpa using hlb) (fun i c x h1 h2=>hvl i c x h1 (by simpa using h2)) hfz
  obtain⟨xs,hits,hxs⟩:=hT _ _ _ h
  have hxs':∃(J:Nat→St→Prop) (Ka:Nat→Ex→St→Prop) (Kb:Nat→Ex→St→Prop),J 0 (nilOwn (match lk fi.cv (codeId assign)with|some cv=>cv|none=>[]) (clean live dk s1))∧
    (∀(i:Nat) (x:R) (s':St),xs[i]? = some x→J i s'→match ofX x with|none=>False|some v=>awp E C I fi assign (rnd s' p v) (Ka i))∧
    (∀i e s1,Ka i e s1→match e with | .normal=>awp E C I fi body s1 (Kb i)|_=>False)∧
    (∀i e s2,Kb i e s2→match e with | .normal=>J (i+1) (nilOwn (match lk fi.cv (codeId assign)with|some cv=>cv|none=>[]) (clean live dk (bak s2)))|e=>K e (clean live dk (bak s2)))∧
    ∀s',J xs.length s'→K .normal s':=by
   split at hxs
   ·obtain⟨J,hJ0,hJr,hJe⟩:=hxs
    exact⟨J,_,_,hJ0,fun i x s' h1 h2=>hJr i x s' h1 h2,fun i e s1 hk=>hk,fun i e s2 hk=>hk,hJe⟩
   ·rename_i l hl
    obtain⟨x0,⟨h1,h2⟩,hel,h3,h4⟩:=hxs
    refine⟨fun i s=>∃x,s=l.sh x∧l.P x0 i x,
     fun i e s1=>match e with | .normal=>awp E C I fi body s1 (fun e s2=>match e with | .normal=>∃x',nilOwn (match lk fi.cv (codeId assign)with|some cv=>cv|none=>[]) (clean live dk (bak s2))=l.sh x'∧l.P x0 (i+1) x'|e=>K e (clean live dk (bak s2)))|_=>False,
     fun i e s2=>match e with | .normal=>∃x',nilOwn (match lk fi.cv (codeId assign)with|some cv=>cv|none=>[]) (clean live dk (bak s2))=l.sh x'∧l.P x0 (i+1) x'|e=>K e (clean live dk (bak s2)),
     ⟨x0,h1,h2⟩,?_,fun i e s1 hk=>by cases e<;>exact hk,fun i e s2 hk=>by cases e<;>exact hk,?_⟩
    ·rintro i y s' hy ⟨x,rfl,hp⟩
     obtain⟨z,rfl⟩:=hel i y hy
     have:=h3 i z x hy hp
     cases hof:ofX (l.el z)with
     |none=>rw[hof]at this;exact this.elim
     |some v=>rw[hof]at this;exact this
    ·rintro s' ⟨x,rfl,hp⟩
     exact h4 x hp
  obtain⟨J,Ka,Kb,hJ0,hJr,hKa,hKb,hJe⟩:=hxs'
  obtain⟨Ds,hDn,hDd,hDl⟩:=r1.df
  refine wpIn_rangeFunc ?_
  intro fn hfn
  obtain⟨rec,hrec⟩:∃rec:LoopState→Option Code→Loop,rec=fun st pe=>{state:=st,pending:=pe,fn,tmps:=a.tmps,params:=#[p],assign,body,defers:=w.heap.size}:=⟨_,rfl⟩
  obtain⟨W1,hW1⟩:∃W1,(w.alloc (.deferred (some []))).alloc (.loop (rec .ready none))=W1:=⟨_,rfl⟩
  have hsz:W1.heap.size=w.heap.size+2:=by rw[←hW1];simp
  have hL1:W1.heap[w.heap.size+1]? = some (.loop (rec .ready none)):=by
   rw[←hW1];have:=World.alloc_heap_new (w.alloc (.deferred (some []))) (.loop (rec .ready none));rwa[World.size_alloc]at this
  have hold:∀b,b<w.heap.size→W1.heap[b]? = w.heap[b]?:=fun b hb=>by
   rw[←hW1];exact(heap_alloc_old _ _ b (by simp;omega)).trans (heap_alloc_old w _ b hb)
  have hK1:W1.heap[w.heap.size]? = some (.deferred (some [])):=by
   rw[←hW1];exact(heap_alloc_old _ _ _ (by simp)).trans (World.alloc_heap_new w _)
  have hUp:Upd [] w.heap.size w W1:=⟨by rw[←hW1];rfl,by rw[←hW1];rfl,by rw[←hW1];rfl,by omega,fun k hk _=>hold k hk⟩
  have hBw:=r.b0
  have rW:=r1.later hUp
  let ok2:Nat→Prop:=fun b=>ok1 b∨b=w.heap.size∨b=w.heap.size+1
  have rW2:Rel B0 bx W0 ok0 Z N ok2 φ s1 a W1:=rW.addOk (fun b hb=>.inl hb) (fun b hb=>by
   rcases hb with hb|rfl|rfl
   ·exact rW.okl b hb
   ·omega
   ·omega) (fun b hb=>by
   rcases hb with hb|rfl|rfl
   ·exact rW.oks b hb
   ·exact .inr hBw
   ·exact .inr (by omega)) (fun k b g' hk ha hg=>by
   have h1:=(rW.act k b g' hk ha hg).1
   have h2:=(r1.hp k b hk).block_lt ha hg
   rintro(hx|rfl|rfl)
   ·exact h1 hx
   ·omega
   ·omega)
  let J':Nat→World→Prop:=fun i W=>∃ok' φ' s',J i s'∧Rel B0 bx W0 ok0 Z N ok' φ' s' a W∧(∀b,ok2 b→ok' b)∧W.heap[w.heap.size+1]? = some (.loop (rec .ready none))∧W.heap[w.heap.size]? = some (.deferred (some []))∧
   ∀D∈Ds,W.heap[D]? = some (.deferred (some []))
  let X':World→Prop:=fun W=>∃c ok' φ' s',Rel B0 bx W0 ok0 Z N ok' φ' s' a W∧((c=Code.ret∧K .ret s')∨∃id,c=Code.exit id∧K (.exit id) s')∧(∀b,ok2 b→ok' b)∧W.heap[w.heap.size+1]? = some (.loop (rec .done (some c)))∧W.heap[w.heap.size]? = some (.deferred (some []))∧
   ∀D∈Ds,W.heap[D]? = some (.deferred (some []))
  have hZL:∀o,Z.z (w.heap.size+1)≠some o:=fun o hz=>by
   have:=(Array.getElem?_eq_some_iff.1 (r.kz _ o hz).2).1;omega
  have hDlt:∀D∈Ds,D<w.heap.size:=fun D hD=>(Array.getElem?_eq_some_iff.1 (hDl D hD).2.2).1
  have hcall:=hits.2 W1 ok1 lb.toList (w.heap.size+1) (fun b hb=>rW.okl b hb) hcl.symm (fun i c x h1 h2=>(hcv i c x h1 h2).bare (fun _ h=>h) (fun b hb=>hold b (r1.okl b hb))) J' X' ?_ ?_ ?_ ?_
  ·refine⟨w.heap.size+1,[mark w.heap.size],W1,{target:=.fn (.func f) lb,args:=#[.func (.yield (w.heap.size+1)) #[] #[]]},W1,f,
    #[.func (.yield (w.heap.size+1)) #[] #[]]++lb,W1,?_,?_,fun _ _=>trivial,?_,fun h=>by simp[Fence.wide]at h,?_⟩
   ·rw[←hW1,hrec];exact run_enterLoop_outer _ _ _ _ _
   ·simp only[resolve,hav,Sem.run_bind,Deferred.ofValue,Sem.run_pure,Result.andThen_ok]
    simp[Act.eval]
   ·simp only[invoke]
    rw[run_callFunc hits.1]
   ·refine(callsIn_wide.2 hcall).mono ?_
    rintro e W ⟨⟨v,rfl⟩,hW⟩
    have fin:∀(ok':Nat→Prop) (φ':Nat→Value) (s':St) (st:LoopState) (pe:Option Code),Rel B0 bx W0 ok0 Z N ok' φ' s' a W→(∀b,ok2 b→ok' b)→W.heap[w.heap.size+1]? = some (.loop (rec st pe))→W.heap[w.heap.size]? = some (.deferred (some []))→
      (∀D∈Ds,W.heap[D]? = some (.deferred (some [])))→Rel B0 bx W0 ok0 Z N ok' φ' s' {a with defers:=[mark w.heap.size]++a.defers} (W.putObj (w.heap.size+1) (.loop {rec st pe with state:=.exhausted})):=by
     intro ok' φ' s' st pe r' hok' hL hD hDs
     refine r'.turn hL rfl rfl (by omega) Z (fun b o hz=>?_) rfl (by exact r'.zs) rfl ⟨w.heap.size::Ds,List.nodup_cons.2 ⟨fun hm=>by have:=hDlt _ hm;omega,hDn⟩,by simp[hDd],fun D hD'=>?_⟩
     ·have hne:b≠w.heap.size+1:=by rintro rfl;exact hZL o hz
      exact⟨(r'.kz b o hz).1,(World.putObj_heap_other hne).trans (r'.kz b o hz).2⟩
     ·rcases List.mem_cons.1 hD' with rfl|hD'
      ·exact⟨⟨hBw,r.zs⟩,hok' _ (.inr (.inl rfl)),(World.putObj_heap_other (by omega)).trans hD⟩
      ·have:=hDlt D hD'
       exact⟨(hDl D hD').1,hok' _ (.inl (hDl D hD').2.1),(World.putObj_heap_other (by omega)).trans (hDs D hD')⟩
    have he:∀st pe,st≠LoopState.busy→W.heap[w.heap.size+1]? = some (.loop (rec st pe))→(Instr.endLoop (w.heap.size+1)).run P W = .ok pe (W.putObj (w.heap.size+1) (.loop {rec st pe with state:=.exhausted})):=by
     intro st pe hst hL
     have:=run_endLoop (P:=P) hL (by rw[hrec];exact hst)
     rw[hrec]at this ⊢;exact this
    rcases hW with⟨ok',φ',s',hJ',r',hok',hL,hD,hDs⟩|⟨c,ok',φ',s',r',hc',hok',hL,hD,hDs⟩
    ·exact⟨none,_,he _ _ (by simp) hL,ok',φ',s',fin ok' φ' s' _ _ r' hok' hL hD hDs,hJe s' hJ'⟩
    ·refine⟨some c,_,he _ _ (by simp) hL,?_⟩
     have rf:=fin ok' φ' s' _ _ r' hok' hL hD hDs
     rcases hc' with⟨rfl,hk⟩|⟨id,rfl,hk⟩
     ·exact wpIn_ret ⟨ok',φ',s',rf,hk⟩
     ·exact wpIn_exit ⟨ok',φ',s',rf,hk⟩
  ·obtain⟨okc,φc,hoc,rc⟩:=Rel.nilOwn (match lk fi.cv (codeId assign)with|some cv=>cv|none=>[]) (rW2.clean live dk)
   exact⟨okc,φc,_,hJ0,rc,hoc,hL1,hK1,fun D hD=>(hold D (hDlt D hD)).trans (hDl D hD).2.2⟩
  ·rintro i W n ⟨ok',φ',s',h1,h2,h3⟩
   exact⟨ok',φ',s',h1,h2.later ⟨rfl,rfl,rfl,Nat.le_refl _,fun _ _ _=>rfl⟩,h3⟩
  ·rintro W n ⟨c,ok',φ',s',h1,h2,h3⟩
   exact⟨c,ok',φ',s',h1.later ⟨rfl,rfl,rfl,Nat.le_refl _,fun _ _ _=>rfl⟩,h2,h3⟩
  ·rintro i x W y hx ⟨ok',φ',s',hJi,r',hok',hL,hD,hDs⟩ hsame hA
   have hround:=hJr i x s' hx hJi
   split at hround
   ·exact hround.elim
   rename_i v hv
   have hyv:VR ok' φ' s'.hp W v y:=by
    cases hA with
    |d h _=>simp only[ofX,Option.some.injEq]at hv;subst hv;exact .d (h.mono (fun b hb=>hok' b (.inl hb)) (fun _ _=>rfl))
    |agg hs h _=>
     simp only[ofX,Option.some.injEq]at hv;subst hv
     exact vd_agg hs (fun i d x hc hx=>(h i d x hc hx).mono (fun b hb=>hok' b (.inl hb)) (fun _ _=>rfl))
    |ptr h _=>cases hv
    |fn h _=>cases hv
   have hy:=run_yield (P:=P) (args:=#[y]) hL (by rw[hrec];rfl)
   rw[hrec]at hy
   refine⟨fn,_,assign,body,hy,?_⟩
   let Z1:Zr:={n:=W.heap.size,z:=fun b=>if ok' b then W.heap[b]? else none,ro:=fun d t=>(match d with|0=>a.tmps.getD t undef|d+1=>Z.ro d t),gl:=Z.gl,sub:=fun b o h=>(if_pos (r'.kz b o (Z.sub b o h)).1).trans (r'.kz b o (Z.sub b o h)).2}
   have hZ1:∀b o,Z1.z b=some o→ok' b∧W.heap[b]? = some o:=fun b o h=>by
    simp only[Z1]at h
    split at h
    ·rename_i hb;exact⟨hb,h⟩
    ·cases h
   have hpa:p<a.tmps.size:=by rw[r'.sz];exact hpN
   have rR:Rel B0 bx W0 ok0 Z1 N ok' φ' (rnd s' p v) {tmps:=(a.put (some p) y).tmps,defers:=[]} W:=by
    refine r'.reZ Z1 hZ1 (Nat.le_refl _) rfl rfl ?_ (fun t u hu=>?_) (fun t b hb=>by simp[rnd,lk]at hb) (fun d l t u hd hu=>?_) ⟨[],by simp,rfl,by simp⟩
    ·simp only[Act.put,Array.size_setIfInBounds];exact r'.sz
    ·simp only[rnd]at hu
     rw[lk_pt]at hu
     rw[put_getD a p t y hpa]
     by_cases e:p=t
     ·subst e
      rw[if_pos rfl]at hu ⊢
      simp only[Option.some.injEq]at hu
      subst hu;exact hyv
     ·rw[if_neg e]at hu
      rw[if_neg (Ne.symm e)]
      exact r'.tm t u hu
    ·cases d with
     |zero=>simp only[rnd,nth,Option.some.injEq]at hd;subst hd;exact r'.tm t u hu
     |succ d=>exact r'.rt d l t u hd hu
   have hFr:∀l,(Fence.wide.inRound l=Fence.wide∨(true=true∧∃l',Fence.wide.inRound l=Fence.wide.inRound l')):=fun l=>.inr ⟨rfl,l,rfl⟩
   have hasg:=ih1 true hca _ (hFr (w.heap.size+1)) Z1 rfl _ ok' φ' _ _ W rR hround
   refine roundIn_of_wpIn (n:=0) trivial ?_
   refine wpIn_act (a':={tmps:=(a.put (some p) y).tmps,defers:=[]}) (by simp[Act.put]) (wpIn_mono hasg ?_)
   rintro e a3 W3 ⟨ok3,φ3,s3,r3,hk3⟩
   cases e<;>simp only[Exit.then]at hk3 ⊢<;>first|exact hk3.elim|exact(hKa _ _ _ hk3).elim|skip
   have hk3:=hKa _ _ _ hk3
   dsimp only at hk3
   have hkeep3:∀b,ok' b→b<W.heap.size→ok3 b∧W3.heap[b]? = W.heap[b]?:=fun b hb hlt=>by
    have hz:Z1.z b=some W.heap[b]:=by
     simp only[Z1];rw[if_pos hb];simp[hlt]
    obtain⟨e1,e2⟩:=r3.kz b _ hz
    exact⟨e1,by rw[e2];simp[hlt]⟩
   have hLok:ok' (w.heap.size+1):=hok' _ (.inr (.inr rfl))
   have hDok:ok' w.heap.size:=hok' _ (.inr (.inl rfl))
   have hL3:W3.heap[w.heap.size+1]? = some (.loop (rec .ready none)):=(hkeep3 _ hLok (r'.okl _ hLok)).2.trans hL
   refine⟨_,run_beginRound hL3 (by rw[hrec]),?_⟩
   obtain⟨W4,hW4⟩:∃W4,W3.putObj (w.heap.size+1) (.loop {rec .ready none with state:=.busy})=W4:=⟨_,rfl⟩
   rw[hW4]
   have hL4:W4.heap[w.heap.size+1]? = some (.loop {rec .ready none with state:=.busy}):=by rw[←hW4];exact World.putObj_heap_same (Array.getElem?_eq_some_iff.1 hL3).1
   let Z2:Zr:={n:=W.heap.size,z:=fun b=>if b=w.heap.size+1 then some (.loop {rec .ready none with state:=.busy})else if ok' b then W.heap[b]? else none,ro:=Z1.ro,gl:=Z.gl,sub:=fun b o h=>(if_neg (by have:=(Array.getElem?_eq_some_iff.1 (r.kz b o (Z.sub b o h)).2).1;omega)).trans ((if_pos (r'.kz b o (Z.sub b o h)).1).trans (r'.kz b o (Z.sub b o h)).2)}
   have r4:Rel B0 bx W0 ok0 Z2 N ok3 φ3 s3 a3 W4:=by
    rw[←hW4]
    refine r3.turn hL3 rfl rfl (by omega) Z2 (fun b o hz=>?_) rfl (by exact r3.zs) rfl ?_
    ·simp only[Z2]at hz
     split at hz
     ·rename_i hb;subst hb
      exact⟨(hkeep3 _ hLok (r'.okl _ hLok)).1,by rw[hW4,hL4];exact hz⟩
     ·rename_i hb
      split at hz
      ·rename_i hb'
       obtain⟨e1,e2⟩:=hkeep3 b hb' (r'.okl b hb')
       exact⟨e1,(World.putObj_heap_other hb).trans (e2.trans hz)⟩
      ·cases hz
    ·obtain⟨Ds3,e1,e2,e3⟩:=r3.df
     refine⟨Ds3,e1,e2,fun D hD=>⟨(e3 D hD).1,(e3 D hD).2.1,?_⟩⟩
     rw[World.putObj_heap_other (by rintro rfl;have:=(e3 _ hD).2.2;rw[hL3]at this;cases this)]
     exact(e3 D hD).2.2
   refine wpIn_mono (ih2 true hcb _ (hFr (w.heap.size+1)) Z2 rfl _ ok3 φ3 s3 a3 W4 r4 hk3) ?_
   rintro e a5 W5 ⟨ok5,φ5,s5,r5,hk5'⟩
   have hL5:W5.heap[w.heap.size+1]? = some (.loop {rec .ready none with state:=.busy}):=(r5.kz (w.heap.size+1) (.loop {rec .ready none with state:=.busy}) (by simp[Z2])).2
   have hLok5:ok5 (w.heap.size+1):=(r5.kz (w.heap.size+1) (.loop {rec .ready none with state:=.busy}) (by simp[Z2])).1
   have hkeep5:∀b,ok' b→b≠w.heap.size+1→ok5 b∧W5.heap[b]? = W.heap[b]?:=fun b hb hne=>by
    have hlt:=r'.okl b hb
    have hz:Z2.z b=some W.heap[b]:=by
     simp only[Z2];rw[if_neg hne,if_pos hb];simp[hlt]
    obtain⟨e1,e2⟩:=r5.kz b _ hz
    exact⟨e1,by rw[e2];simp[hlt]⟩
   have back:∀(o':Loop),Rel B0 bx W0 ok0 Z N ok5 φ5 (bak s5) a (W5.putObj (w.heap.size+1) (.loop o'))∧(∀b,ok2 b→ok5 b)∧(W5.putObj (w.heap.size+1) (.loop o')).heap[w.heap.size+1]? = some (.loop o')∧
     (W5.putObj (w.heap.size+1) (.loop o')).heap[w.heap.size]? = some (.deferred (some []))∧(∀D∈Ds,(W5.putObj (w.heap.size+1) (.loop o')).heap[D]? = some (.deferred (some [])))∧
     ∀b,ok1 b→(W5.putObj (w.heap.size+1) (.loop o')).heap[b]? = W.heap[b]?:=fun o'=>by
    have hDs5:∀D∈Ds,(W5.putObj (w.heap.size+1) (.loop o')).heap[D]? = some (.deferred (some [])):=fun D hD=>by
     have:=hDlt D hD
     rw[World.putObj_heap_other (by omega),(hkeep5 D (hok' D (.inl (hDl D hD).2.1)) (by omega)).2]
     exact hDs D hD
    have ht:Rel B0 bx W0 ok0 ⟨W.heap.size,fun _=>none,Z1.ro,fun _=>none,fun _ _ h=>h⟩ N ok5 φ5 s5 a5 (W5.putObj (w.heap.size+1) (.loop o')):=by
     refine r5.turn hL5 rfl rfl (by omega) ⟨W.heap.size,fun _=>none,Z1.ro,fun _=>none,fun _ _ h=>h⟩ (fun b o hz=>by cases hz) rfl (by exact r5.zs) rfl ?_
     obtain⟨Ds3,e1,e2,e3⟩:=r5.df
     refine⟨Ds3,e1,e2,fun D hD=>⟨(e3 D hD).1,(e3 D hD).2.1,?_⟩⟩
     rw[World.putObj_heap_other (by rintro rfl;have:=(e3 _ hD).2.2;rw[hL5]at this;cases this)]
     exact(e3 D hD).2.2
    refine⟨?_,fun b hb=>?_,World.putObj_heap_same (Array.getElem?_eq_some_iff.1 hL5).1,?_,hDs5,fun b hb=>?_⟩
    ·refine ht.reZ Z (fun b o hz=>?_) ?_ ?_ ?_ r'.sz (fun t u hu=>?_) (fun t b hb=>?_) (fun d l t u hd hu=>?_) ⟨Ds,hDn,hDd,fun D hD=>⟨(hDl D hD).1,?_,hDs5 D hD⟩⟩
     ·obtain⟨e1,e2⟩:=r'.kz b o hz
      have hne:b≠w.heap.size+1:=by rintro rfl;exact hZL o hz
      obtain⟨e3,e4⟩:=hkeep5 b e1 hne
      exact⟨e3,(World.putObj_heap_other hne).trans (e4.trans e2)⟩
     ·exact Nat.le_trans r'.zs (by simpa using r5.zs)
     ·unfold bak;split<;>rfl
     ·unfold bak;split<;>rfl
     ·unfold bak at hu
      split at hu
      ·rename_i tm rt hrt
       exact ht.rt 0 tm t u (by rw[hrt];rfl) hu
      ·simp[lk]at hu
     ·unfold bak at hb
      split at hb<;>simp[lk]at hb
     ·unfold bak at hd
      split at hd
      ·rename_i tm rt hrt
       exact ht.rt (d+1) l t u (by rw[hrt];exact hd) hu
      ·simp[nth]at hd
     ·have:=hDlt D hD
      exact(hkeep5 D (hok' D (.inl (hDl D hD).2.1)) (by omega)).1
    ·by_cases e:b=w.heap.size+1
     ·subst e;exact hLok5
     ·exact(hkeep5 b (hok' b hb) e).1
    ·rw[World.putObj_heap_other (by omega),(hkeep5 _ hDok (by omega)).2];exact hD
    ·have hlt:=r1.okl b hb
     rw[World.putObj_heap_other (by omega),(hkeep5 b (hok' b (.inl hb)) (by omega)).2]
   have hk5:(match e with | .normal=>J (i+1) (nilOwn (match lk fi.cv (codeId assign)with|some cv=>cv|none=>[]) (clean live dk (bak s5))) | .exit i=>K (.exit i) (clean live dk (bak s5)) | .ret=>K .ret (clean live dk (bak s5))|_=>False):=by
    cases e<;>first|exact hk5'.elim|exact hKb _ _ _ hk5'
   cases e with
   |normal=>
    have he:=run_endRound (P:=P) none hL5
    obtain⟨b1,b2,b3,b4,b5,b6⟩:=back {{rec .ready none with state:=.busy} with state:=.ready,pending:=none}
    refine⟨_,_,he,true,rfl,b6,fun _=>?_,fun h=>by cases h⟩
    obtain⟨okc,φc,hoc,rc⟩:=Rel.nilOwn (match lk fi.cv (codeId assign)with|some cv=>cv|none=>[]) (b1.clean live dk)
    exact⟨okc,φc,_,hk5,rc,fun b hb=>hoc b (b2 b hb),by rw[hrec]at b3 ⊢;exact b3,b4,b5⟩
   |ret=>
    have he:=run_endRound (P:=P) (some .ret) hL5
    obtain⟨b1,b2,b3,b4,b5,b6⟩:=back {{rec .ready none with state:=.busy} with state:=.done,pending:=some .ret}
    exact⟨_,_,he,false,rfl,b6,fun h=>(by cases h),fun _=>⟨.ret,ok5,φ5,_,b1.clean live dk,.inl ⟨rfl,hk5⟩,b2,by rw[hrec]at b3 ⊢;exact b3,b4,b5⟩⟩
   |exit id=>
    have he:=run_endRound (P:=P) (some (.exit id)) hL5
    obtain⟨b1,b2,b3,b4,b5,b6⟩:=back {{rec .ready none with state:=.busy} with state:=.done,pending:=some (.exit id)}
    exact⟨_,_,he,false,rfl,b6,fun h=>(by cases h),fun _=>⟨.exit id,ok5,φ5,_,b1.clean live dk,.inr ⟨id,rfl,hk5⟩,b2,by rw[hrec]at b3 ⊢;exact b3,b4,b5⟩⟩
   |goto l=>exact hk5.elim
   |panic ch=>exact hk5.elim
   |outgrown=>exact hk5.elim
 |_=>intro _ _ F hF Z _ K ok φ s a w r h;exact h.elim
end Go.Dm
namespace Go.Dm
variable {P:Program} {E:Env} {C:CallT} {I:Nat→List V→List V→St→(V→St→Prop)→Prop}
variable {B0:Nat} {bx:List Nat} {W0:World} {ok0:Nat→Prop} {Z:Zr} {N:Nat}
variable {ok:Nat→Prop} {φ:Nat→Value} {s:St} {a:Act} {w:World}
theorem Rel.lay(r:Rel B0 bx W0 ok0 Z N ok φ s a w)(t:Nat){x:V}(h:VR ok φ s.hp w x (a.tmps.getD t undef)):Rel B0 bx W0 ok0 Z N ok φ {s with tm:=pt s.tm t x} a w:=
 {r with
  tm:=fun u y hy=>by
    dsimp only at hy
    rw[lk_pt]at hy
    by_cases e:t=u
    ·subst e;simp at hy;subst hy;exact h
    ·rw[if_neg e]at hy;exact r.tm u y hy}
theorem argsSt_rel{rs:List R}{vs:List Value}{bs:List Nat}(hA:ArgsR ok w bs rs vs):∀(t:Nat) (pre:List Nat) (φ:Nat→Value) (s:St),(pre++bs).Nodup→(∀b∈bs,b<B0∧¬ok b)→
  (∀(i:Nat) (v:Value),vs[i]? = some v→a.tmps.getD (t+i) undef=v)→(∀k,100000+pre.length≤k→lk s.hp k=none)→
  (∀k b g,lk s.hp k=some b→blockOf (φ k)=some g→g∈pre)→Rel B0 pre W0 ok0 Z N ok φ s a w→∃φ',Rel B0 (pre++bs) W0 ok0 Z N ok φ' (argsSt rs t (100000+pre.length) s) a w:=by
 induction hA with
 |nil=>intro t pre φ s _ _ _ _ _ r;exact⟨φ,by simpa[argsSt]using r⟩
 | @d bs rs vs x v hrd hA ih=>
   intro t pre φ s hn hb hv hk hg r
   have h0:=hv 0 v rfl
   exact ih (t+1) pre φ _ hn hb (fun i v h=>by rw[Nat.add_assoc,Nat.add_comm 1 i];exact hv (i+1) v (by simpa using h)) hk hg (r.lay t (x:=.d x) (by rw[Nat.add_zero]at h0;rw[h0];exact .d hrd))
 | @agg bs rs vs cs xs hs hrd hA ih=>
   intro t pre φ s hn hb hv hk hg r
   have h0:=hv 0 _ rfl
   exact ih (t+1) pre φ _ hn hb (fun i v h=>by rw[Nat.add_assoc,Nat.add_comm 1 i];exact hv (i+1) v (by simpa using h)) hk hg (r.lay t (x:=.agg (vd cs)) (by rw[Nat.add_zero]at h0;rw[h0];exact vd_agg hs hrd))
 | @ptr bs rs vs cs v hrd hA ih=>
   intro t pre φ s hn hb hv hk hg r
   have h0:=hv 0 v rfl
   exact ih (t+1) pre φ _ hn hb (fun i v h=>by rw[Nat.add_assoc,Nat.add_comm 1 i];exact hv (i+1) v (by simpa using h)) hk hg (r.lay t (x:=.dptr cs) (by rw[Nat.add_zero]at h0;rw[h0];exact hrd.bare (fun _ h=>h) (fun _ _=>rfl)))
 | @fn bs rs vs f caps v hrd hA ih=>
   intro t pre φ s hn hb hv hk hg r
   have h0:=hv 0 v rfl
   exact ih (t+1) pre φ _ hn hb (fun i v h=>by rw[Nat.add_assoc,Nat.add_comm 1 i];exact hv (i+1) v (by simpa using h)) hk hg (r.lay t (x:=.fn f (cpV caps)) (by rw[Nat.add_zero]at h0;rw[h0];exact hrd.bare (fun _ h=>h) (fun _ _=>rfl)))
 | @box bs rs vs cs n hrow hA ih=>
   intro t pre φ s hn hb hv hk hg r
   have h0:=hv 0 _ rfl
   rw[Nat.add_zero]at h0
   have hnn:n∉pre:=fun hm=>by
    have:=List.nodup_append.1 hn
    exact this.2.2 n hm n (by simp) rfl
   have hne:∀k b,lk s.hp k=some b→b.active=true→blockOf (φ k)≠some n:=fun k b h1 _ h2=>hnn (hg k b n h1 h2)
   have hkey:=hk (100000+pre.length) (Nat.le_refl _)
   obtain⟨r1,hm⟩:=r.adopt' (bx':=pre++[n]) (fun g hg=>by simp[hg]) (key:=100000+pre.length) (n:=n) (cs:=cs) hkey (hb n (by simp)).2 (.inr (by simp)) hne hrow (fun i g hi=>by
    rw[List.getElem?_append]at hi
    split at hi
    ·rename_i hlt
     obtain⟨e1,cs',e2⟩:=r.pin i g hi
     have hne':100000+pre.length≠100000+i:=by omega
     exact⟨by simp only[updF];rw[if_neg (Ne.symm hne')];exact e1,cs',by rw[lk_pt,if_neg hne'];exact e2⟩
    ·rename_i hge
     have hi0:i-pre.length=0:=by
      cases hc:i-pre.length with
      |zero=>rfl
      |succ m=>rw[hc]at hi;simp at hi
     rw[hi0]at hi
     simp at hi;subst hi
     have:i=pre.length:=by omega
     subst this
     exact⟨by simp[updF],vd cs,by simp[lk_pt]⟩)
   have r2:=r1.lay t (x:=.ref (100000+pre.length) 0) (by
    rw[h0]
    exact .ref (cs:=vd cs) (by simp[St.setB,lk_pt]) (by simp[updF]))
   have hn':((pre++[n])++bs).Nodup:=by simpa using hn
   have hlen:100000+(pre++[n]).length=100000+pre.length+1:=by simp;omega
   obtain⟨φ',r3⟩:=ih (t+1) (pre++[n]) _ _ hn' (fun b h=>hb b (by simp[h])) (fun i v h=>by rw[Nat.add_assoc,Nat.add_comm 1 i];exact hv (i+1) v (by simpa using h)) (fun k hk'=>by
    simp only[St.setB]
    rw[lk_pt,if_neg (by omega)]
    exact hk k (by omega)) (fun k b g h1 h2=>by
    simp only[St.setB]at h1
    rw[lk_pt]at h1
    by_cases e:100000+pre.length=k
    ·subst e
     simp only[updF,if_true,blockOf,Option.some.injEq]at h2
     simp[h2]
    ·rw[if_neg e]at h1
     simp only[updF,if_neg (Ne.symm e)]at h2
     simp[hg k b g h1 h2]) r2
   refine⟨φ',?_⟩
   rw[hlen]at r3
   simpa[argsSt,List.append_assoc,St.setB]using r3
theorem boxKeys_eq{rs:List R}{vs:List Value}{bs:List Nat}(hA:ArgsR ok w bs rs vs):∀key,boxKeys rs key=List.range' key bs.length:=by
 induction hA with
 |nil=>intro key;rfl
 |d _ _ ih=>intro key;exact ih key
 |agg _ _ _ ih=>intro key;exact ih key
 |ptr _ _ ih=>intro key;exact ih key
 |fn _ _ ih=>intro key;exact ih key
 |box _ _ ih=>intro key;simp only[boxKeys,List.length_cons,List.range'_succ];rw[ih]
def ResRun(P:Program)(tmps:Array Value)(w:World)(rs:List ResultVar)(ys:List Value):Prop:=
 ∀f:ResultVar→Sem Value,(∀u,f (.tmp u)=pure (tmps.getD u undef))→(∀p t,f (.cell p t)=(do loadVar t (←asAddr (tmps.getD p undef))))→(rs.mapM f).run P w = .ok ys w
theorem resV_sound(hE:EnvOk P E)(r:Rel B0 bx W0 ok0 Z N ok φ s a w):
  ∀(rs:List ResultVar) (vs:List V),resV E s rs=some vs→∃ys:List Value,ResRun P a.tmps w rs ys∧ys.length=vs.length∧∀(i:Nat) (c:V) (x:Value),vs[i]? = some c→ys[i]? = some x→VR ok φ s.hp w c x:=by
 intro rs
 induction rs with
 |nil=>intro vs h;simp[resV]at h;subst h;exact⟨[],fun f _ _=>by simp,rfl,fun i c x h=>by simp at h⟩
 |cons rv rs ih=>
  intro vs h
  have cons:∀(v:V) (l:List V) (y:Value),(∀f:ResultVar→Sem Value,(∀u,f (.tmp u)=pure (a.tmps.getD u undef))→(∀p t,f (.cell p t)=(do loadVar t (←asAddr (a.tmps.getD p undef))))→(f rv).run P w = .ok y w)→VR ok φ s.hp w v y→resV E s rs=some l→vs=v::l→
    ∃ys:List Value,ResRun P a.tmps w (rv::rs) ys∧ys.length=vs.length∧∀(i:Nat) (c:V) (x:Value),vs[i]? = some c→ys[i]? = some x→VR ok φ s.hp w c x:=by
   intro v l y h1 h2 h3 h4
   subst h4
   obtain⟨ys,e1,e2,e3⟩:=ih l h3
   refine⟨y::ys,fun f hf hc=>by rw[List.mapM_cons];simp[h1 f hf hc,e1 f hf hc],by simp[e2],fun i c x hc hx=>?_⟩
   cases i with
   |zero=>simp at hc hx;subst hc;subst hx;exact h2
   |succ i=>exact e3 i c x (by simpa using hc) (by simpa using hx)
  cases rv with
  |tmp t=>
   simp only[resV]at h
   split at h
   ·rename_i v l h1 h2
    simp only[Option.some.injEq]at h
    exact cons v l _ (fun f hf _=>by rw[hf];rfl) (r.tm t v h1) h2 h.symm
   ·cases h
  |cell p t=>
   simp only[resV]at h
   split at h
   rotate_left
   ·cases h
   rename_i ti k off hti htm
   split at h
   rotate_left
   ·cases h
   rename_i cs hb
   split at h
   rotate_left
   ·cases h
   rename_i l hcut
   split at h
   rotate_left
   ·cases h
   rename_i v vs' hof hrs
   simp only[Option.some.injEq]at h
   have hp:=r.tm p _ htm
   obtain⟨v',y,h1,h2,h3⟩:=aLoad_sound (hE.ti hti) r hp (K:=fun u=>u=v) (by simp only[aLoad,hb,hcut,hof])
   subst h2
   refine cons v' vs' y (fun f _ hc=>?_) h3 hrs h.symm
   rw[hc]
   have h1:=h1 w (fun _ _=>rfl)
   generalize a.tmps.getD p undef=x at hp h1
   cases hp
   simp only[Instr.loadAt,Instr.sureAddr,Sem.run_bind,Sem.run_pure,Result.andThen_ok]at h1
   simp only[asAddr,Sem.run_bind,Sem.run_pure,Result.andThen_ok]
   exact h1
theorem finals_sound:∀(bk:List Nat) {ok:Nat→Prop} {s:St} {fin:List (List D)} {s':St},Rel B0 bx W0 ok0 Z N ok φ s a w→finals s bk=some (fin,s')→
  ∃ok',Rel B0 bx W0 ok0 Z N ok' φ s' a w∧FinR ok' w (bk.map (blk φ)) fin∧(∀b,ok b→ok' b)∧(∀j,Sim s.hp s'.hp j)∧∀j∈bk,∃cs,lk s.hp j=some (.box cs):=by
 intro bk
 induction bk with
 |nil=>
  intro ok s fin s' r h
  simp[finals]at h;obtain⟨rfl,rfl⟩:=h
  exact⟨ok,r,⟨rfl,fun i n cs h=>by simp at h⟩,fun _ h=>h,Sim.refl _,fun j h=>by cases h⟩
 |cons k bk ih=>
  intro ok s fin s' r h
  simp only[finals]at h
  split at h
  rotate_left
  ·cases h
  rename_i cs hb
  split at h
  rotate_left
  ·cases h
  rename_i xs s1 hds
  split at h
  rotate_left
  ·cases h
  rename_i l s2 hl
  simp only[Option.some.injEq,Prod.mk.injEq]at h
  obtain⟨rfl,rfl⟩:=h
  obtain⟨g,arr,T,hp,hh,hs,hr⟩:=r.hp k _ hb
  obtain⟨ok1,r1,hl1,hrd,h1,hs1⟩:=toDs_sound (vs:=arr.toList) r (by simpa using hs) (fun i c y hc hy=>hr i c y hc (by simpa using hy)) hds
  obtain⟨ok2,r2,⟨hf1,hf2⟩,h2,hs2,hbx⟩:=ih r1 hl
  refine⟨ok2,r2,⟨by simp[←hf1],fun i n cs' hi hc=>?_⟩,fun b hb=>h2 b (h1 b hb),fun j=>(hs1 j).trans (hs2 j),fun j hj=>?_⟩
  ·cases i with
   |zero=>
    simp at hi hc;subst hi;subst hc
    have:blk φ k=g:=by simp[blk,hp]
    rw[this]
    exact⟨arr,T,hh,by omega,fun i x v hx hv=>(hrd i x v hx (by simpa using hv)).mono h2 (fun _ _=>rfl)⟩
   |succ i=>exact hf2 i n cs' (by simpa using hi) (by simpa using hc)
  ·rcases List.mem_cons.1 hj with rfl|hj
   ·exact⟨cs,hb⟩
   ·obtain⟨cs',hc'⟩:=hbx j hj
    cases h0:lk s.hp j with
    |none=>rw[toDs_none hds h0]at hc';cases hc'
    |some b=>
     cases b with
     |box cs0=>exact⟨cs0,rfl⟩
     |lst e sz es=>
      obtain⟨es',h3⟩:=(hs1 j).lst (.inl ⟨e,h0⟩)
      rcases h3 with⟨_,h3⟩|h3<;>(rw[h3]at hc';cases hc')
     |fro sz es=>
      obtain⟨es',h3⟩:=(hs1 j).lst (.inr h0)
      rcases h3 with⟨_,h3⟩|h3<;>(rw[h3]at hc';cases hc')
     |mp es=>
      obtain⟨es',h3⟩:=(hs1 j).mp h0
      rw[h3]at hc';cases hc'
theorem run_results{fn:Func}{tmps:Array Value}{ys:List Value}(h:ResRun P tmps w fn.results.toList ys):(results fn tmps).run P w = .ok (tupled ys) w:=by
 unfold results
 have e:fn.results=fn.results.toList.toArray:=by simp
 rw[e,List.mapM_toArray]
 simp only[Sem.run_bind,Sem.run_map]
 unfold ResRun at h
 rw[h]
 ·simp only[Result.andThen_ok]
  match ys with
  |[]=>rfl
  |[y]=>rfl
  |x::y::l=>rfl
 ·intro u;rfl
 ·intro p t;rfl
theorem leaves_marks{fn:Func}{R:Ending→World→Prop}{Z:Zr}(hz:∀b o,Z.z b=some o→b<Z.n){tmps:Array Value}(hend:∀(a:Act) (w:World),Rel B0 bx W0 ok0 Z N ok φ s a w→a.tmps=tmps→a.defers=[]→∃v,(results fn tmps).run P w = .ok v w∧R (.returned v) w):
  ∀(Ds:List Nat) (a:Act) (w:World),Rel B0 bx W0 ok0 Z N ok φ s a w→a.tmps=tmps→a.defers=Ds.map mark→LeavesInM Fence.wide 0 P fn tmps R (Ds.map mark) .returning w:=by
 intro Ds
 induction Ds with
 |nil=>intro a w r ht hd;exact hend a w r ht hd
 |cons D Ds ih=>
  intro a w r ht hd
  obtain⟨Ds',e1,e2,e3⟩:=r.df
  have hDs:Ds'=D::Ds:=(mark_inj (e2.symm.trans hd))
  subst hDs
  obtain⟨f1,f2,f3⟩:=e3 D (by simp)
  obtain⟨n1,n2⟩:=List.nodup_cons.1 e1
  refine⟨by simp,.inl ⟨D,_,rfl,run_takeDeferred f3,?_⟩⟩
  refine ih {a with defers:=Ds.map mark} _ (r.turn f3 rfl rfl f1.1 Z (fun b o h=>⟨(r.kz b o h).1,(World.putObj_heap_other (by rintro rfl;have:=hz _ o h;have:=f1.2;omega)).trans (r.kz b o h).2⟩) rfl r.zs rfl ⟨Ds,n2,rfl,fun D' hD'=>?_⟩) ht rfl
  obtain⟨g1,g2,g3⟩:=e3 D' (by simp[hD'])
  exact⟨g1,g2,(World.putObj_heap_other (by rintro rfl;exact n1 hD')).trans g3⟩
theorem ct_of_vc{gl:Nat→Option Obj}(hE:EnvOk P E)(hC:CallsOk P gl C)(hI:IOk P gl I)(hT:ItOk P E)(hm:P.follows .mixedOrders=true){f:Nat}{fn:Func}{body:Code}(hf:P.funcs[f]? = some fn)(hb:fn.body=some body)(hname:(fn.name == "runtime.NumGoroutine")=false)
  {fi:Fi} {args:List R} (hN:Nat.ble args.length fn.ntmps=true) (hcode:codeB fn.ntmps fi.sc false body=true) {Q:KT} (hex:∃res fin,Q res fin)
  (h:vc E C I fi body fn.results.toList args Q):Ct P gl f args Q:=by
 refine⟨⟨fn,hf,hname,by rw[hb];rfl⟩,hex,fun w ok vs bs hgl hok hbs hnd hA=>?_⟩
 refine callsIn_wide.1 (callsIn_of_wp_marks (F:=Fence.wide) (n:=0) hf hb trivial ?_)
 have hlen:args.length=vs.length:=argsR_length hA
 have hle:args.length≤fn.ntmps:=Nat.le_of_ble_eq_true hN
 have htm:∀(i:Nat) (v:Value),vs[i]? = some v→(vs.toArray++Array.replicate (fn.ntmps-vs.toArray.size) undef).getD (0+i) undef=v:=by
  intro i v hv
  have hlt:=(List.getElem?_eq_some_iff.1 hv).1
  rw[Nat.zero_add,Array.getD_eq_getD_getElem?,Array.getElem?_append_left (by simpa using hlt)]
  simp[hv]
 have r0:Rel w.heap.size [] w ok ⟨w.heap.size,gl,fun _ _=>undef,gl,fun _ _ h=>h⟩ fn.ntmps ok (fun _=>.int .i64 0) {tm:=[],hp:=[],kn:=[],gd:=[]} {tmps:=vs.toArray++Array.replicate (fn.ntmps-vs.toArray.size) undef,defers:=[]} w:={
  sz:=by simp;omega
  tm:=fun t x h=>by simp[lk]at h
  gd:=fun t t' w' x h=>by simp[lk]at h
  gu:=fun t t' w' b h=>by simp[lk]at h
  kn:=fun t b h=>by simp[lk]at h
  hp:=fun k b h=>by simp[lk]at h
  act:=fun k b g h=>by simp[lk]at h
  inj:=fun k k' b b' g _ h=>by simp[lk]at h
  one:=fun k=>rfl
  okl:=hok
  oks:=fun b h=>.inl h
  ok0:=fun b h=>h
  upd:=.refl _ _ _
  b0:=Nat.le_refl _
  rt:=fun d l t x h=>by simp[nth]at h
  df:=⟨[],by simp,rfl,by simp⟩
  zs:=Nat.le_refl _
  kz:=hgl
  pin:=fun i g h=>by simp at h}
 obtain⟨φ1,r1⟩:=argsSt_rel (B0:=w.heap.size) (W0:=w) (ok0:=ok) hA 0 [] _ _ (by simpa using hnd) hbs htm (fun k _=>by simp[lk]) (fun k b g h=>by simp[lk]at h) r0
 simp only[List.nil_append,List.length_nil,Nat.add_zero]at r1
 refine wpIn_mono (awp_sound hE hC hI hT hm fi body false hcode Fence.wide (.inl rfl) _ rfl _ ok φ1 _ _ w r1 h) fun e a' w' hq=>?_
 obtain⟨ok',φ',s',r',hk⟩:=hq
 have key:finK E fn.results.toList (boxKeys args 100000) Q .normal s'→LeavesInM Fence.wide 0 P fn a'.tmps (CtPost ok bs w Q) a'.defers .returning w':=by
  intro hk
  obtain⟨Ds,_,hDd,_⟩:=r'.df
  rw[hDd]
  refine leaves_marks (fun b o h=>hok b (hgl b o h).1) (fun a'' w' r' hta hde=>?_) Ds a' w' r' rfl hDd
  simp only[finK]at hk
  split at hk
  ·exact hk.elim
  rename_i vs1 hres
  split at hk
  ·exact hk.elim
  rename_i rs ks s1 hrs
  split at hk
  rotate_left
  ·exact hk.elim
  rename_i fin s2 hnd2 hfin
  obtain⟨ys,hrun,hyl,hyr⟩:=resV_sound hE r' _ _ hres
  obtain⟨ok1,r2,h1,hs1,hA1,hkb⟩:=toRs_sound r' hyl hyr hrs
  obtain⟨ok2,r3,hF,h2,hs2,hbox⟩:=finals_sound _ r2 hfin
  have hnd3:=nodupB_iff _ hnd2
  rw[app_eq]at hnd3
  obtain⟨hn1,hn2,hn3⟩:=List.nodup_append.1 hnd3
  have hbk:boxKeys args 100000=List.range' 100000 bs.length:=boxKeys_eq hA 100000
  have hkb3:∀j∈ks,(∃cs,lk s2.hp j=some (.box cs))∧∃g,φ' j = .pointer (some ⟨g,0,none⟩):=fun j hj=>by
   obtain⟨⟨cs,hc⟩,hg⟩:=hkb j hj
   exact⟨(hs2 j).box hc,hg⟩
  have hbs':(boxKeys args 100000).map (blk φ')=bs:=by
   rw[hbk]
   apply List.ext_getElem?
   intro i
   rw[List.getElem?_map]
   by_cases hlt:i<bs.length
   ·rw[List.getElem?_range' hlt]
    have hi:bs[i]? = some bs[i]:=List.getElem?_eq_getElem hlt
    obtain⟨e1,_⟩:=r3.pin i bs[i] hi
    rw[hi]
    simp[blk,e1]
   ·rw[List.getElem?_eq_none (l:=bs) (by omega),List.getElem?_eq_none (by simp;omega)]
    rfl
  rw[hta]at hrun
  refine⟨tupled ys,run_results hrun,rs,fin,ys,ok2,ks.map (blk φ'),rfl,hk,r3.ok0,fun b hb=>r3.oks b hb,r3.okl,r3.upd,(hA1.mono h2).res,blk_nodup r3 hkb3 hn1,fun b hb=>?_,by rw[hbs']at hF;exact hF⟩
  obtain⟨j,hj,rfl⟩:=List.mem_map.1 hb
  obtain⟨⟨cs,hc⟩,g,hg⟩:=hkb3 j hj
  have hblk:blk φ' j=g:=by simp[blk,hg]
  rw[hblk]
  obtain⟨e1,e2⟩:=r3.act j _ g hc rfl (by rw[hg];rfl)
  refine⟨?_,e1⟩
  rcases e2 with e2|e2
  ·exact e2
  ·obtain⟨i,hi⟩:=List.getElem?_of_mem e2
   obtain⟨p1,cs',p2⟩:=r3.pin i g hi
   have hlt:=(List.getElem?_eq_some_iff.1 hi).1
   have hm:100000+i∈boxKeys args 100000:=by
    rw[hbk,List.mem_range'_1];omega
   exact(r3.inj j (100000+i) _ _ g (fun e=>hn3 j hj _ hm e) hc p2 rfl rfl (by rw[hg];rfl) (by rw[p1];rfl)).elim
 cases e with
 |normal=>exact key hk
 |ret=>exact key hk
 |exit i=>exact hk.elim
 |goto l=>exact hk.elim
 |panic ch=>exact hk.elim
 |outgrown=>exact hk.elim
def kB(φ:Nat→Value):Option Nat→List Nat
 |some k=>blkL (φ k)
 |none=>[]
theorem toRO_sound(r:Rel B0 bx W0 ok0 Z N ok φ s a w){c:V}{v:Value}(hv:VR ok φ s.hp w c v){x:R}{k:Option Nat}{s':St}(h:toRO s c=some (x,k,s')):
  ∃ok',Rel B0 bx W0 ok0 Z N ok' φ s' a w∧(∀b,ok b→ok' b)∧(∀j,Sim s.hp s'.hp j)∧(∀ok2:Nat→Prop,(∀b,ok' b→ok2 b)→∀bs rs vs,ResR ok2 w bs rs vs→ResR ok2 w (kB φ k++bs) (x::rs) (v::vs)):=by
 have via:toR s c=some (x,k,s')→∃ok',Rel B0 bx W0 ok0 Z N ok' φ s' a w∧(∀b,ok b→ok' b)∧(∀j,Sim s.hp s'.hp j)∧(∀ok2:Nat→Prop,(∀b,ok' b→ok2 b)→∀bs rs vs,ResR ok2 w bs rs vs→ResR ok2 w (kB φ k++bs) (x::rs) (v::vs)):=fun hto=>by
  obtain⟨ok',r',h1,h2,h3,h4⟩:=toR_sound r hv hto
  refine⟨ok',r',h1,h2,fun ok2 hok2 bs rs vs hr=>?_⟩
  have h0:=(h3 [] [] [] .nil).mono hok2
  clear hto h
  cases k with
  |none=>
   simp only[keyBs,List.nil_append]at h0
   simp only[kB,List.nil_append]
   cases h0 with
   |d h1 _=>exact .d h1 hr
   |agg hs h1 _=>exact .agg hs h1 hr
   |ptr h1 _=>exact .ptr h1 hr
   |fn h1 _=>exact .fn h1 hr
  |some k=>
   simp only[keyBs,List.append_nil]at h0
   obtain⟨_,g,hg⟩:=h4 k rfl
   have e1:kB φ (some k)=[g]:=by simp[kB,blkL,hg,blockOf]
   have e2:blk φ k=g:=by simp[blk,hg]
   rw[e2]at h0
   rw[e1,List.singleton_append]
   cases h0 with
   |box h1 _=>exact .box h1 hr
   |d h1 h'=>cases h'
   |agg hs h1 h'=>cases h'
   |ptr h1 h'=>cases h'
   |fn h1 h'=>cases h'
 cases c with
 |own k0=>
  cases hv
  rename_i sz0 es0 hb0 hφ
  subst hφ
  simp only[toRO]at h
  split at h
  ·rename_i e sz es hb
   simp only[Option.some.injEq,Prod.mk.injEq]at h
   obtain⟨rfl,rfl,rfl⟩:=h
   refine⟨ok,r,fun _ h=>h,Sim.refl _,fun ok2 hok2 bs rs vs hr=>?_⟩
   obtain⟨hpos,hall,xs,hown,hrd⟩:=r.hp _ _ hb
   refine .lst (LstRd.mono (ok:=ok) ⟨hpos,hall,xs,⟨hown.1,?_⟩,hrd⟩ hok2) hr
   rcases hown.2 with hnil|⟨g,cap,cur,h1,_,rest⟩
   ·exact .inl hnil
   ·exact .inr ⟨g,cap,cur,h1,Nat.zero_le _,rest⟩
  ·rename_i sz es hb
   simp only[Option.some.injEq,Prod.mk.injEq]at h
   obtain⟨rfl,rfl,rfl⟩:=h
   obtain⟨_,_,hrd,_⟩:=r.hp _ _ hb
   exact⟨ok,r,fun _ h=>h,Sim.refl _,fun ok2 hok2 bs rs vs hr=>.d (hrd.mono hok2 (fun _ _=>rfl)) hr⟩
  ·cases h
 |_=>exact via h
theorem toRsO_sound{vs:List Value}:∀{cs:List V} {ok:Nat→Prop} {s s':St} {xs:List R} {ks:List Nat},Rel B0 bx W0 ok0 Z N ok φ s a w→vs.length=cs.length→
  (∀(i:Nat) (c:V) (x:Value),cs[i]? = some c→vs[i]? = some x→VR ok φ s.hp w c x)→toRsO s cs=some (xs,ks,s')→
  ∃ok',Rel B0 bx W0 ok0 Z N ok' φ s' a w∧(∀b,ok b→ok' b)∧(∀j,Sim s.hp s'.hp j)∧ResR ok' w (ks.flatMap fun k=>blkL (φ k)) xs vs:=by
 induction vs with
 |nil=>
  intro cs ok s s' xs ks r hl hv h
  cases cs with
  |nil=>simp[toRsO]at h;obtain⟨rfl,rfl,rfl⟩:=h;exact⟨ok,r,fun _ h=>h,Sim.refl _,.nil⟩
  |cons c cs=>simp at hl
 |cons v vs ih=>
  intro cs ok s s' xs ks r hl hv h
  cases cs with
  |nil=>simp at hl
  |cons c cs=>
   simp only[toRsO]at h
   split at h
   ·cases h
   rename_i x k s1 hx
   split at h
   ·cases h
   rename_i xs1 ks1 s2 hxs
   simp only[Option.some.injEq,Prod.mk.injEq]at h
   obtain⟨rfl,rfl,rfl⟩:=h
   obtain⟨ok1,r1,h1,hs1,hA⟩:=toRO_sound r (hv 0 c v rfl rfl) hx
   obtain⟨ok2,r2,h2,hs2,hA2⟩:=ih r1 (by simpa using hl) (fun i c x hc hx=>(hv (i+1) c x (by simpa using hc) (by simpa using hx)).mono h1 (fun _ _=>rfl) (fun _ _ _=>rfl) (fun j _=>hs1 j)) hxs
   refine⟨ok2,r2,fun b hb=>h2 b (h1 b hb),fun j=>(hs1 j).trans (hs2 j),?_⟩
   have h0:=hA ok2 h2 _ _ _ hA2
   cases k with
   |none=>simpa[kB]using h0
   |some k=>simpa[kB]using h0
theorem actAll_mem{hp:List (Nat×B)}:∀{ks:List Nat},actAll hp ks=true→∀k∈ks,∃b,lk hp k=some b∧b.active=true
 |k::r,h,j,hj=>by
  simp only[actAll]at h
  split at h
  ·rename_i cs hb
   rcases List.mem_cons.1 hj with rfl|hj
   ·exact⟨_,hb,rfl⟩
   ·exact actAll_mem h j hj
  ·rename_i e sz es hb
   rcases List.mem_cons.1 hj with rfl|hj
   ·exact⟨_,hb,rfl⟩
   ·exact actAll_mem h j hj
  ·cases h
theorem flat_nodup(r:Rel B0 bx W0 ok0 Z N ok φ s a w){ks:List Nat}(hk:∀j∈ks,∃b,lk s.hp j=some b∧b.active=true)(hn:ks.Nodup):(ks.flatMap fun k=>blkL (φ k)).Nodup:=by
 induction ks with
 |nil=>simp
 |cons k ks ih=>
  obtain⟨h1,h2⟩:=List.nodup_cons.1 hn
  rw[List.flatMap_cons]
  refine List.nodup_append.2 ⟨?_,ih (fun j hj=>hk j (by simp[hj])) h2,fun g hg g' hg' e=>?_⟩
  ·unfold blkL;split<;>simp
  ·subst e
   obtain⟨j,hj,hg'⟩:=List.mem_flatMap.1 hg'
   have e1:blockOf (φ k)=some g:=by
    unfold blkL at hg;split at hg
    ·rename_i x hx;simp at hg;subst hg;exact hx
    ·cases hg
   have e2:blockOf (φ j)=some g:=by
    unfold blkL at hg';split at hg'
    ·rename_i x hx;simp at hg';subst hg';exact hx
    ·cases hg'
   obtain⟨b,hb,ha⟩:=hk k (by simp)
   obtain⟨b',hb',ha'⟩:=hk j (by simp[hj])
   exact r.inj k j b b' g (by rintro rfl;exact h1 hj) hb hb' ha ha' e1 e2
theorem ct_of_vcO{gl:Nat→Option Obj}(hE:EnvOk P E)(hC:CallsOk P gl C)(hI:IOk P gl I)(hT:ItOk P E)(hm:P.follows .mixedOrders=true){f:Nat}{fn:Func}{body:Code}(hf:P.funcs[f]? = some fn)(hb:fn.body=some body)(hname:(fn.name == "runtime.NumGoroutine")=false)
  {fi:Fi} {args:List R} (hN:Nat.ble args.length fn.ntmps=true) (hcode:codeB fn.ntmps fi.sc false body=true) {Q:KT} (hex:∃res fin,Q res fin)
  (h:vcO E C I fi body fn.results.toList args Q):Ct P gl f args Q:=by
 refine⟨⟨fn,hf,hname,by rw[hb];rfl⟩,hex,fun w ok vs bs hgl hok hbs hnd hA=>?_⟩
 refine callsIn_wide.1 (callsIn_of_wp_marks (F:=Fence.wide) (n:=0) hf hb trivial ?_)
 have hlen:args.length=vs.length:=argsR_length hA
 have hle:args.length≤fn.ntmps:=Nat.le_of_ble_eq_true hN
 have htm:∀(i:Nat) (v:Value),vs[i]? = some v→(vs.toArray++Array.replicate (fn.ntmps-vs.toArray.size) undef).getD (0+i) undef=v:=by
  intro i v hv
  have hlt:=(List.getElem?_eq_some_iff.1 hv).1
  rw[Nat.zero_add,Array.getD_eq_getD_getElem?,Array.getElem?_append_left (by simpa using hlt)]
  simp[hv]
 have r0:Rel w.heap.size [] w ok ⟨w.heap.size,gl,fun _ _=>undef,gl,fun _ _ h=>h⟩ fn.ntmps ok (fun _=>.int .i64 0) {tm:=[],hp:=[],kn:=[],gd:=[]} {tmps:=vs.toArray++Array.replicate (fn.ntmps-vs.toArray.size) undef,defers:=[]} w:={
  sz:=by simp;omega
  tm:=fun t x h=>by simp[lk]at h
  gd:=fun t t' w' x h=>by simp[lk]at h
  gu:=fun t t' w' b h=>by simp[lk]at h
  kn:=fun t b h=>by simp[lk]at h
  hp:=fun k b h=>by simp[lk]at h
  act:=fun k b g h=>by simp[lk]at h
  inj:=fun k k' b b' g _ h=>by simp[lk]at h
  one:=fun k=>rfl
  okl:=hok
  oks:=fun b h=>.inl h
  ok0:=fun b h=>h
  upd:=.refl _ _ _
  b0:=Nat.le_refl _
  rt:=fun d l t x h=>by simp[nth]at h
  df:=⟨[],by simp,rfl,by simp⟩
  zs:=Nat.le_refl _
  kz:=hgl
  pin:=fun i g h=>by simp at h}
 obtain⟨φ1,r1⟩:=argsSt_rel (B0:=w.heap.size) (W0:=w) (ok0:=ok) hA 0 [] _ _ (by simpa using hnd) hbs htm (fun k _=>by simp[lk]) (fun k b g h=>by simp[lk]at h) r0
 simp only[List.nil_append,List.length_nil,Nat.add_zero]at r1
 refine wpIn_mono (awp_sound hE hC hI hT hm fi body false hcode Fence.wide (.inl rfl) _ rfl _ ok φ1 _ _ w r1 h) fun e a' w' hq=>?_
 obtain⟨ok',φ',s',r',hk⟩:=hq
 have key:finKO E fn.results.toList (boxKeys args 100000) Q .normal s'→LeavesInM Fence.wide 0 P fn a'.tmps (CtPost ok bs w Q) a'.defers .returning w':=by
  intro hk
  obtain⟨Ds,_,hDd,_⟩:=r'.df
  rw[hDd]
  refine leaves_marks (fun b o h=>hok b (hgl b o h).1) (fun a'' w' r' hta hde=>?_) Ds a' w' r' rfl hDd
  simp only[finKO]at hk
  split at hk
  ·exact hk.elim
  rename_i vs1 hres
  split at hk
  ·exact hk.elim
  rename_i rs ks s1 hrs
  split at hk
  rotate_left
  ·exact hk.elim
  rename_i fin s2 hnd2 hfin
  split at hk
  rotate_left
  ·exact hk.elim
  rename_i hactall
  obtain⟨ys,hrun,hyl,hyr⟩:=resV_sound hE r' _ _ hres
  obtain⟨ok1,r2,h1,hs1,hA1⟩:=toRsO_sound r' hyl hyr hrs
  obtain⟨ok2,r3,hF,h2,hs2,hbox⟩:=finals_sound _ r2 hfin
  have hnd3:=nodupB_iff _ hnd2
  rw[app_eq]at hnd3
  obtain⟨hn1,hn2,hn3⟩:=List.nodup_append.1 hnd3
  have hbk:boxKeys args 100000=List.range' 100000 bs.length:=boxKeys_eq hA 100000
  have hkb3:=actAll_mem hactall
  have hbs':(boxKeys args 100000).map (blk φ')=bs:=by
   rw[hbk]
   apply List.ext_getElem?
   intro i
   rw[List.getElem?_map]
   by_cases hlt:i<bs.length
   ·rw[List.getElem?_range' hlt]
    have hi:bs[i]? = some bs[i]:=List.getElem?_eq_getElem hlt
    obtain⟨e1,_⟩:=r3.pin i bs[i] hi
    rw[hi]
    simp[blk,e1]
   ·rw[List.getElem?_eq_none (l:=bs) (by omega),List.getElem?_eq_none (by simp;omega)]
    rfl
  rw[hta]at hrun
  refine⟨tupled ys,run_results hrun,rs,fin,ys,ok2,ks.flatMap fun k=>blkL (φ' k),rfl,hk,r3.ok0,fun b hb=>r3.oks b hb,r3.okl,r3.upd,hA1.mono h2,flat_nodup r3 hkb3 hn1,fun b hb=>?_,by rw[hbs']at hF;exact hF⟩
  obtain⟨j,hj,hg⟩:=List.mem_flatMap.1 hb
  obtain⟨c,hc,hca⟩:=hkb3 j hj
  have hblk:blockOf (φ' j)=some b:=by
   unfold blkL at hg;split at hg
   ·rename_i x hx;simp at hg;subst hg;exact hx
   ·cases hg
  obtain⟨e1,e2⟩:=r3.act j c b hc hca hblk
  refine⟨?_,e1⟩
  rcases e2 with e2|e2
  ·exact e2
  ·obtain⟨i,hi⟩:=List.getElem?_of_mem e2
   obtain⟨p1,cs',p2⟩:=r3.pin i b hi
   have hlt:=(List.getElem?_eq_some_iff.1 hi).1
   have hm:100000+i∈boxKeys args 100000:=by
    rw[hbk,List.mem_range'_1];omega
   exact(r3.inj j (100000+i) _ _ b (fun e=>hn3 j hj _ hm e) hc p2 hca rfl hblk (by rw[p1];rfl)).elim
 cases e with
 |normal=>exact key hk
 |ret=>exact key hk
 |exit i=>exact hk.elim
 |goto l=>exact hk.elim
 |panic ch=>exact hk.elim
 |outgrown=>exact hk.elim
def addC(C:CallT)(f0:Nat)(c:List R→KT→Prop):CallT:=
 fun f a K=>match Nat.beq f f0 with|true=>c a K|false=>C f a K
theorem addC_ok{P:Program}{gl:Nat→Option Obj}{C:CallT}{f0:Nat}{c:List R→KT→Prop}(h:CallsOk P gl C)(hc:∀a K,c a K→Ct P gl f0 a K):CallsOk P gl (addC C f0 c):=by
 intro f a K hk
 unfold addC at hk
 split at hk
 ·rename_i e
  have:f=f0:=Nat.eq_of_beq_eq_true e
  subst this
  exact hc a K hk
 ·exact h f a K hk
def gives(r:List R):KT:=fun r' c=>r'=r∧c=[]
theorem Ct.gives{P:Program}{gl:Nat→Option Obj}{f:Nat}{a r:List R}{K:KT}(h:Ct P gl f a (gives r))(hk:K r []):Ct P gl f a K:=
 h.mono fun r' c ⟨h1,h2⟩=>by subst h1;subst h2;exact hk
theorem gsplit{c:Bool}{A B:Prop}(h1:c=true→A)(h2:c=false→B):(c=true→A)∧(c=false→B):=⟨h1,h2⟩
end Go.Dm
namespace Go.Dm
variable {P:Program} {E:Env} {C:CallT} {I:Nat→List V→List V→St→(V→St→Prop)→Prop}
end Go.Dm
