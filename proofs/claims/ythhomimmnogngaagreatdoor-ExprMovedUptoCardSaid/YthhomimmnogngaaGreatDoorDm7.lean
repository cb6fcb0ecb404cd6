/- A part of the proof: contracts of functions, by a verified generator of conditions; no condition of its own. -/
import Derived.Test.YthhomimmnogngaaGreatDoorDm6
namespace Go.Dm
variable {P:Program} {E:Env}
variable {B0:Nat} {bx:List Nat} {W0:World} {ok0:Nat→Prop} {Z:Zr} {N:Nat}
structure NoName (s:St) (k:Nat):Prop where
 tm:∀t x,lk s.tm t=some x→V.names k x=false
 gd:∀t t' w' x,lk s.gd t=some (t',w',x)→V.names k x=false
 rt:∀d l t x,nth s.rt d=some l→lk l t=some x→V.names k x=false
 hp:∀j cs,lk s.hp j=some (.box cs)→V.namesL k cs=false
 mp:∀j es,lk s.hp j=some (.mp es)→∀x∈es,V.names k x.2=false
theorem Upd.mono{bx bx':List Nat}{B:Nat}{a b:World}(h:Upd bx B a b)(hs:∀g∈bx,g∈bx'):Upd bx' B a b:=⟨h.os,h.tape,h.output,h.size,fun k hk hn=>h.block k hk (fun hm=>hn (hs k hm))⟩
theorem Rel.step'{bx':List Nat}(hbx:∀g∈bx,g∈bx'){ok ok':Nat→Prop}{φ φ':Nat→Value}{s:St}{a:Act}{w w':World}{hp':List (Nat×B)}(r:Rel B0 bx W0 ok0 Z N ok φ s a w)(X:Nat→Prop)
  (hX:∀k,X k→NoName s k) (h1:∀b,ok b→ok' b) (h2:∀b,ok b→w'.heap[b]? = w.heap[b]?)
  (h3:∀k,¬X k→lk s.hp k≠none→φ' k=φ k) (h4:∀k,¬X k→Sim s.hp hp' k)
  (hB:∀k b,lk hp' k=some b→BR B0 ok' φ' hp' w' (φ' k) b)
  (act:∀k b g,lk hp' k=some b→b.active=true→blockOf (φ' k)=some g→¬ok' g∧(B0≤g∨g∈bx'))
  (inj:∀k k' b b' g,k≠k'→lk hp' k=some b→lk hp' k'=some b'→b.active=true→b'.active=true→blockOf (φ' k)=some g→blockOf (φ' k')≠some g)
  (one:∀k,(φ' k).oneCell'=true) (okl:∀b,ok' b→b<w'.heap.size) (oks:∀b,ok' b→ok0 b∨B0≤b) (upd:Upd bx' B0 w w') (pin:∀(i g:Nat),bx'[i]? = some g→φ' (100000+i) = .pointer (some ⟨g,0,none⟩)∧∃cs,lk hp' (100000+i)=some (.box cs)):
  Rel B0 bx' W0 ok0 Z N ok' φ' {s with hp:=hp'} a w' where
 sz:=r.sz
 tm:=fun t x h=>(r.tm t x h).mono h1 h2 (fun k hk hn=>h3 k (fun hx=>by rw[(hX k hx).tm t x h]at hk;cases hk) hn) (fun k hk=>h4 k (fun hx=>by rw[(hX k hx).tm t x h]at hk;cases hk))
 gd:=fun t t' w' x h hw=>(r.gd t t' w' x h hw).mono h1 h2 (fun k hk hn=>h3 k (fun hx=>by rw[(hX k hx).gd t t' w' x h]at hk;cases hk) hn) (fun k hk=>h4 k (fun hx=>by rw[(hX k hx).gd t t' w' x h]at hk;cases hk))
 gu:=r.gu
 kn:=r.kn
 rt:=fun d l t x hl h=>(r.rt d l t x hl h).mono h1 h2 (fun k hk hn=>h3 k (fun hx=>by rw[(hX k hx).rt d l t x hl h]at hk;cases hk) hn) (fun k hk=>h4 k (fun hx=>by rw[(hX k hx).rt d l t x hl h]at hk;cases hk))
 hp:=hB
 act:=act
 inj:=inj
 one:=one
 okl:=okl
 oks:=oks
 ok0:=fun b hb=>h1 b (r.ok0 b hb)
 upd:=(r.upd.mono hbx).trans upd
 b0:=Nat.le_trans r.b0 upd.size
 df:=by
  obtain⟨Ds,e1,e2,e3⟩:=r.df
  exact⟨Ds,e1,e2,fun D hD=>⟨(e3 D hD).1,h1 D (e3 D hD).2.1,(h2 D (e3 D hD).2.1).trans (e3 D hD).2.2⟩⟩
 zs:=Nat.le_trans r.zs upd.size
 kz:=fun b o hz=>⟨h1 b (r.kz b o hz).1,(h2 b (r.kz b o hz).1).trans (r.kz b o hz).2⟩
 pin:=pin
theorem Rel.step{ok ok':Nat→Prop}{φ φ':Nat→Value}{s:St}{a:Act}{w w':World}{hp':List (Nat×B)}(r:Rel B0 bx W0 ok0 Z N ok φ s a w)(X:Nat→Prop)
  (hX:∀k,X k→NoName s k) (h1:∀b,ok b→ok' b) (h2:∀b,ok b→w'.heap[b]? = w.heap[b]?)
  (h3:∀k,¬X k→lk s.hp k≠none→φ' k=φ k) (h4:∀k,¬X k→Sim s.hp hp' k)
  (hB:∀k b,lk hp' k=some b→BR B0 ok' φ' hp' w' (φ' k) b)
  (act:∀k b g,lk hp' k=some b→b.active=true→blockOf (φ' k)=some g→¬ok' g∧(B0≤g∨g∈bx))
  (inj:∀k k' b b' g,k≠k'→lk hp' k=some b→lk hp' k'=some b'→b.active=true→b'.active=true→blockOf (φ' k)=some g→blockOf (φ' k')≠some g)
  (one:∀k,(φ' k).oneCell'=true) (okl:∀b,ok' b→b<w'.heap.size) (oks:∀b,ok' b→ok0 b∨B0≤b) (upd:Upd bx B0 w w') (hXp:∀k,X k→∀cs,lk s.hp k≠some (.box cs):=by exact fun _ h=>False.elim h):
  Rel B0 bx W0 ok0 Z N ok' φ' {s with hp:=hp'} a w':=
 r.step' (fun _ h=>h) X hX h1 h2 h3 h4 hB act inj one okl oks upd fun i g h=>by
  obtain⟨e1,cs,e2⟩:=r.pin i g h
  have hn:¬X (100000+i):=fun hx=>hXp _ hx cs e2
  exact⟨by rw[h3 _ hn (by rw[e2];simp)];exact e1,(h4 _ hn).box e2⟩
theorem BR.keep{ok ok':Nat→Prop}{φ φ':Nat→Value}{hp hp':List (Nat×B)}{w w':World}{v:Value}{b:B}(h:BR B0 ok φ hp w v b)(X:Nat→Prop)
  (hX:∀k cs,X k→b = .box cs→V.namesL k cs=false) (h1:∀b,ok b→ok' b) (h2:∀b,ok b→w'.heap[b]? = w.heap[b]?)
  (h3:∀k,¬X k→lk hp k≠none→φ' k=φ k) (h4:∀k,¬X k→Sim hp hp' k)
  (hv:b.active=true→∀g,blockOf v=some g→w'.heap[g]? = w.heap[g]?) (hX':∀k es,X k→b = .mp es→∀x∈es,V.names k x.2=false:=by exact fun _ _ h=>False.elim h):BR B0 ok' φ' hp' w' v b:=by
 cases b with
 |box cs=>
  obtain⟨g,arr,T,rfl,hh,hs,hr⟩:=h
  refine⟨g,arr,T,rfl,by rw[hv rfl g rfl];exact hh,hs,fun j c x hc hx=>(hr j c x hc hx).mono h1 h2 (fun k hk hn=>h3 k (fun hx'=>?_) hn) (fun k hk=>h4 k (fun hx'=>?_))⟩
  all_goals
   have:=hX k cs hx' rfl
   rw[namesL_iff]at this
   rw[this c (List.mem_of_getElem? hc)]at hk;cases hk
 |lst e sz es=>
  obtain⟨hpos,hall,xs,hown,hr⟩:=h
  refine⟨hpos,hall,xs,?_,fun i j hi hj=>(hr i j hi hj).mono h1 h2⟩
  refine⟨hown.1,?_⟩
  rcases hown.2 with hn|⟨g,cap,cur,rfl,hb,hh,rest⟩
  ·exact .inl hn
  ·exact .inr ⟨g,cap,cur,rfl,hb,by rw[hv rfl g rfl];exact hh,rest⟩
 |fro sz es=>
  obtain⟨hpos,hall,hrd,hs⟩:=h
  exact⟨hpos,hall,hrd.mono h1 h2,hs⟩
 |mp es=>
  obtain⟨g,ents,clock,rfl,hh,hs,hp,hr⟩:=h
  refine⟨g,ents,clock,rfl,by rw[hv rfl g rfl];exact hh,hs,hp,fun j x y hx hy=>⟨(hr j x y hx hy).1,(hr j x y hx hy).2.mono h1 h2 (fun k hk hn=>h3 k (fun hx'=>?_) hn) (fun k hk=>h4 k (fun hx'=>?_))⟩⟩
  all_goals
   rw[hX' k es hx' rfl x (List.mem_of_getElem? hx)]at hk;cases hk
section
variable {ok:Nat→Prop} {φ:Nat→Value} {s:St} {a:Act} {w:World}
def updF(φ:Nat→Value)(k:Nat)(v:Value):Nat→Value:=fun j=>if j=k then v else φ j
theorem BR.block_lt{hp:List (Nat×B)}{v:Value}{b:B}(h:BR B0 ok φ hp w v b)(ha:b.active=true){g:Nat}(hg:blockOf v=some g):g<w.heap.size:=by
 cases b with
 |box cs=>
  obtain⟨g',arr,T,rfl,hh,_⟩:=h
  simp[blockOf]at hg;subst hg
  exact(Array.getElem?_eq_some_iff.1 hh).1
 |lst e sz es=>
  obtain⟨_,_,xs,hown,_⟩:=h
  rcases hown.2 with⟨rfl,_⟩|⟨g',cap,cur,rfl,hb,hh,rest⟩
  ·simp[blockOf]at hg
  ·simp[blockOf]at hg;subst hg
   exact(Array.getElem?_eq_some_iff.1 hh).1
 |fro=>cases ha
 |mp es=>
  obtain⟨g',ents,clock,rfl,hh,_⟩:=h
  simp[blockOf]at hg;subst hg
  exact(Array.getElem?_eq_some_iff.1 hh).1
theorem Rel.fresh(r:Rel B0 bx W0 ok0 Z N ok φ s a w){key:Nat}(hk:lk s.hp key=none)(o:Obj)(v:Value)(b:B)(hv:v.oneCell'=true)(hblk:∀g,blockOf v=some g→g=w.heap.size)
  (hB:BR B0 ok (updF φ key v) (pt s.hp key b) (w.alloc o) v b):
  Rel B0 bx W0 ok0 Z N ok (updF φ key v) (s.setB key b) a (w.alloc o):=by
 have hsz:(w.alloc o).heap.size=w.heap.size+1:=Array.size_push ..
 have hold:∀i,i<w.heap.size→(w.alloc o).heap[i]? = w.heap[i]?:=fun i hi=>heap_alloc_old w o i hi
 refine r.step (fun _=>False) (fun _ h=>h.elim) (fun _ h=>h) (fun b hb=>hold b (r.okl b hb)) (fun k _ hn=>?_) (fun k _=>?_) (fun k b' hb=>?_) ?_ ?_ (fun k=>?_) (fun b hb=>by have:=r.okl b hb;omega) r.oks ?_
 ·simp only[updF];rw[if_neg (by rintro rfl;exact hn hk)]
 ·unfold Sim
  rw[lk_pt]
  by_cases h:key=k
  ·subst h;rw[hk];trivial
  ·rw[if_neg h];exact Sim.refl s.hp k
 ·rw[lk_pt]at hb
  by_cases h:key=k
  ·subst h
   rw[if_pos rfl]at hb
   simp only[Option.some.injEq]at hb;subst hb
   simpa[updF]using hB
  ·rw[if_neg h]at hb
   have:updF φ key v k=φ k:=by simp[updF,Ne.symm h]
   rw[this]
   refine(r.hp k b' hb).keep (fun _=>False) (fun _ _ h=>h.elim) (fun _ h=>h) (fun b hb=>hold b (r.okl b hb)) (fun k _ hn=>?_) (fun k _=>?_) (fun ha g hg=>hold g ((r.hp k b' hb).block_lt ha hg))
   ·simp only[updF];rw[if_neg (by rintro rfl;exact hn hk)]
   ·unfold Sim
    rw[lk_pt]
    by_cases h:key=k
    ·subst h;rw[hk];trivial
    ·rw[if_neg h];exact Sim.refl s.hp k
 ·intro k b' g hb ha hg
  rw[lk_pt]at hb
  by_cases h:key=k
  ·subst h
   simp only[updF,if_true]at hg
   have:=hblk g hg
   subst this
   exact⟨fun hok=>by have:=r.okl _ hok;omega,.inl r.b0⟩
  ·rw[if_neg h]at hb
   simp only[updF,if_neg (Ne.symm h)]at hg
   exact r.act k b' g hb ha hg
 ·intro k k' b1 b2 g hne hb1 hb2 ha1 ha2 hg1 hg2
  rw[lk_pt]at hb1 hb2
  by_cases h:key=k
  ·subst h
   rw[if_neg hne]at hb2
   simp only[updF,if_true]at hg1
   simp only[updF,if_neg (Ne.symm hne)]at hg2
   have:=hblk g hg1
   have:=(r.hp k' b2 hb2).block_lt ha2 hg2
   omega
  ·rw[if_neg h]at hb1
   simp only[updF,if_neg (Ne.symm h)]at hg1
   by_cases h':key=k'
   ·subst h'
    simp only[updF,if_true]at hg2
    have:=hblk g hg2
    have:=(r.hp k b1 hb1).block_lt ha1 hg1
    omega
   ·rw[if_neg h']at hb2
    simp only[updF,if_neg (Ne.symm h')]at hg2
    exact r.inj k k' b1 b2 g hne hb1 hb2 ha1 ha2 hg1 hg2
 ·simp only[updF];split
  ·exact hv
  ·exact r.one k
 ·exact⟨rfl,rfl,rfl,by omega,fun k hk _=>hold k (Nat.lt_of_lt_of_le hk r.b0)⟩
theorem Rel.written(r:Rel B0 bx W0 ok0 Z N ok φ s a w){k g:Nat}{b b':B}(hb:lk s.hp k=some b)(ha:b.active=true)(ha':b'.active=true)(hg:blockOf (φ k)=some g)(arr:Array Value)
  (hsim:Sim s.hp (pt s.hp k b') k) (hB:BR B0 ok φ (pt s.hp k b') (w.setRow g arr) (φ k) b'):
  Rel B0 bx W0 ok0 Z N ok φ (s.setB k b') a (w.setRow g arr):=by
 have hoth:∀i,i≠g→(w.setRow g arr).heap[i]? = w.heap[i]?:=fun i hi=>setRow_other w g i arr hi
 have hact:=r.act k b g hb ha hg
 have hsz:(w.setRow g arr).heap.size=w.heap.size:=by simp[World.setRow]
 have h2:∀b,ok b→(w.setRow g arr).heap[b]? = w.heap[b]?:=fun b hb=>hoth b (by rintro rfl;exact hact.1 hb)
 have h4:∀j,Sim s.hp (pt s.hp k b') j:=by
  intro j
  by_cases h:k=j
  ·subst h;exact hsim
  ·unfold Sim;rw[lk_pt,if_neg h];exact Sim.refl s.hp j
 refine r.step (fun _=>False) (fun _ h=>h.elim) (fun _ h=>h) h2 (fun _ _ _=>rfl) (fun j _=>h4 j) (fun j b1 hb1=>?_) (fun j b1 g1 hb1 ha1 hg1=>?_) (fun j j' b1 b2 g1 hne hb1 hb2 ha1 ha2 hg1 hg2=>?_) r.one (fun b hb=>by rw[hsz];exact r.okl b hb) r.oks ?_
 ·rw[lk_pt]at hb1
  by_cases h:k=j
  ·subst h;rw[if_pos rfl]at hb1;simp only[Option.some.injEq]at hb1;subst hb1;exact hB
  ·rw[if_neg h]at hb1
   refine(r.hp j b1 hb1).keep (fun _=>False) (fun _ _ h=>h.elim) (fun _ h=>h) h2 (fun _ _ _=>rfl) (fun j _=>h4 j) (fun ha1 g1 hg1=>hoth g1 ?_)
   rintro rfl
   exact r.inj k j b b1 g1 h hb hb1 ha ha1 hg hg1
 ·rw[lk_pt]at hb1
  by_cases h:k=j
  ·subst h;exact r.act k b g1 hb ha hg1
  ·rw[if_neg h]at hb1;exact r.act j b1 g1 hb1 ha1 hg1
 ·rw[lk_pt]at hb1 hb2
  by_cases h:k=j
  ·subst h
   rw[if_neg hne]at hb2
   exact r.inj k j' b b2 g1 hne hb hb2 ha ha2 hg1 hg2
  ·rw[if_neg h]at hb1
   by_cases h':k=j'
   ·subst h'
    exact r.inj j k b1 b g1 hne hb1 hb ha1 ha hg1 hg2
   ·rw[if_neg h']at hb2
    exact r.inj j j' b1 b2 g1 hne hb1 hb2 ha1 ha2 hg1 hg2
 ·exact⟨rfl,rfl,rfl,by rw[hsz];exact Nat.le_refl _,fun i hi hbx=>hoth i (by rintro rfl;exact hact.2.elim (fun h=>by omega) (fun h=>hbx h))⟩
theorem lk_strikeH(k j:Nat)(hp:List (Nat×B)):lk (strikeH k hp) j=(lk hp j).map fun b=>match b with | .box cs=>.box (strikeL k cs) | .mp es=>.mp (strikeM k es)|b=>b:=by
 induction hp with
 |nil=>simp[strikeH,lk]
 |cons p r ih=>
  obtain⟨x,b⟩:=p
  simp only[strikeH,lk]
  split
  ·rfl
  ·exact ih
theorem nth_strikeR(k d:Nat)(rt:List (List (Nat×V))):nth (strikeR k rt) d=(nth rt d).map (strikeT k):=by
 induction rt generalizing d with
 |nil=>simp[strikeR,nth]
 |cons l r ih=>cases d with
  |zero=>rfl
  |succ d=>exact ih d
theorem lk_strikeT(k t:Nat)(tm:List (Nat×V)):lk (strikeT k tm) t=(lk tm t).map (strikeV k):=by
 induction tm with
 |nil=>simp[strikeT,lk]
 |cons p r ih=>
  obtain⟨x,b⟩:=p
  simp only[strikeT,lk]
  split
  ·rfl
  ·exact ih
theorem lk_strikeG(k t:Nat)(gd:List (Nat×(Nat×Bool×V))):lk (strikeG k gd) t=(lk gd t).map fun p=>(p.1,p.2.1,strikeV k p.2.2):=by
 induction gd with
 |nil=>simp[strikeG,lk]
 |cons p r ih=>
  obtain⟨x,y,z,v⟩:=p
  simp only[strikeG,lk]
  split
  ·rfl
  ·exact ih
theorem strikeL_get(k:Nat)(cs:List V)(i:Nat)(c:V)(h:(strikeL k cs)[i]? = some c):∃c0,cs[i]? = some c0∧c=strikeV k c0:=by
 induction cs generalizing i with
 |nil=>simp[strikeL]at h
 |cons x r ih=>
  cases i with
  |zero=>simp[strikeL]at h;exact⟨x,rfl,h.symm⟩
  |succ i=>exact ih i (by simpa[strikeL]using h)
theorem strikeL_length(k:Nat)(cs:List V):(strikeL k cs).length=cs.length:=by
 induction cs with
 |nil=>rfl
 |cons x r ih=>simp[strikeL,ih]
theorem strikeM_get(k:Nat)(es:List (Value×V))(i:Nat)(x:Value×V)(h:(strikeM k es)[i]? = some x):∃x0,es[i]? = some x0∧x=(x0.1,strikeV k x0.2):=by
 induction es generalizing i with
 |nil=>simp[strikeM]at h
 |cons y r ih=>
  cases i with
  |zero=>simp[strikeM]at h;exact⟨y,rfl,h.symm⟩
  |succ i=>exact ih i (by simpa[strikeM]using h)
theorem strikeM_length(k:Nat)(es:List (Value×V)):(strikeM k es).length=es.length:=by
 induction es with
 |nil=>rfl
 |cons x r ih=>simp[strikeM,ih]
theorem names_strikeV(k:Nat)(c:V):V.names k (strikeV k c)=false:=by
 unfold strikeV;split
 ·rfl
 ·rename_i h;exact h
theorem VR.strike{hp:List (Nat×B)}{c:V}{v:Value}(h:VR ok φ hp w c v)(k:Nat):VR ok φ hp w (strikeV k c) v:=by
 unfold strikeV;split
 ·exact .dead _
 ·exact h
theorem sim_strike(k j:Nat)(hp:List (Nat×B)):Sim hp (strikeH k hp) j:=by
 unfold Sim
 split
 ·trivial
 ·rename_i cs h;exact⟨strikeL k cs,by rw[lk_strikeH,h];rfl⟩
 ·rename_i e sz es h;exact⟨es,.inl ⟨e,by rw[lk_strikeH,h];rfl⟩⟩
 ·rename_i sz es h;exact⟨es,.inr (by rw[lk_strikeH,h];rfl)⟩
 ·rename_i es h;exact⟨strikeM k es,by rw[lk_strikeH,h];rfl⟩
theorem Rel.strike(r:Rel B0 bx W0 ok0 Z N ok φ s a w)(k:Nat):Rel B0 bx W0 ok0 Z N ok φ (s.strike k) a w:=by
 have hm:∀{c:V} {v:Value},VR ok φ s.hp w c v→VR ok φ (strikeH k s.hp) w c v:=fun h=>
  h.mono (fun _ h=>h) (fun _ _=>rfl) (fun _ _ _=>rfl) (fun j _=>sim_strike k j s.hp)
 have hb:∀j b,lk (strikeH k s.hp) j=some b→∃b0,lk s.hp j=some b0∧b0.active=b.active∧BR B0 ok φ (strikeH k s.hp) w (φ j) b:=by
  intro j b h
  rw[lk_strikeH]at h
  cases h0:lk s.hp j with
  |none=>rw[h0]at h;cases h
  |some b0=>
   rw[h0]at h
   simp only[Option.map_some,Option.some.injEq]at h
   refine⟨b0,rfl,by subst h;cases b0<;>rfl,?_⟩
   have hB:=r.hp j b0 h0
   cases b0 with
   |box cs=>
    subst h
    obtain⟨g,arr,T,h1,h2,h3,h4⟩:=hB
    refine⟨g,arr,T,h1,h2,by rw[strikeL_length];exact h3,fun i c x hc hx=>?_⟩
    obtain⟨c0,hc0,rfl⟩:=strikeL_get k cs i c hc
    exact(hm (h4 i c0 x hc0 hx)).strike k
   |lst e sz es=>subst h;exact hB
   |fro sz es=>subst h;exact hB
   |mp es=>
    subst h
    obtain⟨g,ents,clock,h1,h2,h3,h5,h4⟩:=hB
    refine⟨g,ents,clock,h1,h2,by rw[strikeM_length];exact h3,fun x hx=>?_,fun i x y hc hx=>?_⟩
    ·obtain⟨i,hi,rfl⟩:=List.getElem_of_mem hx
     obtain⟨x0,hc0,e0⟩:=strikeM_get k es i _ (List.getElem?_eq_getElem hi)
     rw[e0];exact h5 x0 (List.mem_of_getElem? hc0)
    ·obtain⟨x0,hc0,rfl⟩:=strikeM_get k es i x hc
     exact⟨(h4 i x0 y hc0 hx).1,(hm (h4 i x0 y hc0 hx).2).strike k⟩
 exact {
  sz:=r.sz
  tm:=fun t x h=>by
   simp only[St.strike]at h
   rw[lk_strikeT]at h
   cases h0:lk s.tm t with
   |none=>rw[h0]at h;cases h
   |some y=>
    rw[h0]at h
    simp only[Option.map_some,Option.some.injEq]at h
    subst h
    exact(hm (r.tm t y h0)).strike k
  rt:=fun d l t x hl h=>by
   simp only[St.strike]at hl
   rw[nth_strikeR]at hl
   cases hd:nth s.rt d with
   |none=>rw[hd]at hl;cases hl
   |some l0=>
    rw[hd]at hl
    simp only[Option.map_some,Option.some.injEq]at hl
    subst hl
    rw[lk_strikeT]at h
    cases h0:lk l0 t with
    |none=>rw[h0]at h;cases h
    |some y=>
     rw[h0]at h
     simp only[Option.map_some,Option.some.injEq]at h
     subst h
     exact(hm (r.rt d l0 t y hd h0)).strike k
  gd:=fun t t' w' x h hw=>by
   simp only[St.strike]at h
   rw[lk_strikeG]at h
   cases h0:lk s.gd t with
   |none=>rw[h0]at h;cases h
   |some y=>
    obtain⟨y1,y2,y3⟩:=y
    rw[h0]at h
    simp only[Option.map_some,Option.some.injEq,Prod.mk.injEq]at h
    obtain⟨rfl,rfl,rfl⟩:=h
    exact(hm (r.gd t y1 y2 y3 h0 hw)).strike k
  gu:=fun t t' w' b h hw=>by
   simp only[St.strike]at h
   rw[lk_strikeG]at h
   cases h0:lk s.gd t with
   |none=>rw[h0]at h;cases h
   |some y=>
    obtain⟨y1,y2,y3⟩:=y
    rw[h0]at h
    simp only[Option.map_some,Option.some.injEq,Prod.mk.injEq]at h
    obtain⟨rfl,rfl,h3⟩:=h
    unfold strikeV at h3
    split at h3
    ·cases h3
    ·subst h3;exact r.gu t y1 y2 b h0 hw
  kn:=r.kn
  hp:=fun j b h=>let ⟨_,_,_,h3⟩:=hb j b h;h3
  act:=fun j b g h ha hg=>by
   obtain⟨b0,h1,h2,_⟩:=hb j b h
   exact r.act j b0 g h1 (by rw[h2];exact ha) hg
  inj:=fun j j' b b' g hne h h' ha ha' hg hg'=>by
   obtain⟨b0,h1,h2,_⟩:=hb j b h
   obtain⟨b1,h3,h4,_⟩:=hb j' b' h'
   exact r.inj j j' b0 b1 g hne h1 h3 (by rw[h2];exact ha) (by rw[h4];exact ha') hg hg'
  one:=r.one
  okl:=r.okl
  oks:=r.oks
  ok0:=r.ok0
  upd:=r.upd
  b0:=r.b0
  df:=r.df
  kz:=r.kz
  zs:=r.zs
  pin:=fun i g h=>by
   obtain⟨e1,cs,e2⟩:=r.pin i g h
   exact⟨e1,(sim_strike k _ s.hp).box e2⟩}
theorem noName_strike(s:St)(k:Nat):NoName (s.strike k) k where
 tm:=fun t x h=>by
  simp only[St.strike]at h
  rw[lk_strikeT]at h
  cases h0:lk s.tm t with
  |none=>rw[h0]at h;cases h
  |some y=>rw[h0]at h;simp only[Option.map_some,Option.some.injEq]at h;subst h;exact names_strikeV k y
 rt:=fun d l t x hl h=>by
  simp only[St.strike]at hl
  rw[nth_strikeR]at hl
  cases hd:nth s.rt d with
  |none=>rw[hd]at hl;cases hl
  |some l0=>
   rw[hd]at hl
   simp only[Option.map_some,Option.some.injEq]at hl
   subst hl
   rw[lk_strikeT]at h
   cases h0:lk l0 t with
   |none=>rw[h0]at h;cases h
   |some y=>
    rw[h0]at h
    simp only[Option.map_some,Option.some.injEq]at h
    subst h
    exact names_strikeV k y
 gd:=fun t t' w' x h=>by
  simp only[St.strike]at h
  rw[lk_strikeG]at h
  cases h0:lk s.gd t with
  |none=>rw[h0]at h;cases h
  |some y=>
   rw[h0]at h
   simp only[Option.map_some,Option.some.injEq,Prod.mk.injEq]at h
   obtain⟨_,_,rfl⟩:=h;exact names_strikeV k _
 hp:=fun j cs h=>by
  simp only[St.strike]at h
  rw[lk_strikeH]at h
  cases h0:lk s.hp j with
  |none=>rw[h0]at h;cases h
  |some y=>
   rw[h0]at h
   cases y with
   |box cs0=>
    simp only[Option.map_some,Option.some.injEq,B.box.injEq]at h
    subst h
    rw[namesL_iff]
    intro c hc
    obtain⟨i,hi⟩:=List.getElem?_of_mem hc
    obtain⟨c0,_,rfl⟩:=strikeL_get k cs0 i c hi
    exact names_strikeV k c0
   |_=>simp at h
 mp:=fun j es h=>by
  simp only[St.strike]at h
  rw[lk_strikeH]at h
  cases h0:lk s.hp j with
  |none=>rw[h0]at h;cases h
  |some y=>
   rw[h0]at h
   cases y with
   |mp es0=>
    simp only[Option.map_some,Option.some.injEq,B.mp.injEq]at h
    subst h
    intro x hx
    obtain⟨i,hi⟩:=List.getElem?_of_mem hx
    obtain⟨x0,_,rfl⟩:=strikeM_get k es0 i x hi
    exact names_strikeV k x0.2
   |_=>simp at h
theorem Rel.lstRd(r:Rel B0 bx W0 ok0 Z N ok φ s a w){k e sz:Nat}{es:List (List D)}(hb:lk s.hp k=some (.lst e sz es)):Rd (fun b=>ok b∨blockOf (φ k)=some b) w (φ k) (.sl es):=by
 obtain⟨hpos,hall,xs,hown,hr⟩:=r.hp k _ hb
 let ok':Nat→Prop:=fun b=>ok b∨blockOf (φ k)=some b
 have h1:∀b,ok b→ok' b:=fun b h=>.inl h
 show Rd ok' w (φ k) (.sl es)
 rcases hown.2 with⟨hn,hz⟩|⟨g,cap,cur,hs,hbase,hh,hnc,hml,hsz,htk⟩
 ·have:es=[]:=List.eq_nil_of_length_eq_zero hz
  subst this
  rw[hn];exact .nil
 ·have hcell:∀i j,i<es.length→j<sz→w.cell? ⟨g,0+(i*sz+j),none⟩=some (xs.getD (i*sz+j) undef):=by
   intro i j hi hj
   have hidx:i*sz+j<xs.length:=by
    rw[hown.1]
    calc i*sz+j<i*sz+sz:=by omega
     _=(i+1)*sz:=by rw[Nat.add_mul];omega
     _≤es.length*sz:=Nat.mul_le_mul_right _ hi
   have hc:=hown.cells (g:=g) (by rw[hs];rfl) (i*sz+j) (xs.getD (i*sz+j) undef) (by
    rw[List.getD_eq_getElem?_getD,List.getElem?_eq_getElem hidx];rfl)
   rw[addr_add,Nat.zero_add]at hc
   rw[Nat.zero_add];exact hc
  have hbk:ok' g:=.inr (by rw[hs];rfl)
  rw[hs]
  exact .sl sz (fun i j=>xs.getD (i*sz+j) undef) hnc (fun _=>hbk) hall hcell (fun i j hi hj=>(hr i j hi hj).mono h1 (fun _ _=>rfl))
theorem Rel.freeze(r:Rel B0 bx W0 ok0 Z N ok φ s a w){k e sz:Nat}{es:List (List D)}(hb:lk s.hp k=some (.lst e sz es)):
  ∃ok',Rel B0 bx W0 ok0 Z N ok' φ (s.setB k (.fro sz es)) a w∧Rd ok' w (φ k) (.sl es)∧(∀b,ok b→ok' b):=by
 have hB:=r.hp k _ hb
 obtain⟨hpos,hall,xs,hown,hr⟩:=hB
 let ok':Nat→Prop:=fun b=>ok b∨blockOf (φ k)=some b
 have h1:∀b,ok b→ok' b:=fun b h=>.inl h
 have hrd:Rd ok' w (φ k) (.sl es):=r.lstRd hb
 have h4:∀j,Sim s.hp (pt s.hp k (.fro sz es)) j:=by
  intro j
  unfold Sim
  by_cases h:k=j
  ·subst h;rw[hb,lk_pt,if_pos rfl];exact⟨es,.inr rfl⟩
  ·rw[lk_pt,if_neg h];exact Sim.refl s.hp j
 refine⟨ok',r.step (fun _=>False) (fun _ h=>h.elim) h1 (fun _ _=>rfl) (fun _ _ _=>rfl) (fun j _=>h4 j) (fun j b1 hb1=>?_) (fun j b1 g1 hb1 ha1 hg1=>?_) (fun j j' b1 b2 g1 hne hb1 hb2 ha1 ha2 hg1 hg2=>?_) r.one (fun b h=>?_) (fun b h=>?_) (Upd.refl _ _ _),hrd,h1⟩
 ·rw[lk_pt]at hb1
  by_cases h:k=j
  ·subst h;rw[if_pos rfl]at hb1;simp only[Option.some.injEq]at hb1;subst hb1
   refine⟨hpos,hall,hrd,?_⟩
   rcases hown.2 with⟨hn,_⟩|⟨g,cap,cur,hs,_⟩
   ·exact .inl hn
   ·exact .inr ⟨g,_,cap,hs⟩
  ·rw[if_neg h]at hb1
   exact(r.hp j b1 hb1).keep (fun _=>False) (fun _ _ h=>h.elim) h1 (fun _ _=>rfl) (fun _ _ _=>rfl) (fun j _=>h4 j) (fun _ _ _=>rfl)
 ·rw[lk_pt]at hb1
  by_cases h:k=j
  ·subst h;rw[if_pos rfl]at hb1;simp only[Option.some.injEq]at hb1;subst hb1;cases ha1
  ·rw[if_neg h]at hb1
   have:=r.act j b1 g1 hb1 ha1 hg1
   refine⟨fun ho=>?_,this.2⟩
   rcases ho with ho|ho
   ·exact this.1 ho
   ·exact r.inj k j _ b1 g1 h hb hb1 rfl ha1 ho hg1
 ·rw[lk_pt]at hb1 hb2
  by_cases h:k=j
  ·subst h;rw[if_pos rfl]at hb1;simp only[Option.some.injEq]at hb1;subst hb1;cases ha1
  ·rw[if_neg h]at hb1
   by_cases h':k=j'
   ·subst h';rw[if_pos rfl]at hb2;simp only[Option.some.injEq]at hb2;subst hb2;cases ha2
   ·rw[if_neg h']at hb2
    exact r.inj j j' b1 b2 g1 hne hb1 hb2 ha1 ha2 hg1 hg2
 ·rcases h with h|h
  ·exact r.okl b h
  ·exact(r.hp k _ hb).block_lt rfl h
 ·rcases h with h|h
  ·exact r.oks b h
  ·rcases hown.2 with⟨hn,_⟩|⟨g,cap,cur,hs,hbase,_⟩
   ·rw[hn]at h;cases h
   ·rw[hs]at h;simp[blockOf]at h;subst h;exact .inr hbase
theorem toD_sound(r:Rel B0 bx W0 ok0 Z N ok φ s a w){c:V}{v:Value}(hv:VR ok φ s.hp w c v){x:D}{s':St}(h:toD s c=some (x,s')):
  ∃ok',Rel B0 bx W0 ok0 Z N ok' φ s' a w∧Rd ok' w v x∧(∀b,ok b→ok' b)∧(∀j,Sim s.hp s'.hp j):=by
 cases hv with
 |d hrd=>simp[toD]at h;obtain⟨rfl,rfl⟩:=h;exact⟨ok,r,hrd,fun _ h=>h,Sim.refl _⟩
 |nil=>simp[toD]at h;obtain⟨rfl,rfl⟩:=h;exact⟨ok,r,.nil,fun _ h=>h,Sim.refl _⟩
 | @own k sz0 es0 v hb0 hφ=>
   subst hφ
   simp only[toD]at h
   split at h
   ·rename_i e0 sz es hb
    simp only[Option.some.injEq,Prod.mk.injEq]at h
    obtain⟨rfl,rfl⟩:=h
    obtain⟨ok',r',hrd,h1⟩:=r.freeze hb
    refine⟨ok',r',hrd,h1,fun j=>?_⟩
    unfold Sim
    by_cases h:k=j
    ·subst h;rw[hb];simp only[St.setB];rw[lk_pt,if_pos rfl];exact⟨es,.inr rfl⟩
    ·simp only[St.setB];rw[lk_pt,if_neg h];exact Sim.refl s.hp j
   ·rename_i sz es hb
    simp only[Option.some.injEq,Prod.mk.injEq]at h
    obtain⟨rfl,rfl⟩:=h
    obtain⟨_,_,hrd,_⟩:=r.hp k _ hb
    exact⟨ok,r,hrd,fun _ h=>h,Sim.refl _⟩
   ·cases h
 | @vw k lo n g m cap cap' off sz0 es0 hb0 hφ hle hcap hoff=>
   simp only[toD]at h
   split at h
   ·rename_i e0 sz es hb
    simp only[Option.some.injEq,Prod.mk.injEq]at h
    obtain⟨rfl,rfl⟩:=h
    obtain⟨ok',r',hrd,h1⟩:=r.freeze hb
    have hs:sz0=sz:=by
       rcases hb0 with⟨e',h1⟩|h1
       ·rw[hb]at h1;simp only[Option.some.injEq,B.lst.injEq]at h1;exact h1.2.1.symm
       ·rw[hb]at h1;cases h1
    subst hs
    refine⟨ok',r',rd_cut hrd hφ (r.hp k _ hb).2.1 hle hcap hoff,h1,fun j=>?_⟩
    unfold Sim
    by_cases h:k=j
    ·subst h;rw[hb];simp only[St.setB];rw[lk_pt,if_pos rfl];exact⟨es,.inr rfl⟩
    ·simp only[St.setB];rw[lk_pt,if_neg h];exact Sim.refl s.hp j
   ·rename_i sz es hb
    simp only[Option.some.injEq,Prod.mk.injEq]at h
    obtain⟨rfl,rfl⟩:=h
    obtain⟨_,hall,hrd,_⟩:=r.hp k _ hb
    have hs:sz0=sz:=by
       rcases hb0 with⟨e',h1⟩|h1
       ·rw[hb]at h1;cases h1
       ·rw[hb]at h1;simp only[Option.some.injEq,B.fro.injEq]at h1;exact h1.1.symm
    subst hs
    exact⟨ok,r,rd_cut hrd hφ hall hle hcap hoff,fun _ h=>h,Sim.refl _⟩
   ·cases h
 |_=>simp[toD]at h
theorem Sim.trans{a b c:List (Nat×B)}{k:Nat}(h:Sim a b k)(h':Sim b c k):Sim a c k:=by
 unfold Sim at h ⊢
 split
 ·trivial
 ·rename_i cs hk;rw[hk]at h;obtain⟨cs',h1⟩:=h;exact h'.box h1
 ·rename_i e sz es hk;rw[hk]at h;obtain⟨es',h1⟩:=h;exact h'.lst h1
 ·rename_i sz es hk;rw[hk]at h;obtain⟨es',h1⟩:=h;exact h'.lst h1
 ·rename_i es hk;rw[hk]at h;obtain⟨es',h1⟩:=h;exact h'.mp h1
theorem toDs_sound{vs:List Value}:∀{cs:List V} {ok:Nat→Prop} {s s':St} {xs:List D},Rel B0 bx W0 ok0 Z N ok φ s a w→vs.length=cs.length→
  (∀(i:Nat) (c:V) (x:Value),cs[i]? = some c→vs[i]? = some x→VR ok φ s.hp w c x)→toDs s cs=some (xs,s')→
  ∃ok',Rel B0 bx W0 ok0 Z N ok' φ s' a w∧xs.length=cs.length∧(∀(i:Nat) (x:D) (v:Value),xs[i]? = some x→vs[i]? = some v→Rd ok' w v x)∧(∀b,ok b→ok' b)∧(∀j,Sim s.hp s'.hp j):=by
 induction vs with
 |nil=>
  intro cs ok s s' xs r hl hv h
  cases cs with
  |nil=>simp[toDs]at h;obtain⟨rfl,rfl⟩:=h;exact⟨ok,r,rfl,fun i x v h=>by simp at h,fun _ h=>h,Sim.refl _⟩
  |cons c cs=>simp at hl
 |cons v vs ih=>
  intro cs ok s s' xs r hl hv h
  cases cs with
  |nil=>simp at hl
  |cons c cs=>
   simp only[toDs]at h
   split at h
   ·cases h
   rename_i x s1 hx
   split at h
   ·cases h
   rename_i xs1 s2 hxs
   simp only[Option.some.injEq,Prod.mk.injEq]at h
   obtain⟨rfl,rfl⟩:=h
   obtain⟨ok1,r1,hrd,h1,hs1⟩:=toD_sound r (hv 0 c v rfl rfl) hx
   obtain⟨ok2,r2,hl2,hrds,h2,hs2⟩:=ih r1 (by simpa using hl) (fun i c x hc hx=>(hv (i+1) c x (by simpa using hc) (by simpa using hx)).mono h1 (fun _ _=>rfl) (fun _ _ _=>rfl) (fun j _=>hs1 j)) hxs
   refine⟨ok2,r2,by simp[hl2],fun i x' v' hx' hv'=>?_,fun b hb=>h2 b (h1 b hb),fun j=>(hs1 j).trans (hs2 j)⟩
   cases i with
   |zero=>simp at hx' hv';subst hx';subst hv';exact hrd.mono h2 (fun _ _=>rfl)
   |succ i=>exact hrds i x' v' (by simpa using hx') (by simpa using hv')
end
end Go.Dm
