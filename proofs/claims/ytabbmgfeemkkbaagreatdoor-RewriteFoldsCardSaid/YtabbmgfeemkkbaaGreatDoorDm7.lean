/- Part of the proof: contracts of functions; no condition. -/
import Derived.Test.YtabbmgfeemkkbaaGreatDoorDm6
namespace Go.Dm
variable {P:Program} {E:Env}
variable {B0:Nat} {bx:List Nat} {W0:World} {aI:Nat→Prop} {Z:Zr} {N:Nat}
structure wG (s:St) (k:Nat):Prop where
 tm:∀t x,lk s.tm t=some x→V.names k x=false
 gd:∀t t' w' x,lk s.gd t=some (t',w',x)→V.names k x=false
 rt:∀d l t x,nth s.rt d=some l→lk l t=some x→V.names k x=false
 hp:∀j cs,lk s.hp j=some (.box cs)→V.fK k cs=false
 mp:∀j es,lk s.hp j=some (.mp es)→∀x∈es,V.names k x.2=false
theorem mB.mono{bx tq:List Nat}{B:Nat}{a b:World}(h:mB bx B a b)(hs:∀g∈bx,g∈tq):mB tq B a b:=⟨h.os,h.tape,h.output,h.size,fun k hk hn=>h.block k hk (fun hm=>hn (hs k hm))⟩
theorem Rel.FL{tq:List Nat}(zx:∀g∈bx,g∈tq){ok ok':Nat→Prop}{φ φ':Nat→Value}{s:St}{a:Act}{w w':World}{hp':List (Nat×B)}(r:Rel B0 bx W0 aI Z N ok φ s a w)(X:Nat→Prop)
  (hX:∀k,X k→wG s k) (h1:∀b,ok b→ok' b) (h2:∀b,ok b→w'.heap[b]? = w.heap[b]?)
  (h3:∀k,¬X k→lk s.hp k≠none→φ' k=φ k) (h4:∀k,¬X k→cI s.hp hp' k)
  (hB:∀k b,lk hp' k=some b→BR B0 ok' φ' hp' w' (φ' k) b)
  (act:∀k b g,lk hp' k=some b→b.aM=true→aq (φ' k)=some g→¬ok' g∧(B0≤g∨g∈tq))
  (inj:∀k k' b b' g,k≠k'→lk hp' k=some b→lk hp' k'=some b'→b.aM=true→b'.aM=true→aq (φ' k)=some g→aq (φ' k')≠some g)
  (one:∀k,(φ' k).oneCell'=true) (fH:∀b,ok' b→b<w'.heap.size) (kT:∀b,ok' b→aI b∨B0≤b) (l8:mB tq B0 w w') (oP:∀(i g:Nat),tq[i]? = some g→φ' (100000+i) = .pointer (some ⟨g,0,none⟩)∧∃cs,lk hp' (100000+i)=some (.box cs)):
  Rel B0 tq W0 aI Z N ok' φ' {s with hp:=hp'} a w' where
 sz:=r.sz
 tm:=fun t x h=>(r.tm t x h).mono h1 h2 (fun k hk hn=>h3 k (fun hx=>by rw[(hX k hx).tm t x h]at hk;cases hk) hn) (fun k hk=>h4 k (fun hx=>by rw[(hX k hx).tm t x h]at hk;cases hk))
 gd:=fun t t' w' x h hw=>(r.gd t t' w' x h hw).mono h1 h2 (fun k hk hn=>h3 k (fun hx=>by rw[(hX k hx).gd t t' w' x h]at hk;cases hk) hn) (fun k hk=>h4 k (fun hx=>by rw[(hX k hx).gd t t' w' x h]at hk;cases hk))
 gu:=r.gu
 kn:=r.kn
 rt:=fun d l t x hl h=>(r.rt d l t x hl h).mono h1 h2 (fun k hk hn=>h3 k (fun hx=>by rw[(hX k hx).rt d l t x hl h]at hk;cases hk) hn) (fun k hk=>h4 k (fun hx=>by rw[(hX k hx).rt d l t x hl h]at hk;cases hk))
 hp:=hB
 act:=act
 inj:=inj
 one:=one
 fH:=fH
 kT:=kT
 aI:=fun b hb=>h1 b (r.aI b hb)
 l8:=(r.l8.mono zx).trans l8
 b0:=Nat.le_trans r.b0 l8.size
 df:=by
  obtain⟨Ds,e1,e2,e3⟩:=r.df
  exact⟨Ds,e1,e2,fun D hD=>⟨(e3 D hD).1,h1 D (e3 D hD).2.1,(h2 D (e3 D hD).2.1).trans (e3 D hD).2.2⟩⟩
 zs:=Nat.le_trans r.zs l8.size
 kz:=fun b o hz=>⟨h1 b (r.kz b o hz).1,(h2 b (r.kz b o hz).1).trans (r.kz b o hz).2⟩
 oP:=oP
theorem Rel.step{ok ok':Nat→Prop}{φ φ':Nat→Value}{s:St}{a:Act}{w w':World}{hp':List (Nat×B)}(r:Rel B0 bx W0 aI Z N ok φ s a w)(X:Nat→Prop)
  (hX:∀k,X k→wG s k) (h1:∀b,ok b→ok' b) (h2:∀b,ok b→w'.heap[b]? = w.heap[b]?)
  (h3:∀k,¬X k→lk s.hp k≠none→φ' k=φ k) (h4:∀k,¬X k→cI s.hp hp' k)
  (hB:∀k b,lk hp' k=some b→BR B0 ok' φ' hp' w' (φ' k) b)
  (act:∀k b g,lk hp' k=some b→b.aM=true→aq (φ' k)=some g→¬ok' g∧(B0≤g∨g∈bx))
  (inj:∀k k' b b' g,k≠k'→lk hp' k=some b→lk hp' k'=some b'→b.aM=true→b'.aM=true→aq (φ' k)=some g→aq (φ' k')≠some g)
  (one:∀k,(φ' k).oneCell'=true) (fH:∀b,ok' b→b<w'.heap.size) (kT:∀b,ok' b→aI b∨B0≤b) (l8:mB bx B0 w w') (hXp:∀k,X k→∀cs,lk s.hp k≠some (.box cs):=by exact fun _ h=>False.elim h):
  Rel B0 bx W0 aI Z N ok' φ' {s with hp:=hp'} a w':=
 r.FL (fun _ h=>h) X hX h1 h2 h3 h4 hB act inj one fH kT l8 fun i g h=>by
  obtain⟨e1,cs,e2⟩:=r.oP i g h
  have hn:¬X (100000+i):=fun hx=>hXp _ hx cs e2
  exact⟨by rw[h3 _ hn (by rw[e2];simp)];exact e1,(h4 _ hn).box e2⟩
theorem BR.keep{ok ok':Nat→Prop}{φ φ':Nat→Value}{hp hp':List (Nat×B)}{w w':World}{v:Value}{b:B}(h:BR B0 ok φ hp w v b)(X:Nat→Prop)
  (hX:∀k cs,X k→b = .box cs→V.fK k cs=false) (h1:∀b,ok b→ok' b) (h2:∀b,ok b→w'.heap[b]? = w.heap[b]?)
  (h3:∀k,¬X k→lk hp k≠none→φ' k=φ k) (h4:∀k,¬X k→cI hp hp' k)
  (hv:b.aM=true→∀g,aq v=some g→w'.heap[g]? = w.heap[g]?) (hX':∀k es,X k→b = .mp es→∀x∈es,V.names k x.2=false:=by exact fun _ _ h=>False.elim h):BR B0 ok' φ' hp' w' v b:=by
 cases b with
 |box cs=>
  obtain⟨g,arr,T,rfl,hh,hs,hr⟩:=h
  refine⟨g,arr,T,rfl,by rw[hv rfl g rfl];exact hh,hs,fun j c x hc hx=>(hr j c x hc hx).mono h1 h2 (fun k hk hn=>h3 k (fun ya=>?_) hn) (fun k hk=>h4 k (fun ya=>?_))⟩
  all_goals
   have:=hX k cs ya rfl
   rw[kh]at this
   rw[this c (List.mem_of_getElem? hc)]at hk;cases hk
 |bu e sz es=>
  obtain⟨ct,bC,xs,cx,hr⟩:=h
  refine⟨ct,bC,xs,?_,fun i j hi hj=>(hr i j hi hj).mono h1 h2⟩
  refine⟨cx.1,?_⟩
  rcases cx.2 with hn|⟨g,cap,cur,rfl,hb,hh,rest⟩
  ·exact .inl hn
  ·exact .inr ⟨g,cap,cur,rfl,hb,by rw[hv rfl g rfl];exact hh,rest⟩
 |j9 sz es=>
  obtain⟨ct,bC,cK,hs⟩:=h
  exact⟨ct,bC,cK.mono h1 h2,hs⟩
 |mp es=>
  obtain⟨g,gk,clock,rfl,hh,hs,hp,hr⟩:=h
  refine⟨g,gk,clock,rfl,by rw[hv rfl g rfl];exact hh,hs,hp,fun j x y hx hy=>⟨(hr j x y hx hy).1,(hr j x y hx hy).2.mono h1 h2 (fun k hk hn=>h3 k (fun ya=>?_) hn) (fun k hk=>h4 k (fun ya=>?_))⟩⟩
  all_goals
   rw[hX' k es ya rfl x (List.mem_of_getElem? hx)]at hk;cases hk
section
variable {ok:Nat→Prop} {φ:Nat→Value} {s:St} {a:Act} {w:World}
def aO(φ:Nat→Value)(k:Nat)(v:Value):Nat→Value:=fun j=>if j=k then v else φ j
theorem BR.cy{hp:List (Nat×B)}{v:Value}{b:B}(h:BR B0 ok φ hp w v b)(ha:b.aM=true){g:Nat}(hg:aq v=some g):g<w.heap.size:=by
 cases b with
 |box cs=>
  obtain⟨g',arr,T,rfl,hh,_⟩:=h
  simp[aq]at hg;subst hg
  exact(Array.getElem?_eq_some_iff.1 hh).1
 |bu e sz es=>
  obtain⟨_,_,xs,cx,_⟩:=h
  rcases cx.2 with⟨rfl,_⟩|⟨g',cap,cur,rfl,hb,hh,rest⟩
  ·simp[aq]at hg
  ·simp[aq]at hg;subst hg
   exact(Array.getElem?_eq_some_iff.1 hh).1
 |j9=>cases ha
 |mp es=>
  obtain⟨g',gk,clock,rfl,hh,_⟩:=h
  simp[aq]at hg;subst hg
  exact(Array.getElem?_eq_some_iff.1 hh).1
theorem Rel.fresh(r:Rel B0 bx W0 aI Z N ok φ s a w){key:Nat}(hk:lk s.hp key=none)(o:Obj)(v:Value)(b:B)(hv:v.oneCell'=true)(hblk:∀g,aq v=some g→g=w.heap.size)
  (hB:BR B0 ok (aO φ key v) (pt s.hp key b) (w.alloc o) v b):
  Rel B0 bx W0 aI Z N ok (aO φ key v) (s.bp key b) a (w.alloc o):=by
 have hsz:(w.alloc o).heap.size=w.heap.size+1:=Array.size_push ..
 have hold:∀i,i<w.heap.size→(w.alloc o).heap[i]? = w.heap[i]?:=fun i hi=>heap_alloc_old w o i hi
 refine r.step (fun _=>False) (fun _ h=>h.elim) (fun _ h=>h) (fun b hb=>hold b (r.fH b hb)) (fun k _ hn=>?_) (fun k _=>?_) (fun k b' hb=>?_) ?_ ?_ (fun k=>?_) (fun b hb=>by have:=r.fH b hb;omega) r.kT ?_
 ·simp only[aO];rw[if_neg (by rintro rfl;exact hn hk)]
 ·unfold cI
  rw[aJ]
  by_cases h:key=k
  ·subst h;rw[hk];trivial
  ·rw[if_neg h];exact cI.refl s.hp k
 ·rw[aJ]at hb
  by_cases h:key=k
  ·subst h
   rw[if_pos rfl]at hb
   simp only[Option.some.injEq]at hb;subst hb
   simpa[aO]using hB
  ·rw[if_neg h]at hb
   have:aO φ key v k=φ k:=by simp[aO,Ne.symm h]
   rw[this]
   refine(r.hp k b' hb).keep (fun _=>False) (fun _ _ h=>h.elim) (fun _ h=>h) (fun b hb=>hold b (r.fH b hb)) (fun k _ hn=>?_) (fun k _=>?_) (fun ha g hg=>hold g ((r.hp k b' hb).cy ha hg))
   ·simp only[aO];rw[if_neg (by rintro rfl;exact hn hk)]
   ·unfold cI
    rw[aJ]
    by_cases h:key=k
    ·subst h;rw[hk];trivial
    ·rw[if_neg h];exact cI.refl s.hp k
 ·intro k b' g hb ha hg
  rw[aJ]at hb
  by_cases h:key=k
  ·subst h
   simp only[aO,if_true]at hg
   have:=hblk g hg
   subst this
   exact⟨fun fQ=>by have:=r.fH _ fQ;omega,.inl r.b0⟩
  ·rw[if_neg h]at hb
   simp only[aO,if_neg (Ne.symm h)]at hg
   exact r.act k b' g hb ha hg
 ·intro k k' b1 b2 g bT hb1 du gp jJ fe gn
  rw[aJ]at hb1 du
  by_cases h:key=k
  ·subst h
   rw[if_neg bT]at du
   simp only[aO,if_true]at fe
   simp only[aO,if_neg (Ne.symm bT)]at gn
   have:=hblk g fe
   have:=(r.hp k' b2 du).cy jJ gn
   omega
  ·rw[if_neg h]at hb1
   simp only[aO,if_neg (Ne.symm h)]at fe
   by_cases h':key=k'
   ·subst h'
    simp only[aO,if_true]at gn
    have:=hblk g gn
    have:=(r.hp k b1 hb1).cy gp fe
    omega
   ·rw[if_neg h']at du
    simp only[aO,if_neg (Ne.symm h')]at gn
    exact r.inj k k' b1 b2 g bT hb1 du gp jJ fe gn
 ·simp only[aO];split
  ·exact hv
  ·exact r.one k
 ·exact⟨rfl,rfl,rfl,by omega,fun k hk _=>hold k (Nat.lt_of_lt_of_le hk r.b0)⟩
theorem Rel.written(r:Rel B0 bx W0 aI Z N ok φ s a w){k g:Nat}{b b':B}(hb:lk s.hp k=some b)(ha:b.aM=true)(DT:b'.aM=true)(hg:aq (φ k)=some g)(arr:Array Value)
  (FM:cI s.hp (pt s.hp k b') k) (hB:BR B0 ok φ (pt s.hp k b') (w.setRow g arr) (φ k) b'):
  Rel B0 bx W0 aI Z N ok φ (s.bp k b') a (w.setRow g arr):=by
 have zX:∀i,i≠g→(w.setRow g arr).heap[i]? = w.heap[i]?:=fun i hi=>setRow_other w g i arr hi
 have qb:=r.act k b g hb ha hg
 have hsz:(w.setRow g arr).heap.size=w.heap.size:=by simp[World.setRow]
 have h2:∀b,ok b→(w.setRow g arr).heap[b]? = w.heap[b]?:=fun b hb=>zX b (by rintro rfl;exact qb.1 hb)
 have h4:∀j,cI s.hp (pt s.hp k b') j:=by
  intro j
  by_cases h:k=j
  ·subst h;exact FM
  ·unfold cI;rw[aJ,if_neg h];exact cI.refl s.hp j
 refine r.step (fun _=>False) (fun _ h=>h.elim) (fun _ h=>h) h2 (fun _ _ _=>rfl) (fun j _=>h4 j) (fun j b1 hb1=>?_) (fun j b1 g1 hb1 gp fe=>?_) (fun j j' b1 b2 g1 bT hb1 du gp jJ fe gn=>?_) r.one (fun b hb=>by rw[hsz];exact r.fH b hb) r.kT ?_
 ·rw[aJ]at hb1
  by_cases h:k=j
  ·subst h;rw[if_pos rfl]at hb1;simp only[Option.some.injEq]at hb1;subst hb1;exact hB
  ·rw[if_neg h]at hb1
   refine(r.hp j b1 hb1).keep (fun _=>False) (fun _ _ h=>h.elim) (fun _ h=>h) h2 (fun _ _ _=>rfl) (fun j _=>h4 j) (fun gp g1 fe=>zX g1 ?_)
   rintro rfl
   exact r.inj k j b b1 g1 h hb hb1 ha gp hg fe
 ·rw[aJ]at hb1
  by_cases h:k=j
  ·subst h;exact r.act k b g1 hb ha fe
  ·rw[if_neg h]at hb1;exact r.act j b1 g1 hb1 gp fe
 ·rw[aJ]at hb1 du
  by_cases h:k=j
  ·subst h
   rw[if_neg bT]at du
   exact r.inj k j' b b2 g1 bT hb du ha jJ fe gn
  ·rw[if_neg h]at hb1
   by_cases h':k=j'
   ·subst h'
    exact r.inj j k b1 b g1 bT hb1 hb gp ha fe gn
   ·rw[if_neg h']at du
    exact r.inj j j' b1 b2 g1 bT hb1 du gp jJ fe gn
 ·exact⟨rfl,rfl,rfl,by rw[hsz];exact Nat.le_refl _,fun i hi zx=>zX i (by rintro rfl;exact qb.2.elim (fun h=>by omega) (fun h=>zx h))⟩
theorem dm(k j:Nat)(hp:List (Nat×B)):lk (gD k hp) j=(lk hp j).map fun b=>match b with | .box cs=>.box (gB k cs) | .mp es=>.mp (gC k es)|b=>b:=by
 induction hp with
 |nil=>simp[gD,lk]
 |cons p r ih=>
  obtain⟨x,b⟩:=p
  simp only[gD,lk]
  split
  ·rfl
  ·exact ih
theorem pD(k d:Nat)(rt:List (List (Nat×V))):nth (qw k rt) d=(nth rt d).map (kb k):=by
 induction rt generalizing d with
 |nil=>simp[qw,nth]
 |cons l r ih=>cases d with
  |zero=>rfl
  |succ d=>exact ih d
theorem kl(k t:Nat)(tm:List (Nat×V)):lk (kb k tm) t=(lk tm t).map (eD k):=by
 induction tm with
 |nil=>simp[kb,lk]
 |cons p r ih=>
  obtain⟨x,b⟩:=p
  simp only[kb,lk]
  split
  ·rfl
  ·exact ih
theorem mF(k t:Nat)(gd:List (Nat×(Nat×Bool×V))):lk (nw k gd) t=(lk gd t).map fun p=>(p.1,p.2.1,eD k p.2.2):=by
 induction gd with
 |nil=>simp[nw,lk]
 |cons p r ih=>
  obtain⟨x,y,z,v⟩:=p
  simp only[nw,lk]
  split
  ·rfl
  ·exact ih
theorem pE(k:Nat)(cs:List V)(i:Nat)(c:V)(h:(gB k cs)[i]? = some c):∃c0,cs[i]? = some c0∧c=eD k c0:=by
 induction cs generalizing i with
 |nil=>simp[gB]at h
 |cons x r ih=>
  cases i with
  |zero=>simp[gB]at h;exact⟨x,rfl,h.symm⟩
  |succ i=>exact ih i (by simpa[gB]using h)
theorem rU(k:Nat)(cs:List V):(gB k cs).length=cs.length:=by
 induction cs with
 |nil=>rfl
 |cons x r ih=>simp[gB,ih]
theorem kX(k:Nat)(es:List (Value×V))(i:Nat)(x:Value×V)(h:(gC k es)[i]? = some x):∃x0,es[i]? = some x0∧x=(x0.1,eD k x0.2):=by
 induction es generalizing i with
 |nil=>simp[gC]at h
 |cons y r ih=>
  cases i with
  |zero=>simp[gC]at h;exact⟨y,rfl,h.symm⟩
  |succ i=>exact ih i (by simpa[gC]using h)
theorem rV(k:Nat)(es:List (Value×V)):(gC k es).length=es.length:=by
 induction es with
 |nil=>rfl
 |cons x r ih=>simp[gC,ih]
theorem eX(k:Nat)(c:V):V.names k (eD k c)=false:=by
 unfold eD;split
 ·rfl
 ·rename_i h;exact h
theorem VR.bH{hp:List (Nat×B)}{c:V}{v:Value}(h:VR ok φ hp w c v)(k:Nat):VR ok φ hp w (eD k c) v:=by
 unfold eD;split
 ·exact .dead _
 ·exact h
theorem mG(k j:Nat)(hp:List (Nat×B)):cI hp (gD k hp) j:=by
 unfold cI
 split
 ·trivial
 ·rename_i cs h;exact⟨gB k cs,by rw[dm,h];rfl⟩
 ·rename_i e sz es h;exact⟨es,.inl ⟨e,by rw[dm,h];rfl⟩⟩
 ·rename_i sz es h;exact⟨es,.inr (by rw[dm,h];rfl)⟩
 ·rename_i es h;exact⟨gC k es,by rw[dm,h];rfl⟩
theorem Rel.bH(r:Rel B0 bx W0 aI Z N ok φ s a w)(k:Nat):Rel B0 bx W0 aI Z N ok φ (s.bH k) a w:=by
 have hm:∀{c:V} {v:Value},VR ok φ s.hp w c v→VR ok φ (gD k s.hp) w c v:=fun h=>
  h.mono (fun _ h=>h) (fun _ _=>rfl) (fun _ _ _=>rfl) (fun j _=>mG k j s.hp)
 have hb:∀j b,lk (gD k s.hp) j=some b→∃b0,lk s.hp j=some b0∧b0.aM=b.aM∧BR B0 ok φ (gD k s.hp) w (φ j) b:=by
  intro j b h
  rw[dm]at h
  cases h0:lk s.hp j with
  |none=>rw[h0]at h;cases h
  |some b0=>
   rw[h0]at h
   simp only[Option.map_some,Option.some.injEq]at h
   refine⟨b0,rfl,by subst h;cases b0<;>rfl,?_⟩
   have hB:=r.hp j b0 h0
   cases b0 with
   |box cs=>
    subst h
    obtain⟨g,arr,T,h1,h2,h3,h4⟩:=hB
    refine⟨g,arr,T,h1,h2,by rw[rU];exact h3,fun i c x hc hx=>?_⟩
    obtain⟨c0,hc0,rfl⟩:=pE k cs i c hc
    exact(hm (h4 i c0 x hc0 hx)).bH k
   |bu e sz es=>subst h;exact hB
   |j9 sz es=>subst h;exact hB
   |mp es=>
    subst h
    obtain⟨g,gk,clock,h1,h2,h3,h5,h4⟩:=hB
    refine⟨g,gk,clock,h1,h2,by rw[rV];exact h3,fun x hx=>?_,fun i x y hc hx=>?_⟩
    ·obtain⟨i,hi,rfl⟩:=List.getElem_of_mem hx
     obtain⟨x0,hc0,e0⟩:=kX k es i _ (List.getElem?_eq_getElem hi)
     rw[e0];exact h5 x0 (List.mem_of_getElem? hc0)
    ·obtain⟨x0,hc0,rfl⟩:=kX k es i x hc
     exact⟨(h4 i x0 y hc0 hx).1,(hm (h4 i x0 y hc0 hx).2).bH k⟩
 exact {
  sz:=r.sz
  tm:=fun t x h=>by
   simp only[St.bH]at h
   rw[kl]at h
   cases h0:lk s.tm t with
   |none=>rw[h0]at h;cases h
   |some y=>
    rw[h0]at h
    simp only[Option.map_some,Option.some.injEq]at h
    subst h
    exact(hm (r.tm t y h0)).bH k
  rt:=fun d l t x hl h=>by
   simp only[St.bH]at hl
   rw[pD]at hl
   cases hd:nth s.rt d with
   |none=>rw[hd]at hl;cases hl
   |some l0=>
    rw[hd]at hl
    simp only[Option.map_some,Option.some.injEq]at hl
    subst hl
    rw[kl]at h
    cases h0:lk l0 t with
    |none=>rw[h0]at h;cases h
    |some y=>
     rw[h0]at h
     simp only[Option.map_some,Option.some.injEq]at h
     subst h
     exact(hm (r.rt d l0 t y hd h0)).bH k
  gd:=fun t t' w' x h hw=>by
   simp only[St.bH]at h
   rw[mF]at h
   cases h0:lk s.gd t with
   |none=>rw[h0]at h;cases h
   |some y=>
    obtain⟨y1,y2,y3⟩:=y
    rw[h0]at h
    simp only[Option.map_some,Option.some.injEq,Prod.mk.injEq]at h
    obtain⟨rfl,rfl,rfl⟩:=h
    exact(hm (r.gd t y1 y2 y3 h0 hw)).bH k
  gu:=fun t t' w' b h hw=>by
   simp only[St.bH]at h
   rw[mF]at h
   cases h0:lk s.gd t with
   |none=>rw[h0]at h;cases h
   |some y=>
    obtain⟨y1,y2,y3⟩:=y
    rw[h0]at h
    simp only[Option.map_some,Option.some.injEq,Prod.mk.injEq]at h
    obtain⟨rfl,rfl,h3⟩:=h
    unfold eD at h3
    split at h3
    ·cases h3
    ·subst h3;exact r.gu t y1 y2 b h0 hw
  kn:=r.kn
  hp:=fun j b h=>let ⟨_,_,_,h3⟩:=hb j b h;h3
  act:=fun j b g h ha hg=>by
   obtain⟨b0,h1,h2,_⟩:=hb j b h
   exact r.act j b0 g h1 (by rw[h2];exact ha) hg
  inj:=fun j j' b b' g bT h h' ha DT hg oT=>by
   obtain⟨b0,h1,h2,_⟩:=hb j b h
   obtain⟨b1,h3,h4,_⟩:=hb j' b' h'
   exact r.inj j j' b0 b1 g bT h1 h3 (by rw[h2];exact ha) (by rw[h4];exact DT) hg oT
  one:=r.one
  fH:=r.fH
  kT:=r.kT
  aI:=r.aI
  l8:=r.l8
  b0:=r.b0
  df:=r.df
  kz:=r.kz
  zs:=r.zs
  oP:=fun i g h=>by
   obtain⟨e1,cs,e2⟩:=r.oP i g h
   exact⟨e1,(mG k _ s.hp).box e2⟩}
theorem mm(s:St)(k:Nat):wG (s.bH k) k where
 tm:=fun t x h=>by
  simp only[St.bH]at h
  rw[kl]at h
  cases h0:lk s.tm t with
  |none=>rw[h0]at h;cases h
  |some y=>rw[h0]at h;simp only[Option.map_some,Option.some.injEq]at h;subst h;exact eX k y
 rt:=fun d l t x hl h=>by
  simp only[St.bH]at hl
  rw[pD]at hl
  cases hd:nth s.rt d with
  |none=>rw[hd]at hl;cases hl
  |some l0=>
   rw[hd]at hl
   simp only[Option.map_some,Option.some.injEq]at hl
   subst hl
   rw[kl]at h
   cases h0:lk l0 t with
   |none=>rw[h0]at h;cases h
   |some y=>
    rw[h0]at h
    simp only[Option.map_some,Option.some.injEq]at h
    subst h
    exact eX k y
 gd:=fun t t' w' x h=>by
  simp only[St.bH]at h
  rw[mF]at h
  cases h0:lk s.gd t with
  |none=>rw[h0]at h;cases h
  |some y=>
   rw[h0]at h
   simp only[Option.map_some,Option.some.injEq,Prod.mk.injEq]at h
   obtain⟨_,_,rfl⟩:=h;exact eX k _
 hp:=fun j cs h=>by
  simp only[St.bH]at h
  rw[dm]at h
  cases h0:lk s.hp j with
  |none=>rw[h0]at h;cases h
  |some y=>
   rw[h0]at h
   cases y with
   |box DM=>
    simp only[Option.map_some,Option.some.injEq,B.box.injEq]at h
    subst h
    rw[kh]
    intro c hc
    obtain⟨i,hi⟩:=List.getElem?_of_mem hc
    obtain⟨c0,_,rfl⟩:=pE k DM i c hi
    exact eX k c0
   |_=>simp at h
 mp:=fun j es h=>by
  simp only[St.bH]at h
  rw[dm]at h
  cases h0:lk s.hp j with
  |none=>rw[h0]at h;cases h
  |some y=>
   rw[h0]at h
   cases y with
   |mp DQ=>
    simp only[Option.map_some,Option.some.injEq,B.mp.injEq]at h
    subst h
    intro x hx
    obtain⟨i,hi⟩:=List.getElem?_of_mem hx
    obtain⟨x0,_,rfl⟩:=kX k DQ i x hi
    exact eX k x0.2
   |_=>simp at h
theorem Rel.FN(r:Rel B0 bx W0 aI Z N ok φ s a w){k e sz:Nat}{es:List (List D)}(hb:lk s.hp k=some (.bu e sz es)):Rd (fun b=>ok b∨aq (φ k)=some b) w (φ k) (.sl es):=by
 obtain⟨ct,bC,xs,cx,hr⟩:=r.hp k _ hb
 let ok':Nat→Prop:=fun b=>ok b∨aq (φ k)=some b
 have h1:∀b,ok b→ok' b:=fun b h=>.inl h
 show Rd ok' w (φ k) (.sl es)
 rcases cx.2 with⟨hn,hz⟩|⟨g,cap,cur,hs,gi,hh,ug,nC,hsz,N6⟩
 ·have:es=[]:=List.eq_nil_of_length_eq_zero hz
  subst this
  rw[hn];exact .nil
 ·have jS:∀i j,i<es.length→j<sz→w.cell? ⟨g,0+(i*sz+j),none⟩=some (xs.getD (i*sz+j) undef):=by
   intro i j hi hj
   have l_:i*sz+j<xs.length:=by
    rw[cx.1]
    calc i*sz+j<i*sz+sz:=by omega
     _=(i+1)*sz:=by rw[Nat.add_mul];omega
     _≤es.length*sz:=Nat.mul_le_mul_right _ hi
   have hc:=cx.cells (g:=g) (by rw[hs];rfl) (i*sz+j) (xs.getD (i*sz+j) undef) (by
    rw[List.getD_eq_getElem?_getD,List.getElem?_eq_getElem l_];rfl)
   rw[addr_add,Nat.zero_add]at hc
   rw[Nat.zero_add];exact hc
  have hbk:ok' g:=.inr (by rw[hs];rfl)
  rw[hs]
  exact .sl sz (fun i j=>xs.getD (i*sz+j) undef) ug (fun _=>hbk) bC jS (fun i j hi hj=>(hr i j hi hj).mono h1 (fun _ _=>rfl))
theorem Rel.freeze(r:Rel B0 bx W0 aI Z N ok φ s a w){k e sz:Nat}{es:List (List D)}(hb:lk s.hp k=some (.bu e sz es)):
  ∃ok',Rel B0 bx W0 aI Z N ok' φ (s.bp k (.j9 sz es)) a w∧Rd ok' w (φ k) (.sl es)∧(∀b,ok b→ok' b):=by
 have hB:=r.hp k _ hb
 obtain⟨ct,bC,xs,cx,hr⟩:=hB
 let ok':Nat→Prop:=fun b=>ok b∨aq (φ k)=some b
 have h1:∀b,ok b→ok' b:=fun b h=>.inl h
 have cK:Rd ok' w (φ k) (.sl es):=r.FN hb
 have h4:∀j,cI s.hp (pt s.hp k (.j9 sz es)) j:=by
  intro j
  unfold cI
  by_cases h:k=j
  ·subst h;rw[hb,aJ,if_pos rfl];exact⟨es,.inr rfl⟩
  ·rw[aJ,if_neg h];exact cI.refl s.hp j
 refine⟨ok',r.step (fun _=>False) (fun _ h=>h.elim) h1 (fun _ _=>rfl) (fun _ _ _=>rfl) (fun j _=>h4 j) (fun j b1 hb1=>?_) (fun j b1 g1 hb1 gp fe=>?_) (fun j j' b1 b2 g1 bT hb1 du gp jJ fe gn=>?_) r.one (fun b h=>?_) (fun b h=>?_) (mB.refl _ _ _),cK,h1⟩
 ·rw[aJ]at hb1
  by_cases h:k=j
  ·subst h;rw[if_pos rfl]at hb1;simp only[Option.some.injEq]at hb1;subst hb1
   refine⟨ct,bC,cK,?_⟩
   rcases cx.2 with⟨hn,_⟩|⟨g,cap,cur,hs,_⟩
   ·exact .inl hn
   ·exact .inr ⟨g,_,cap,hs⟩
  ·rw[if_neg h]at hb1
   exact(r.hp j b1 hb1).keep (fun _=>False) (fun _ _ h=>h.elim) h1 (fun _ _=>rfl) (fun _ _ _=>rfl) (fun j _=>h4 j) (fun _ _ _=>rfl)
 ·rw[aJ]at hb1
  by_cases h:k=j
  ·subst h;rw[if_pos rfl]at hb1;simp only[Option.some.injEq]at hb1;subst hb1;cases gp
  ·rw[if_neg h]at hb1
   have:=r.act j b1 g1 hb1 gp fe
   refine⟨fun ho=>?_,this.2⟩
   rcases ho with ho|ho
   ·exact this.1 ho
   ·exact r.inj k j _ b1 g1 h hb hb1 rfl gp ho fe
 ·rw[aJ]at hb1 du
  by_cases h:k=j
  ·subst h;rw[if_pos rfl]at hb1;simp only[Option.some.injEq]at hb1;subst hb1;cases gp
  ·rw[if_neg h]at hb1
   by_cases h':k=j'
   ·subst h';rw[if_pos rfl]at du;simp only[Option.some.injEq]at du;subst du;cases jJ
   ·rw[if_neg h']at du
    exact r.inj j j' b1 b2 g1 bT hb1 du gp jJ fe gn
 ·rcases h with h|h
  ·exact r.fH b h
  ·exact(r.hp k _ hb).cy rfl h
 ·rcases h with h|h
  ·exact r.kT b h
  ·rcases cx.2 with⟨hn,_⟩|⟨g,cap,cur,hs,gi,_⟩
   ·rw[hn]at h;cases h
   ·rw[hs]at h;simp[aq]at h;subst h;exact .inr gi
theorem oU(r:Rel B0 bx W0 aI Z N ok φ s a w){c:V}{v:Value}(hv:VR ok φ s.hp w c v){x:D}{s':St}(h:tV s c=some (x,s')):
  ∃ok',Rel B0 bx W0 aI Z N ok' φ s' a w∧Rd ok' w v x∧(∀b,ok b→ok' b)∧(∀j,cI s.hp s'.hp j):=by
 cases hv with
 |d cK=>simp[tV]at h;obtain⟨rfl,rfl⟩:=h;exact⟨ok,r,cK,fun _ h=>h,cI.refl _⟩
 |nil=>simp[tV]at h;obtain⟨rfl,rfl⟩:=h;exact⟨ok,r,.nil,fun _ h=>h,cI.refl _⟩
 | @own k g_ DQ v jR hφ=>
   subst hφ
   simp only[tV]at h
   split at h
   ·rename_i e0 sz es hb
    simp only[Option.some.injEq,Prod.mk.injEq]at h
    obtain⟨rfl,rfl⟩:=h
    obtain⟨ok',r',cK,h1⟩:=r.freeze hb
    refine⟨ok',r',cK,h1,fun j=>?_⟩
    unfold cI
    by_cases h:k=j
    ·subst h;rw[hb];simp only[St.bp];rw[aJ,if_pos rfl];exact⟨es,.inr rfl⟩
    ·simp only[St.bp];rw[aJ,if_neg h];exact cI.refl s.hp j
   ·rename_i sz es hb
    simp only[Option.some.injEq,Prod.mk.injEq]at h
    obtain⟨rfl,rfl⟩:=h
    obtain⟨_,_,cK,_⟩:=r.hp k _ hb
    exact⟨ok,r,cK,fun _ h=>h,cI.refl _⟩
   ·cases h
 | @vw k lo n g m cap iE off g_ DQ jR hφ hle dy gZ=>
   simp only[tV]at h
   split at h
   ·rename_i e0 sz es hb
    simp only[Option.some.injEq,Prod.mk.injEq]at h
    obtain⟨rfl,rfl⟩:=h
    obtain⟨ok',r',cK,h1⟩:=r.freeze hb
    have hs:g_=sz:=by
       rcases jR with⟨e',h1⟩|h1
       ·rw[hb]at h1;simp only[Option.some.injEq,B.bu.injEq]at h1;exact h1.2.1.symm
       ·rw[hb]at h1;cases h1
    subst hs
    refine⟨ok',r',wB cK hφ (r.hp k _ hb).2.1 hle dy gZ,h1,fun j=>?_⟩
    unfold cI
    by_cases h:k=j
    ·subst h;rw[hb];simp only[St.bp];rw[aJ,if_pos rfl];exact⟨es,.inr rfl⟩
    ·simp only[St.bp];rw[aJ,if_neg h];exact cI.refl s.hp j
   ·rename_i sz es hb
    simp only[Option.some.injEq,Prod.mk.injEq]at h
    obtain⟨rfl,rfl⟩:=h
    obtain⟨_,bC,cK,_⟩:=r.hp k _ hb
    have hs:g_=sz:=by
       rcases jR with⟨e',h1⟩|h1
       ·rw[hb]at h1;cases h1
       ·rw[hb]at h1;simp only[Option.some.injEq,B.j9.injEq]at h1;exact h1.1.symm
    subst hs
    exact⟨ok,r,wB cK hφ bC hle dy gZ,fun _ h=>h,cI.refl _⟩
   ·cases h
 |_=>simp[tV]at h
theorem cI.trans{a b c:List (Nat×B)}{k:Nat}(h:cI a b k)(h':cI b c k):cI a c k:=by
 unfold cI at h ⊢
 split
 ·trivial
 ·rename_i cs hk;rw[hk]at h;obtain⟨eN,h1⟩:=h;exact h'.box h1
 ·rename_i e sz es hk;rw[hk]at h;obtain⟨iz,h1⟩:=h;exact h'.bu h1
 ·rename_i sz es hk;rw[hk]at h;obtain⟨iz,h1⟩:=h;exact h'.bu h1
 ·rename_i es hk;rw[hk]at h;obtain⟨iz,h1⟩:=h;exact h'.mp h1
theorem gq{vs:List Value}:∀{cs:List V} {ok:Nat→Prop} {s s':St} {xs:List D},Rel B0 bx W0 aI Z N ok φ s a w→vs.length=cs.length→
  (∀(i:Nat) (c:V) (x:Value),cs[i]? = some c→vs[i]? = some x→VR ok φ s.hp w c x)→jM s cs=some (xs,s')→
  ∃ok',Rel B0 bx W0 aI Z N ok' φ s' a w∧xs.length=cs.length∧(∀(i:Nat) (x:D) (v:Value),xs[i]? = some x→vs[i]? = some v→Rd ok' w v x)∧(∀b,ok b→ok' b)∧(∀j,cI s.hp s'.hp j):=by
 induction vs with
 |nil=>
  intro cs ok s s' xs r hl hv h
  cases cs with
  |nil=>simp[jM]at h;obtain⟨rfl,rfl⟩:=h;exact⟨ok,r,rfl,fun i x v h=>by simp at h,fun _ h=>h,cI.refl _⟩
  |cons c cs=>simp at hl
 |cons v vs ih=>
  intro cs ok s s' xs r hl hv h
  cases cs with
  |nil=>simp at hl
  |cons c cs=>
   simp only[jM]at h
   split at h
   ·cases h
   rename_i x s1 hx
   split at h
   ·cases h
   rename_i Wn s2 nB
   simp only[Option.some.injEq,Prod.mk.injEq]at h
   obtain⟨rfl,rfl⟩:=h
   obtain⟨jK,r1,cK,h1,mn⟩:=oU r (hv 0 c v rfl rfl) hx
   obtain⟨pF,r2,p',ai3,h2,DU⟩:=ih r1 (by simpa using hl) (fun i c x hc hx=>(hv (i+1) c x (by simpa using hc) (by simpa using hx)).mono h1 (fun _ _=>rfl) (fun _ _ _=>rfl) (fun j _=>mn j)) nB
   refine⟨pF,r2,by simp[p'],fun i x' v' ya N1=>?_,fun b hb=>h2 b (h1 b hb),fun j=>(mn j).trans (DU j)⟩
   cases i with
   |zero=>simp at ya N1;subst ya;subst N1;exact cK.mono h2 (fun _ _=>rfl)
   |succ i=>exact ai3 i x' v' (by simpa using ya) (by simpa using N1)
end
end Go.Dm
