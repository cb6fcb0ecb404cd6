/- Part of the proof: contracts of functions; no condition. -/
import Derived.Test.YtabbmgfeemkkbaaGreatDoorDm7
import Derived.Maps.AppendAt
namespace Go.Dm
variable {P:Program} {E:Env}
variable {B0:Nat} {bx:List Nat} {W0:World} {aI:Nat→Prop} {Z:Zr} {N:Nat}
variable {ok:Nat→Prop} {φ:Nat→Value} {s:St} {a:Act} {w:World}
structure fa (T:List Nat) (φ:Nat→Value) (s:St) (w:World) (φ':Nat→Value) (s':St) (w':World):Prop where
 size:w.heap.size≤w'.heap.size
 same:∀g,g<w.heap.size→(∀k b,k∈T→lk s.hp k=some b→b.aM=true→aq (φ k)≠some g)→w'.heap[g]? = w.heap[g]?
 own:∀k b' g,lk s'.hp k=some b'→b'.aM=true→aq (φ' k)=some g→g<w.heap.size→∃k0 b,lk s.hp k0=some b∧b.aM=true∧aq (φ k0)=some g∧(k0=k∨k0∈T)
theorem fa.mono{T T':List Nat}{φ':Nat→Value}{s':St}{w':World}(h:fa T φ s w φ' s' w')(hT:∀k∈T,k∈T'):fa T' φ s w φ' s' w':=
 ⟨h.size,fun g hg hn=>h.same g hg fun k b hk=>hn k b (hT k hk),fun k b' g h1 h2 h3 h4=>let ⟨k0,b,e1,e2,e3,e4⟩:=h.own k b' g h1 h2 h3 h4;⟨k0,b,e1,e2,e3,e4.imp id (hT k0)⟩⟩
def eO(s s':St):Prop:=∀k b,lk s'.hp k=some b→b.aM=true→∃b0,lk s.hp k=some b0∧b0.aM=true
theorem eO.refl(s:St):eO s s:=fun _ b h ha=>⟨b,h,ha⟩
theorem eO.trans{s s' t_:St}(h:eO s s')(h':eO s' t_):eO s t_:=fun k b hb ha=>
 let ⟨b1,h1,h2⟩:=h' k b hb ha;h k b1 h1 h2
theorem rX{c:V}{x:D}{s s':St}(h:tV s c=some (x,s')):eO s s':=by
 unfold tV at h
 split at h
 ·simp at h;obtain⟨_,rfl⟩:=h;exact .refl _
 ·simp at h;obtain⟨_,rfl⟩:=h;exact .refl _
 ·split at h
  ·rename_i k e sz es hb
   simp only[Option.some.injEq,Prod.mk.injEq]at h
   obtain⟨_,rfl⟩:=h
   intro j b hj ha
   simp only[St.bp]at hj
   rw[aJ]at hj
   split at hj
   ·simp at hj;subst hj;cases ha
   ·exact⟨b,hj,ha⟩
  ·simp at h;obtain⟨_,rfl⟩:=h;exact .refl _
  ·cases h
 ·split at h
  ·rename_i k lo n e sz es hb
   simp only[Option.some.injEq,Prod.mk.injEq]at h
   obtain⟨_,rfl⟩:=h
   intro j b hj ha
   simp only[St.bp]at hj
   rw[aJ]at hj
   split at hj
   ·simp at hj;subst hj;cases ha
   ·exact⟨b,hj,ha⟩
  ·simp at h;obtain⟨_,rfl⟩:=h;exact .refl _
  ·cases h
 ·cases h
theorem gP{cs:List V}:∀{s s':St} {xs:List D},jM s cs=some (xs,s')→eO s s':=by
 induction cs with
 |nil=>intro s s' xs h;simp[jM]at h;obtain⟨_,rfl⟩:=h;exact .refl _
 |cons c cs ih=>
  intro s s' xs h
  simp only[jM]at h
  split at h
  ·cases h
  rename_i x s1 hx
  split at h
  ·cases h
  rename_i Wn s2 nB
  simp only[Option.some.injEq,Prod.mk.injEq]at h
  obtain⟨_,rfl⟩:=h
  exact(rX hx).trans (ih nB)
theorem fa.fresh{s1:St}(hs:eO s s1)(key:Nat)(b:B)(v:Value)(o:Obj)(hv:∀g,aq v=some g→w.heap.size≤g):fa [] φ s w (aO φ key v) (s1.bp key b) (w.alloc o) where
 size:=by have:(w.alloc o).heap.size=w.heap.size+1:=Array.size_push ..;omega
 same:=fun g hg _=>heap_alloc_old w o g hg
 own:=fun k b' g hb ha hg hlt=>by
  simp only[St.bp]at hb
  rw[aJ]at hb
  by_cases e:key=k
  ·subst e
   simp only[aO,if_true]at hg
   have:=hv g hg;omega
  ·rw[if_neg e]at hb
   simp only[aO,if_neg (Ne.symm e)]at hg
   obtain⟨b0,h1,h2⟩:=hs k b' hb ha
   exact⟨k,b0,h1,h2,hg,.inl rfl⟩
theorem fa.written{s1:St}(hs:eO s s1){k g:Nat}{b0:B}(b:B)(arr:Array Value)(hb:lk s.hp k=some b0)(ha:b0.aM=true)(hg:aq (φ k)=some g):fa [k] φ s w φ (s1.bp k b) (w.setRow g arr) where
 size:=by simp[World.setRow]
 same:=fun g' _ hn=>setRow_other w g g' arr (by rintro rfl;exact hn k b0 (by simp) hb ha hg)
 own:=fun j b' g' cJ DT oT _=>by
  simp only[St.bp]at cJ
  rw[aJ]at cJ
  by_cases e:k=j
  ·subst e;exact⟨k,b0,hb,ha,oT,.inl rfl⟩
  ·rw[if_neg e]at cJ
   obtain⟨b1,h1,h2⟩:=hs j b' cJ DT
   exact⟨j,b1,h1,h2,oT,.inl rfl⟩
def xO(B0:Nat)(bx:List Nat)(W0:World)(aI:Nat→Prop)(Z:Zr)(N:Nat)(a:Act)(F:(Nat→Value)→St→World→Prop)(K:V→St→Prop)(v':Value)(w':World):Prop:=
 ∃v s' ok' φ',K v s'∧Rel B0 bx W0 aI Z N ok' φ' s' a w'∧VR ok' φ' s'.hp w' v v'∧F φ' s' w'
theorem VR.fresh(r:Rel B0 bx W0 aI Z N ok φ s a w){key:Nat}(hk:lk s.hp key=none){c:V}{v:Value}(h:VR ok φ s.hp w c v)(o:Obj)(b:B)(u:Value):
  VR ok (aO φ key u) (pt s.hp key b) (w.alloc o) c v:=
 h.mono (fun _ h=>h) (fun b hb=>heap_alloc_old w o b (r.fH b hb)) (fun k _ hn=>by simp only[aO];rw[if_neg (by rintro rfl;exact hn hk)]) (fun k _=>by
  unfold cI
  rw[aJ]
  by_cases h:key=k
  ·subst h;rw[hk];trivial
  ·rw[if_neg h];exact cI.refl s.hp k)
theorem uk(r:Rel B0 bx W0 aI Z N ok φ s a w){key:Nat}(hk:lk s.hp key=none){cs:List V}{xs:Array Value}(T:TypeId)(hs:xs.size=cs.length)
  (h:∀(i:Nat) (c:V) (x:Value),cs[i]? = some c→xs[i]? = some x→VR ok φ s.hp w c x):
  Rel B0 bx W0 aI Z N ok (aO φ key (.pointer (some ⟨w.heap.size,0,none⟩))) (s.bp key (.box cs)) a (w.alloc (.cells xs T))∧
  VR ok (aO φ key (.pointer (some ⟨w.heap.size,0,none⟩))) (s.bp key (.box cs)).hp (w.alloc (.cells xs T)) (.ref key 0) (.pointer (some ⟨w.heap.size,0,none⟩)):=by
 refine⟨r.fresh hk _ _ _ rfl (by simp[aq]) ⟨w.heap.size,xs,T,rfl,heap_alloc_new w _,hs,fun i c x hc hx=>VR.fresh r hk (h i c x hc hx) _ _ _⟩,?_⟩
 exact .ref (cs:=cs) (by simp[St.bp,aJ]) (by simp[aO])
theorem wH{t:Nat}{ti:TI}(hT:cF P t ti)(r:Rel B0 bx W0 aI Z N ok φ s a w){key:Nat}(hk:lk s.hp key=none){K:V→St→Prop}(h:K (.ref key 0) (s.bp key (.box (fJ ti.ck)))):
  ∃v' w',(Instr.alloc t true (.tuple #[])).run P w = .ok v' w'∧xO B0 bx W0 aI Z N a (fa [] φ s w) K v' w':=by
 obtain⟨inf,z,hi,hsz,_,hz,oF,_⟩:=hT.info
 obtain⟨Cn,E_⟩:=ml (ok:=ok) (φ:=φ) (w:=w) (hp:=s.hp) oF
 obtain⟨h1,h2⟩:=uk r hk t (xs:=z.cells) (cs:=fJ ti.ck) (by rw[dI];simpa using Cn) (fun i c x hc hx=>E_ i c x hc (by simpa using hx))
 refine⟨.pointer (some ⟨w.heap.size,0,none⟩),w.alloc (.cells z.cells t),?_,⟨_,_,_,_,h,h1,h2,fa.fresh (.refl _) _ _ _ _ (by simp[aq])⟩⟩
 simp[Instr.alloc,zeroValue,typeInfo,hi,hz,newVar,newRow,newObj,Sem.run,World.alloc_eq]
theorem zY{t:Nat}(r:Rel B0 bx W0 aI Z N ok φ s a w){key:Nat}(hk:lk s.hp key=none){c:V}{v:Value}{cs:List V}(hv:VR ok φ s.hp w c v)(hc:cellsOf c=some cs)
  {K:V→St→Prop} (h:K (.ref key 0) (s.bp key (.box cs))):
  ∃v' w',(Instr.box t v).run P w = .ok v' w'∧xO B0 bx W0 aI Z N a (fa [] φ s w) K v' w':=by
 obtain⟨h1,h2⟩:=jx hv hc r.one
 obtain⟨h3,h4⟩:=uk r hk t h1 h2
 refine⟨.pointer (some ⟨w.heap.size,0,none⟩),w.alloc (.cells v.cells t),?_,⟨_,_,_,_,h,h3,h4,fa.fresh (.refl _) _ _ _ _ (by simp[aq])⟩⟩
 simp[Instr.box,newVar,newRow,newObj,Sem.run,World.alloc_eq]
theorem kI{t:Nat}{ti:TI}(hT:cF P t ti){v:Value}(hv:v.cells.size=ti.ck.length)(h1:∀x∈v.cells.toList,x.oneCell'=true){g o:Nat}{cur:Array Value}{T:TypeId}
  (hg:w.heap[g]? = some (.cells cur T (0,0))) (hl:o+v.cells.size≤cur.size):
  (storeVar t ⟨g,o,none⟩ v).run P w = .ok () (w.setRow g (cur.toList.take o++v.cells.toList++cur.toList.drop (o+v.cells.size)).toArray):=by
 unfold storeVar
 simp only[Sem.run_bind,hT.dz,Result.andThen_ok]
 rw[if_neg (by simp[hv])]
 have:=run_storeCells_at (P:=P) g o T v.cells.toList 0 cur w hg (by simpa using hl) h1
 simpa using this
theorem zZ{cs:List V}(h:rq cs=true):∀c∈cs,rp c=true:=by
 induction cs with
 |nil=>simp
 |cons c r ih=>
  simp only[rq]at h
  split at h
  ·rename_i h0
   intro x hx
   rcases List.mem_cons.1 hx with rfl|hx
   ·exact h0
   ·exact ih h x hx
  ·cases h
theorem N8(r:Rel B0 bx W0 aI Z N ok φ s a w){cs:List V}{xs:Array Value}(hc:rq cs=true)(hs:xs.size=cs.length)
  (h:∀(i:Nat) (c:V) (x:Value),cs[i]? = some c→xs[i]? = some x→VR ok φ s.hp w c x):∀x∈xs.toList,x.oneCell'=true:=by
 intro x hx
 obtain⟨i,hi⟩:=List.getElem?_of_mem hx
 have hlt:i<cs.length:=by
  have:=(List.getElem?_eq_some_iff.1 hi).1
  simp at this;omega
 exact(h i cs[i] x (List.getElem?_eq_getElem hlt) (by simpa using hi)).one (zZ hc _ (List.getElem_mem hlt)) r.one
theorem VR.written(r:Rel B0 bx W0 aI Z N ok φ s a w){k g:Nat}{b b':B}(hb:lk s.hp k=some b)(ha:b.aM=true)(hg:aq (φ k)=some g)(arr:Array Value)
  (FM:cI s.hp (pt s.hp k b') k) {c:V} {v:Value} (h:VR ok φ s.hp w c v):VR ok φ (pt s.hp k b') (w.setRow g arr) c v:=by
 have qb:=r.act k b g hb ha hg
 refine h.mono (fun _ h=>h) (fun b hb=>setRow_other w g b arr (by rintro rfl;exact qb.1 hb)) (fun _ _ _=>rfl) (fun j _=>?_)
 by_cases h:k=j
 ·subst h;exact FM
 ·unfold cI;rw[aJ,if_neg h];exact cI.refl s.hp j
theorem wI{hp:List (Nat×B)}{k:Nat}{cs eN:List V}(hb:lk hp k=some (.box cs)):cI hp (pt hp k (.box eN)) k:=by
 unfold cI;rw[hb];exact⟨eN,by rw[aJ,if_pos rfl]⟩
theorem Co{hp:List (Nat×B)}{k e e' sz:Nat}{es iz:List (List D)}(hb:lk hp k=some (.bu e sz es)):cI hp (pt hp k (.bu e' sz iz)) k:=by
 unfold cI;rw[hb];exact⟨iz,.inl ⟨e',by rw[aJ,if_pos rfl]⟩⟩
theorem gQ{α:Type}(l v:List α)(o i:Nat)(h:o+v.length≤l.length):
  (l.take o++v++l.drop (o+v.length))[i]? = if i<o then l[i]? else if i<o+v.length then v[i-o]? else l[i]?:=by
 have e1:(l.take o).length=o:=by simp;omega
 split
 ·rw[List.append_assoc,List.getElem?_append_left (by omega),List.getElem?_take,if_pos (by assumption)]
 ·split
  ·rw[List.append_assoc,List.getElem?_append_right (by omega),e1,List.getElem?_append_left (by omega)]
  ·rw[List.getElem?_append_right (by simp;omega),List.getElem?_drop]
   simp only[List.length_append,e1]
   congr 1;omega
theorem pG{α:Type}(l v:List α)(o n:Nat)(h:o+v.length≤n)(h2:n≤l.length):
  (l.take o++v++l.drop (o+v.length)).take n=(l.take n).take o++v++(l.take n).drop (o+v.length):=by
 apply List.ext_getElem?
 intro i
 rw[List.getElem?_take,gQ l v o i (by omega),gQ (l.take n) v o i (by simp;omega)]
 simp only[List.getElem?_take]
 by_cases c1:i<o
 ·have:i<n:=by omega
  simp[c1,this]
 ·by_cases c2:i<o+v.length
  ·have:i<n:=by omega
   simp[c1,c2,this]
  ·simp[c1,c2]
theorem wJ{t:Nat}{ti:TI}(hT:cF P t ti)(r:Rel B0 bx W0 aI Z N ok φ s a w){av xv:V}{x y:Value}(ha:VR ok φ s.hp w av x)(hx:VR ok φ s.hp w xv y){K:St→Prop}(h:zK ti s av xv K):
  ∃w',(Instr.storeAt t x y).run P w = .ok () w'∧∃s' ok' φ',K s'∧Rel B0 bx W0 aI Z N ok' φ' s' a w'∧fa (iC av) φ s w φ' s' w':=by
 unfold zK at h
 split at h
 ·exact h.elim
 rename_i xs nB
 split at h
 ·exact h.elim
 ·exact h.elim
 rename_i hcv zT
 have hlen:xs.length=ti.ck.length:=Nat.eq_of_beq_eq_true zT
 obtain⟨N4,N5⟩:=jx hx nB r.one
 have z6:=N8 r hcv N4 N5
 unfold Instr.storeAt
 split at h
 ·
  rename_i k off
  cases ha
  rename_i g DM jR hφ
  split at h
  rotate_left
  ·exact h.elim
  rename_i cs hb
  split at h
  rotate_left
  ·exact h.elim
  rename_i eN NL
  obtain⟨g',arr,T,hp,hh,hs,hr⟩:=r.hp k _ hb
  rw[hφ]at hp;simp at hp;subst hp
  obtain⟨hle,_⟩:=jQ NL
  obtain⟨h1,h2⟩:=wD (ys:=y.cells.toList) (zs:=arr.toList) NL (by simpa using N4) (by simpa using hs) (fun i c y hc hy=>N5 i c y hc (by simpa using hy)) (fun i c y hc hy=>hr i c y hc (by simpa using hy))
  have dE:=kI (w:=w) (o:=off) hT (by rw[N4,hlen]) z6 hh (by rw[N4,hs];exact hle)
  refine⟨_,by simp only[Sem.run_bind,Instr.sureAddr,Sem.run_pure,Result.andThen_ok];exact dE,_,ok,φ,h,?_,fa.written (.refl _) _ _ hb rfl (by rw[hφ];rfl)⟩
  refine r.written hb rfl rfl (by rw[hφ];rfl) _ (wI hb) ?_
  refine⟨g,_,T,hφ,setRow_heap w g arr _ T _ hh,by simp;omega,fun i c z hc hz=>?_⟩
  have h3:=h2 i c z hc (by simpa using hz)
  exact VR.written r hb rfl (by rw[hφ];rfl) _ (wI hb) h3
 ·
  rename_i k i off
  split at h
  ·exact h.elim
  rename_i ds s1 hds
  obtain⟨jK,r1,hdl,hdr,N9,Xt⟩:=gq (vs:=y.cells.toList) r (by simpa using N4) (fun i c y hc hy=>N5 i c y hc (by simpa using hy)) hds
  cases ha
  rename_i g n cap g_ DQ jR hφ
  split at h
  rotate_left
  ·exact h.elim
  rename_i e sz es hb
  obtain⟨cells,jS,kd,NL,hk⟩:=h
  obtain⟨hle,l9⟩:=jQ NL
  obtain⟨ct,bC,ys,cx,hr⟩:=r1.hp k _ hb
  have hlt:i<es.length:=(List.getElem?_eq_some_iff.1 jS).1
  have fw:cells.length=sz:=bC _ (List.mem_of_getElem? jS)
  have ye:g_=sz:=by
   obtain⟨iz,h1⟩:=(Xt k).bu jR
   rcases h1 with⟨e',h1⟩|h1
   ·rw[hb]at h1;simp only[Option.some.injEq,B.bu.injEq]at h1;exact h1.2.1.symm
   ·rw[hb]at h1;cases h1
  subst ye
  rcases cx.2 with⟨hn,hz⟩|⟨g',iE,cur,hs,gi,hh,ug,nC,hO,N6⟩
  ·omega
  rw[hφ]at hs
  simp only[Value.slice.injEq,Option.some.injEq,Addr.mk.injEq,true_and,and_true]at hs
  obtain⟨rfl,rfl,rfl⟩:=hs
  have TP:i*g_+off+ds.length≤es.length*g_:=by
   calc i*g_+off+ds.length≤i*g_+g_:=by omega
    _=(i+1)*g_:=by rw[Nat.add_mul];omega
    _≤es.length*g_:=Nat.mul_le_mul_right _ hlt
  have apd:es.length*g_≤cap*g_:=Nat.mul_le_mul_right _ ug
  have TQ:y.cells.size=ds.length:=by rw[N4,hdl]
  have hblk:aq (φ k)=some g:=by rw[hφ];rfl
  have hfr:∀(b:B) (arr:Array Value),fa [k] φ s w φ (s1.bp k b) (w.setRow g arr):=fun b arr=>by
   obtain⟨b0,h1,h2⟩:=gP hds k _ hb rfl
   exact fa.written (gP hds) b arr h1 h2 hblk
  have dE:=kI (w:=w) (o:=i*g_+off) hT (by rw[N4,hlen]) z6 hh (by rw[TQ,hO];omega)
  refine⟨_,by simp only[Sem.run_bind,Instr.sureAddr,Sem.run_pure,Result.andThen_ok];exact dE,_,jK,φ,hk,?_,hfr _ _⟩
  have FO:=r1.act k _ g hb rfl hblk
  refine r1.written hb rfl rfl hblk _ (Co hb) ?_
  refine⟨ct,?_,(ys.take (i*g_+off)++y.cells.toList++ys.drop (i*g_+off+y.cells.size)),⟨?_,.inr ⟨g,cap,_,?_,gi,setRow_heap w g cur _ e _ hh,?_,nC,?_,?_⟩⟩,?_⟩
  ·intro c hc
   rcases List.mem_or_eq_of_mem_set hc with hc|rfl
   ·exact bC c hc
   ·rw[l9];simp;omega
  ·simp only[List.length_append,List.length_take,List.length_drop,Array.length_toList,List.length_set,cx.1];omega
  ·rw[hφ];simp
  ·simp;exact ug
  ·simp only[List.size_toArray,List.length_append,List.length_take,List.length_drop,Array.length_toList,hO];omega
  ·simp only[List.length_set]
   rw[←N6]
   have z7:y.cells.size=y.cells.toList.length:=by simp
   rw[z7]
   exact pG cur.toList y.cells.toList (i*g_+off) (es.length*g_) (by rw[←z7,TQ];omega) (by simp only[Array.length_toList,hO];omega)
  ·intro i' j' qa tp
   simp only[List.length_set]at qa
   have z7:y.cells.size=y.cells.toList.length:=by simp
   have N_:∀b,jK b→(w.setRow g (cur.toList.take (i*g_+off)++y.cells.toList++cur.toList.drop (i*g_+off+y.cells.size)).toArray).heap[b]? = w.heap[b]?:=
    fun b hb=>setRow_other w g b _ (by rintro rfl;exact FO.1 hb)
   have hold:=hr i' j' qa tp
   have ai6:i*g_+off+y.cells.toList.length≤ys.length:=by rw[←z7,TQ,cx.1];omega
   rw[List.getD_eq_getElem?_getD,z7,gQ ys y.cells.toList _ _ ai6]
   by_cases hii:i'=i
   ·subst hii
    have TR:(es.set i' kd).getD i' []=kd:=by
        rw[List.getD_eq_getElem?_getD,List.getElem?_set_self (by omega)];rfl
    have Xu:es.getD i' []=cells:=by rw[List.getD_eq_getElem?_getD,jS];rfl
    rw[TR,l9,List.getD_eq_getElem?_getD,gQ cells ds off j' (by omega)]
    rw[Xu]at hold
    by_cases c1:j'<off
    ·rw[if_pos (by omega),if_pos c1]
     rw[List.getD_eq_getElem?_getD,List.getD_eq_getElem?_getD]at hold
     exact hold.mono (fun _ h=>h) N_
    ·by_cases c2:j'<off+ds.length
     ·rw[if_neg (by omega),if_pos (by rw[←z7,TQ];omega),if_neg c1,if_pos c2]
      have e1:i'*g_+j'-(i'*g_+off)=j'-off:=by omega
      rw[e1]
      have zy:j'-off<ds.length:=by omega
      have p':j'-off<y.cells.toList.length:=by rw[←z7,TQ];exact zy
      rw[List.getElem?_eq_getElem zy,List.getElem?_eq_getElem p']
      exact(hdr (j'-off) _ _ (List.getElem?_eq_getElem zy) (List.getElem?_eq_getElem p')).mono (fun _ h=>h) N_
     ·rw[if_neg (by omega),if_neg (by rw[←z7,TQ];omega),if_neg c1,if_neg c2]
      rw[List.getD_eq_getElem?_getD,List.getD_eq_getElem?_getD]at hold
      exact hold.mono (fun _ h=>h) N_
   ·have TR:(es.set i kd).getD i' []=es.getD i' []:=by
        rw[List.getD_eq_getElem?_getD,List.getElem?_set_ne (Ne.symm hii),List.getD_eq_getElem?_getD]
    rw[TR]
    have TS:i'*g_+j'<i*g_+off∨i*g_+off+ds.length≤i'*g_+j':=by
        rcases Nat.lt_or_gt_of_ne hii with hlt'|hgt
        ·left
         have:(i'+1)*g_≤i*g_:=Nat.mul_le_mul_right _ hlt'
         rw[Nat.add_mul]at this;omega
        ·right
         have:(i+1)*g_≤i'*g_:=Nat.mul_le_mul_right _ hgt
         rw[Nat.add_mul]at this;omega
    rw[List.getD_eq_getElem?_getD]at hold
    rcases TS with c1|c1
    ·rw[if_pos c1];exact hold.mono (fun _ h=>h) N_
    ·rw[if_neg (by omega),if_neg (by rw[←z7,TQ];omega)];exact hold.mono (fun _ h=>h) N_
 ·exact h.elim
theorem km{α:Type}(x y:List α):app x y=x++y:=by
 induction x with
 |nil=>rfl
 |cons a r ih=>simp[app,ih]
theorem rY{α:Type}(n:Nat)(l:List α):(rep n l).length=n*l.length:=by
 induction n with
 |zero=>simp[rep]
 |succ n ih=>simp[rep,km,ih,Nat.add_mul];omega
theorem Oa{α:Type}(n:Nat)(l:List α)(i:Nat)(h:i<n*l.length):(rep n l)[i]? = l[i % l.length]?:=by
 induction n generalizing i with
 |zero=>simp at h
 |succ n ih=>
  simp only[rep,km]
  by_cases hi:i<l.length
  ·rw[List.getElem?_append_left hi,Nat.mod_eq_of_lt hi]
  ·rw[List.getElem?_append_right (by omega),ih (i-l.length) (by rw[Nat.add_mul]at h;omega)]
   congr 1
   rw[Nat.mod_eq_sub_mod (by omega:i≥l.length)]
theorem pH{α:Type}[Inhabited α]{sz n:Nat}{l:List α}{es:List (List α)}(h:chunks sz n l=some es):
  es.length=n∧l.length=n*sz∧(∀c∈es,c.length=sz)∧∀i j,i<n→j<sz→(es.getD i []).getD j default=l.getD (i*sz+j) default:=by
 induction n generalizing l es with
 |zero=>
  cases l with
  |nil=>simp[chunks]at h;subst h;simp
  |cons x r=>simp[chunks]at h
 |succ n ih=>
  simp only[chunks]at h
  split at h
  ·cases h
  rename_i c hc
  split at h
  ·cases h
  rename_i r hr
  simp only[Option.some.injEq]at h
  subst h
  obtain⟨h1,h2⟩:=jP hc
  obtain⟨h3,h4,h5,h6⟩:=ih hr
  simp only[Nat.zero_add]at h1
  simp only[List.drop_zero]at h2
  have fw:c.length=sz:=by rw[h2];simp;omega
  have hdl:l.length=(l.drop sz).length+sz:=by simp;omega
  refine⟨by simp[h3],by rw[hdl,h4,Nat.add_mul];omega,?_,?_⟩
  ·intro x hx
   rcases List.mem_cons.1 hx with rfl|hx
   ·exact fw
   ·exact h5 x hx
  ·intro i j hi hj
   cases i with
   |zero=>
    simp only[List.getD_cons_zero,Nat.zero_mul,Nat.zero_add]
    rw[h2,List.getD_eq_getElem?_getD,List.getElem?_take,if_pos hj,List.getD_eq_getElem?_getD]
   |succ i=>
    simp only[List.getD_cons_succ]
    rw[h6 i j (by omega) hj,List.getD_eq_getElem?_getD,List.getElem?_drop,List.getD_eq_getElem?_getD]
    congr 2
    rw[Nat.add_mul];omega
theorem FP{c:V}{x:D}{s':St}{key:Nat}(h:tV s c=some (x,s'))(hk:lk s.hp key=none):lk s'.hp key=none:=by
 unfold tV at h
 split at h
 ·simp at h;rw[←h.2];exact hk
 ·simp at h;rw[←h.2];exact hk
 ·split at h
  ·rename_i k _ _ _ hb
   simp at h;rw[←h.2]
   simp only[St.bp]
   rw[aJ]
   split
   ·rename_i e;subst e;rw[hb]at hk;cases hk
   ·exact hk
  ·simp at h;rw[←h.2];exact hk
  ·cases h
 ·split at h
  ·rename_i k _ _ _ _ _ hb
   simp at h;rw[←h.2]
   simp only[St.bp]
   rw[aJ]
   split
   ·rename_i e;subst e;rw[hb]at hk;cases hk
   ·exact hk
  ·simp at h;rw[←h.2];exact hk
  ·cases h
 ·cases h
theorem um{cs:List V}:∀{s:St} {xs:List D} {s':St} {key:Nat},jM s cs=some (xs,s')→lk s.hp key=none→lk s'.hp key=none:=by
 induction cs with
 |nil=>intro s xs s' key h hk;simp[jM]at h;rw[←h.2];exact hk
 |cons c cs ih=>
  intro s xs s' key h hk
  simp only[jM]at h
  split at h
  ·cases h
  rename_i x s1 hx
  split at h
  ·cases h
  rename_i Wn s2 nB
  simp at h
  rw[←h.2]
  exact ih nB (FP hx hk)
theorem uo(r:Rel B0 bx W0 aI Z N ok φ s a w){key:Nat}(hk:lk s.hp key=none){e sz n cap:Nat}{cells:Array Value}{es:List (List D)}(ct:0<sz)(hO:cells.size=cap*sz)(ug:n≤cap)(nC:cap≤maxLen)
  (qy:es.length=n) (bC:∀c∈es,c.length=sz) (hr:∀i j,i<n→j<sz→Rd ok w (cells.toList.getD (i*sz+j) undef) ((es.getD i []).getD j default)):
  Rel B0 bx W0 aI Z N ok (aO φ key (.slice (some ⟨w.heap.size,0,none⟩) n cap)) (s.bp key (.bu e sz es)) a (w.alloc (.cells cells e))∧
  VR ok (aO φ key (.slice (some ⟨w.heap.size,0,none⟩) n cap)) (s.bp key (.bu e sz es)).hp (w.alloc (.cells cells e)) (.own key) (.slice (some ⟨w.heap.size,0,none⟩) n cap):=by
 subst qy
 have hle:es.length*sz≤cap*sz:=Nat.mul_le_mul_right _ ug
 refine⟨r.fresh hk _ _ _ rfl (by simp[aq]) ⟨ct,bC,cells.toList.take (es.length*sz),⟨by simp;omega,.inr ⟨w.heap.size,cap,cells,rfl,r.b0,heap_alloc_new w _,ug,nC,hO,rfl⟩⟩,fun i j hi hj=>?_⟩,?_⟩
 ·have l_:i*sz+j<es.length*sz:=by
   calc i*sz+j<i*sz+sz:=by omega
    _=(i+1)*sz:=by rw[Nat.add_mul];omega
    _≤es.length*sz:=Nat.mul_le_mul_right _ (by omega)
  have:=hr i j (by omega) hj
  rw[List.getD_eq_getElem?_getD]at this
  rw[List.getD_eq_getElem?_getD,List.getElem?_take,if_pos l_]
  exact this.mono (fun _ h=>h) (fun b hb=>heap_alloc_old w _ b (r.fH b hb))
 ·exact .own (sz:=sz) (es:=es) (.inl ⟨e,by simp[St.bp,aJ]⟩) (by simp[aO])
theorem nD{t e len:Nat}{ti ei:TI}(hT:cF P t ti)(xP:ti.td = .slice e)(qz:cF P e ei)(r:Rel B0 bx W0 aI Z N ok φ s a w){g:List (Nat×Bool)}(hg:Holds a g){key:Nat}(hk:lk s.hp key=none)
  {parts:Array (Nat×Operand)} {cs:List V} (hle:len*ei.ck.length≤16777216) (rQ:dx.rr s g ei.ck.length (rep len (fJ ei.ck)) parts.toList=some cs) {ds:List D} {s1:St} (hds:jM s cs=some (ds,s1))
  {es:List (List D)} (qy:chunks ei.ck.length len ds=some es) {K:V→St→Prop} (h:K (.own key) (s1.bp key (.bu e ei.ck.length es))):
  ∃v' w',(Instr.buildSlice t len (parts.map fun(i,x)=>(i,a.eval x))).run P w = .ok v' w'∧xO B0 bx W0 aI Z N a (fa [] φ s w) K v' w':=by
 obtain⟨hu,_⟩:=hT.dA xP
 obtain⟨inf,z,hi,hsz,_,hz,oF,_⟩:=qz.info
 obtain⟨Cn,E_⟩:=ml (ok:=ok) (φ:=φ) (w:=w) (hp:=s.hp) oF
 have ct:=qz.pos
 have NM:z.cells.size=ei.ck.length:=by simpa using Cn
 obtain⟨uj,e1,e2,e3,e4⟩:=pB r hg parts.toList (rep len (fJ ei.ck)) cs (madeCells z.cells (len*ei.ck.length)) rQ
  (by rw[rY,dI,size_madeCells]) (fun i c x h1 h2=>by
   have hlt:i<len*ei.ck.length:=by
      have:=(Array.getElem?_eq_some_iff.1 h2).1
      simpa[size_madeCells]using this
   have hm:i % ei.ck.length<ei.ck.length:=Nat.mod_lt _ ct
   rw[Oa _ _ _ (by rw[dI];exact hlt),dI]at h1
   refine E_ (i % ei.ck.length) c x h1 ?_
   have:x=z.cells[i % z.cells.size]!:=by
      simp[madeCells,hlt]at h2;exact h2.symm
   rw[this,NM]
   have FQ:i % ei.ck.length<z.cells.size:=by rw[NM];exact hm
   rw[getElem!_pos z.cells _ FQ]
   simp[FQ])
 obtain⟨jK,r1,hdl,hdr,N9,_⟩:=gq (vs:=uj.toList) r (by simpa using e2) (fun i c y hc hy=>e4 i c y hc (by simpa using hy)) hds
 obtain⟨h3,h4,h5,h6⟩:=pH qy
 have Xw:uj.size=len*ei.ck.length:=by rw[e2,e3,rY,dI]
 have hlen:len≤len*ei.ck.length:=Nat.le_mul_of_pos_right _ ct
 obtain⟨f1,f2⟩:=uo r1 (um hds hk) (e:=e) ct Xw (Nat.le_refl _) (by unfold maxLen;omega) h3 h5 (fun i j hi hj=>by
  rw[h6 i j hi hj]
  have l_:i*ei.ck.length+j<ds.length:=by
   rw[h4]
   calc i*ei.ck.length+j<i*ei.ck.length+ei.ck.length:=by omega
    _=(i+1)*ei.ck.length:=by rw[Nat.add_mul];omega
    _≤len*ei.ck.length:=Nat.mul_le_mul_right _ (by omega)
  have Q8:i*ei.ck.length+j<uj.toList.length:=by simp;omega
  rw[List.getD_eq_getElem?_getD,List.getD_eq_getElem?_getD,List.getElem?_eq_getElem l_,List.getElem?_eq_getElem Q8]
  exact hdr _ _ _ (List.getElem?_eq_getElem l_) (List.getElem?_eq_getElem Q8))
 refine⟨_,_,?_,⟨_,_,_,_,h,f1,f2,fa.fresh (gP hds) _ _ _ _ (by simp[aq])⟩⟩
 unfold Instr.buildSlice
 simp only[Sem.run_bind,run_underlying hu,Result.andThen_ok,qz.dz]
 rw[if_neg (by omega)]
 have Wo:Instr.fill (fun i=>some (i*ei.ck.length,ei.ck.length)) ((Array.range (len*ei.ck.length)).map (z.cells[· % z.cells.size]!)) (parts.map fun(i,x)=>(i,a.eval x)).toList=some uj:=by
  rw[Array.toList_map];exact e1
 by_cases Xx:len*ei.ck.length=0
 ·rw[if_pos Xx]
  simp only[Sem.run_bind,Sem.run_pure,Result.andThen_ok]
  have hr0:(Array.range (len*ei.ck.length)).map ((#[]:Array Value)[· % (#[]:Array Value).size]!)=(Array.range (len*ei.ck.length)).map (z.cells[· % z.cells.size]!):=by
   rw[Xx];simp
  rw[hr0,Wo]
  simp[newRow,newObj,Sem.run,World.alloc_eq]
 ·rw[if_neg Xx]
  have Xy:(zeroValue e).run P w = .ok z w:=by simp[zeroValue,typeInfo,hi,hz]
  simp only[Sem.run_bind,Xy,Result.andThen_ok,Sem.run_pure]
  rw[Wo]
  simp[newRow,newObj,Sem.run,World.alloc_eq]
theorem oV{t e:Nat}{ti ei:TI}(hT:cF P t ti)(xP:ti.td = .slice e)(qz:cF P e ei)(r:Rel B0 bx W0 aI Z N ok φ s a w){key:Nat}(hk:lk s.hp key=none)
  {n c:Int} (h0:0≤n) (ug:n≤c) (z8:c*ei.bytes≤140737488355328) (hc:c≤140737488355328) {z:List D} (hz:gY ei.ck=some z)
  {K:V→St→Prop} (h:K (.own key) (s.bp key (.bu e ei.ck.length (List.replicate n.toNat z)))) (k1 k2:IntKind):
  ∃v' w',(Instr.makeSlice t (.int k1 n) (.int k2 c)).run P w = .ok v' w'∧xO B0 bx W0 aI Z N a (fa [] φ s w) K v' w':=by
 obtain⟨hu,_⟩:=hT.dA xP
 obtain⟨inf,zv,hi,hsz,Wp,hzz,oF,_⟩:=qz.info
 have ct:=qz.pos
 have dE:=run_make (P:=P) w t e inf zv hu hi hzz k1 k2 n c h0 ug (by rw[Wp,Int.mul_comm];omega) (by omega)
 have Cn:z.length=ei.ck.length∧∀(j:Nat) (v:Value) (d:D),zv.cells.toList[j]? = some v→z[j]? = some d→Rd ok w v d:=by
  clear h dE
  revert hz oF
  generalize zv.cells.toList=l
  generalize ei.ck=ck
  intro hz oF
  induction ck generalizing l z with
  |nil=>simp[gY]at hz;subst hz;simp
  |cons c r ih=>
   cases l with
   |nil=>simp[zB]at oF
   |cons v l=>
    simp only[zB,Bool.and_eq_true]at oF
    have key:∀(x:D) (l2:List D),gY r=some l2→z=x::l2→Rd ok w v x→z.length=(c::r).length∧∀(j:Nat) (v':Value) (d:D),(v::l)[j]? = some v'→z[j]? = some d→Rd ok w v' d:=by
     intro x l2 h1 h2 h3
     subst h2
     obtain⟨h4,h5⟩:=ih l h1 oF.2
     refine⟨by simp[h4],fun j v' d hv hd=>?_⟩
     cases j with
     |zero=>simp at hv hd;subst hv;subst hd;exact h3
     |succ j=>exact h5 j v' d (by simpa using hv) (by simpa using hd)
    have h0:=oF.1
    have rJ:VR ok φ s.hp w (oI c) v:=by
     have:=(ml (ok:=ok) (φ:=φ) (w:=w) (hp:=s.hp) (ck:=[c]) (xs:=[v]) (by simp[zB,h0])).2 0 (oI c) v rfl rfl
     exact this
    simp only[gY]at hz
    split at hz
    ·rename_i x l2 hx p'
     simp only[Option.some.injEq]at hz
     rw[hx]at rJ
     cases rJ;rename_i cK
     exact key x l2 p' hz.symm cK
    ·rename_i l2 hx p'
     simp only[Option.some.injEq]at hz
     rw[hx]at rJ
     cases rJ
     exact key (.sl []) l2 p' hz.symm .nil
    ·cases hz
 have hcells:(madeCells zv.cells (c.toNat*inf.size)).size=c.toNat*ei.ck.length:=by rw[size_madeCells,hsz]
 have NM:zv.cells.size=ei.ck.length:=by simpa using(ml (ok:=ok) (φ:=φ) (w:=w) (hp:=s.hp) oF).1
 obtain⟨f1,f2⟩:=uo r hk (e:=e) (n:=n.toNat) (es:=List.replicate n.toNat z) ct hcells (by omega) (by unfold maxLen;omega) (by simp) (fun x hx=>by rw[List.eq_of_mem_replicate hx];exact Cn.1) (fun i j hi hj=>by
  have hg:(List.replicate n.toNat z).getD i []=z:=by
   rw[List.getD_eq_getElem?_getD,List.getElem?_replicate,if_pos hi];rfl
  rw[hg]
  have hlt:i*ei.ck.length+j<c.toNat*ei.ck.length:=by
   calc i*ei.ck.length+j<i*ei.ck.length+ei.ck.length:=by omega
    _=(i+1)*ei.ck.length:=by rw[Nat.add_mul];omega
    _≤c.toNat*ei.ck.length:=Nat.mul_le_mul_right _ (by omega)
  have Xz:j<zv.cells.size:=by omega
  have ai8:(i*ei.ck.length+j) % zv.cells.size=j:=by
   rw[NM,Nat.add_comm,Nat.add_mul_mod_self_right,Nat.mod_eq_of_lt hj]
  have gO:(madeCells zv.cells (c.toNat*inf.size)).toList.getD (i*ei.ck.length+j) undef=zv.cells[j]:=by
   rw[List.getD_eq_getElem?_getD]
   simp only[madeCells,hsz,Array.toList_map,Array.toList_range,List.getElem?_map,List.getElem?_range hlt,Option.map_some,Option.getD_some]
   rw[ai8,getElem!_pos zv.cells _ Xz]
  rw[gO]
  have XA:j<z.length:=by rw[Cn.1];exact hj
  have:=Cn.2 j zv.cells[j] z[j] (by simp[Xz]) (List.getElem?_eq_getElem XA)
  rw[List.getD_eq_getElem?_getD,List.getElem?_eq_getElem XA];exact this)
 exact⟨_,_,dE,⟨_,_,_,_,h,f1,f2,fa.fresh (.refl _) _ _ _ _ (by simp[aq])⟩⟩
theorem Cq{ad:Option Addr}{new:List (List D)}{sz:Nat}(ct:0<sz)(hC:fR ok w ad new)(bC:∀c∈new,c.length=sz)(bT:new≠[]):
  ∃b off,ad=some ⟨b,off,none⟩∧∃news:List Value,news.length=new.length*sz∧(∀j u,news[j]? = some u→w.cell? ((⟨b,off,none⟩:Addr).add j)=some u)∧
   (∀u∈news,u.oneCell'=true)∧∀i j,i<new.length→j<sz→Rd ok w (news.getD (i*sz+j) undef) ((new.getD i []).getD j default):=by
 obtain⟨b,off,eC,rfl,XB,hc⟩:=hC bT
 have hs:eC=sz:=by
  obtain⟨x,hx⟩:=List.exists_mem_of_ne_nil _ bT
  rw[←XB x hx,bC x hx]
 subst hs
 have Wh:∃f:Nat→Value,∀i j,i<new.length→j<eC→w.cell? ⟨b,off+(i*eC+j),none⟩=some (f (i*eC+j))∧Rd ok w (f (i*eC+j)) ((new.getD i []).getD j default):=by
  refine⟨fun n=>if h:n/eC<new.length∧n % eC<eC then(hc (n/eC) (n % eC) h.1 h.2).choose else undef,fun i j hi hj=>?_⟩
  have e1:(i*eC+j)/eC=i:=by
   rw[Nat.add_comm,Nat.add_mul_div_right _ _ ct,Nat.div_eq_of_lt hj];omega
  have e2:(i*eC+j) % eC=j:=by
   rw[Nat.add_comm,Nat.add_mul_mod_self_right,Nat.mod_eq_of_lt hj]
  have h:(i*eC+j)/eC<new.length∧(i*eC+j) % eC<eC:=by rw[e1,e2];exact⟨hi,hj⟩
  simp only[h,and_self,dif_pos]
  have:=(hc ((i*eC+j)/eC) ((i*eC+j) % eC) h.1 h.2).choose_spec
  generalize (hc ((i*eC+j)/eC) ((i*eC+j) % eC) h.1 h.2).choose=y at this ⊢
  rw[e1,e2]at this
  exact this
 obtain⟨f,hf⟩:=Wh
 have split:∀n,n<new.length*eC→n=(n/eC)*eC+n % eC∧n/eC<new.length∧n % eC<eC:=by
  intro n hn
  refine⟨by rw[Nat.mul_comm];exact(Nat.div_add_mod n eC).symm,?_,Nat.mod_lt _ ct⟩
  exact Nat.div_lt_of_lt_mul (by rw[Nat.mul_comm];exact hn)
 have gO:∀n u,((List.range (new.length*eC)).map f)[n]? = some u→n<new.length*eC∧u=f n:=by
  intro n u h
  have hlt:n<new.length*eC:=by have:=(List.getElem?_eq_some_iff.1 h).1;simpa using this
  simp[hlt]at h
  exact⟨hlt,h.symm⟩
 refine⟨b,off,rfl,(List.range (new.length*eC)).map f,by simp,fun j u h=>?_,fun u hu=>?_,fun i j hi hj=>?_⟩
 ·obtain⟨hlt,rfl⟩:=gO j u h
  obtain⟨e,h1,h2⟩:=split j hlt
  rw[addr_add]
  have:=(hf _ _ h1 h2).1
  rwa[←e]at this
 ·obtain⟨n,hn⟩:=List.getElem?_of_mem hu
  obtain⟨hlt,rfl⟩:=gO n u hn
  obtain⟨e,h1,h2⟩:=split n hlt
  have:=(hf _ _ h1 h2).2
  rw[←e]at this
  exact this.one
 ·have hlt:i*eC+j<new.length*eC:=by
   calc i*eC+j<i*eC+eC:=by omega
    _=(i+1)*eC:=by rw[Nat.add_mul];omega
    _≤new.length*eC:=Nat.mul_le_mul_right _ (by omega)
  rw[List.getD_eq_getElem?_getD]
  simp only[List.getElem?_map,List.getElem?_range hlt,Option.map_some,Option.getD_some]
  exact(hf i j hi hj).2
theorem kJ{t e:Nat}{ti ei:TI}(hT:cF P t ti)(xP:ti.td = .slice e)(qz:cF P e ei){base:Nat}(gi:base≤w.heap.size){v:Value}{n:Nat}{xs:List Value}(cx:w.ownsRow base e ei.ck.length v n xs)
  {ad:Option Addr} {cap:Nat} {new:List (List D)} (hC:fR ok w ad new) (hn:ad=none→(Value.slice ad new.length cap) = .slice none 0 0) (Ob:True) (bC:∀c∈new,c.length=ei.ck.length) (ty:TypeId) (z8:(n+new.length)*ei.bytes≤140737488355328) (Cr:n+new.length≤maxLen):
  ∃v' w' news,(Builtin.append_ #[t,t] ty #[v,.slice ad new.length cap]).run P w = .ok v' w'∧w'.ownsRow base e ei.ck.length v' (n+new.length) (xs++news)∧w.grownBy w' v.ownBlock∧
   (v'.ownBlock=v.ownBlock∨v'.ownBlock=some w.heap.size)∧news.length=new.length*ei.ck.length∧
   ∀i j,i<new.length→j<ei.ck.length→Rd ok w (news.getD (i*ei.ck.length+j) undef) ((new.getD i []).getD j default):=by
 obtain⟨hu,_⟩:=hT.dA xP
 obtain⟨inf,z,hi,hsz,Wp,hz,oF,_⟩:=qz.info
 have NM:z.cells.size=ei.ck.length:=by simpa using(ml (ok:=ok) (φ:=fun _=>undef) (w:=w) (hp:=[]) oF).1
 cases ad with
 |none=>
  have h0:=hn rfl
  simp only[Value.slice.injEq,true_and]at h0
  have ai9:new=[]:=List.eq_nil_of_length_eq_zero h0.1
  subst ai9
  have hr:=run_append_owned_none (P:=P) w base t ty e inf ei.ck.length hu hi v n xs cx
  refine⟨v,w,[],by rw[h0.2];exact hr,by simpa using cx,⟨rfl,rfl,rfl,Nat.le_refl _,fun _ _ _=>rfl⟩,.inl rfl,by simp,by simp⟩
 |some x=>
  by_cases bT:new=[]
  ·subst bT
   obtain⟨v',w',h1,h2,h3,_,h4⟩:=run_append_own_at (P:=P) w base t ty e inf z ei.ck.length ei.bytes hu hi hz hsz Wp NM qz.pos v n xs cx x 0 cap [] (by simp) (by simp) (by simp) (by simpa using Cr) (by simpa using z8) gi
   exact⟨v',w',[],h1,h2,h3,h4,by simp,by simp⟩
  ·obtain⟨b,off,hx,news,hl,hc,z6,cK⟩:=Cq qz.pos hC bC bT
   simp only[Option.some.injEq]at hx
   subst hx
   obtain⟨v',w',h1,h2,h3,_,h4⟩:=run_append_own_at (P:=P) w base t ty e inf z ei.ck.length ei.bytes hu hi hz hsz Wp NM qz.pos v n xs cx ⟨b,off,none⟩ new.length cap news hl hc z6 Cr z8 gi
   exact⟨v',w',news,h1,h2,h3,h4,hl,cK⟩
theorem DV{sz:Nat}{xs ys:List Value}{es new:List (List D)}{ok':Nat→Prop}{w':World}(hx:xs.length=es.length*sz)
  (h1:∀i j,i<es.length→j<sz→Rd ok' w' (xs.getD (i*sz+j) undef) ((es.getD i []).getD j default))
  (h2:∀i j,i<new.length→j<sz→Rd ok' w' (ys.getD (i*sz+j) undef) ((new.getD i []).getD j default)):
  ∀i j,i<(es++new).length→j<sz→Rd ok' w' ((xs++ys).getD (i*sz+j) undef) (((es++new).getD i []).getD j default):=by
 intro i j hi hj
 by_cases hl:i<es.length
 ·have l_:i*sz+j<xs.length:=by
   rw[hx]
   calc i*sz+j<i*sz+sz:=by omega
    _=(i+1)*sz:=by rw[Nat.add_mul];omega
    _≤es.length*sz:=Nat.mul_le_mul_right _ hl
  have:=h1 i j hl hj
  rw[List.getD_eq_getElem?_getD,List.getElem?_append_left l_,←List.getD_eq_getElem?_getD]
  rw[List.getD_eq_getElem?_getD (l:=es++new),List.getElem?_append_left hl,←List.getD_eq_getElem?_getD]
  exact this
 ·have e1:i*sz+j-xs.length=(i-es.length)*sz+j:=by
   rw[hx,Nat.sub_mul]
   have:es.length*sz≤i*sz:=Nat.mul_le_mul_right _ (by omega)
   omega
  have Wq:xs.length≤i*sz+j:=by
   rw[hx]
   have:es.length*sz≤i*sz:=Nat.mul_le_mul_right _ (by omega)
   omega
  have:=h2 (i-es.length) j (by simp at hi;omega) hj
  rw[List.getD_eq_getElem?_getD,List.getElem?_append_right Wq,e1,←List.getD_eq_getElem?_getD]
  rw[List.getD_eq_getElem?_getD (l:=es++new),List.getElem?_append_right (by omega),←List.getD_eq_getElem?_getD]
  exact this
theorem oW{t e:Nat}{ti ei:TI}(hT:cF P t ti)(xP:ti.td = .slice e)(qz:cF P e ei)(r:Rel B0 bx W0 aI Z N ok φ s a w){key:Nat}(hk:lk s.hp key=none)
  {ad:Option Addr} {cap:Nat} {new:List (List D)} (hC:fR ok w ad new) (hn:ad=none→(Value.slice ad new.length cap) = .slice none 0 0) (Ob:True) (bC:∀c∈new,c.length=ei.ck.length) (ty:TypeId)
  (z8:new.length*ei.bytes≤140737488355328) (Cr:new.length≤maxLen) {K:V→St→Prop} (h:K (.own key) (s.bp key (.bu e ei.ck.length new))):
  ∃v' w',(Builtin.append_ #[t,t] ty #[.slice none 0 0,.slice ad new.length cap]).run P w = .ok v' w'∧xO B0 bx W0 aI Z N a (fa [] φ s w) K v' w':=by
 have ct:=qz.pos
 obtain⟨v',w',news,dE,cx,z_,hblk,hl,cK⟩:=kJ (P:=P) hT xP qz (Nat.le_refl w.heap.size) (World.ownsRow_nil w w.heap.size e ei.ck.length) hC hn Ob bC ty (by simpa using z8) (by simpa using Cr)
 simp only[Nat.zero_add,List.nil_append]at cx
 have Oc:∀b,b<w.heap.size→w'.heap[b]? = w.heap[b]?:=fun b hb=>z_.block b hb (by simp[Value.ownBlock])
 have Cs:v'.oneCell'=true:=by
  rcases cx.2 with⟨rfl,_⟩|⟨g,cap,cur,rfl,_⟩<;>rfl
 have Cu:∀g,aq v'=some g→g=w.heap.size∧g<w'.heap.size:=by
  intro g hg
  rcases cx.2 with⟨rfl,_⟩|⟨g',cap,cur,rfl,hb,hh,_⟩
  ·simp[aq]at hg
  ·simp[aq]at hg;subst hg
   simp[Value.ownBlock]at hblk
   exact⟨hblk,(Array.getElem?_eq_some_iff.1 hh).1⟩
 have h2:∀b,ok b→w'.heap[b]? = w.heap[b]?:=fun b hb=>Oc b (r.fH b hb)
 have h3:∀k,¬False→lk s.hp k≠none→aO φ key v' k=φ k:=fun k _ hn=>by simp only[aO];rw[if_neg (by rintro rfl;exact hn hk)]
 have h4:∀k,¬False→cI s.hp (pt s.hp key (.bu e ei.ck.length new)) k:=fun k _=>by
  unfold cI
  rw[aJ]
  by_cases h:key=k
  ·subst h;rw[hk];trivial
  ·rw[if_neg h];exact cI.refl s.hp k
 refine⟨v',w',dE,.own key,_,ok,aO φ key v',h,?_,.own (sz:=ei.ck.length) (es:=new) (.inl ⟨e,by simp[St.bp,aJ]⟩) (by simp[aO]),⟨z_.size,fun g hg _=>Oc g hg,fun k b' g hb ha hg hlt=>?_⟩⟩
 rotate_left
 ·simp only[St.bp]at hb
  rw[aJ]at hb
  by_cases e:key=k
  ·subst e
   simp only[aO,if_true]at hg
   have:=Cu g hg;omega
  ·rw[if_neg e]at hb
   simp only[aO,if_neg (Ne.symm e)]at hg
   exact⟨k,b',hb,ha,hg,.inl rfl⟩
 refine r.step (fun _=>False) (fun _ h=>h.elim) (fun _ h=>h) h2 h3 h4 (fun k b' hb=>?_) (fun k b' g hb ha hg=>?_) (fun k k' b1 b2 g bT hb1 du gp jJ fe gn=>?_) (fun k=>?_) (fun b hb=>Nat.lt_of_lt_of_le (r.fH b hb) z_.size) r.kT ?_
 ·rw[aJ]at hb
  by_cases h:key=k
  ·subst h
   rw[if_pos rfl]at hb
   simp only[Option.some.injEq]at hb;subst hb
   simp only[aO,if_true]
   refine⟨ct,bC,news,⟨cx.1,?_⟩,fun i j hi hj=>(cK i j hi hj).mono (fun _ h=>h) h2⟩
   rcases cx.2 with wK|⟨g,cap,cur,rfl,hb,rest⟩
   ·exact .inl wK
   ·exact .inr ⟨g,cap,cur,rfl,Nat.le_trans r.b0 hb,rest⟩
  ·rw[if_neg h]at hb
   have:aO φ key v' k=φ k:=by simp[aO,Ne.symm h]
   rw[this]
   exact(r.hp k b' hb).keep (fun _=>False) (fun _ _ h=>h.elim) (fun _ h=>h) h2 h3 h4 (fun ha g hg=>Oc g ((r.hp k b' hb).cy ha hg))
 ·rw[aJ]at hb
  by_cases h:key=k
  ·subst h
   simp only[aO,if_true]at hg
   have:=Cu g hg
   exact⟨fun fQ=>by have:=r.fH _ fQ;omega,.inl (by have:=r.b0;omega)⟩
  ·rw[if_neg h]at hb
   simp only[aO,if_neg (Ne.symm h)]at hg
   exact r.act k b' g hb ha hg
 ·rw[aJ]at hb1 du
  by_cases h:key=k
  ·subst h
   rw[if_neg bT]at du
   simp only[aO,if_true]at fe
   simp only[aO,if_neg (Ne.symm bT)]at gn
   have:=Cu g fe
   have:=(r.hp k' b2 du).cy jJ gn
   omega
  ·rw[if_neg h]at hb1
   simp only[aO,if_neg (Ne.symm h)]at fe
   by_cases h':key=k'
   ·subst h'
    simp only[aO,if_true]at gn
    have:=Cu g gn
    have:=(r.hp k b1 hb1).cy gp fe
    omega
   ·rw[if_neg h']at du
    simp only[aO,if_neg (Ne.symm h')]at gn
    exact r.inj k k' b1 b2 g bT hb1 du gp jJ fe gn
 ·simp only[aO];split
  ·exact Cs
  ·exact r.one k
 ·exact⟨z_.os,z_.tape,z_.output,z_.size,fun k hk _=>Oc k (Nat.lt_of_lt_of_le hk r.b0)⟩
theorem oX{t e:Nat}{ti ei:TI}(hT:cF P t ti)(xP:ti.td = .slice e)(qz:cF P e ei)(r:Rel B0 bx W0 aI Z N ok φ s a w){k:Nat}{es:List (List D)}(hb:lk s.hp k=some (.bu e ei.ck.length es))
  {ad:Option Addr} {cap:Nat} {new:List (List D)} (hC:fR ok w ad new) (hn:ad=none→(Value.slice ad new.length cap) = .slice none 0 0) (Ob:True) (bC:∀c∈new,c.length=ei.ck.length) (ty:TypeId)
  (z8:(es.length+new.length)*ei.bytes≤140737488355328) (Cr:es.length+new.length≤maxLen) {K:V→St→Prop} (h:K (.own k) ((s.bH k).bp k (.bu e ei.ck.length (es++new)))):
  ∃v' w',(Builtin.append_ #[t,t] ty #[φ k,.slice ad new.length cap]).run P w = .ok v' w'∧xO B0 bx W0 aI Z N a (fa [k] φ s w) K v' w':=by
 have ct:=qz.pos
 have rs:=r.bH k
 have FR:=mm s k
 have hbs:lk (s.bH k).hp k=some (.bu e ei.ck.length es):=by simp only[St.bH];rw[dm,hb];rfl
 obtain⟨_,Cw,xs,FT,ai_⟩:=rs.hp k _ hbs
 obtain⟨v',w',news,dE,cx,z_,hblk,hl,cK⟩:=kJ (P:=P) hT xP qz r.b0 FT hC hn Ob bC ty z8 Cr
 have hoB:∀g,aq (φ k)=some g→¬ok g∧(B0≤g∨g∈bx):=fun g hg=>r.act k _ g hb rfl hg
 have yg:∀b,(φ k).ownBlock≠some b→b<w.heap.size→w'.heap[b]? = w.heap[b]?:=fun b bT hb=>z_.block b hb (fun e=>bT e.symm)
 have yi:(φ k).ownBlock=aq (φ k):=by
  rcases FT.2 with⟨hv,_⟩|⟨g,cap,cur,hv,_⟩<;>rw[hv]<;>rfl
 have Cs:v'.oneCell'=true:=by
  rcases cx.2 with⟨rfl,_⟩|⟨g,cap,cur,rfl,_⟩<;>rfl
 have TT:v'.ownBlock=aq v':=by
  rcases cx.2 with⟨rfl,_⟩|⟨g,cap,cur,rfl,_⟩<;>rfl
 rw[yi,TT]at hblk
 rw[yi]at yg
 have h2:∀b,ok b→w'.heap[b]? = w.heap[b]?:=fun b hb=>yg b (fun e=>(hoB b e).1 hb) (r.fH b hb)
 let X:Nat→Prop:=fun j=>j=k
 have hX:∀j,X j→wG (s.bH k) j:=fun j hj=>by cases hj;exact FR
 have h3:∀j,¬X j→lk (s.bH k).hp j≠none→aO φ k v' j=φ j:=fun j hj _=>by simp only[aO];rw[if_neg hj]
 have h4:∀j,¬X j→cI (s.bH k).hp (pt (s.bH k).hp k (.bu e ei.ck.length (es++new))) j:=fun j hj=>by
  unfold cI
  rw[aJ,if_neg (fun e=>hj e.symm)];exact cI.refl _ j
 have aja:∀g,aq v'=some g→¬ok g∧(B0≤g∨g∈bx):=by
  intro g hg
  rcases hblk with e|e
  ·exact hoB g (by rw[←e];exact hg)
  ·rw[hg]at e
   simp only[Option.some.injEq]at e
   subst e
   exact⟨fun ho=>by have:=r.fH _ ho;omega,.inl r.b0⟩
 have Od:∀j b g,j≠k→lk (s.bH k).hp j=some b→b.aM=true→aq (φ j)=some g→aq v'≠some g:=by
  intro j b g hj cJ ha hg oT
  rcases hblk with e|e
  ·exact rs.inj j k b _ g hj cJ hbs ha rfl hg (by rw[←e];exact oT)
  ·rw[oT]at e
   simp only[Option.some.injEq]at e
   have:=(rs.hp j b cJ).cy ha hg
   omega
 refine⟨v',w',dE,.own k,_,ok,aO φ k v',h,?_,.own (sz:=ei.ck.length) (es:=es++new) (.inl ⟨e,by simp[St.bp,aJ]⟩) (by simp[aO]),⟨z_.size,fun g hg hn=>yg g (fun e=>hn k _ (by simp) hb rfl e) hg,fun j b' g cJ ha hg hlt=>?_⟩⟩
 rotate_left
 ·simp only[St.bp]at cJ
  rw[aJ]at cJ
  by_cases e:k=j
  ·subst e
   simp only[aO,if_true]at hg
   rcases hblk with e|e
   ·exact⟨_,_,hb,rfl,by rw[←e];exact hg,.inl rfl⟩
   ·rw[hg]at e;simp at e;omega
  ·rw[if_neg e]at cJ
   simp only[aO,if_neg (Ne.symm e)]at hg
   simp only[St.bH]at cJ
   rw[dm]at cJ
   cases jR:lk s.hp j with
   |none=>rw[jR]at cJ;cases cJ
   |some b0=>
    rw[jR]at cJ
    refine⟨j,b0,jR,?_,hg,.inl rfl⟩
    simp only[Option.map_some,Option.some.injEq]at cJ
    subst cJ
    cases b0<;>first|rfl|exact ha
 refine rs.step X hX (hXp:=fun j hj cs=>by cases hj;rw[hbs];simp) (fun _ h=>h) h2 h3 h4 (fun j b' cJ=>?_) (fun j b' g cJ ha hg=>?_) (fun j j' b1 b2 g bT hb1 du gp jJ fe gn=>?_) (fun j=>?_) (fun b hb=>Nat.lt_of_lt_of_le (r.fH b hb) z_.size) r.kT ?_
 ·rw[aJ]at cJ
  by_cases h:k=j
  ·subst h
   rw[if_pos rfl]at cJ
   simp only[Option.some.injEq]at cJ;subst cJ
   simp only[aO,if_true]
   refine⟨ct,?_,xs++news,by simpa using cx,?_⟩
   ·intro c hc
    rcases List.mem_append.1 hc with hc|hc
    ·exact Cw c hc
    ·exact bC c hc
   ·exact DV FT.1 (fun i j hi hj=>(ai_ i j hi hj).mono (fun _ h=>h) h2) (fun i j hi hj=>(cK i j hi hj).mono (fun _ h=>h) h2)
  ·rw[if_neg h]at cJ
   have:aO φ k v' j=φ j:=by simp[aO,Ne.symm h]
   rw[this]
   refine(rs.hp j b' cJ).keep X (fun i cs hi Oe=>by cases hi;subst Oe;exact FR.hp j cs cJ) (fun _ h=>h) h2 h3 h4 (fun ha g hg=>yg g ?_ ((rs.hp j b' cJ).cy ha hg)) (fun i es hi hm=>by cases hi;subst hm;exact FR.mp j es cJ)
   exact fun e=>rs.inj j k b' _ g (Ne.symm h) cJ hbs ha rfl hg e
 ·rw[aJ]at cJ
  by_cases h:k=j
  ·subst h
   simp only[aO,if_true]at hg
   exact aja g hg
  ·rw[if_neg h]at cJ
   simp only[aO,if_neg (Ne.symm h)]at hg
   exact rs.act j b' g cJ ha hg
 ·rw[aJ]at hb1 du
  by_cases h:k=j
  ·subst h
   rw[if_neg bT]at du
   simp only[aO,if_true]at fe
   simp only[aO,if_neg (Ne.symm bT)]at gn
   exact Od j' b2 g (Ne.symm bT) du jJ gn fe
  ·rw[if_neg h]at hb1
   simp only[aO,if_neg (Ne.symm h)]at fe
   by_cases h':k=j'
   ·subst h'
    simp only[aO,if_true]at gn
    exact Od j b1 g bT hb1 gp fe gn
   ·rw[if_neg h']at du
    simp only[aO,if_neg (Ne.symm h')]at gn
    exact rs.inj j j' b1 b2 g bT hb1 du gp jJ fe gn
 ·simp only[aO];split
  ·exact Cs
  ·exact r.one j
 ·refine⟨z_.os,z_.tape,z_.output,z_.size,fun i hi zx=>yg i ?_ (Nat.lt_of_lt_of_le hi r.b0)⟩
  intro e
  rcases(hoB i e).2 with h|h
  ·omega
  ·exact zx h
theorem pI{α:Type}(es new:List α)(lo:Nat)(z:α)(h:lo+new.length≤es.length)(i:Nat):
  (es.take lo++new++es.drop (lo+new.length)).getD i z=if i<lo then es.getD i z else if i<lo+new.length then new.getD (i-lo) z else es.getD i z:=by
 rw[List.getD_eq_getElem?_getD,gQ es new lo i h]
 split
 ·rw[List.getD_eq_getElem?_getD]
 ·split<;>rw[List.getD_eq_getElem?_getD]
theorem Rel.Cx(r:Rel B0 bx W0 aI Z N ok φ s a w){k e sz g rO lo:Nat}{es new:List (List D)}{ys:List Value}(hb:lk s.hp k=some (.bu e sz es))(hφ:φ k = .slice (some ⟨g,0,none⟩) es.length rO)
  (bC:∀c∈new,c.length=sz) (hle:lo+new.length≤es.length) (hl:ys.length=new.length*sz)
  (hy:∀i j,i<new.length→j<sz→Rd ok w (ys.getD (i*sz+j) undef) ((new.getD i []).getD j default)):
  ∃cur T,w.heap[g]? = some (.cells cur T (0,0))∧lo*sz+ys.length≤cur.size∧
   Rel B0 bx W0 aI Z N ok φ (s.bp k (.bu e sz (es.take lo++new++es.drop (lo+new.length)))) a (w.setRow g (cur.toList.take (lo*sz)++ys++cur.toList.drop (lo*sz+ys.length)).toArray)∧
   fa [k] φ s w φ (s.bp k (.bu e sz (es.take lo++new++es.drop (lo+new.length)))) (w.setRow g (cur.toList.take (lo*sz)++ys++cur.toList.drop (lo*sz+ys.length)).toArray):=by
 obtain⟨ct,Cw,xs,cx,hr⟩:=r.hp k _ hb
 have hblk:aq (φ k)=some g:=by rw[hφ];rfl
 rcases cx.2 with⟨hn,hz⟩|⟨g',iE,cur,hs,gi,hh,ug,nC,hO,N6⟩
 ·rw[hn]at hφ;cases hφ
 rw[hφ]at hs
 simp only[Value.slice.injEq,Option.some.injEq,Addr.mk.injEq,true_and,and_true]at hs
 obtain⟨rfl,rfl⟩:=hs
 have hmul:lo*sz+ys.length≤es.length*sz:=by
  rw[hl,←Nat.add_mul];exact Nat.mul_le_mul_right _ hle
 have anN:es.length*sz≤rO*sz:=Nat.mul_le_mul_right _ ug
 have hlen:(es.take lo++new++es.drop (lo+new.length)).length=es.length:=by simp;omega
 refine⟨cur,e,hh,by omega,?_,fa.written (.refl _) _ _ hb rfl hblk⟩
 refine r.written hb rfl rfl hblk _ (Co hb) ?_
 refine⟨ct,?_,(xs.take (lo*sz)++ys++xs.drop (lo*sz+ys.length)),⟨?_,.inr ⟨g,rO,_,?_,gi,setRow_heap w g cur _ e _ hh,?_,nC,?_,?_⟩⟩,?_⟩
 ·intro c hc
  simp only[List.mem_append]at hc
  rcases hc with(hc|hc)|hc
  ·exact Cw c (List.mem_of_mem_take hc)
  ·exact bC c hc
  ·exact Cw c (List.mem_of_mem_drop hc)
 ·rw[hlen]
  simp only[List.length_append,List.length_take,List.length_drop,cx.1];omega
 ·rw[hφ,hlen]
 ·rw[hlen];exact ug
 ·simp only[List.size_toArray,List.length_append,List.length_take,List.length_drop,Array.length_toList,hO];omega
 ·rw[hlen]
  simp only[]
  rw[←N6]
  exact pG cur.toList ys (lo*sz) (es.length*sz) hmul (by simp only[Array.length_toList,hO];omega)
 ·intro i j hi hj
  rw[hlen]at hi
  have FO:=r.act k _ g hb rfl hblk
  have N_:∀b,ok b→(w.setRow g (cur.toList.take (lo*sz)++ys++cur.toList.drop (lo*sz+ys.length)).toArray).heap[b]? = w.heap[b]?:=
   fun b hb=>setRow_other w g b _ (by rintro rfl;exact FO.1 hb)
  rw[pI xs ys (lo*sz) undef (by rw[cx.1];exact hmul),pI es new lo [] hle]
  have hij:∀m,i<m→i*sz+j<m*sz:=fun m hm=>by
   calc i*sz+j<i*sz+sz:=by omega
    _=(i+1)*sz:=by rw[Nat.add_mul];omega
    _≤m*sz:=Nat.mul_le_mul_right _ hm
  have Fa:∀m,m≤i→m*sz≤i*sz+j:=fun m hm=>by
   have:m*sz≤i*sz:=Nat.mul_le_mul_right _ hm
   omega
  by_cases c1:i<lo
  ·rw[if_pos (hij lo c1),if_pos c1]
   exact(hr i j hi hj).mono (fun _ h=>h) N_
  ·rw[if_neg (by have:=Fa lo (by omega);omega),if_neg c1]
   by_cases c2:i<lo+new.length
   ·have e1:lo*sz+ys.length=(lo+new.length)*sz:=by rw[hl,Nat.add_mul]
    rw[e1,if_pos (hij _ c2),if_pos c2]
    have e2:i*sz+j-lo*sz=(i-lo)*sz+j:=by
      have:=Fa lo (by omega)
      have h3:lo*sz≤i*sz:=Nat.mul_le_mul_right _ (by omega)
      rw[Nat.sub_mul];omega
    rw[e2]
    rw[←e1]
    exact(hy (i-lo) j (by omega) hj).mono (fun _ h=>h) N_
   ·have e1:lo*sz+ys.length=(lo+new.length)*sz:=by rw[hl,Nat.add_mul]
    rw[e1,if_neg (by have:=Fa (lo+new.length) (by omega);omega),if_neg c2,←e1]
    exact(hr i j hi hj).mono (fun _ h=>h) N_
theorem XC{ck:List CK}{l:List Value}(oF:zB ck l=true){z:List D}(hz:gY ck=some z):z.length=ck.length∧∀(j:Nat) (v:Value) (d:D),l[j]? = some v→z[j]? = some d→Rd ok w v d:=by
 induction ck generalizing l z with
 |nil=>simp[gY]at hz;subst hz;simp
 |cons c r ih=>
  cases l with
  |nil=>simp[zB]at oF
  |cons v l=>
   simp only[zB,Bool.and_eq_true]at oF
   have key:∀(x:D) (l2:List D),gY r=some l2→z=x::l2→Rd ok w v x→z.length=(c::r).length∧∀(j:Nat) (v':Value) (d:D),(v::l)[j]? = some v'→z[j]? = some d→Rd ok w v' d:=by
    intro x l2 h1 h2 h3
    subst h2
    obtain⟨h4,h5⟩:=ih oF.2 h1
    refine⟨by simp[h4],fun j v' d hv hd=>?_⟩
    cases j with
    |zero=>simp at hv hd;subst hv;subst hd;exact h3
    |succ j=>exact h5 j v' d (by simpa using hv) (by simpa using hd)
   have h0:=oF.1
   have rJ:VR ok (fun _=>undef) [] w (oI c) v:=(ml (ok:=ok) (φ:=fun _=>undef) (w:=w) (hp:=[]) (ck:=[c]) (xs:=[v]) (by simp[zB,h0])).2 0 (oI c) v rfl rfl
   simp only[gY]at hz
   split at hz
   ·rename_i x l2 hx p'
    simp only[Option.some.injEq]at hz
    rw[hx]at rJ
    cases rJ;rename_i cK
    exact key x l2 p' hz.symm cK
   ·rename_i l2 hx p'
    simp only[Option.some.injEq]at hz
    rw[hx]at rJ
    cases rJ
    exact key (.sl []) l2 p' hz.symm .nil
   ·cases hz
theorem Rel.ajb(r:Rel B0 bx W0 aI Z N ok φ s a w){hp':List (Nat×B)}(e:∀j,lk hp' j=lk s.hp j):Rel B0 bx W0 aI Z N ok φ {s with hp:=hp'} a w:=by
 have h4:∀j,cI s.hp hp' j:=fun j=>by
  have:=cI.refl s.hp j
  unfold cI at this ⊢
  rw[e];exact this
 refine r.step (fun _=>False) (fun _ h=>h.elim) (fun _ h=>h) (fun _ _=>rfl) (fun _ _ _=>rfl) (fun j _=>h4 j) (fun j b hb=>?_) (fun j b g hb ha hg=>?_) (fun j j' b b' g bT hb cJ ha DT hg oT=>?_) r.one r.fH r.kT (mB.refl _ _ _)
 ·rw[e]at hb
  exact(r.hp j b hb).keep (fun _=>False) (fun _ _ h=>h.elim) (fun _ h=>h) (fun _ _=>rfl) (fun _ _ _=>rfl) (fun j _=>h4 j) (fun _ _ _=>rfl)
 ·rw[e]at hb;exact r.act j b g hb ha hg
 ·rw[e]at hb cJ;exact r.inj j j' b b' g bT hb cJ ha DT hg oT
theorem Rel.Cy(r:Rel B0 bx W0 aI Z N ok φ s a w){k:Nat}{b:B}(hb:lk s.hp k=some b)(T:List Nat):Rel B0 bx W0 aI Z N ok φ (s.bp k b) a w∧fa T φ s w φ (s.bp k b) w:=by
 have e:∀j,lk (pt s.hp k b) j=lk s.hp j:=fun j=>by
  rw[aJ];split
  ·rename_i hk;subst hk;exact hb.symm
  ·rfl
 refine⟨r.ajb e,Nat.le_refl _,fun _ _ _=>rfl,fun j b' g h1 h2 h3 _=>⟨j,b',?_,h2,h3,.inl rfl⟩⟩
 simp only[St.bp]at h1
 rw[e]at h1;exact h1
theorem tJ{z:Array Value}{n sz i j:Nat}(hz:z.size=sz)(hi:i<n)(hj:j<sz):(Builtin.zeroCells z n).toList.getD (i*sz+j) undef=z.toList.getD j undef:=by
 subst hz
 have hlt:i*z.size+j<n*z.size:=by
  calc i*z.size+j<i*z.size+z.size:=by omega
   _=(i+1)*z.size:=by rw[Nat.add_mul];omega
   _≤n*z.size:=Nat.mul_le_mul_right _ hi
 rw[List.getD_eq_getElem?_getD]
 simp only[Builtin.zeroCells,Array.toList_map,Array.toList_range,List.getElem?_map,List.getElem?_range hlt,Option.map_some,Option.getD_some]
 rw[Nat.add_comm,Nat.add_mul_mod_self_right,Nat.mod_eq_of_lt hj,getElem!_pos z _ hj]
 simp[List.getD,hj]
theorem wL{t e:Nat}{ti ei:TI}(hT:cF P t ti)(xP:ti.td = .slice e)(qz:cF P e ei)(r:Rel B0 bx W0 aI Z N ok φ s a w){c:V}{v:Value}(hv:VR ok φ s.hp w c v){k lo n e' sz:Nat}{es:List (List D)}
  (hst:dG s c=some (k,lo,n)) (hb:lk s.hp k=some (.bu e' sz es)) {z:List D} (hz:gY ei.ck=some z) (hsz:sz=ei.ck.length) (ty:TypeId)
  {K:V→St→Prop} (h:K .dead (s.bp k (.bu e' sz (es.take lo++List.replicate n z++es.drop (lo+n))))):
  ∃v' w',(Builtin.clear_ #[t] ty #[v]).run P w = .ok v' w'∧xO B0 bx W0 aI Z N a (fa (fO c) φ s w) K v' w':=by
 subst hsz
 obtain⟨hu,_⟩:=hT.dA xP
 obtain⟨inf,zv,hi,hsz,Wp,hzz,oF,_⟩:=qz.info
 have NM:zv.cells.size=ei.ck.length:=by simpa using(ml (ok:=ok) (φ:=φ) (w:=w) (hp:=s.hp) oF).1
 obtain⟨Cn,E_⟩:=XC (ok:=ok) (w:=w) oF hz
 obtain⟨e1,Xl,es1,ad,cap,q1,q2,q3,rfl,q5,q6,q7⟩:=eW r hv hst
 rw[hb]at q1
 simp only[Option.some.injEq,B.bu.injEq]at q1
 obtain⟨rfl,rfl,rfl⟩:=q1
 rw[q7]
 by_cases hn:n=0
 ·subst hn
  have e0:es.take lo++List.replicate 0 z++es.drop (lo+0)=es:=by simp
  rw[e0]at h
  obtain⟨r1,f1⟩:=r.Cy hb [k]
  refine⟨.tuple #[],w,?_,.dead,_,ok,φ,h,r1,.dead _,f1⟩
  cases ad<;>simp[Builtin.clear_,run_underlying hu]
 ·obtain⟨g,rO,rfl,hφ⟩:=q6 (by omega)
  have hl:(Builtin.zeroCells zv.cells n).toList.length=(List.replicate n z).length*ei.ck.length:=by simp[Builtin.zeroCells,NM]
  have hlr:(List.replicate n z).length=n:=by simp
  obtain⟨cur,T,hh,hle,r1,f1⟩:=r.Cx (new:=List.replicate n z) (lo:=lo) hb hφ (fun c hc=>by rw[List.eq_of_mem_replicate hc];exact Cn) (by rw[hlr];exact q2) hl (fun i j hi hj=>by
   rw[hlr]at hi
   rw[tJ NM hi hj]
   have hg:(List.replicate n z).getD i []=z:=by
    rw[List.getD_eq_getElem?_getD,List.getElem?_replicate,if_pos hi];rfl
   rw[hg]
   have Xz:j<zv.cells.size:=by omega
   have XA:j<z.length:=by omega
   have:=E_ j zv.cells[j] z[j] (by simp[Xz]) (List.getElem?_eq_getElem XA)
   rw[List.getD_eq_getElem?_getD,List.getD_eq_getElem?_getD,List.getElem?_eq_getElem XA]
   simpa[Xz]using this)
  rw[hlr]at r1 f1
  have hst:=run_storeCells_at (P:=P) g (lo*ei.ck.length) T (Builtin.zeroCells zv.cells n).toList 0 cur w hh (by simpa using hle) (by
   intro x hx
   obtain⟨m,hm⟩:=List.getElem?_of_mem hx
   have hlt:m<n*zv.cells.size:=by
    have:=(List.getElem?_eq_some_iff.1 hm).1
    simpa[Builtin.zeroCells]using this
   simp[Builtin.zeroCells,List.getElem?_range,hlt]at hm
   subst hm
   have DW:m % zv.cells.size<zv.cells.size:=Nat.mod_lt _ (by rcases Nat.eq_zero_or_pos zv.cells.size with h0|h0;rw[h0]at hlt;omega;exact h0)
   rw[getElem!_pos zv.cells _ DW]
   exact(E_ (m % zv.cells.size) _ (z[m % zv.cells.size]'(by omega)) (by simp[DW]) (List.getElem?_eq_getElem _)).one)
  refine⟨.tuple #[],_,?_,.dead,_,ok,φ,h,r1,.dead _,f1⟩
  obtain⟨m,rfl⟩:∃m,n=m+1:=⟨n-1,by omega⟩
  have Xy:∀w,(zeroValue e).run P w = .ok zv w:=fun w=>by simp[zeroValue,typeInfo,hi,hzz]
  simp only[Nat.add_zero]at hst
  simp[Builtin.clear_,run_underlying hu,Xy,hst]
theorem yk{t t' e:Nat}{ti ei:TI}(hT:cF P t ti)(xP:ti.td = .slice e)(qz:cF P e ei)(r:Rel B0 bx W0 aI Z N ok φ s a w){c:V}{v:Value}(hv:VR ok φ s.hp w c v){k lo n e' sz:Nat}{es:List (List D)}
  (hst:dG s c=some (k,lo,n)) (hb:lk s.hp k=some (.bu e' sz es)) {XD:Option Addr} {iE:Nat} {new:List (List D)} (hC:fR ok w XD new) (wK:XD=none→(Value.slice XD new.length iE) = .slice none 0 0)
  (hsz:sz=ei.ck.length) (bC:∀c∈new,c.length=sz) (ty:TypeId)
  {K:V→St→Prop} (h:K (.d (.v (.int .i64 (new.take n).length))) (s.bp k (.bu e' sz (es.take lo++new.take n++es.drop (lo+(new.take n).length))))):
  ∃v' w',(Builtin.copy_ #[t,t'] ty #[v,.slice XD new.length iE]).run P w = .ok v' w'∧xO B0 bx W0 aI Z N a (fa (fO c) φ s w) K v' w':=by
 subst hsz
 obtain⟨hu,_⟩:=hT.dA xP
 obtain⟨inf,zv,hi,hsz,Wp,hzz,oF,_⟩:=qz.info
 have ct:=qz.pos
 obtain⟨e1,Xl,es1,ad,cap,q1,q2,q3,rfl,q5,q6,q7⟩:=eW r hv hst
 rw[hb]at q1
 simp only[Option.some.injEq,B.bu.injEq]at q1
 obtain⟨rfl,rfl,rfl⟩:=q1
 rw[q7]
 have DY:Nat.min new.length n=(new.take n).length:=by simp[Nat.min_comm]
 by_cases hn:(new.take n)=[]
 ·rw[hn]at h DY
  simp only[List.length_nil,Nat.add_zero,List.append_nil,List.take_append_drop]at h DY
  obtain⟨r1,f1⟩:=r.Cy hb [k]
  refine⟨.int .i64 0,w,?_,_,_,ok,φ,h,r1,.d (.v rfl),f1⟩
  cases XD with
  |none=>cases ad<;>simp[Builtin.copy_,run_underlying hu,Builtin.lenOf,Builtin.firstCells,sizeOf,typeInfo,hi,DY,storeCells,goInt]
  |some x=>
   have hl0:=run_loadCells_list (P:=P) w x [] (by simp)
   simp only[List.length_nil]at hl0
   cases ad<;>simp[Builtin.copy_,run_underlying hu,Builtin.lenOf,Builtin.firstCells,sizeOf,typeInfo,hi,DY,storeCells,hl0,goInt]
 ·have hn0:0<(new.take n).length:=by
   rcases Nat.eq_zero_or_pos (new.take n).length with h0|h0
   ·exact(hn (List.eq_nil_of_length_eq_zero h0)).elim
   ·exact h0
  have bT:new≠[]:=by rintro rfl;simp at hn
  obtain⟨b,off,rfl,news,hl,hc,z6,cK⟩:=Cq ct hC bC bT
  have hle:(new.take n).length≤n∧(new.take n).length≤new.length:=by simp;omega
  obtain⟨g,rO,rfl,hφ⟩:=q6 (by omega)
  have hmul:(new.take n).length*ei.ck.length≤new.length*ei.ck.length:=Nat.mul_le_mul_right _ hle.2
  have p':(news.take ((new.take n).length*ei.ck.length)).length=(new.take n).length*ei.ck.length:=by
   rw[List.length_take,hl];omega
  obtain⟨cur,T,hh,TP,r1,f1⟩:=r.Cx (new:=new.take n) (lo:=lo) (ys:=news.take ((new.take n).length*ei.ck.length)) hb hφ (fun c hc=>bC c (List.mem_of_mem_take hc)) (by omega) p' (fun i j hi hj=>by
   have hlt:i*ei.ck.length+j<(new.take n).length*ei.ck.length:=by
    calc i*ei.ck.length+j<i*ei.ck.length+ei.ck.length:=by omega
     _=(i+1)*ei.ck.length:=by rw[Nat.add_mul];omega
     _≤_:=Nat.mul_le_mul_right _ hi
   have:=cK i j (by omega) hj
   rw[List.getD_eq_getElem?_getD,List.getElem?_take,if_pos hlt,←List.getD_eq_getElem?_getD]
   have e2:(new.take n).getD i []=new.getD i []:=by
    rw[List.getD_eq_getElem?_getD,List.getElem?_take,if_pos (by omega),←List.getD_eq_getElem?_getD]
   rw[e2];exact this)
  have hld:=run_loadCells_list (P:=P) w ⟨b,off,none⟩ (news.take ((new.take n).length*ei.ck.length)) (fun j u hj=>hc j u (by
   rw[List.getElem?_take]at hj
   split at hj
   ·exact hj
   ·cases hj))
  rw[p']at hld
  have TU:=run_storeCells_at (P:=P) g (lo*ei.ck.length) T (news.take ((new.take n).length*ei.ck.length)) 0 cur w hh (by simpa using TP) (fun x hx=>z6 x (List.mem_of_mem_take hx))
  simp only[Nat.add_zero]at TU
  refine⟨.int .i64 (new.take n).length,_,?_,_,_,ok,φ,h,r1,.d (.v rfl),f1⟩
  clear r1 f1 h TP hle p' hmul hn0
  generalize hm:(new.take n).length=m at DY hld TU ⊢
  simp[Builtin.copy_,run_underlying hu,Builtin.lenOf,Builtin.firstCells,sizeOf,typeInfo,hi,hsz,DY,hld,TU,goInt]
theorem ek(a:Act)(d t:Nat)(v:Value)(hd:d<a.tmps.size):(a.put (some d) v).tmps.getD t undef=if t=d then v else a.tmps.getD t undef:=by
 simp only[Act.put,Array.getD_eq_getD_getElem?,Array.getElem?_setIfInBounds]
 by_cases h:d=t
 ·subst h;simp[hd]
 ·simp[h,Ne.symm h]
theorem qA(gd:List (Nat×(Nat×Bool×V)))(k t:Nat):∀t' w' x,lk (wo gd k) t=some (t',w',x)→(∃x0,lk gd t=some (t',w',x0)∧(x = .dead∨(x=x0∧t'≠k∧t≠k))):=by
 induction gd with
 |nil=>intro t' w' x h;simp[wo,lk]at h
 |cons p r ih=>
  obtain⟨a,u,w,y⟩:=p
  intro t' w' x h
  simp only[wo]at h
  by_cases ha:a=t
  ·subst ha
   have e:Nat.beq a a=true:=by simp
   split at h
   ·rename_i h1 h2
    simp only[lk,e,Option.some.injEq,Prod.mk.injEq]at h ⊢
    obtain⟨rfl,rfl,rfl⟩:=h
    exact⟨y,⟨rfl,rfl,rfl⟩,.inr ⟨rfl,beq_false.1 h1,beq_false.1 h2⟩⟩
   ·simp only[lk,e,Option.some.injEq,Prod.mk.injEq]at h ⊢
    obtain⟨rfl,rfl,rfl⟩:=h
    exact⟨y,⟨rfl,rfl,rfl⟩,.inl rfl⟩
  ·have e:Nat.beq a t=false:=beq_false.2 ha
   split at h<;>(simp only[lk,e]at h ⊢;exact ih t' w' x h)
theorem Rel.put(r:Rel B0 bx W0 aI Z N ok φ s a w){d:Nat}(hd:d<N){v:V}{v':Value}(hv:VR ok φ s.hp w v v'):Rel B0 bx W0 aI Z N ok φ (s.put d v) (a.put (some d) v') w:=by
 have DN:d<a.tmps.size:=by rw[r.sz];exact hd
 exact {
  sz:=by simp[Act.put,r.sz]
  tm:=fun t x h=>by
   simp only[St.put]at h
   rw[aJ]at h
   rw[ek a d t v' DN]
   by_cases e:d=t
   ·subst e;simp at h;subst h;rw[if_pos rfl];exact hv
   ·rw[if_neg e]at h;rw[if_neg (Ne.symm e)];exact r.tm t x h
  gd:=fun t t' w' x h hw=>by
   obtain⟨x0,h0,h1⟩:=qA s.gd d t t' w' x h
   rcases h1 with rfl|⟨rfl,h2,h3⟩
   ·exact .dead _
   ·rw[ek a d t' v' DN,if_neg h2]at hw
    rw[ek a d t v' DN,if_neg h3]
    exact r.gd t t' w' x h0 hw
  gu:=fun t t' w' b h hw=>by
   obtain⟨x0,h0,h1⟩:=qA s.gd d t t' w' _ h
   rcases h1 with h1|⟨h1,h2,h3⟩
   ·cases h1
   ·subst h1
    rw[ek a d t' v' DN,if_neg h2]at hw
    rw[ek a d t v' DN,if_neg h3]
    exact r.gu t t' w' b h0 hw
  kn:=fun t b h=>by
   simp only[St.put]at h
   rw[pz]at h
   by_cases e:d=t
   ·rw[if_pos e]at h;cases h
   ·rw[if_neg e]at h;rw[ek a d t v' DN,if_neg (Ne.symm e)];exact r.kn t b h
  hp:=r.hp,act:=r.act,inj:=r.inj,one:=r.one,fH:=r.fH,kT:=r.kT,aI:=r.aI,l8:=r.l8,b0:=r.b0,df:=by simpa[Act.put]using r.df,kz:=r.kz,zs:=r.zs,rt:=r.rt,oP:=r.oP}
theorem Rel.kill(r:Rel B0 bx W0 aI Z N ok φ s a w){d:Nat}(hd:d<N)(v':Value):Rel B0 bx W0 aI Z N ok φ (s.kill d) (a.put (some d) v') w:=by
 have h:=r.put hd (.dead v')
 exact {h with
  tm:=fun t x hx=>by
   simp only[St.kill]at hx
   rw[pz]at hx
   by_cases e:d=t
   ·rw[if_pos e]at hx;cases hx
   ·rw[if_neg e]at hx
    exact h.tm t x (by simp only[St.put];rw[aJ,if_neg e];exact hx)}
theorem Rel.FU(r:Rel B0 bx W0 aI Z N ok φ s a w)(d:Nat):Rel B0 bx W0 aI Z N ok φ (s.kill d) a w:=by
 exact {r with
  tm:=fun t x hx=>by
   simp only[St.kill]at hx
   rw[pz]at hx
   by_cases e:d=t
   ·rw[if_pos e]at hx;cases hx
   ·rw[if_neg e]at hx;exact r.tm t x hx
  gd:=fun t t' w' x h hw=>by
   obtain⟨x0,h0,h1⟩:=qA s.gd d t t' w' x h
   rcases h1 with rfl|⟨rfl,h2,h3⟩
   ·exact .dead _
   ·exact r.gd t t' w' x h0 hw
  gu:=fun t t' w' b h hw=>by
   obtain⟨x0,h0,h1⟩:=qA s.gd d t t' w' _ h
   rcases h1 with h1|⟨h1,h2,h3⟩
   ·cases h1
   ·subst h1;exact r.gu t t' w' b h0 hw
  kn:=fun t b h=>by
   simp only[St.kill]at h
   rw[pz]at h
   by_cases e:d=t
   ·rw[if_pos e]at h;cases h
   ·rw[if_neg e]at h;exact r.kn t b h}
theorem Rel.kf(r:Rel B0 bx W0 aI Z N ok φ s a w){d:Option Nat}(hd:∀k,d=some k→k<N){v:V}{v':Value}(hv:VR ok φ s.hp w v v'):Rel B0 bx W0 aI Z N ok φ (Dm.kf s d v) (a.put d v') w:=by
 cases d with
 |none=>exact r
 |some d=>
  cases v<;>first|exact r.kill (hd d rfl) v'|exact r.put (hd d rfl) hv
theorem Rel.Fx(r:Rel B0 bx W0 aI Z N ok φ s a w){d:Nat}(hd:d<N){t:Nat}{want:Bool}{v:V}{v':Value}
  (hv:(a.tmps.getD t undef = .bool want∧VR ok φ s.hp w v v')∨(a.tmps.getD t undef≠.bool want∧v'=undef)):Rel B0 bx W0 aI Z N ok φ (s.Fx d (t,want) v) (a.put (some d) v') w:=by
 have DN:d<a.tmps.size:=by rw[r.sz];exact hd
 have hk:=r.kill hd v'
 unfold St.Fx
 by_cases e0:t=d
 ·have:Nat.beq t d=true:=by simp[e0]
  simp only[this]
  exact {hk with}
 ·have e1:Nat.beq t d=false:=beq_false.2 e0
  simp only[e1]
  exact {hk with
   gd:=fun u u' w' x h hw=>by
    rw[aJ]at h
    by_cases e:d=u
    ·subst e
     rw[if_pos rfl]at h
     simp only[Option.some.injEq,Prod.mk.injEq]at h
     obtain⟨rfl,rfl,rfl⟩:=h
     rw[ek a d t v' DN,if_neg e0]at hw
     rw[ek a d d v' DN,if_pos rfl]
     rcases hv with⟨_,hv⟩|⟨hn,_⟩
     ·exact hv
     ·exact(hn hw).elim
    ·rw[if_neg e]at h
     exact hk.gd u u' w' x h hw
   gu:=fun u u' w' b h hw=>by
    rw[aJ]at h
    by_cases e:d=u
    ·subst e
     rw[if_pos rfl]at h
     simp only[Option.some.injEq,Prod.mk.injEq]at h
     obtain⟨rfl,rfl,rfl⟩:=h
     rw[ek a d t v' DN,if_neg e0]at hw
     rw[ek a d d v' DN,if_pos rfl]
     rcases hv with⟨hy,_⟩|⟨_,hn⟩
     ·exact(hw hy).elim
     ·exact hn
    ·rw[if_neg e]at h
     exact hk.gu u u' w' b h hw}
theorem Rel.dR(r:Rel B0 bx W0 aI Z N ok φ s a w){d:Option Nat}(hd:∀k,d=some k→k<N){t:Nat}{want:Bool}{v:V}{v':Value}
  (hv:(a.tmps.getD t undef = .bool want∧VR ok φ s.hp w v v')∨(a.tmps.getD t undef≠.bool want∧v'=undef)):Rel B0 bx W0 aI Z N ok φ (Dm.dR s d (t,want) v) (a.put d v') w:=by
 cases d with
 |none=>exact r
 |some d=>
  cases v<;>first|exact r.kill (hd d rfl) v'|exact r.Fx (hd d rfl) hv
theorem Rel.ka(r:Rel B0 bx W0 aI Z N ok φ s a w){t:Nat}{b:Bool}(h:a.tmps.getD t undef = .bool b):Rel B0 bx W0 aI Z N ok φ (s.ka t b) a w:=
 {r with
  kn:=fun u c hc=>by
    simp only[St.ka]at hc
    rw[aJ]at hc
    by_cases e:t=u
    ·subst e;simp at hc;subst hc;exact h
    ·rw[if_neg e]at hc;exact r.kn u c hc}
theorem Rel.TV(r:Rel B0 bx W0 aI Z N ok φ s a w):Rel B0 bx W0 aI Z N ok φ {s with gd:=[]} a w:=
 {r with gd:=fun t t' w' x h=>by simp[lk]at h,gu:=fun t t' w' b h=>by simp[lk]at h}
theorem Rel.rD(keep:List Nat)(l:List Nat):∀{s:St},Rel B0 bx W0 aI Z N ok φ s a w→Rel B0 bx W0 aI Z N ok φ (Dm.rD keep l s) a w:=by
 induction l with
 |nil=>intro s r;exact r
 |cons d l ih=>
  intro s r
  simp only[Dm.rD]
  split
  ·exact ih r
  ·exact ih (r.FU d)
theorem Rel.iL(r:Rel B0 bx W0 aI Z N ok φ s a w)(keep:List Nat)(ops:List Oper):Rel B0 bx W0 aI Z N ok φ (Dm.iL keep ops s) a w:=
 (Rel.rD keep (NX ops) r).TV
theorem iG(n:Nat):∀{s:St} {t:Nat} {want:Bool} {Y M:St→Prop},Rel B0 bx W0 aI Z N ok φ s a w→ke n s t want Y M→
  (a.tmps.getD t undef = .bool want∧∃s',Y s'∧Rel B0 bx W0 aI Z N ok φ s' a w∧s'.hp=s.hp)∨(a.tmps.getD t undef≠.bool want∧∃s',M s'∧Rel B0 bx W0 aI Z N ok φ s' a w∧s'.hp=s.hp):=by
 induction n with
 |zero=>intro s t want Y M r h;exact h.elim
 |succ n ih=>
  intro s t want Y M r h
  unfold ke at h
  have fin:∀(b:Bool),a.tmps.getD t undef = .bool b→∀s1:St,Rel B0 bx W0 aI Z N ok φ s1 a w→s1.hp=s.hp→(b=want→Y (s1.ka t want))∧(b = !want→M (s1.ka t (!want)))→
    (a.tmps.getD t undef = .bool want∧∃s',Y s'∧Rel B0 bx W0 aI Z N ok φ s' a w∧s'.hp=s.hp)∨(a.tmps.getD t undef≠.bool want∧∃s',M s'∧Rel B0 bx W0 aI Z N ok φ s' a w∧s'.hp=s.hp):=by
   intro b hb s1 r1 mn ⟨h1,h2⟩
   by_cases e:b=want
   ·subst e;exact .inl ⟨hb,_,h1 rfl,r1.ka hb,mn⟩
   ·have e':b = !want:=by cases b<;>cases want<;>simp_all
    refine .inr ⟨by rw[hb];simpa using e,_,h2 e',r1.ka (by rw[hb,e']),mn⟩
  split at h
  ·rename_i b hb
   have hk:=r.kn t b hb
   split at h
   ·exact .inl ⟨hk,s,h,r,rfl⟩
   ·exact .inl ⟨hk,s,h,r,rfl⟩
   ·rename_i h1 h2
    refine .inr ⟨?_,s,h,r,rfl⟩
    rw[hk]
    cases b<;>cases want<;>simp_all
  ·split at h
   ·rename_i b hb
    exact fin b (iV (r.tm t _ hb)) s r rfl h
   ·exact h.elim
   ·split at h
    ·rename_i t' w' b hg
     rcases ih r h with⟨h1,s',h2,h3,h4⟩|⟨h1,s',h2,h3,h4⟩
     ·exact fin b (iV (r.gd t t' w' _ hg h1)) s' h3 h4 h2
     ·exact .inr ⟨by rw[r.gu t t' w' b hg h1];simp[undef],s',h2,h3,h4⟩
    ·exact h.elim
end Go.Dm
