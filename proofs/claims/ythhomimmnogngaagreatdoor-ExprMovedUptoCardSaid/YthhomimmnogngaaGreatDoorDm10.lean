/- A part of the proof: contracts of functions, by a verified generator of conditions; no condition of its own. -/
import Derived.Test.YthhomimmnogngaaGreatDoorDm7
import Derived.Maps.AppendAt
namespace Go.Dm
variable {P:Program} {E:Env}
variable {B0:Nat} {bx:List Nat} {W0:World} {ok0:Nat→Prop} {Z:Zr} {N:Nat}
variable {ok:Nat→Prop} {φ:Nat→Value} {s:St} {a:Act} {w:World}
structure Frm (T:List Nat) (φ:Nat→Value) (s:St) (w:World) (φ':Nat→Value) (s':St) (w':World):Prop where
 size:w.heap.size≤w'.heap.size
 same:∀g,g<w.heap.size→(∀k b,k∈T→lk s.hp k=some b→b.active=true→blockOf (φ k)≠some g)→w'.heap[g]? = w.heap[g]?
 own:∀k b' g,lk s'.hp k=some b'→b'.active=true→blockOf (φ' k)=some g→g<w.heap.size→∃k0 b,lk s.hp k0=some b∧b.active=true∧blockOf (φ k0)=some g∧(k0=k∨k0∈T)
theorem Frm.mono{T T':List Nat}{φ':Nat→Value}{s':St}{w':World}(h:Frm T φ s w φ' s' w')(hT:∀k∈T,k∈T'):Frm T' φ s w φ' s' w':=
 ⟨h.size,fun g hg hn=>h.same g hg fun k b hk=>hn k b (hT k hk),fun k b' g h1 h2 h3 h4=>let ⟨k0,b,e1,e2,e3,e4⟩:=h.own k b' g h1 h2 h3 h4;⟨k0,b,e1,e2,e3,e4.imp id (hT k0)⟩⟩
def ActSub(s s':St):Prop:=∀k b,lk s'.hp k=some b→b.active=true→∃b0,lk s.hp k=some b0∧b0.active=true
theorem ActSub.refl(s:St):ActSub s s:=fun _ b h ha=>⟨b,h,ha⟩
theorem ActSub.trans{s s' s'':St}(h:ActSub s s')(h':ActSub s' s''):ActSub s s'':=fun k b hb ha=>
 let ⟨b1,h1,h2⟩:=h' k b hb ha;h k b1 h1 h2
theorem actSub_toD{c:V}{x:D}{s s':St}(h:toD s c=some (x,s')):ActSub s s':=by
 unfold toD at h
 split at h
 ·simp at h;obtain⟨_,rfl⟩:=h;exact .refl _
 ·simp at h;obtain⟨_,rfl⟩:=h;exact .refl _
 ·split at h
  ·rename_i k e sz es hb
   simp only[Option.some.injEq,Prod.mk.injEq]at h
   obtain⟨_,rfl⟩:=h
   intro j b hj ha
   simp only[St.setB]at hj
   rw[lk_pt]at hj
   split at hj
   ·simp at hj;subst hj;cases ha
   ·exact⟨b,hj,ha⟩
  ·simp at h;obtain⟨_,rfl⟩:=h;exact .refl _
  ·cases h
 ·split at h
  ·rename_i k lo n e sz es hb
   simp only[Option.some.injEq,Prod.mk.injEq]at h
   obtain⟨_,rfl⟩:=h
   intro j b hj ha
   simp only[St.setB]at hj
   rw[lk_pt]at hj
   split at hj
   ·simp at hj;subst hj;cases ha
   ·exact⟨b,hj,ha⟩
  ·simp at h;obtain⟨_,rfl⟩:=h;exact .refl _
  ·cases h
 ·cases h
theorem actSub_toDs{cs:List V}:∀{s s':St} {xs:List D},toDs s cs=some (xs,s')→ActSub s s':=by
 induction cs with
 |nil=>intro s s' xs h;simp[toDs]at h;obtain⟨_,rfl⟩:=h;exact .refl _
 |cons c cs ih=>
  intro s s' xs h
  simp only[toDs]at h
  split at h
  ·cases h
  rename_i x s1 hx
  split at h
  ·cases h
  rename_i xs1 s2 hxs
  simp only[Option.some.injEq,Prod.mk.injEq]at h
  obtain⟨_,rfl⟩:=h
  exact(actSub_toD hx).trans (ih hxs)
theorem Frm.fresh{s1:St}(hs:ActSub s s1)(key:Nat)(b:B)(v:Value)(o:Obj)(hv:∀g,blockOf v=some g→w.heap.size≤g):Frm [] φ s w (updF φ key v) (s1.setB key b) (w.alloc o) where
 size:=by have:(w.alloc o).heap.size=w.heap.size+1:=Array.size_push ..;omega
 same:=fun g hg _=>heap_alloc_old w o g hg
 own:=fun k b' g hb ha hg hlt=>by
  simp only[St.setB]at hb
  rw[lk_pt]at hb
  by_cases e:key=k
  ·subst e
   simp only[updF,if_true]at hg
   have:=hv g hg;omega
  ·rw[if_neg e]at hb
   simp only[updF,if_neg (Ne.symm e)]at hg
   obtain⟨b0,h1,h2⟩:=hs k b' hb ha
   exact⟨k,b0,h1,h2,hg,.inl rfl⟩
theorem Frm.written{s1:St}(hs:ActSub s s1){k g:Nat}{b0:B}(b:B)(arr:Array Value)(hb:lk s.hp k=some b0)(ha:b0.active=true)(hg:blockOf (φ k)=some g):Frm [k] φ s w φ (s1.setB k b) (w.setRow g arr) where
 size:=by simp[World.setRow]
 same:=fun g' _ hn=>setRow_other w g g' arr (by rintro rfl;exact hn k b0 (by simp) hb ha hg)
 own:=fun j b' g' hb' ha' hg' _=>by
  simp only[St.setB]at hb'
  rw[lk_pt]at hb'
  by_cases e:k=j
  ·subst e;exact⟨k,b0,hb,ha,hg',.inl rfl⟩
  ·rw[if_neg e]at hb'
   obtain⟨b1,h1,h2⟩:=hs j b' hb' ha'
   exact⟨j,b1,h1,h2,hg',.inl rfl⟩
def Pst(B0:Nat)(bx:List Nat)(W0:World)(ok0:Nat→Prop)(Z:Zr)(N:Nat)(a:Act)(F:(Nat→Value)→St→World→Prop)(K:V→St→Prop)(v':Value)(w':World):Prop:=
 ∃v s' ok' φ',K v s'∧Rel B0 bx W0 ok0 Z N ok' φ' s' a w'∧VR ok' φ' s'.hp w' v v'∧F φ' s' w'
theorem VR.fresh(r:Rel B0 bx W0 ok0 Z N ok φ s a w){key:Nat}(hk:lk s.hp key=none){c:V}{v:Value}(h:VR ok φ s.hp w c v)(o:Obj)(b:B)(u:Value):
  VR ok (updF φ key u) (pt s.hp key b) (w.alloc o) c v:=
 h.mono (fun _ h=>h) (fun b hb=>heap_alloc_old w o b (r.okl b hb)) (fun k _ hn=>by simp only[updF];rw[if_neg (by rintro rfl;exact hn hk)]) (fun k _=>by
  unfold Sim
  rw[lk_pt]
  by_cases h:key=k
  ·subst h;rw[hk];trivial
  ·rw[if_neg h];exact Sim.refl s.hp k)
theorem fresh_box(r:Rel B0 bx W0 ok0 Z N ok φ s a w){key:Nat}(hk:lk s.hp key=none){cs:List V}{xs:Array Value}(T:TypeId)(hs:xs.size=cs.length)
  (h:∀(i:Nat) (c:V) (x:Value),cs[i]? = some c→xs[i]? = some x→VR ok φ s.hp w c x):
  Rel B0 bx W0 ok0 Z N ok (updF φ key (.pointer (some ⟨w.heap.size,0,none⟩))) (s.setB key (.box cs)) a (w.alloc (.cells xs T))∧
  VR ok (updF φ key (.pointer (some ⟨w.heap.size,0,none⟩))) (s.setB key (.box cs)).hp (w.alloc (.cells xs T)) (.ref key 0) (.pointer (some ⟨w.heap.size,0,none⟩)):=by
 refine⟨r.fresh hk _ _ _ rfl (by simp[blockOf]) ⟨w.heap.size,xs,T,rfl,heap_alloc_new w _,hs,fun i c x hc hx=>VR.fresh r hk (h i c x hc hx) _ _ _⟩,?_⟩
 exact .ref (cs:=cs) (by simp[St.setB,lk_pt]) (by simp[updF])
theorem aAlloc_sound{t:Nat}{ti:TI}(hT:TIok P t ti)(r:Rel B0 bx W0 ok0 Z N ok φ s a w){key:Nat}(hk:lk s.hp key=none){K:V→St→Prop}(h:K (.ref key 0) (s.setB key (.box (zeros ti.ck)))):
  ∃v' w',(Instr.alloc t true (.tuple #[])).run P w = .ok v' w'∧Pst B0 bx W0 ok0 Z N a (Frm [] φ s w) K v' w':=by
 obtain⟨inf,z,hi,hsz,_,hz,hzB,_⟩:=hT.info
 obtain⟨hzl,hzr⟩:=zB_vr (ok:=ok) (φ:=φ) (w:=w) (hp:=s.hp) hzB
 obtain⟨h1,h2⟩:=fresh_box r hk t (xs:=z.cells) (cs:=zeros ti.ck) (by rw[zeros_length];simpa using hzl) (fun i c x hc hx=>hzr i c x hc (by simpa using hx))
 refine⟨.pointer (some ⟨w.heap.size,0,none⟩),w.alloc (.cells z.cells t),?_,⟨_,_,_,_,h,h1,h2,Frm.fresh (.refl _) _ _ _ _ (by simp[blockOf])⟩⟩
 simp[Instr.alloc,zeroValue,typeInfo,hi,hz,newVar,newRow,newObj,Sem.run,World.alloc_eq]
theorem aBox_sound{t:Nat}(r:Rel B0 bx W0 ok0 Z N ok φ s a w){key:Nat}(hk:lk s.hp key=none){c:V}{v:Value}{cs:List V}(hv:VR ok φ s.hp w c v)(hc:cellsOf c=some cs)
  {K:V→St→Prop} (h:K (.ref key 0) (s.setB key (.box cs))):
  ∃v' w',(Instr.box t v).run P w = .ok v' w'∧Pst B0 bx W0 ok0 Z N a (Frm [] φ s w) K v' w':=by
 obtain⟨h1,h2⟩:=cells_of_vr hv hc r.one
 obtain⟨h3,h4⟩:=fresh_box r hk t h1 h2
 refine⟨.pointer (some ⟨w.heap.size,0,none⟩),w.alloc (.cells v.cells t),?_,⟨_,_,_,_,h,h3,h4,Frm.fresh (.refl _) _ _ _ _ (by simp[blockOf])⟩⟩
 simp[Instr.box,newVar,newRow,newObj,Sem.run,World.alloc_eq]
theorem run_storeVar_at{t:Nat}{ti:TI}(hT:TIok P t ti){v:Value}(hv:v.cells.size=ti.ck.length)(h1:∀x∈v.cells.toList,x.oneCell'=true){g o:Nat}{cur:Array Value}{T:TypeId}
  (hg:w.heap[g]? = some (.cells cur T (0,0))) (hl:o+v.cells.size≤cur.size):
  (storeVar t ⟨g,o,none⟩ v).run P w = .ok () (w.setRow g (cur.toList.take o++v.cells.toList++cur.toList.drop (o+v.cells.size)).toArray):=by
 unfold storeVar
 simp only[Sem.run_bind,hT.size_run,Result.andThen_ok]
 rw[if_neg (by simp[hv])]
 have:=run_storeCells_at (P:=P) g o T v.cells.toList 0 cur w hg (by simpa using hl) h1
 simpa using this
theorem cellVs_all{cs:List V}(h:cellVs cs=true):∀c∈cs,cellV c=true:=by
 induction cs with
 |nil=>simp
 |cons c r ih=>
  simp only[cellVs]at h
  split at h
  ·rename_i h0
   intro x hx
   rcases List.mem_cons.1 hx with rfl|hx
   ·exact h0
   ·exact ih h x hx
  ·cases h
theorem ones_of(r:Rel B0 bx W0 ok0 Z N ok φ s a w){cs:List V}{xs:Array Value}(hc:cellVs cs=true)(hs:xs.size=cs.length)
  (h:∀(i:Nat) (c:V) (x:Value),cs[i]? = some c→xs[i]? = some x→VR ok φ s.hp w c x):∀x∈xs.toList,x.oneCell'=true:=by
 intro x hx
 obtain⟨i,hi⟩:=List.getElem?_of_mem hx
 have hlt:i<cs.length:=by
  have:=(List.getElem?_eq_some_iff.1 hi).1
  simp at this;omega
 exact(h i cs[i] x (List.getElem?_eq_getElem hlt) (by simpa using hi)).one (cellVs_all hc _ (List.getElem_mem hlt)) r.one
theorem VR.written(r:Rel B0 bx W0 ok0 Z N ok φ s a w){k g:Nat}{b b':B}(hb:lk s.hp k=some b)(ha:b.active=true)(hg:blockOf (φ k)=some g)(arr:Array Value)
  (hsim:Sim s.hp (pt s.hp k b') k) {c:V} {v:Value} (h:VR ok φ s.hp w c v):VR ok φ (pt s.hp k b') (w.setRow g arr) c v:=by
 have hact:=r.act k b g hb ha hg
 refine h.mono (fun _ h=>h) (fun b hb=>setRow_other w g b arr (by rintro rfl;exact hact.1 hb)) (fun _ _ _=>rfl) (fun j _=>?_)
 by_cases h:k=j
 ·subst h;exact hsim
 ·unfold Sim;rw[lk_pt,if_neg h];exact Sim.refl s.hp j
theorem sim_box{hp:List (Nat×B)}{k:Nat}{cs cs':List V}(hb:lk hp k=some (.box cs)):Sim hp (pt hp k (.box cs')) k:=by
 unfold Sim;rw[hb];exact⟨cs',by rw[lk_pt,if_pos rfl]⟩
theorem sim_lst{hp:List (Nat×B)}{k e e' sz:Nat}{es es':List (List D)}(hb:lk hp k=some (.lst e sz es)):Sim hp (pt hp k (.lst e' sz es')) k:=by
 unfold Sim;rw[hb];exact⟨es',.inl ⟨e',by rw[lk_pt,if_pos rfl]⟩⟩
theorem splice_get?{α:Type}(l v:List α)(o i:Nat)(h:o+v.length≤l.length):
  (l.take o++v++l.drop (o+v.length))[i]? = if i<o then l[i]? else if i<o+v.length then v[i-o]? else l[i]?:=by
 have e1:(l.take o).length=o:=by simp;omega
 split
 ·rw[List.append_assoc,List.getElem?_append_left (by omega),List.getElem?_take,if_pos (by assumption)]
 ·split
  ·rw[List.append_assoc,List.getElem?_append_right (by omega),e1,List.getElem?_append_left (by omega)]
  ·rw[List.getElem?_append_right (by simp;omega),List.getElem?_drop]
   simp only[List.length_append,e1]
   congr 1;omega
theorem take_splice{α:Type}(l v:List α)(o n:Nat)(h:o+v.length≤n)(h2:n≤l.length):
  (l.take o++v++l.drop (o+v.length)).take n=(l.take n).take o++v++(l.take n).drop (o+v.length):=by
 apply List.ext_getElem?
 intro i
 rw[List.getElem?_take,splice_get? l v o i (by omega),splice_get? (l.take n) v o i (by simp;omega)]
 simp only[List.getElem?_take]
 by_cases c1:i<o
 ·have:i<n:=by omega
  simp[c1,this]
 ·by_cases c2:i<o+v.length
  ·have:i<n:=by omega
   simp[c1,c2,this]
  ·simp[c1,c2]
theorem aStore_sound{t:Nat}{ti:TI}(hT:TIok P t ti)(r:Rel B0 bx W0 ok0 Z N ok φ s a w){av xv:V}{x y:Value}(ha:VR ok φ s.hp w av x)(hx:VR ok φ s.hp w xv y){K:St→Prop}(h:aStore ti s av xv K):
  ∃w',(Instr.storeAt t x y).run P w = .ok () w'∧∃s' ok' φ',K s'∧Rel B0 bx W0 ok0 Z N ok' φ' s' a w'∧Frm (addrKey av) φ s w φ' s' w':=by
 unfold aStore at h
 split at h
 ·exact h.elim
 rename_i xs hxs
 split at h
 ·exact h.elim
 ·exact h.elim
 rename_i hcv hbeq
 have hlen:xs.length=ti.ck.length:=Nat.eq_of_beq_eq_true hbeq
 obtain⟨hys,hyr⟩:=cells_of_vr hx hxs r.one
 have hone:=ones_of r hcv hys hyr
 unfold Instr.storeAt
 split at h
 ·
  rename_i k off
  cases ha
  rename_i g cs0 hb0 hφ
  split at h
  rotate_left
  ·exact h.elim
  rename_i cs hb
  split at h
  rotate_left
  ·exact h.elim
  rename_i cs' hov
  obtain⟨g',arr,T,hp,hh,hs,hr⟩:=r.hp k _ hb
  rw[hφ]at hp;simp at hp;subst hp
  obtain⟨hle,_⟩:=over_some hov
  obtain⟨h1,h2⟩:=vr_over (ys:=y.cells.toList) (zs:=arr.toList) hov (by simpa using hys) (by simpa using hs) (fun i c y hc hy=>hyr i c y hc (by simpa using hy)) (fun i c y hc hy=>hr i c y hc (by simpa using hy))
  have hrun:=run_storeVar_at (w:=w) (o:=off) hT (by rw[hys,hlen]) hone hh (by rw[hys,hs];exact hle)
  refine⟨_,by simp only[Sem.run_bind,Instr.sureAddr,Sem.run_pure,Result.andThen_ok];exact hrun,_,ok,φ,h,?_,Frm.written (.refl _) _ _ hb rfl (by rw[hφ];rfl)⟩
  refine r.written hb rfl rfl (by rw[hφ];rfl) _ (sim_box hb) ?_
  refine⟨g,_,T,hφ,setRow_heap w g arr _ T _ hh,by simp;omega,fun i c z hc hz=>?_⟩
  have h3:=h2 i c z hc (by simpa using hz)
  exact VR.written r hb rfl (by rw[hφ];rfl) _ (sim_box hb) h3
 ·
  rename_i k i off
  split at h
  ·exact h.elim
  rename_i ds s1 hds
  obtain⟨ok1,r1,hdl,hdr,hok1,hsim1⟩:=toDs_sound (vs:=y.cells.toList) r (by simpa using hys) (fun i c y hc hy=>hyr i c y hc (by simpa using hy)) hds
  cases ha
  rename_i g n cap sz0 es0 hb0 hφ
  split at h
  rotate_left
  ·exact h.elim
  rename_i e sz es hb
  obtain⟨cells,hcell,cells',hov,hk⟩:=h
  obtain⟨hle,hc'⟩:=over_some hov
  obtain⟨hpos,hall,ys,hown,hr⟩:=r1.hp k _ hb
  have hlt:i<es.length:=(List.getElem?_eq_some_iff.1 hcell).1
  have hcl:cells.length=sz:=hall _ (List.mem_of_getElem? hcell)
  have hszeq:sz0=sz:=by
   obtain⟨es',h1⟩:=(hsim1 k).lst hb0
   rcases h1 with⟨e',h1⟩|h1
   ·rw[hb]at h1;simp only[Option.some.injEq,B.lst.injEq]at h1;exact h1.2.1.symm
   ·rw[hb]at h1;cases h1
  subst hszeq
  rcases hown.2 with⟨hn,hz⟩|⟨g',cap',cur,hs,hbase,hh,hnc,hml,hcs,htk⟩
  ·omega
  rw[hφ]at hs
  simp only[Value.slice.injEq,Option.some.injEq,Addr.mk.injEq,true_and,and_true]at hs
  obtain⟨rfl,rfl,rfl⟩:=hs
  have hle2:i*sz0+off+ds.length≤es.length*sz0:=by
   calc i*sz0+off+ds.length≤i*sz0+sz0:=by omega
    _=(i+1)*sz0:=by rw[Nat.add_mul];omega
    _≤es.length*sz0:=Nat.mul_le_mul_right _ hlt
  have hle3:es.length*sz0≤cap*sz0:=Nat.mul_le_mul_right _ hnc
  have hdy:y.cells.size=ds.length:=by rw[hys,hdl]
  have hblk:blockOf (φ k)=some g:=by rw[hφ];rfl
  have hfr:∀(b:B) (arr:Array Value),Frm [k] φ s w φ (s1.setB k b) (w.setRow g arr):=fun b arr=>by
   obtain⟨b0,h1,h2⟩:=actSub_toDs hds k _ hb rfl
   exact Frm.written (actSub_toDs hds) b arr h1 h2 hblk
  have hrun:=run_storeVar_at (w:=w) (o:=i*sz0+off) hT (by rw[hys,hlen]) hone hh (by rw[hdy,hcs];omega)
  refine⟨_,by simp only[Sem.run_bind,Instr.sureAddr,Sem.run_pure,Result.andThen_ok];exact hrun,_,ok1,φ,hk,?_,hfr _ _⟩
  have hactg:=r1.act k _ g hb rfl hblk
  refine r1.written hb rfl rfl hblk _ (sim_lst hb) ?_
  refine⟨hpos,?_,(ys.take (i*sz0+off)++y.cells.toList++ys.drop (i*sz0+off+y.cells.size)),⟨?_,.inr ⟨g,cap,_,?_,hbase,setRow_heap w g cur _ e _ hh,?_,hml,?_,?_⟩⟩,?_⟩
  ·intro c hc
   rcases List.mem_or_eq_of_mem_set hc with hc|rfl
   ·exact hall c hc
   ·rw[hc'];simp;omega
  ·simp only[List.length_append,List.length_take,List.length_drop,Array.length_toList,List.length_set,hown.1];omega
  ·rw[hφ];simp
  ·simp;exact hnc
  ·simp only[List.size_toArray,List.length_append,List.length_take,List.length_drop,Array.length_toList,hcs];omega
  ·simp only[List.length_set]
   rw[←htk]
   have hyl:y.cells.size=y.cells.toList.length:=by simp
   rw[hyl]
   exact take_splice cur.toList y.cells.toList (i*sz0+off) (es.length*sz0) (by rw[←hyl,hdy];omega) (by simp only[Array.length_toList,hcs];omega)
  ·intro i' j' hi' hj'
   simp only[List.length_set]at hi'
   have hyl:y.cells.size=y.cells.toList.length:=by simp
   have h2w:∀b,ok1 b→(w.setRow g (cur.toList.take (i*sz0+off)++y.cells.toList++cur.toList.drop (i*sz0+off+y.cells.size)).toArray).heap[b]? = w.heap[b]?:=
    fun b hb=>setRow_other w g b _ (by rintro rfl;exact hactg.1 hb)
   have hold:=hr i' j' hi' hj'
   have hys2:i*sz0+off+y.cells.toList.length≤ys.length:=by rw[←hyl,hdy,hown.1];omega
   rw[List.getD_eq_getElem?_getD,hyl,splice_get? ys y.cells.toList _ _ hys2]
   by_cases hii:i'=i
   ·subst hii
    have hset:(es.set i' cells').getD i' []=cells':=by
        rw[List.getD_eq_getElem?_getD,List.getElem?_set_self (by omega)];rfl
    have hgetc:es.getD i' []=cells:=by rw[List.getD_eq_getElem?_getD,hcell];rfl
    rw[hset,hc',List.getD_eq_getElem?_getD,splice_get? cells ds off j' (by omega)]
    rw[hgetc]at hold
    by_cases c1:j'<off
    ·rw[if_pos (by omega),if_pos c1]
     rw[List.getD_eq_getElem?_getD,List.getD_eq_getElem?_getD]at hold
     exact hold.mono (fun _ h=>h) h2w
    ·by_cases c2:j'<off+ds.length
     ·rw[if_neg (by omega),if_pos (by rw[←hyl,hdy];omega),if_neg c1,if_pos c2]
      have e1:i'*sz0+j'-(i'*sz0+off)=j'-off:=by omega
      rw[e1]
      have hl1:j'-off<ds.length:=by omega
      have hl2:j'-off<y.cells.toList.length:=by rw[←hyl,hdy];exact hl1
      rw[List.getElem?_eq_getElem hl1,List.getElem?_eq_getElem hl2]
      exact(hdr (j'-off) _ _ (List.getElem?_eq_getElem hl1) (List.getElem?_eq_getElem hl2)).mono (fun _ h=>h) h2w
     ·rw[if_neg (by omega),if_neg (by rw[←hyl,hdy];omega),if_neg c1,if_neg c2]
      rw[List.getD_eq_getElem?_getD,List.getD_eq_getElem?_getD]at hold
      exact hold.mono (fun _ h=>h) h2w
   ·have hset:(es.set i cells').getD i' []=es.getD i' []:=by
        rw[List.getD_eq_getElem?_getD,List.getElem?_set_ne (Ne.symm hii),List.getD_eq_getElem?_getD]
    rw[hset]
    have hout:i'*sz0+j'<i*sz0+off∨i*sz0+off+ds.length≤i'*sz0+j':=by
        rcases Nat.lt_or_gt_of_ne hii with hlt'|hgt
        ·left
         have:(i'+1)*sz0≤i*sz0:=Nat.mul_le_mul_right _ hlt'
         rw[Nat.add_mul]at this;omega
        ·right
         have:(i+1)*sz0≤i'*sz0:=Nat.mul_le_mul_right _ hgt
         rw[Nat.add_mul]at this;omega
    rw[List.getD_eq_getElem?_getD]at hold
    rcases hout with c1|c1
    ·rw[if_pos c1];exact hold.mono (fun _ h=>h) h2w
    ·rw[if_neg (by omega),if_neg (by rw[←hyl,hdy];omega)];exact hold.mono (fun _ h=>h) h2w
 ·exact h.elim
end Go.Dm
namespace Go.Dm
variable {P:Program} {E:Env}
variable {B0:Nat} {bx:List Nat} {W0:World} {ok0:Nat→Prop} {Z:Zr} {N:Nat}
variable {ok:Nat→Prop} {φ:Nat→Value} {s:St} {a:Act} {w:World}
theorem app_eq{α:Type}(x y:List α):app x y=x++y:=by
 induction x with
 |nil=>rfl
 |cons a r ih=>simp[app,ih]
theorem rep_length{α:Type}(n:Nat)(l:List α):(rep n l).length=n*l.length:=by
 induction n with
 |zero=>simp[rep]
 |succ n ih=>simp[rep,app_eq,ih,Nat.add_mul];omega
theorem rep_get{α:Type}(n:Nat)(l:List α)(i:Nat)(h:i<n*l.length):(rep n l)[i]? = l[i % l.length]?:=by
 induction n generalizing i with
 |zero=>simp at h
 |succ n ih=>
  simp only[rep,app_eq]
  by_cases hi:i<l.length
  ·rw[List.getElem?_append_left hi,Nat.mod_eq_of_lt hi]
  ·rw[List.getElem?_append_right (by omega),ih (i-l.length) (by rw[Nat.add_mul]at h;omega)]
   congr 1
   rw[Nat.mod_eq_sub_mod (by omega:i≥l.length)]
theorem chunks_some{α:Type}[Inhabited α]{sz n:Nat}{l:List α}{es:List (List α)}(h:chunks sz n l=some es):
  es.length=n∧l.length=n*sz∧(∀c∈es,c.length=sz)∧∀i j,i<n→j<sz→(es.getD i []).getD j default=l.getD (i*sz+j) default:=by
 induction n generalizing l es with
 |zero=>
  cases l with
  |nil=>simp[chunks]at h;subst h;simp
  |cons x r=>simp[chunks]at h
 |succ n ih=>
  simp only[chunks]at h
  split at h
  ·cases h
  rename_i c hc
  split at h
  ·cases h
  rename_i r hr
  simp only[Option.some.injEq]at h
  subst h
  obtain⟨h1,h2⟩:=cut_some hc
  obtain⟨h3,h4,h5,h6⟩:=ih hr
  simp only[Nat.zero_add]at h1
  simp only[List.drop_zero]at h2
  have hcl:c.length=sz:=by rw[h2];simp;omega
  have hdl:l.length=(l.drop sz).length+sz:=by simp;omega
  refine⟨by simp[h3],by rw[hdl,h4,Nat.add_mul];omega,?_,?_⟩
  ·intro x hx
   rcases List.mem_cons.1 hx with rfl|hx
   ·exact hcl
   ·exact h5 x hx
  ·intro i j hi hj
   cases i with
   |zero=>
    simp only[List.getD_cons_zero,Nat.zero_mul,Nat.zero_add]
    rw[h2,List.getD_eq_getElem?_getD,List.getElem?_take,if_pos hj,List.getD_eq_getElem?_getD]
   |succ i=>
    simp only[List.getD_cons_succ]
    rw[h6 i j (by omega) hj,List.getD_eq_getElem?_getD,List.getElem?_drop,List.getD_eq_getElem?_getD]
    congr 2
    rw[Nat.add_mul];omega
theorem toD_none{c:V}{x:D}{s':St}{key:Nat}(h:toD s c=some (x,s'))(hk:lk s.hp key=none):lk s'.hp key=none:=by
 unfold toD at h
 split at h
 ·simp at h;rw[←h.2];exact hk
 ·simp at h;rw[←h.2];exact hk
 ·split at h
  ·rename_i k _ _ _ hb
   simp at h;rw[←h.2]
   simp only[St.setB]
   rw[lk_pt]
   split
   ·rename_i e;subst e;rw[hb]at hk;cases hk
   ·exact hk
  ·simp at h;rw[←h.2];exact hk
  ·cases h
 ·split at h
  ·rename_i k _ _ _ _ _ hb
   simp at h;rw[←h.2]
   simp only[St.setB]
   rw[lk_pt]
   split
   ·rename_i e;subst e;rw[hb]at hk;cases hk
   ·exact hk
  ·simp at h;rw[←h.2];exact hk
  ·cases h
 ·cases h
theorem toDs_none{cs:List V}:∀{s:St} {xs:List D} {s':St} {key:Nat},toDs s cs=some (xs,s')→lk s.hp key=none→lk s'.hp key=none:=by
 induction cs with
 |nil=>intro s xs s' key h hk;simp[toDs]at h;rw[←h.2];exact hk
 |cons c cs ih=>
  intro s xs s' key h hk
  simp only[toDs]at h
  split at h
  ·cases h
  rename_i x s1 hx
  split at h
  ·cases h
  rename_i xs1 s2 hxs
  simp at h
  rw[←h.2]
  exact ih hxs (toD_none hx hk)
theorem fresh_lst(r:Rel B0 bx W0 ok0 Z N ok φ s a w){key:Nat}(hk:lk s.hp key=none){e sz n cap:Nat}{cells:Array Value}{es:List (List D)}(hpos:0<sz)(hcs:cells.size=cap*sz)(hnc:n≤cap)(hml:cap≤maxLen)
  (hes:es.length=n) (hall:∀c∈es,c.length=sz) (hr:∀i j,i<n→j<sz→Rd ok w (cells.toList.getD (i*sz+j) undef) ((es.getD i []).getD j default)):
  Rel B0 bx W0 ok0 Z N ok (updF φ key (.slice (some ⟨w.heap.size,0,none⟩) n cap)) (s.setB key (.lst e sz es)) a (w.alloc (.cells cells e))∧
  VR ok (updF φ key (.slice (some ⟨w.heap.size,0,none⟩) n cap)) (s.setB key (.lst e sz es)).hp (w.alloc (.cells cells e)) (.own key) (.slice (some ⟨w.heap.size,0,none⟩) n cap):=by
 subst hes
 have hle:es.length*sz≤cap*sz:=Nat.mul_le_mul_right _ hnc
 refine⟨r.fresh hk _ _ _ rfl (by simp[blockOf]) ⟨hpos,hall,cells.toList.take (es.length*sz),⟨by simp;omega,.inr ⟨w.heap.size,cap,cells,rfl,r.b0,heap_alloc_new w _,hnc,hml,hcs,rfl⟩⟩,fun i j hi hj=>?_⟩,?_⟩
 ·have hidx:i*sz+j<es.length*sz:=by
   calc i*sz+j<i*sz+sz:=by omega
    _=(i+1)*sz:=by rw[Nat.add_mul];omega
    _≤es.length*sz:=Nat.mul_le_mul_right _ (by omega)
  have:=hr i j (by omega) hj
  rw[List.getD_eq_getElem?_getD]at this
  rw[List.getD_eq_getElem?_getD,List.getElem?_take,if_pos hidx]
  exact this.mono (fun _ h=>h) (fun b hb=>heap_alloc_old w _ b (r.okl b hb))
 ·exact .own (sz:=sz) (es:=es) (.inl ⟨e,by simp[St.setB,lk_pt]⟩) (by simp[updF])
theorem aBuildSlice_sound{t e len:Nat}{ti ei:TI}(hT:TIok P t ti)(htd:ti.td = .slice e)(hTe:TIok P e ei)(r:Rel B0 bx W0 ok0 Z N ok φ s a w){g:List (Nat×Bool)}(hg:Holds a g){key:Nat}(hk:lk s.hp key=none)
  {parts:Array (Nat×Operand)} {cs:List V} (hle:len*ei.ck.length≤16777216) (hfill:aVal.fillA s g ei.ck.length (rep len (zeros ei.ck)) parts.toList=some cs) {ds:List D} {s1:St} (hds:toDs s cs=some (ds,s1))
  {es:List (List D)} (hes:chunks ei.ck.length len ds=some es) {K:V→St→Prop} (h:K (.own key) (s1.setB key (.lst e ei.ck.length es))):
  ∃v' w',(Instr.buildSlice t len (parts.map fun(i,x)=>(i,a.eval x))).run P w = .ok v' w'∧Pst B0 bx W0 ok0 Z N a (Frm [] φ s w) K v' w':=by
 obtain⟨hu,_⟩:=hT.slice_und htd
 obtain⟨inf,z,hi,hsz,_,hz,hzB,_⟩:=hTe.info
 obtain⟨hzl,hzr⟩:=zB_vr (ok:=ok) (φ:=φ) (w:=w) (hp:=s.hp) hzB
 have hpos:=hTe.pos
 have hzs:z.cells.size=ei.ck.length:=by simpa using hzl
 obtain⟨zs',e1,e2,e3,e4⟩:=fillA_sound r hg parts.toList (rep len (zeros ei.ck)) cs (madeCells z.cells (len*ei.ck.length)) hfill
  (by rw[rep_length,zeros_length,size_madeCells]) (fun i c x h1 h2=>by
   have hlt:i<len*ei.ck.length:=by
      have:=(Array.getElem?_eq_some_iff.1 h2).1
      simpa[size_madeCells]using this
   have hm:i % ei.ck.length<ei.ck.length:=Nat.mod_lt _ hpos
   rw[rep_get _ _ _ (by rw[zeros_length];exact hlt),zeros_length]at h1
   refine hzr (i % ei.ck.length) c x h1 ?_
   have:x=z.cells[i % z.cells.size]!:=by
      simp[madeCells,hlt]at h2;exact h2.symm
   rw[this,hzs]
   have hlt2:i % ei.ck.length<z.cells.size:=by rw[hzs];exact hm
   rw[getElem!_pos z.cells _ hlt2]
   simp[hlt2])
 obtain⟨ok1,r1,hdl,hdr,hok1,_⟩:=toDs_sound (vs:=zs'.toList) r (by simpa using e2) (fun i c y hc hy=>e4 i c y hc (by simpa using hy)) hds
 obtain⟨h3,h4,h5,h6⟩:=chunks_some hes
 have hzlen:zs'.size=len*ei.ck.length:=by rw[e2,e3,rep_length,zeros_length]
 have hlen:len≤len*ei.ck.length:=Nat.le_mul_of_pos_right _ hpos
 obtain⟨f1,f2⟩:=fresh_lst r1 (toDs_none hds hk) (e:=e) hpos hzlen (Nat.le_refl _) (by unfold maxLen;omega) h3 h5 (fun i j hi hj=>by
  rw[h6 i j hi hj]
  have hidx:i*ei.ck.length+j<ds.length:=by
   rw[h4]
   calc i*ei.ck.length+j<i*ei.ck.length+ei.ck.length:=by omega
    _=(i+1)*ei.ck.length:=by rw[Nat.add_mul];omega
    _≤len*ei.ck.length:=Nat.mul_le_mul_right _ (by omega)
  have hidx2:i*ei.ck.length+j<zs'.toList.length:=by simp;omega
  rw[List.getD_eq_getElem?_getD,List.getD_eq_getElem?_getD,List.getElem?_eq_getElem hidx,List.getElem?_eq_getElem hidx2]
  exact hdr _ _ _ (List.getElem?_eq_getElem hidx) (List.getElem?_eq_getElem hidx2))
 refine⟨_,_,?_,⟨_,_,_,_,h,f1,f2,Frm.fresh (actSub_toDs hds) _ _ _ _ (by simp[blockOf])⟩⟩
 unfold Instr.buildSlice
 simp only[Sem.run_bind,run_underlying hu,Result.andThen_ok,hTe.size_run]
 rw[if_neg (by omega)]
 have e1':Instr.fill (fun i=>some (i*ei.ck.length,ei.ck.length)) ((Array.range (len*ei.ck.length)).map (z.cells[· % z.cells.size]!)) (parts.map fun(i,x)=>(i,a.eval x)).toList=some zs':=by
  rw[Array.toList_map];exact e1
 by_cases hz0:len*ei.ck.length=0
 ·rw[if_pos hz0]
  simp only[Sem.run_bind,Sem.run_pure,Result.andThen_ok]
  have hr0:(Array.range (len*ei.ck.length)).map ((#[]:Array Value)[· % (#[]:Array Value).size]!)=(Array.range (len*ei.ck.length)).map (z.cells[· % z.cells.size]!):=by
   rw[hz0];simp
  rw[hr0,e1']
  simp[newRow,newObj,Sem.run,World.alloc_eq]
 ·rw[if_neg hz0]
  have hzv:(zeroValue e).run P w = .ok z w:=by simp[zeroValue,typeInfo,hi,hz]
  simp only[Sem.run_bind,hzv,Result.andThen_ok,Sem.run_pure]
  rw[e1']
  simp[newRow,newObj,Sem.run,World.alloc_eq]
theorem aMakeSlice_sound{t e:Nat}{ti ei:TI}(hT:TIok P t ti)(htd:ti.td = .slice e)(hTe:TIok P e ei)(r:Rel B0 bx W0 ok0 Z N ok φ s a w){key:Nat}(hk:lk s.hp key=none)
  {n c:Int} (h0:0≤n) (hnc:n≤c) (hby:c*ei.bytes≤140737488355328) (hc:c≤140737488355328) {z:List D} (hz:dZeros ei.ck=some z)
  {K:V→St→Prop} (h:K (.own key) (s.setB key (.lst e ei.ck.length (List.replicate n.toNat z)))) (k1 k2:IntKind):
  ∃v' w',(Instr.makeSlice t (.int k1 n) (.int k2 c)).run P w = .ok v' w'∧Pst B0 bx W0 ok0 Z N a (Frm [] φ s w) K v' w':=by
 obtain⟨hu,_⟩:=hT.slice_und htd
 obtain⟨inf,zv,hi,hsz,hbi,hzz,hzB,_⟩:=hTe.info
 have hpos:=hTe.pos
 have hrun:=run_make (P:=P) w t e inf zv hu hi hzz k1 k2 n c h0 hnc (by rw[hbi,Int.mul_comm];omega) (by omega)
 have hzl:z.length=ei.ck.length∧∀(j:Nat) (v:Value) (d:D),zv.cells.toList[j]? = some v→z[j]? = some d→Rd ok w v d:=by
  clear h hrun
  revert hz hzB
  generalize zv.cells.toList=l
  generalize ei.ck=ck
  intro hz hzB
  induction ck generalizing l z with
  |nil=>simp[dZeros]at hz;subst hz;simp
  |cons c r ih=>
   cases l with
   |nil=>simp[zB]at hzB
   |cons v l=>
    simp only[zB,Bool.and_eq_true]at hzB
    have key:∀(x:D) (l2:List D),dZeros r=some l2→z=x::l2→Rd ok w v x→z.length=(c::r).length∧∀(j:Nat) (v':Value) (d:D),(v::l)[j]? = some v'→z[j]? = some d→Rd ok w v' d:=by
     intro x l2 h1 h2 h3
     subst h2
     obtain⟨h4,h5⟩:=ih l h1 hzB.2
     refine⟨by simp[h4],fun j v' d hv hd=>?_⟩
     cases j with
     |zero=>simp at hv hd;subst hv;subst hd;exact h3
     |succ j=>exact h5 j v' d (by simpa using hv) (by simpa using hd)
    have h0:=hzB.1
    have hvr:VR ok φ s.hp w (ckZero c) v:=by
     have:=(zB_vr (ok:=ok) (φ:=φ) (w:=w) (hp:=s.hp) (ck:=[c]) (xs:=[v]) (by simp[zB,h0])).2 0 (ckZero c) v rfl rfl
     exact this
    simp only[dZeros]at hz
    split at hz
    ·rename_i x l2 hx hl2
     simp only[Option.some.injEq]at hz
     rw[hx]at hvr
     cases hvr;rename_i hrd
     exact key x l2 hl2 hz.symm hrd
    ·rename_i l2 hx hl2
     simp only[Option.some.injEq]at hz
     rw[hx]at hvr
     cases hvr
     exact key (.sl []) l2 hl2 hz.symm .nil
    ·cases hz
 have hcells:(madeCells zv.cells (c.toNat*inf.size)).size=c.toNat*ei.ck.length:=by rw[size_madeCells,hsz]
 have hzs:zv.cells.size=ei.ck.length:=by simpa using(zB_vr (ok:=ok) (φ:=φ) (w:=w) (hp:=s.hp) hzB).1
 obtain⟨f1,f2⟩:=fresh_lst r hk (e:=e) (n:=n.toNat) (es:=List.replicate n.toNat z) hpos hcells (by omega) (by unfold maxLen;omega) (by simp) (fun x hx=>by rw[List.eq_of_mem_replicate hx];exact hzl.1) (fun i j hi hj=>by
  have hg:(List.replicate n.toNat z).getD i []=z:=by
   rw[List.getD_eq_getElem?_getD,List.getElem?_replicate,if_pos hi];rfl
  rw[hg]
  have hlt:i*ei.ck.length+j<c.toNat*ei.ck.length:=by
   calc i*ei.ck.length+j<i*ei.ck.length+ei.ck.length:=by omega
    _=(i+1)*ei.ck.length:=by rw[Nat.add_mul];omega
    _≤c.toNat*ei.ck.length:=Nat.mul_le_mul_right _ (by omega)
  have hj2:j<zv.cells.size:=by omega
  have hmod:(i*ei.ck.length+j) % zv.cells.size=j:=by
   rw[hzs,Nat.add_comm,Nat.add_mul_mod_self_right,Nat.mod_eq_of_lt hj]
  have hget:(madeCells zv.cells (c.toNat*inf.size)).toList.getD (i*ei.ck.length+j) undef=zv.cells[j]:=by
   rw[List.getD_eq_getElem?_getD]
   simp only[madeCells,hsz,Array.toList_map,Array.toList_range,List.getElem?_map,List.getElem?_range hlt,Option.map_some,Option.getD_some]
   rw[hmod,getElem!_pos zv.cells _ hj2]
  rw[hget]
  have hj3:j<z.length:=by rw[hzl.1];exact hj
  have:=hzl.2 j zv.cells[j] z[j] (by simp[hj2]) (List.getElem?_eq_getElem hj3)
  rw[List.getD_eq_getElem?_getD,List.getElem?_eq_getElem hj3];exact this)
 exact⟨_,_,hrun,⟨_,_,_,_,h,f1,f2,Frm.fresh (.refl _) _ _ _ _ (by simp[blockOf])⟩⟩
theorem news_of{ad:Option Addr}{new:List (List D)}{sz:Nat}(hpos:0<sz)(hC:CellsAt ok w ad new)(hall:∀c∈new,c.length=sz)(hne:new≠[]):
  ∃b off,ad=some ⟨b,off,none⟩∧∃news:List Value,news.length=new.length*sz∧(∀j u,news[j]? = some u→w.cell? ((⟨b,off,none⟩:Addr).add j)=some u)∧
   (∀u∈news,u.oneCell'=true)∧∀i j,i<new.length→j<sz→Rd ok w (news.getD (i*sz+j) undef) ((new.getD i []).getD j default):=by
 obtain⟨b,off,sz',rfl,hall',hc⟩:=hC hne
 have hs:sz'=sz:=by
  obtain⟨x,hx⟩:=List.exists_mem_of_ne_nil _ hne
  rw[←hall' x hx,hall x hx]
 subst hs
 have hch:∃f:Nat→Value,∀i j,i<new.length→j<sz'→w.cell? ⟨b,off+(i*sz'+j),none⟩=some (f (i*sz'+j))∧Rd ok w (f (i*sz'+j)) ((new.getD i []).getD j default):=by
  refine⟨fun n=>if h:n/sz'<new.length∧n % sz'<sz' then(hc (n/sz') (n % sz') h.1 h.2).choose else undef,fun i j hi hj=>?_⟩
  have e1:(i*sz'+j)/sz'=i:=by
   rw[Nat.add_comm,Nat.add_mul_div_right _ _ hpos,Nat.div_eq_of_lt hj];omega
  have e2:(i*sz'+j) % sz'=j:=by
   rw[Nat.add_comm,Nat.add_mul_mod_self_right,Nat.mod_eq_of_lt hj]
  have h:(i*sz'+j)/sz'<new.length∧(i*sz'+j) % sz'<sz':=by rw[e1,e2];exact⟨hi,hj⟩
  simp only[h,and_self,dif_pos]
  have:=(hc ((i*sz'+j)/sz') ((i*sz'+j) % sz') h.1 h.2).choose_spec
  generalize (hc ((i*sz'+j)/sz') ((i*sz'+j) % sz') h.1 h.2).choose=y at this ⊢
  rw[e1,e2]at this
  exact this
 obtain⟨f,hf⟩:=hch
 have split:∀n,n<new.length*sz'→n=(n/sz')*sz'+n % sz'∧n/sz'<new.length∧n % sz'<sz':=by
  intro n hn
  refine⟨by rw[Nat.mul_comm];exact(Nat.div_add_mod n sz').symm,?_,Nat.mod_lt _ hpos⟩
  exact Nat.div_lt_of_lt_mul (by rw[Nat.mul_comm];exact hn)
 have hget:∀n u,((List.range (new.length*sz')).map f)[n]? = some u→n<new.length*sz'∧u=f n:=by
  intro n u h
  have hlt:n<new.length*sz':=by have:=(List.getElem?_eq_some_iff.1 h).1;simpa using this
  simp[hlt]at h
  exact⟨hlt,h.symm⟩
 refine⟨b,off,rfl,(List.range (new.length*sz')).map f,by simp,fun j u h=>?_,fun u hu=>?_,fun i j hi hj=>?_⟩
 ·obtain⟨hlt,rfl⟩:=hget j u h
  obtain⟨e,h1,h2⟩:=split j hlt
  rw[addr_add]
  have:=(hf _ _ h1 h2).1
  rwa[←e]at this
 ·obtain⟨n,hn⟩:=List.getElem?_of_mem hu
  obtain⟨hlt,rfl⟩:=hget n u hn
  obtain⟨e,h1,h2⟩:=split n hlt
  have:=(hf _ _ h1 h2).2
  rw[←e]at this
  exact this.one
 ·have hlt:i*sz'+j<new.length*sz':=by
   calc i*sz'+j<i*sz'+sz':=by omega
    _=(i+1)*sz':=by rw[Nat.add_mul];omega
    _≤new.length*sz':=Nat.mul_le_mul_right _ (by omega)
  rw[List.getD_eq_getElem?_getD]
  simp only[List.getElem?_map,List.getElem?_range hlt,Option.map_some,Option.getD_some]
  exact(hf i j hi hj).2
theorem run_append_list{t e:Nat}{ti ei:TI}(hT:TIok P t ti)(htd:ti.td = .slice e)(hTe:TIok P e ei){base:Nat}(hbase:base≤w.heap.size){v:Value}{n:Nat}{xs:List Value}(hown:w.ownsRow base e ei.ck.length v n xs)
  {ad:Option Addr} {cap:Nat} {new:List (List D)} (hC:CellsAt ok w ad new) (hn:ad=none→(Value.slice ad new.length cap) = .slice none 0 0) (hsp:True) (hall:∀c∈new,c.length=ei.ck.length) (ty:TypeId) (hby:(n+new.length)*ei.bytes≤140737488355328) (h63:n+new.length≤maxLen):
  ∃v' w' news,(Builtin.append_ #[t,t] ty #[v,.slice ad new.length cap]).run P w = .ok v' w'∧w'.ownsRow base e ei.ck.length v' (n+new.length) (xs++news)∧w.grownBy w' v.ownBlock∧
   (v'.ownBlock=v.ownBlock∨v'.ownBlock=some w.heap.size)∧news.length=new.length*ei.ck.length∧
   ∀i j,i<new.length→j<ei.ck.length→Rd ok w (news.getD (i*ei.ck.length+j) undef) ((new.getD i []).getD j default):=by
 obtain⟨hu,_⟩:=hT.slice_und htd
 obtain⟨inf,z,hi,hsz,hbi,hz,hzB,_⟩:=hTe.info
 have hzs:z.cells.size=ei.ck.length:=by simpa using(zB_vr (ok:=ok) (φ:=fun _=>undef) (w:=w) (hp:=[]) hzB).1
 cases ad with
 |none=>
  have h0:=hn rfl
  simp only[Value.slice.injEq,true_and]at h0
  have hnew:new=[]:=List.eq_nil_of_length_eq_zero h0.1
  subst hnew
  have hr:=run_append_owned_none (P:=P) w base t ty e inf ei.ck.length hu hi v n xs hown
  refine⟨v,w,[],by rw[h0.2];exact hr,by simpa using hown,⟨rfl,rfl,rfl,Nat.le_refl _,fun _ _ _=>rfl⟩,.inl rfl,by simp,by simp⟩
 |some x=>
  by_cases hne:new=[]
  ·subst hne
   obtain⟨v',w',h1,h2,h3,_,h4⟩:=run_append_own_at (P:=P) w base t ty e inf z ei.ck.length ei.bytes hu hi hz hsz hbi hzs hTe.pos v n xs hown x 0 cap [] (by simp) (by simp) (by simp) (by simpa using h63) (by simpa using hby) hbase
   exact⟨v',w',[],h1,h2,h3,h4,by simp,by simp⟩
  ·obtain⟨b,off,hx,news,hl,hc,hone,hrd⟩:=news_of hTe.pos hC hall hne
   simp only[Option.some.injEq]at hx
   subst hx
   obtain⟨v',w',h1,h2,h3,_,h4⟩:=run_append_own_at (P:=P) w base t ty e inf z ei.ck.length ei.bytes hu hi hz hsz hbi hzs hTe.pos v n xs hown ⟨b,off,none⟩ new.length cap news hl hc hone h63 hby hbase
   exact⟨v',w',news,h1,h2,h3,h4,hl,hrd⟩
theorem joined_rd{sz:Nat}{xs ys:List Value}{es new:List (List D)}{ok':Nat→Prop}{w':World}(hx:xs.length=es.length*sz)
  (h1:∀i j,i<es.length→j<sz→Rd ok' w' (xs.getD (i*sz+j) undef) ((es.getD i []).getD j default))
  (h2:∀i j,i<new.length→j<sz→Rd ok' w' (ys.getD (i*sz+j) undef) ((new.getD i []).getD j default)):
  ∀i j,i<(es++new).length→j<sz→Rd ok' w' ((xs++ys).getD (i*sz+j) undef) (((es++new).getD i []).getD j default):=by
 intro i j hi hj
 by_cases hl:i<es.length
 ·have hidx:i*sz+j<xs.length:=by
   rw[hx]
   calc i*sz+j<i*sz+sz:=by omega
    _=(i+1)*sz:=by rw[Nat.add_mul];omega
    _≤es.length*sz:=Nat.mul_le_mul_right _ hl
  have:=h1 i j hl hj
  rw[List.getD_eq_getElem?_getD,List.getElem?_append_left hidx,←List.getD_eq_getElem?_getD]
  rw[List.getD_eq_getElem?_getD (l:=es++new),List.getElem?_append_left hl,←List.getD_eq_getElem?_getD]
  exact this
 ·have e1:i*sz+j-xs.length=(i-es.length)*sz+j:=by
   rw[hx,Nat.sub_mul]
   have:es.length*sz≤i*sz:=Nat.mul_le_mul_right _ (by omega)
   omega
  have hge:xs.length≤i*sz+j:=by
   rw[hx]
   have:es.length*sz≤i*sz:=Nat.mul_le_mul_right _ (by omega)
   omega
  have:=h2 (i-es.length) j (by simp at hi;omega) hj
  rw[List.getD_eq_getElem?_getD,List.getElem?_append_right hge,e1,←List.getD_eq_getElem?_getD]
  rw[List.getD_eq_getElem?_getD (l:=es++new),List.getElem?_append_right (by omega),←List.getD_eq_getElem?_getD]
  exact this
theorem aAppendNil_sound{t e:Nat}{ti ei:TI}(hT:TIok P t ti)(htd:ti.td = .slice e)(hTe:TIok P e ei)(r:Rel B0 bx W0 ok0 Z N ok φ s a w){key:Nat}(hk:lk s.hp key=none)
  {ad:Option Addr} {cap:Nat} {new:List (List D)} (hC:CellsAt ok w ad new) (hn:ad=none→(Value.slice ad new.length cap) = .slice none 0 0) (hsp:True) (hall:∀c∈new,c.length=ei.ck.length) (ty:TypeId)
  (hby:new.length*ei.bytes≤140737488355328) (h63:new.length≤maxLen) {K:V→St→Prop} (h:K (.own key) (s.setB key (.lst e ei.ck.length new))):
  ∃v' w',(Builtin.append_ #[t,t] ty #[.slice none 0 0,.slice ad new.length cap]).run P w = .ok v' w'∧Pst B0 bx W0 ok0 Z N a (Frm [] φ s w) K v' w':=by
 have hpos:=hTe.pos
 obtain⟨v',w',news,hrun,hown,hgr,hblk,hl,hrd⟩:=run_append_list (P:=P) hT htd hTe (Nat.le_refl w.heap.size) (World.ownsRow_nil w w.heap.size e ei.ck.length) hC hn hsp hall ty (by simpa using hby) (by simpa using h63)
 simp only[Nat.zero_add,List.nil_append]at hown
 have hgr':∀b,b<w.heap.size→w'.heap[b]? = w.heap[b]?:=fun b hb=>hgr.block b hb (by simp[Value.ownBlock])
 have hv1:v'.oneCell'=true:=by
  rcases hown.2 with⟨rfl,_⟩|⟨g,cap,cur,rfl,_⟩<;>rfl
 have hblk':∀g,blockOf v'=some g→g=w.heap.size∧g<w'.heap.size:=by
  intro g hg
  rcases hown.2 with⟨rfl,_⟩|⟨g',cap,cur,rfl,hb,hh,_⟩
  ·simp[blockOf]at hg
  ·simp[blockOf]at hg;subst hg
   simp[Value.ownBlock]at hblk
   exact⟨hblk,(Array.getElem?_eq_some_iff.1 hh).1⟩
 have h2:∀b,ok b→w'.heap[b]? = w.heap[b]?:=fun b hb=>hgr' b (r.okl b hb)
 have h3:∀k,¬False→lk s.hp k≠none→updF φ key v' k=φ k:=fun k _ hn=>by simp only[updF];rw[if_neg (by rintro rfl;exact hn hk)]
 have h4:∀k,¬False→Sim s.hp (pt s.hp key (.lst e ei.ck.length new)) k:=fun k _=>by
  unfold Sim
  rw[lk_pt]
  by_cases h:key=k
  ·subst h;rw[hk];trivial
  ·rw[if_neg h];exact Sim.refl s.hp k
 refine⟨v',w',hrun,.own key,_,ok,updF φ key v',h,?_,.own (sz:=ei.ck.length) (es:=new) (.inl ⟨e,by simp[St.setB,lk_pt]⟩) (by simp[updF]),⟨hgr.size,fun g hg _=>hgr' g hg,fun k b' g hb ha hg hlt=>?_⟩⟩
 rotate_left
 ·simp only[St.setB]at hb
  rw[lk_pt]at hb
  by_cases e:key=k
  ·subst e
   simp only[updF,if_true]at hg
   have:=hblk' g hg;omega
  ·rw[if_neg e]at hb
   simp only[updF,if_neg (Ne.symm e)]at hg
   exact⟨k,b',hb,ha,hg,.inl rfl⟩
 refine r.step (fun _=>False) (fun _ h=>h.elim) (fun _ h=>h) h2 h3 h4 (fun k b' hb=>?_) (fun k b' g hb ha hg=>?_) (fun k k' b1 b2 g hne hb1 hb2 ha1 ha2 hg1 hg2=>?_) (fun k=>?_) (fun b hb=>Nat.lt_of_lt_of_le (r.okl b hb) hgr.size) r.oks ?_
 ·rw[lk_pt]at hb
  by_cases h:key=k
  ·subst h
   rw[if_pos rfl]at hb
   simp only[Option.some.injEq]at hb;subst hb
   simp only[updF,if_true]
   refine⟨hpos,hall,news,⟨hown.1,?_⟩,fun i j hi hj=>(hrd i j hi hj).mono (fun _ h=>h) h2⟩
   rcases hown.2 with hnil|⟨g,cap,cur,rfl,hb,rest⟩
   ·exact .inl hnil
   ·exact .inr ⟨g,cap,cur,rfl,Nat.le_trans r.b0 hb,rest⟩
  ·rw[if_neg h]at hb
   have:updF φ key v' k=φ k:=by simp[updF,Ne.symm h]
   rw[this]
   exact(r.hp k b' hb).keep (fun _=>False) (fun _ _ h=>h.elim) (fun _ h=>h) h2 h3 h4 (fun ha g hg=>hgr' g ((r.hp k b' hb).block_lt ha hg))
 ·rw[lk_pt]at hb
  by_cases h:key=k
  ·subst h
   simp only[updF,if_true]at hg
   have:=hblk' g hg
   exact⟨fun hok=>by have:=r.okl _ hok;omega,.inl (by have:=r.b0;omega)⟩
  ·rw[if_neg h]at hb
   simp only[updF,if_neg (Ne.symm h)]at hg
   exact r.act k b' g hb ha hg
 ·rw[lk_pt]at hb1 hb2
  by_cases h:key=k
  ·subst h
   rw[if_neg hne]at hb2
   simp only[updF,if_true]at hg1
   simp only[updF,if_neg (Ne.symm hne)]at hg2
   have:=hblk' g hg1
   have:=(r.hp k' b2 hb2).block_lt ha2 hg2
   omega
  ·rw[if_neg h]at hb1
   simp only[updF,if_neg (Ne.symm h)]at hg1
   by_cases h':key=k'
   ·subst h'
    simp only[updF,if_true]at hg2
    have:=hblk' g hg2
    have:=(r.hp k b1 hb1).block_lt ha1 hg1
    omega
   ·rw[if_neg h']at hb2
    simp only[updF,if_neg (Ne.symm h')]at hg2
    exact r.inj k k' b1 b2 g hne hb1 hb2 ha1 ha2 hg1 hg2
 ·simp only[updF];split
  ·exact hv1
  ·exact r.one k
 ·exact⟨hgr.os,hgr.tape,hgr.output,hgr.size,fun k hk _=>hgr' k (Nat.lt_of_lt_of_le hk r.b0)⟩
theorem aAppendOwn_sound{t e:Nat}{ti ei:TI}(hT:TIok P t ti)(htd:ti.td = .slice e)(hTe:TIok P e ei)(r:Rel B0 bx W0 ok0 Z N ok φ s a w){k:Nat}{es:List (List D)}(hb:lk s.hp k=some (.lst e ei.ck.length es))
  {ad:Option Addr} {cap:Nat} {new:List (List D)} (hC:CellsAt ok w ad new) (hn:ad=none→(Value.slice ad new.length cap) = .slice none 0 0) (hsp:True) (hall:∀c∈new,c.length=ei.ck.length) (ty:TypeId)
  (hby:(es.length+new.length)*ei.bytes≤140737488355328) (h63:es.length+new.length≤maxLen) {K:V→St→Prop} (h:K (.own k) ((s.strike k).setB k (.lst e ei.ck.length (es++new)))):
  ∃v' w',(Builtin.append_ #[t,t] ty #[φ k,.slice ad new.length cap]).run P w = .ok v' w'∧Pst B0 bx W0 ok0 Z N a (Frm [k] φ s w) K v' w':=by
 have hpos:=hTe.pos
 have rs:=r.strike k
 have hnn:=noName_strike s k
 have hbs:lk (s.strike k).hp k=some (.lst e ei.ck.length es):=by simp only[St.strike];rw[lk_strikeH,hb];rfl
 obtain⟨_,hall0,xs,hown0,hrd0⟩:=rs.hp k _ hbs
 obtain⟨v',w',news,hrun,hown,hgr,hblk,hl,hrd⟩:=run_append_list (P:=P) hT htd hTe r.b0 hown0 hC hn hsp hall ty hby h63
 have hoB:∀g,blockOf (φ k)=some g→¬ok g∧(B0≤g∨g∈bx):=fun g hg=>r.act k _ g hb rfl hg
 have hownb:∀b,(φ k).ownBlock≠some b→b<w.heap.size→w'.heap[b]? = w.heap[b]?:=fun b hne hb=>hgr.block b hb (fun e=>hne e.symm)
 have hsame:(φ k).ownBlock=blockOf (φ k):=by
  rcases hown0.2 with⟨hv,_⟩|⟨g,cap,cur,hv,_⟩<;>rw[hv]<;>rfl
 have hv1:v'.oneCell'=true:=by
  rcases hown.2 with⟨rfl,_⟩|⟨g,cap,cur,rfl,_⟩<;>rfl
 have hvsame:v'.ownBlock=blockOf v':=by
  rcases hown.2 with⟨rfl,_⟩|⟨g,cap,cur,rfl,_⟩<;>rfl
 rw[hsame,hvsame]at hblk
 rw[hsame]at hownb
 have h2:∀b,ok b→w'.heap[b]? = w.heap[b]?:=fun b hb=>hownb b (fun e=>(hoB b e).1 hb) (r.okl b hb)
 let X:Nat→Prop:=fun j=>j=k
 have hX:∀j,X j→NoName (s.strike k) j:=fun j hj=>by cases hj;exact hnn
 have h3:∀j,¬X j→lk (s.strike k).hp j≠none→updF φ k v' j=φ j:=fun j hj _=>by simp only[updF];rw[if_neg hj]
 have h4:∀j,¬X j→Sim (s.strike k).hp (pt (s.strike k).hp k (.lst e ei.ck.length (es++new))) j:=fun j hj=>by
  unfold Sim
  rw[lk_pt,if_neg (fun e=>hj e.symm)];exact Sim.refl _ j
 have hB0':∀g,blockOf v'=some g→¬ok g∧(B0≤g∨g∈bx):=by
  intro g hg
  rcases hblk with e|e
  ·exact hoB g (by rw[←e];exact hg)
  ·rw[hg]at e
   simp only[Option.some.injEq]at e
   subst e
   exact⟨fun ho=>by have:=r.okl _ ho;omega,.inl r.b0⟩
 have hdis:∀j b g,j≠k→lk (s.strike k).hp j=some b→b.active=true→blockOf (φ j)=some g→blockOf v'≠some g:=by
  intro j b g hj hb' ha hg hg'
  rcases hblk with e|e
  ·exact rs.inj j k b _ g hj hb' hbs ha rfl hg (by rw[←e];exact hg')
  ·rw[hg']at e
   simp only[Option.some.injEq]at e
   have:=(rs.hp j b hb').block_lt ha hg
   omega
 refine⟨v',w',hrun,.own k,_,ok,updF φ k v',h,?_,.own (sz:=ei.ck.length) (es:=es++new) (.inl ⟨e,by simp[St.setB,lk_pt]⟩) (by simp[updF]),⟨hgr.size,fun g hg hn=>hownb g (fun e=>hn k _ (by simp) hb rfl e) hg,fun j b' g hb' ha hg hlt=>?_⟩⟩
 rotate_left
 ·simp only[St.setB]at hb'
  rw[lk_pt]at hb'
  by_cases e:k=j
  ·subst e
   simp only[updF,if_true]at hg
   rcases hblk with e|e
   ·exact⟨_,_,hb,rfl,by rw[←e];exact hg,.inl rfl⟩
   ·rw[hg]at e;simp at e;omega
  ·rw[if_neg e]at hb'
   simp only[updF,if_neg (Ne.symm e)]at hg
   simp only[St.strike]at hb'
   rw[lk_strikeH]at hb'
   cases hb0:lk s.hp j with
   |none=>rw[hb0]at hb';cases hb'
   |some b0=>
    rw[hb0]at hb'
    refine⟨j,b0,hb0,?_,hg,.inl rfl⟩
    simp only[Option.map_some,Option.some.injEq]at hb'
    subst hb'
    cases b0<;>first|rfl|exact ha
 refine rs.step X hX (hXp:=fun j hj cs=>by cases hj;rw[hbs];simp) (fun _ h=>h) h2 h3 h4 (fun j b' hb'=>?_) (fun j b' g hb' ha hg=>?_) (fun j j' b1 b2 g hne hb1 hb2 ha1 ha2 hg1 hg2=>?_) (fun j=>?_) (fun b hb=>Nat.lt_of_lt_of_le (r.okl b hb) hgr.size) r.oks ?_
 ·rw[lk_pt]at hb'
  by_cases h:k=j
  ·subst h
   rw[if_pos rfl]at hb'
   simp only[Option.some.injEq]at hb';subst hb'
   simp only[updF,if_true]
   refine⟨hpos,?_,xs++news,by simpa using hown,?_⟩
   ·intro c hc
    rcases List.mem_append.1 hc with hc|hc
    ·exact hall0 c hc
    ·exact hall c hc
   ·exact joined_rd hown0.1 (fun i j hi hj=>(hrd0 i j hi hj).mono (fun _ h=>h) h2) (fun i j hi hj=>(hrd i j hi hj).mono (fun _ h=>h) h2)
  ·rw[if_neg h]at hb'
   have:updF φ k v' j=φ j:=by simp[updF,Ne.symm h]
   rw[this]
   refine(rs.hp j b' hb').keep X (fun i cs hi hbox=>by cases hi;subst hbox;exact hnn.hp j cs hb') (fun _ h=>h) h2 h3 h4 (fun ha g hg=>hownb g ?_ ((rs.hp j b' hb').block_lt ha hg)) (fun i es hi hm=>by cases hi;subst hm;exact hnn.mp j es hb')
   exact fun e=>rs.inj j k b' _ g (Ne.symm h) hb' hbs ha rfl hg e
 ·rw[lk_pt]at hb'
  by_cases h:k=j
  ·subst h
   simp only[updF,if_true]at hg
   exact hB0' g hg
  ·rw[if_neg h]at hb'
   simp only[updF,if_neg (Ne.symm h)]at hg
   exact rs.act j b' g hb' ha hg
 ·rw[lk_pt]at hb1 hb2
  by_cases h:k=j
  ·subst h
   rw[if_neg hne]at hb2
   simp only[updF,if_true]at hg1
   simp only[updF,if_neg (Ne.symm hne)]at hg2
   exact hdis j' b2 g (Ne.symm hne) hb2 ha2 hg2 hg1
  ·rw[if_neg h]at hb1
   simp only[updF,if_neg (Ne.symm h)]at hg1
   by_cases h':k=j'
   ·subst h'
    simp only[updF,if_true]at hg2
    exact hdis j b1 g hne hb1 ha1 hg1 hg2
   ·rw[if_neg h']at hb2
    simp only[updF,if_neg (Ne.symm h')]at hg2
    exact rs.inj j j' b1 b2 g hne hb1 hb2 ha1 ha2 hg1 hg2
 ·simp only[updF];split
  ·exact hv1
  ·exact r.one j
 ·refine⟨hgr.os,hgr.tape,hgr.output,hgr.size,fun i hi hbx=>hownb i ?_ (Nat.lt_of_lt_of_le hi r.b0)⟩
  intro e
  rcases(hoB i e).2 with h|h
  ·omega
  ·exact hbx h
theorem splice_list{α:Type}(es new:List α)(lo:Nat)(z:α)(h:lo+new.length≤es.length)(i:Nat):
  (es.take lo++new++es.drop (lo+new.length)).getD i z=if i<lo then es.getD i z else if i<lo+new.length then new.getD (i-lo) z else es.getD i z:=by
 rw[List.getD_eq_getElem?_getD,splice_get? es new lo i h]
 split
 ·rw[List.getD_eq_getElem?_getD]
 ·split<;>rw[List.getD_eq_getElem?_getD]
theorem Rel.overLst(r:Rel B0 bx W0 ok0 Z N ok φ s a w){k e sz g cap0 lo:Nat}{es new:List (List D)}{ys:List Value}(hb:lk s.hp k=some (.lst e sz es))(hφ:φ k = .slice (some ⟨g,0,none⟩) es.length cap0)
  (hall:∀c∈new,c.length=sz) (hle:lo+new.length≤es.length) (hl:ys.length=new.length*sz)
  (hy:∀i j,i<new.length→j<sz→Rd ok w (ys.getD (i*sz+j) undef) ((new.getD i []).getD j default)):
  ∃cur T,w.heap[g]? = some (.cells cur T (0,0))∧lo*sz+ys.length≤cur.size∧
   Rel B0 bx W0 ok0 Z N ok φ (s.setB k (.lst e sz (es.take lo++new++es.drop (lo+new.length)))) a (w.setRow g (cur.toList.take (lo*sz)++ys++cur.toList.drop (lo*sz+ys.length)).toArray)∧
   Frm [k] φ s w φ (s.setB k (.lst e sz (es.take lo++new++es.drop (lo+new.length)))) (w.setRow g (cur.toList.take (lo*sz)++ys++cur.toList.drop (lo*sz+ys.length)).toArray):=by
 obtain⟨hpos,hall0,xs,hown,hr⟩:=r.hp k _ hb
 have hblk:blockOf (φ k)=some g:=by rw[hφ];rfl
 rcases hown.2 with⟨hn,hz⟩|⟨g',cap',cur,hs,hbase,hh,hnc,hml,hcs,htk⟩
 ·rw[hn]at hφ;cases hφ
 rw[hφ]at hs
 simp only[Value.slice.injEq,Option.some.injEq,Addr.mk.injEq,true_and,and_true]at hs
 obtain⟨rfl,rfl⟩:=hs
 have hmul:lo*sz+ys.length≤es.length*sz:=by
  rw[hl,←Nat.add_mul];exact Nat.mul_le_mul_right _ hle
 have hmul2:es.length*sz≤cap0*sz:=Nat.mul_le_mul_right _ hnc
 have hlen:(es.take lo++new++es.drop (lo+new.length)).length=es.length:=by simp;omega
 refine⟨cur,e,hh,by omega,?_,Frm.written (.refl _) _ _ hb rfl hblk⟩
 refine r.written hb rfl rfl hblk _ (sim_lst hb) ?_
 refine⟨hpos,?_,(xs.take (lo*sz)++ys++xs.drop (lo*sz+ys.length)),⟨?_,.inr ⟨g,cap0,_,?_,hbase,setRow_heap w g cur _ e _ hh,?_,hml,?_,?_⟩⟩,?_⟩
 ·intro c hc
  simp only[List.mem_append]at hc
  rcases hc with(hc|hc)|hc
  ·exact hall0 c (List.mem_of_mem_take hc)
  ·exact hall c hc
  ·exact hall0 c (List.mem_of_mem_drop hc)
 ·rw[hlen]
  simp only[List.length_append,List.length_take,List.length_drop,hown.1];omega
 ·rw[hφ,hlen]
 ·rw[hlen];exact hnc
 ·simp only[List.size_toArray,List.length_append,List.length_take,List.length_drop,Array.length_toList,hcs];omega
 ·rw[hlen]
  simp only[]
  rw[←htk]
  exact take_splice cur.toList ys (lo*sz) (es.length*sz) hmul (by simp only[Array.length_toList,hcs];omega)
 ·intro i j hi hj
  rw[hlen]at hi
  have hactg:=r.act k _ g hb rfl hblk
  have h2w:∀b,ok b→(w.setRow g (cur.toList.take (lo*sz)++ys++cur.toList.drop (lo*sz+ys.length)).toArray).heap[b]? = w.heap[b]?:=
   fun b hb=>setRow_other w g b _ (by rintro rfl;exact hactg.1 hb)
  rw[splice_list xs ys (lo*sz) undef (by rw[hown.1];exact hmul),splice_list es new lo [] hle]
  have hij:∀m,i<m→i*sz+j<m*sz:=fun m hm=>by
   calc i*sz+j<i*sz+sz:=by omega
    _=(i+1)*sz:=by rw[Nat.add_mul];omega
    _≤m*sz:=Nat.mul_le_mul_right _ hm
  have hji:∀m,m≤i→m*sz≤i*sz+j:=fun m hm=>by
   have:m*sz≤i*sz:=Nat.mul_le_mul_right _ hm
   omega
  by_cases c1:i<lo
  ·rw[if_pos (hij lo c1),if_pos c1]
   exact(hr i j hi hj).mono (fun _ h=>h) h2w
  ·rw[if_neg (by have:=hji lo (by omega);omega),if_neg c1]
   by_cases c2:i<lo+new.length
   ·have e1:lo*sz+ys.length=(lo+new.length)*sz:=by rw[hl,Nat.add_mul]
    rw[e1,if_pos (hij _ c2),if_pos c2]
    have e2:i*sz+j-lo*sz=(i-lo)*sz+j:=by
      have:=hji lo (by omega)
      have h3:lo*sz≤i*sz:=Nat.mul_le_mul_right _ (by omega)
      rw[Nat.sub_mul];omega
    rw[e2]
    rw[←e1]
    exact(hy (i-lo) j (by omega) hj).mono (fun _ h=>h) h2w
   ·have e1:lo*sz+ys.length=(lo+new.length)*sz:=by rw[hl,Nat.add_mul]
    rw[e1,if_neg (by have:=hji (lo+new.length) (by omega);omega),if_neg c2,←e1]
    exact(hr i j hi hj).mono (fun _ h=>h) h2w
theorem zs_rd{ck:List CK}{l:List Value}(hzB:zB ck l=true){z:List D}(hz:dZeros ck=some z):z.length=ck.length∧∀(j:Nat) (v:Value) (d:D),l[j]? = some v→z[j]? = some d→Rd ok w v d:=by
 induction ck generalizing l z with
 |nil=>simp[dZeros]at hz;subst hz;simp
 |cons c r ih=>
  cases l with
  |nil=>simp[zB]at hzB
  |cons v l=>
   simp only[zB,Bool.and_eq_true]at hzB
   have key:∀(x:D) (l2:List D),dZeros r=some l2→z=x::l2→Rd ok w v x→z.length=(c::r).length∧∀(j:Nat) (v':Value) (d:D),(v::l)[j]? = some v'→z[j]? = some d→Rd ok w v' d:=by
    intro x l2 h1 h2 h3
    subst h2
    obtain⟨h4,h5⟩:=ih hzB.2 h1
    refine⟨by simp[h4],fun j v' d hv hd=>?_⟩
    cases j with
    |zero=>simp at hv hd;subst hv;subst hd;exact h3
    |succ j=>exact h5 j v' d (by simpa using hv) (by simpa using hd)
   have h0:=hzB.1
   have hvr:VR ok (fun _=>undef) [] w (ckZero c) v:=(zB_vr (ok:=ok) (φ:=fun _=>undef) (w:=w) (hp:=[]) (ck:=[c]) (xs:=[v]) (by simp[zB,h0])).2 0 (ckZero c) v rfl rfl
   simp only[dZeros]at hz
   split at hz
   ·rename_i x l2 hx hl2
    simp only[Option.some.injEq]at hz
    rw[hx]at hvr
    cases hvr;rename_i hrd
    exact key x l2 hl2 hz.symm hrd
   ·rename_i l2 hx hl2
    simp only[Option.some.injEq]at hz
    rw[hx]at hvr
    cases hvr
    exact key (.sl []) l2 hl2 hz.symm .nil
   ·cases hz
theorem Rel.hpEq(r:Rel B0 bx W0 ok0 Z N ok φ s a w){hp':List (Nat×B)}(e:∀j,lk hp' j=lk s.hp j):Rel B0 bx W0 ok0 Z N ok φ {s with hp:=hp'} a w:=by
 have h4:∀j,Sim s.hp hp' j:=fun j=>by
  have:=Sim.refl s.hp j
  unfold Sim at this ⊢
  rw[e];exact this
 refine r.step (fun _=>False) (fun _ h=>h.elim) (fun _ h=>h) (fun _ _=>rfl) (fun _ _ _=>rfl) (fun j _=>h4 j) (fun j b hb=>?_) (fun j b g hb ha hg=>?_) (fun j j' b b' g hne hb hb' ha ha' hg hg'=>?_) r.one r.okl r.oks (Upd.refl _ _ _)
 ·rw[e]at hb
  exact(r.hp j b hb).keep (fun _=>False) (fun _ _ h=>h.elim) (fun _ h=>h) (fun _ _=>rfl) (fun _ _ _=>rfl) (fun j _=>h4 j) (fun _ _ _=>rfl)
 ·rw[e]at hb;exact r.act j b g hb ha hg
 ·rw[e]at hb hb';exact r.inj j j' b b' g hne hb hb' ha ha' hg hg'
theorem Rel.setSame(r:Rel B0 bx W0 ok0 Z N ok φ s a w){k:Nat}{b:B}(hb:lk s.hp k=some b)(T:List Nat):Rel B0 bx W0 ok0 Z N ok φ (s.setB k b) a w∧Frm T φ s w φ (s.setB k b) w:=by
 have e:∀j,lk (pt s.hp k b) j=lk s.hp j:=fun j=>by
  rw[lk_pt];split
  ·rename_i hk;subst hk;exact hb.symm
  ·rfl
 refine⟨r.hpEq e,Nat.le_refl _,fun _ _ _=>rfl,fun j b' g h1 h2 h3 _=>⟨j,b',?_,h2,h3,.inl rfl⟩⟩
 simp only[St.setB]at h1
 rw[e]at h1;exact h1
theorem zeroCells_get{z:Array Value}{n sz i j:Nat}(hz:z.size=sz)(hi:i<n)(hj:j<sz):(Builtin.zeroCells z n).toList.getD (i*sz+j) undef=z.toList.getD j undef:=by
 subst hz
 have hlt:i*z.size+j<n*z.size:=by
  calc i*z.size+j<i*z.size+z.size:=by omega
   _=(i+1)*z.size:=by rw[Nat.add_mul];omega
   _≤n*z.size:=Nat.mul_le_mul_right _ hi
 rw[List.getD_eq_getElem?_getD]
 simp only[Builtin.zeroCells,Array.toList_map,Array.toList_range,List.getElem?_map,List.getElem?_range hlt,Option.map_some,Option.getD_some]
 rw[Nat.add_comm,Nat.add_mul_mod_self_right,Nat.mod_eq_of_lt hj,getElem!_pos z _ hj]
 simp[List.getD,hj]
theorem aClear_sound{t e:Nat}{ti ei:TI}(hT:TIok P t ti)(htd:ti.td = .slice e)(hTe:TIok P e ei)(r:Rel B0 bx W0 ok0 Z N ok φ s a w){c:V}{v:Value}(hv:VR ok φ s.hp w c v){k lo n e' sz:Nat}{es:List (List D)}
  (hst:stretch s c=some (k,lo,n)) (hb:lk s.hp k=some (.lst e' sz es)) {z:List D} (hz:dZeros ei.ck=some z) (hsz:sz=ei.ck.length) (ty:TypeId)
  {K:V→St→Prop} (h:K .dead (s.setB k (.lst e' sz (es.take lo++List.replicate n z++es.drop (lo+n))))):
  ∃v' w',(Builtin.clear_ #[t] ty #[v]).run P w = .ok v' w'∧Pst B0 bx W0 ok0 Z N a (Frm (ownKey c) φ s w) K v' w':=by
 subst hsz
 obtain⟨hu,_⟩:=hT.slice_und htd
 obtain⟨inf,zv,hi,hsz,hbi,hzz,hzB,_⟩:=hTe.info
 have hzs:zv.cells.size=ei.ck.length:=by simpa using(zB_vr (ok:=ok) (φ:=φ) (w:=w) (hp:=s.hp) hzB).1
 obtain⟨hzl,hzr⟩:=zs_rd (ok:=ok) (w:=w) hzB hz
 obtain⟨e1,sz1,es1,ad,cap,q1,q2,q3,rfl,q5,q6,q7⟩:=stretch_sound r hv hst
 rw[hb]at q1
 simp only[Option.some.injEq,B.lst.injEq]at q1
 obtain⟨rfl,rfl,rfl⟩:=q1
 rw[q7]
 by_cases hn:n=0
 ·subst hn
  have e0:es.take lo++List.replicate 0 z++es.drop (lo+0)=es:=by simp
  rw[e0]at h
  obtain⟨r1,f1⟩:=r.setSame hb [k]
  refine⟨.tuple #[],w,?_,.dead,_,ok,φ,h,r1,.dead _,f1⟩
  cases ad<;>simp[Builtin.clear_,run_underlying hu]
 ·obtain⟨g,cap0,rfl,hφ⟩:=q6 (by omega)
  have hl:(Builtin.zeroCells zv.cells n).toList.length=(List.replicate n z).length*ei.ck.length:=by simp[Builtin.zeroCells,hzs]
  have hlr:(List.replicate n z).length=n:=by simp
  obtain⟨cur,T,hh,hle,r1,f1⟩:=r.overLst (new:=List.replicate n z) (lo:=lo) hb hφ (fun c hc=>by rw[List.eq_of_mem_replicate hc];exact hzl) (by rw[hlr];exact q2) hl (fun i j hi hj=>by
   rw[hlr]at hi
   rw[zeroCells_get hzs hi hj]
   have hg:(List.replicate n z).getD i []=z:=by
    rw[List.getD_eq_getElem?_getD,List.getElem?_replicate,if_pos hi];rfl
   rw[hg]
   have hj2:j<zv.cells.size:=by omega
   have hj3:j<z.length:=by omega
   have:=hzr j zv.cells[j] z[j] (by simp[hj2]) (List.getElem?_eq_getElem hj3)
   rw[List.getD_eq_getElem?_getD,List.getD_eq_getElem?_getD,List.getElem?_eq_getElem hj3]
   simpa[hj2]using this)
  rw[hlr]at r1 f1
  have hst:=run_storeCells_at (P:=P) g (lo*ei.ck.length) T (Builtin.zeroCells zv.cells n).toList 0 cur w hh (by simpa using hle) (by
   intro x hx
   obtain⟨m,hm⟩:=List.getElem?_of_mem hx
   have hlt:m<n*zv.cells.size:=by
    have:=(List.getElem?_eq_some_iff.1 hm).1
    simpa[Builtin.zeroCells]using this
   simp[Builtin.zeroCells,List.getElem?_range,hlt]at hm
   subst hm
   have hm2:m % zv.cells.size<zv.cells.size:=Nat.mod_lt _ (by rcases Nat.eq_zero_or_pos zv.cells.size with h0|h0;rw[h0]at hlt;omega;exact h0)
   rw[getElem!_pos zv.cells _ hm2]
   exact(hzr (m % zv.cells.size) _ (z[m % zv.cells.size]'(by omega)) (by simp[hm2]) (List.getElem?_eq_getElem _)).one)
  refine⟨.tuple #[],_,?_,.dead,_,ok,φ,h,r1,.dead _,f1⟩
  obtain⟨m,rfl⟩:∃m,n=m+1:=⟨n-1,by omega⟩
  have hzv:∀w,(zeroValue e).run P w = .ok zv w:=fun w=>by simp[zeroValue,typeInfo,hi,hzz]
  simp only[Nat.add_zero]at hst
  simp[Builtin.clear_,run_underlying hu,hzv,hst]
theorem aCopy_sound{t t' e:Nat}{ti ei:TI}(hT:TIok P t ti)(htd:ti.td = .slice e)(hTe:TIok P e ei)(r:Rel B0 bx W0 ok0 Z N ok φ s a w){c:V}{v:Value}(hv:VR ok φ s.hp w c v){k lo n e' sz:Nat}{es:List (List D)}
  (hst:stretch s c=some (k,lo,n)) (hb:lk s.hp k=some (.lst e' sz es)) {ad':Option Addr} {cap':Nat} {new:List (List D)} (hC:CellsAt ok w ad' new) (hnil:ad'=none→(Value.slice ad' new.length cap') = .slice none 0 0)
  (hsz:sz=ei.ck.length) (hall:∀c∈new,c.length=sz) (ty:TypeId)
  {K:V→St→Prop} (h:K (.d (.v (.int .i64 (new.take n).length))) (s.setB k (.lst e' sz (es.take lo++new.take n++es.drop (lo+(new.take n).length))))):
  ∃v' w',(Builtin.copy_ #[t,t'] ty #[v,.slice ad' new.length cap']).run P w = .ok v' w'∧Pst B0 bx W0 ok0 Z N a (Frm (ownKey c) φ s w) K v' w':=by
 subst hsz
 obtain⟨hu,_⟩:=hT.slice_und htd
 obtain⟨inf,zv,hi,hsz,hbi,hzz,hzB,_⟩:=hTe.info
 have hpos:=hTe.pos
 obtain⟨e1,sz1,es1,ad,cap,q1,q2,q3,rfl,q5,q6,q7⟩:=stretch_sound r hv hst
 rw[hb]at q1
 simp only[Option.some.injEq,B.lst.injEq]at q1
 obtain⟨rfl,rfl,rfl⟩:=q1
 rw[q7]
 have hmin:Nat.min new.length n=(new.take n).length:=by simp[Nat.min_comm]
 by_cases hn:(new.take n)=[]
 ·rw[hn]at h hmin
  simp only[List.length_nil,Nat.add_zero,List.append_nil,List.take_append_drop]at h hmin
  obtain⟨r1,f1⟩:=r.setSame hb [k]
  refine⟨.int .i64 0,w,?_,_,_,ok,φ,h,r1,.d (.v rfl),f1⟩
  cases ad' with
  |none=>cases ad<;>simp[Builtin.copy_,run_underlying hu,Builtin.lenOf,Builtin.firstCells,sizeOf,typeInfo,hi,hmin,storeCells,goInt]
  |some x=>
   have hl0:=run_loadCells_list (P:=P) w x [] (by simp)
   simp only[List.length_nil]at hl0
   cases ad<;>simp[Builtin.copy_,run_underlying hu,Builtin.lenOf,Builtin.firstCells,sizeOf,typeInfo,hi,hmin,storeCells,hl0,goInt]
 ·have hn0:0<(new.take n).length:=by
   rcases Nat.eq_zero_or_pos (new.take n).length with h0|h0
   ·exact(hn (List.eq_nil_of_length_eq_zero h0)).elim
   ·exact h0
  have hne:new≠[]:=by rintro rfl;simp at hn
  obtain⟨b,off,rfl,news,hl,hc,hone,hrd⟩:=news_of hpos hC hall hne
  have hle:(new.take n).length≤n∧(new.take n).length≤new.length:=by simp;omega
  obtain⟨g,cap0,rfl,hφ⟩:=q6 (by omega)
  have hmul:(new.take n).length*ei.ck.length≤new.length*ei.ck.length:=Nat.mul_le_mul_right _ hle.2
  have hl2:(news.take ((new.take n).length*ei.ck.length)).length=(new.take n).length*ei.ck.length:=by
   rw[List.length_take,hl];omega
  obtain⟨cur,T,hh,hle2,r1,f1⟩:=r.overLst (new:=new.take n) (lo:=lo) (ys:=news.take ((new.take n).length*ei.ck.length)) hb hφ (fun c hc=>hall c (List.mem_of_mem_take hc)) (by omega) hl2 (fun i j hi hj=>by
   have hlt:i*ei.ck.length+j<(new.take n).length*ei.ck.length:=by
    calc i*ei.ck.length+j<i*ei.ck.length+ei.ck.length:=by omega
     _=(i+1)*ei.ck.length:=by rw[Nat.add_mul];omega
     _≤_:=Nat.mul_le_mul_right _ hi
   have:=hrd i j (by omega) hj
   rw[List.getD_eq_getElem?_getD,List.getElem?_take,if_pos hlt,←List.getD_eq_getElem?_getD]
   have e2:(new.take n).getD i []=new.getD i []:=by
    rw[List.getD_eq_getElem?_getD,List.getElem?_take,if_pos (by omega),←List.getD_eq_getElem?_getD]
   rw[e2];exact this)
  have hld:=run_loadCells_list (P:=P) w ⟨b,off,none⟩ (news.take ((new.take n).length*ei.ck.length)) (fun j u hj=>hc j u (by
   rw[List.getElem?_take]at hj
   split at hj
   ·exact hj
   ·cases hj))
  rw[hl2]at hld
  have hst2:=run_storeCells_at (P:=P) g (lo*ei.ck.length) T (news.take ((new.take n).length*ei.ck.length)) 0 cur w hh (by simpa using hle2) (fun x hx=>hone x (List.mem_of_mem_take hx))
  simp only[Nat.add_zero]at hst2
  refine⟨.int .i64 (new.take n).length,_,?_,_,_,ok,φ,h,r1,.d (.v rfl),f1⟩
  clear r1 f1 h hle2 hle hl2 hmul hn0
  generalize hm:(new.take n).length=m at hmin hld hst2 ⊢
  simp[Builtin.copy_,run_underlying hu,Builtin.lenOf,Builtin.firstCells,sizeOf,typeInfo,hi,hsz,hmin,hld,hst2,goInt]
end Go.Dm
namespace Go.Dm
variable {P:Program} {E:Env}
variable {B0:Nat} {bx:List Nat} {W0:World} {ok0:Nat→Prop} {Z:Zr} {N:Nat}
variable {ok:Nat→Prop} {φ:Nat→Value} {s:St} {a:Act} {w:World}
theorem put_getD(a:Act)(d t:Nat)(v:Value)(hd:d<a.tmps.size):(a.put (some d) v).tmps.getD t undef=if t=d then v else a.tmps.getD t undef:=by
 simp only[Act.put,Array.getD_eq_getD_getElem?,Array.getElem?_setIfInBounds]
 by_cases h:d=t
 ·subst h;simp[hd]
 ·simp[h,Ne.symm h]
theorem lk_gclr(gd:List (Nat×(Nat×Bool×V)))(k t:Nat):∀t' w' x,lk (gclr gd k) t=some (t',w',x)→(∃x0,lk gd t=some (t',w',x0)∧(x = .dead∨(x=x0∧t'≠k∧t≠k))):=by
 induction gd with
 |nil=>intro t' w' x h;simp[gclr,lk]at h
 |cons p r ih=>
  obtain⟨a,u,w,y⟩:=p
  intro t' w' x h
  simp only[gclr]at h
  by_cases ha:a=t
  ·subst ha
   have e:Nat.beq a a=true:=by simp
   split at h
   ·rename_i h1 h2
    simp only[lk,e,Option.some.injEq,Prod.mk.injEq]at h ⊢
    obtain⟨rfl,rfl,rfl⟩:=h
    exact⟨y,⟨rfl,rfl,rfl⟩,.inr ⟨rfl,beq_false.1 h1,beq_false.1 h2⟩⟩
   ·simp only[lk,e,Option.some.injEq,Prod.mk.injEq]at h ⊢
    obtain⟨rfl,rfl,rfl⟩:=h
    exact⟨y,⟨rfl,rfl,rfl⟩,.inl rfl⟩
  ·have e:Nat.beq a t=false:=beq_false.2 ha
   split at h<;>(simp only[lk,e]at h ⊢;exact ih t' w' x h)
theorem Rel.put(r:Rel B0 bx W0 ok0 Z N ok φ s a w){d:Nat}(hd:d<N){v:V}{v':Value}(hv:VR ok φ s.hp w v v'):Rel B0 bx W0 ok0 Z N ok φ (s.put d v) (a.put (some d) v') w:=by
 have hd':d<a.tmps.size:=by rw[r.sz];exact hd
 exact {
  sz:=by simp[Act.put,r.sz]
  tm:=fun t x h=>by
   simp only[St.put]at h
   rw[lk_pt]at h
   rw[put_getD a d t v' hd']
   by_cases e:d=t
   ·subst e;simp at h;subst h;rw[if_pos rfl];exact hv
   ·rw[if_neg e]at h;rw[if_neg (Ne.symm e)];exact r.tm t x h
  gd:=fun t t' w' x h hw=>by
   obtain⟨x0,h0,h1⟩:=lk_gclr s.gd d t t' w' x h
   rcases h1 with rfl|⟨rfl,h2,h3⟩
   ·exact .dead _
   ·rw[put_getD a d t' v' hd',if_neg h2]at hw
    rw[put_getD a d t v' hd',if_neg h3]
    exact r.gd t t' w' x h0 hw
  gu:=fun t t' w' b h hw=>by
   obtain⟨x0,h0,h1⟩:=lk_gclr s.gd d t t' w' _ h
   rcases h1 with h1|⟨h1,h2,h3⟩
   ·cases h1
   ·subst h1
    rw[put_getD a d t' v' hd',if_neg h2]at hw
    rw[put_getD a d t v' hd',if_neg h3]
    exact r.gu t t' w' b h0 hw
  kn:=fun t b h=>by
   simp only[St.put]at h
   rw[lk_rm]at h
   by_cases e:d=t
   ·rw[if_pos e]at h;cases h
   ·rw[if_neg e]at h;rw[put_getD a d t v' hd',if_neg (Ne.symm e)];exact r.kn t b h
  hp:=r.hp,act:=r.act,inj:=r.inj,one:=r.one,okl:=r.okl,oks:=r.oks,ok0:=r.ok0,upd:=r.upd,b0:=r.b0,df:=by simpa[Act.put]using r.df,kz:=r.kz,zs:=r.zs,rt:=r.rt,pin:=r.pin}
theorem Rel.kill(r:Rel B0 bx W0 ok0 Z N ok φ s a w){d:Nat}(hd:d<N)(v':Value):Rel B0 bx W0 ok0 Z N ok φ (s.kill d) (a.put (some d) v') w:=by
 have h:=r.put hd (.dead v')
 exact {h with
  tm:=fun t x hx=>by
   simp only[St.kill]at hx
   rw[lk_rm]at hx
   by_cases e:d=t
   ·rw[if_pos e]at hx;cases hx
   ·rw[if_neg e]at hx
    exact h.tm t x (by simp only[St.put];rw[lk_pt,if_neg e];exact hx)}
theorem Rel.killSame(r:Rel B0 bx W0 ok0 Z N ok φ s a w)(d:Nat):Rel B0 bx W0 ok0 Z N ok φ (s.kill d) a w:=by
 exact {r with
  tm:=fun t x hx=>by
   simp only[St.kill]at hx
   rw[lk_rm]at hx
   by_cases e:d=t
   ·rw[if_pos e]at hx;cases hx
   ·rw[if_neg e]at hx;exact r.tm t x hx
  gd:=fun t t' w' x h hw=>by
   obtain⟨x0,h0,h1⟩:=lk_gclr s.gd d t t' w' x h
   rcases h1 with rfl|⟨rfl,h2,h3⟩
   ·exact .dead _
   ·exact r.gd t t' w' x h0 hw
  gu:=fun t t' w' b h hw=>by
   obtain⟨x0,h0,h1⟩:=lk_gclr s.gd d t t' w' _ h
   rcases h1 with h1|⟨h1,h2,h3⟩
   ·cases h1
   ·subst h1;exact r.gu t t' w' b h0 hw
  kn:=fun t b h=>by
   simp only[St.kill]at h
   rw[lk_rm]at h
   by_cases e:d=t
   ·rw[if_pos e]at h;cases h
   ·rw[if_neg e]at h;exact r.kn t b h}
theorem Rel.putO(r:Rel B0 bx W0 ok0 Z N ok φ s a w){d:Option Nat}(hd:∀k,d=some k→k<N){v:V}{v':Value}(hv:VR ok φ s.hp w v v'):Rel B0 bx W0 ok0 Z N ok φ (Dm.putO s d v) (a.put d v') w:=by
 cases d with
 |none=>exact r
 |some d=>
  cases v<;>first|exact r.kill (hd d rfl) v'|exact r.put (hd d rfl) hv
theorem Rel.putG(r:Rel B0 bx W0 ok0 Z N ok φ s a w){d:Nat}(hd:d<N){t:Nat}{want:Bool}{v:V}{v':Value}
  (hv:(a.tmps.getD t undef = .bool want∧VR ok φ s.hp w v v')∨(a.tmps.getD t undef≠.bool want∧v'=undef)):Rel B0 bx W0 ok0 Z N ok φ (s.putG d (t,want) v) (a.put (some d) v') w:=by
 have hd':d<a.tmps.size:=by rw[r.sz];exact hd
 have hk:=r.kill hd v'
 unfold St.putG
 by_cases e0:t=d
 ·have:Nat.beq t d=true:=by simp[e0]
  simp only[this]
  exact {hk with}
 ·have e1:Nat.beq t d=false:=beq_false.2 e0
  simp only[e1]
  exact {hk with
   gd:=fun u u' w' x h hw=>by
    rw[lk_pt]at h
    by_cases e:d=u
    ·subst e
     rw[if_pos rfl]at h
     simp only[Option.some.injEq,Prod.mk.injEq]at h
     obtain⟨rfl,rfl,rfl⟩:=h
     rw[put_getD a d t v' hd',if_neg e0]at hw
     rw[put_getD a d d v' hd',if_pos rfl]
     rcases hv with⟨_,hv⟩|⟨hn,_⟩
     ·exact hv
     ·exact(hn hw).elim
    ·rw[if_neg e]at h
     exact hk.gd u u' w' x h hw
   gu:=fun u u' w' b h hw=>by
    rw[lk_pt]at h
    by_cases e:d=u
    ·subst e
     rw[if_pos rfl]at h
     simp only[Option.some.injEq,Prod.mk.injEq]at h
     obtain⟨rfl,rfl,rfl⟩:=h
     rw[put_getD a d t v' hd',if_neg e0]at hw
     rw[put_getD a d d v' hd',if_pos rfl]
     rcases hv with⟨hy,_⟩|⟨_,hn⟩
     ·exact(hw hy).elim
     ·exact hn
    ·rw[if_neg e]at h
     exact hk.gu u u' w' b h hw}
theorem Rel.putGO(r:Rel B0 bx W0 ok0 Z N ok φ s a w){d:Option Nat}(hd:∀k,d=some k→k<N){t:Nat}{want:Bool}{v:V}{v':Value}
  (hv:(a.tmps.getD t undef = .bool want∧VR ok φ s.hp w v v')∨(a.tmps.getD t undef≠.bool want∧v'=undef)):Rel B0 bx W0 ok0 Z N ok φ (Dm.putGO s d (t,want) v) (a.put d v') w:=by
 cases d with
 |none=>exact r
 |some d=>
  cases v<;>first|exact r.kill (hd d rfl) v'|exact r.putG (hd d rfl) hv
theorem Rel.know(r:Rel B0 bx W0 ok0 Z N ok φ s a w){t:Nat}{b:Bool}(h:a.tmps.getD t undef = .bool b):Rel B0 bx W0 ok0 Z N ok φ (s.know t b) a w:=
 {r with
  kn:=fun u c hc=>by
    simp only[St.know]at hc
    rw[lk_pt]at hc
    by_cases e:t=u
    ·subst e;simp at hc;subst hc;exact h
    ·rw[if_neg e]at hc;exact r.kn u c hc}
theorem Rel.clearG(r:Rel B0 bx W0 ok0 Z N ok φ s a w):Rel B0 bx W0 ok0 Z N ok φ {s with gd:=[]} a w:=
 {r with gd:=fun t t' w' x h=>by simp[lk]at h,gu:=fun t t' w' b h=>by simp[lk]at h}
theorem Rel.killL(keep:List Nat)(l:List Nat):∀{s:St},Rel B0 bx W0 ok0 Z N ok φ s a w→Rel B0 bx W0 ok0 Z N ok φ (Dm.killL keep l s) a w:=by
 induction l with
 |nil=>intro s r;exact r
 |cons d l ih=>
  intro s r
  simp only[Dm.killL]
  split
  ·exact ih r
  ·exact ih (r.killSame d)
theorem Rel.endRegion(r:Rel B0 bx W0 ok0 Z N ok φ s a w)(keep:List Nat)(ops:List Oper):Rel B0 bx W0 ok0 Z N ok φ (Dm.endRegion keep ops s) a w:=
 (Rel.killL keep (dsts ops) r).clearG
theorem splitG_sound(n:Nat):∀{s:St} {t:Nat} {want:Bool} {Y M:St→Prop},Rel B0 bx W0 ok0 Z N ok φ s a w→splitG n s t want Y M→
  (a.tmps.getD t undef = .bool want∧∃s',Y s'∧Rel B0 bx W0 ok0 Z N ok φ s' a w∧s'.hp=s.hp)∨(a.tmps.getD t undef≠.bool want∧∃s',M s'∧Rel B0 bx W0 ok0 Z N ok φ s' a w∧s'.hp=s.hp):=by
 induction n with
 |zero=>intro s t want Y M r h;exact h.elim
 |succ n ih=>
  intro s t want Y M r h
  unfold splitG at h
  have fin:∀(b:Bool),a.tmps.getD t undef = .bool b→∀s1:St,Rel B0 bx W0 ok0 Z N ok φ s1 a w→s1.hp=s.hp→(b=want→Y (s1.know t want))∧(b = !want→M (s1.know t (!want)))→
    (a.tmps.getD t undef = .bool want∧∃s',Y s'∧Rel B0 bx W0 ok0 Z N ok φ s' a w∧s'.hp=s.hp)∨(a.tmps.getD t undef≠.bool want∧∃s',M s'∧Rel B0 bx W0 ok0 Z N ok φ s' a w∧s'.hp=s.hp):=by
   intro b hb s1 r1 hs1 ⟨h1,h2⟩
   by_cases e:b=want
   ·subst e;exact .inl ⟨hb,_,h1 rfl,r1.know hb,hs1⟩
   ·have e':b = !want:=by cases b<;>cases want<;>simp_all
    refine .inr ⟨by rw[hb];simpa using e,_,h2 e',r1.know (by rw[hb,e']),hs1⟩
  split at h
  ·rename_i b hb
   have hk:=r.kn t b hb
   split at h
   ·exact .inl ⟨hk,s,h,r,rfl⟩
   ·exact .inl ⟨hk,s,h,r,rfl⟩
   ·rename_i h1 h2
    refine .inr ⟨?_,s,h,r,rfl⟩
    rw[hk]
    cases b<;>cases want<;>simp_all
  ·split at h
   ·rename_i b hb
    exact fin b (vr_v (r.tm t _ hb)) s r rfl h
   ·exact h.elim
   ·split at h
    ·rename_i t' w' b hg
     rcases ih r h with⟨h1,s',h2,h3,h4⟩|⟨h1,s',h2,h3,h4⟩
     ·exact fin b (vr_v (r.gd t t' w' _ hg h1)) s' h3 h4 h2
     ·exact .inr ⟨by rw[r.gu t t' w' b hg h1];simp[undef],s',h2,h3,h4⟩
    ·exact h.elim
end Go.Dm
