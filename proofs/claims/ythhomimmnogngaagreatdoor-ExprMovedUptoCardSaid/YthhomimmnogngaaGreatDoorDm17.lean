/- A part of the proof: contracts of functions, by a verified generator of conditions; no condition of its own. -/
import Derived.Test.YthhomimmnogngaaGreatDoorDm13
import Derived.OrdersHeld
namespace Go.Dm
variable {P:Program} {ops:Array Oper} {Q:Exit→Act→World→Prop}
abbrev md:Region.Mode:=.any
def waitsT(ops:Array Oper):Nat→Nat→Nat→Bool
 |0,_,_=>false
 |n+1,i,q=>
  match ops[i]? with
  |none=>false
  |some o=>o.after.any fun e=>Region.binds md e&&(e.on==q||waitsT ops n e.on q)
def Waits(ops:Array Oper)(i q:Nat):Prop:=∃n,waitsT ops n i q=true
def Down(ops:Array Oper)(listed:Array Bool):Prop:=
 ∀p o,ops[p]? = some o→listed.getD p false=true→∀e∈o.after,Region.binds md e=true→listed.getD e.on false=true
theorem getD_iff(listed:Array Bool)(i:Nat)(h:listed.getD i true=false):listed.getD i false=false:=by
 rw[Array.getD_eq_getD_getElem?]at *
 cases he:listed[i]? with
 |none=>rw[he]at h;cases h
 |some b=>rw[he]at h;simpa using h
theorem Down.waits{listed:Array Bool}(hd:Down ops listed):∀(n i q:Nat),listed.getD i false=true→waitsT ops n i q=true→listed.getD q false=true:=by
 intro n
 induction n with
 |zero=>intro i q _ h;cases h
 |succ n ih=>
  intro i q hi h
  unfold waitsT at h
  split at h
  ·cases h
  rename_i o ho
  rw[Array.any_eq_true']at h
  obtain⟨e,he,h⟩:=h
  simp only[Bool.and_eq_true,Bool.or_eq_true,beq_iff_eq]at h
  have hl:=hd i o ho hi e he h.1
  rcases h.2 with h2|h2
  ·rw[←h2];exact hl
  ·exact ih e.on q hl h2
theorem ready_waits{listed:Array Bool}(hd:Down ops listed){j i:Nat}(hj:j∈Region.ready md ops listed)(hw:Waits ops j i):listed.getD i false=true:=by
 obtain⟨n,hw⟩:=hw
 obtain⟨_,oj,hoj,hall⟩:=mem_ready.1 hj
 cases n with
 |zero=>cases hw
 |succ n=>
  unfold waitsT at hw
  rw[hoj]at hw
  simp only at hw
  rw[Array.any_eq_true']at hw
  obtain⟨e,he,h⟩:=hw
  simp only[Bool.and_eq_true,Bool.or_eq_true,beq_iff_eq]at h
  have hl:=hall e he h.1
  rcases h.2 with h2|h2
  ·rw[←h2];exact hl
  ·exact hd.waits n e.on i hl h2
theorem getD_set_mono{listed:Array Bool}{i j:Nat}(h:listed.getD j false=true):(listed.setIfInBounds i true).getD j false=true:=by
 by_cases e:i=j
 ·subst e
  rw[Array.getD_eq_getD_getElem?]at *
  rcases Nat.lt_or_ge i listed.size with h'|h'
  ·simp[h']
  ·rw[Array.getElem?_eq_none h']at h;cases h
 ·rw[getD_set_ne false e];exact h
theorem Down.add{listed:Array Bool}(hd:Down ops listed){j:Nat}(hj:j∈Region.ready md ops listed):Down ops (listed.setIfInBounds j true):=by
 intro p o ho hp e he hb
 obtain⟨hun,oj,hoj,hall⟩:=mem_ready.1 hj
 by_cases h:j=p
 ·subst h
  rw[hoj]at ho
  simp only[Option.some.injEq]at ho;subst ho
  exact getD_set_mono (hall e he hb)
 ·rw[getD_set_ne false h]at hp
  exact getD_set_mono (hd p o ho hp e he hb)
abbrev Conds:=Nat→(World→Prop)→Prop
def Conds.past(ops:Array Oper)(j:Nat)(𝒞:Conds):Conds:=fun q S=>𝒞 q S∧¬Waits ops j q
def Conds.add(𝒞:Conds)(i:Nat)(S:World→Prop):Conds:=fun q T=>𝒞 q T∨(q=i∧T=S)
def wpAnyM(P:Program)(ops:Array Oper)(Q:Exit→Act→World→Prop):Nat→Conds→Array Bool→Act→World→Prop
 |0,_,listed,a,w=>Region.ready md ops listed=[]∧Q .normal a w
 |fuel+1,𝒞,listed,a,w=>
  (Region.ready md ops listed=[]→Q .normal a w)∧
  ∀j∈Region.ready md ops listed,wpOp P ops Q j (fun a' w'=>(∀q S,𝒞.past ops j q S→S w')∧wpAnyM P ops Q fuel (𝒞.past ops j) (listed.setIfInBounds j true) a' w') a w
theorem wpAnyM_any:∀(fuel:Nat) (𝒞:Conds) (listed:Array Bool) (a:Act) (w:World),wpAnyM P ops Q fuel 𝒞 listed a w→wpAny P md ops Q fuel listed a w
 |0,_,_,_,_,h=>h
 |fuel+1,_,_,_,_,h=>⟨h.1,fun i hi=>wpOp_mono (fun a' w' h'=>wpAnyM_any fuel _ _ a' w' h'.2) (h.2 i hi)⟩
theorem wpAnyM_mono:∀(fuel:Nat) (𝒞 𝒞':Conds) (listed:Array Bool) (a:Act) (w:World),(∀q S,𝒞' q S→𝒞 q S)→wpAnyM P ops Q fuel 𝒞 listed a w→wpAnyM P ops Q fuel 𝒞' listed a w
 |0,_,_,_,_,_,_,h=>h
 |fuel+1,_,_,_,_,_,hs,h=>⟨h.1,fun i hi=>wpOp_mono (fun a' w' h'=>⟨fun q S hq=>h'.1 q S ⟨hs _ _ hq.1,hq.2⟩,wpAnyM_mono fuel _ _ _ a' w' (fun q S hq=>⟨hs _ _ hq.1,hq.2⟩) h'.2⟩) (h.2 i hi)⟩
theorem wpAnyM_first{i:Nat}{oi:Oper}{v:Value}{S:World→Prop}(hi:ops[i]? = some oi)(hsel:∀(j:Nat) (o:Oper) cs b,ops[j]? = some o→o.op≠.select cs b)
  (hQ:∀c a w,¬Q (.panic c) a w):
  ∀(fuel:Nat) (𝒞:Conds) (listed:Array Bool) (a:Act) (w:World),Down ops listed→
   (∀j oj,ops[j]? = some oj→j≠i→listed.getD j true=false→(∀e∈oj.after,Region.binds md e=true→e.on≠i)→oi.apart ops oj=true)→
   i∈Region.ready md ops listed→YieldsIf P ops S oi v a→S w→(∀q T,𝒞 q T→T w)→
   wpAnyM P ops Q fuel (𝒞.add i S) (listed.setIfInBounds i true) (a.put oi.dst v) w→wpAnyM P ops Q (fuel+1) 𝒞 listed a w:=by
 have hQ':∀c a w,Q (.panic c) (Act.put a oi.dst v) w→Q (.panic c) a w:=fun c a w h=>(hQ c _ w h).elim
 have hit:∀(fuel:Nat) (𝒞:Conds) (listed:Array Bool) (a:Act) (w:World),YieldsIf P ops S oi v a→S w→(∀q T,𝒞 q T→T w)→
   wpAnyM P ops Q fuel (𝒞.add i S) (listed.setIfInBounds i true) (a.put oi.dst v) w→
   wpOp P ops Q i (fun a' w'=>(∀q S,𝒞.past ops i q S→S w')∧wpAnyM P ops Q fuel (𝒞.past ops i) (listed.setIfInBounds i true) a' w') a w:=fun fuel 𝒞 listed a w hy hS hC H=>
  hy.wpOp hi hS ⟨fun q T hq=>hC q T hq.1,wpAnyM_mono fuel _ _ _ _ _ (fun q T hq=>.inl hq.1) H⟩
 intro fuel
 induction fuel with
 |zero=>
  intro 𝒞 listed a w hd _ hr hy hS hC H
  refine⟨fun h=>(by rw[h]at hr;cases hr),fun j hj=>?_⟩
  by_cases hji:j=i
  ·subst hji;exact hit 0 𝒞 listed a w hy hS hC H
  ·have:=ready_mono hj hji
   rw[H.1]at this
   cases this
 |succ fuel ih=>
  intro 𝒞 listed a w hd hfree hr hy hS hC H
  refine⟨fun h=>(by rw[h]at hr;cases hr),fun j hj=>?_⟩
  by_cases hji:j=i
  ·subst hji;exact hit _ 𝒞 listed a w hy hS hC H
  ·have h1:=H.2 j (ready_mono hj hji)
   obtain⟨hjun,oj,hoj,hall⟩:=mem_ready.1 hj
   have hiun:listed.getD i false=false:=getD_iff listed i (mem_ready.1 hr).1
   have hnw:¬Waits ops j i:=fun hw=>by
    have:=ready_waits hd hj hw
    rw[hiun]at this;cases this
   have hnot:∀e∈oj.after,Region.binds md e=true→e.on≠i:=fun e he hb heq=>by
    have h1:=hall e he hb
    rw[heq,hiun]at h1;cases h1
   have h2:=wpOp_putIf hoj (hfree j oj hoj hji hjun hnot) (fun cs b=>hsel i oi cs b hi) (fun cs b=>hsel j oj cs b hoj) hQ' hy h1
   have hfree':∀k ok,ops[k]? = some ok→k≠i→(listed.setIfInBounds j true).getD k true=false→
     (∀e∈ok.after,Region.binds md e=true→e.on≠i)→oi.apart ops ok=true:=fun k ok hk hki hun hno=>by
    refine hfree k ok hk hki ?_ hno
    by_cases hjk:j=k
    ·subst hjk;exact hjun
    ·rw[getD_set_ne true hjk]at hun;exact hun
   refine wpOp_mono (fun a' w' h3=>?_) h2
   obtain⟨hy',hc',hM⟩:=h3
   have hSw:S w':=hc' i S ⟨.inr ⟨rfl,rfl⟩,hnw⟩
   have hCw:∀q T,𝒞.past ops j q T→T w':=fun q T hq=>hc' q T ⟨.inl hq.1,hq.2⟩
   refine⟨hCw,ih (𝒞.past ops j) (listed.setIfInBounds j true) a' w' (hd.add hj) hfree' (ready_mono hr (Ne.symm hji)) hy' hSw hCw ?_⟩
   rw[Array.setIfInBounds_comm _ _ hji]
   refine wpAnyM_mono fuel _ _ _ _ _ (fun q T hq=>?_) hM
   rcases hq with hq|⟨rfl,rfl⟩
   ·exact⟨.inl hq.1,hq.2⟩
   ·exact⟨.inr ⟨rfl,rfl⟩,hnw⟩
theorem wpAnyM_done{𝒞:Conds}{listed:Array Bool}{a:Act}{w:World}(hr:Region.ready md ops listed=[])(h:Q .normal a w):
  ∀fuel,wpAnyM P ops Q fuel 𝒞 listed a w
 |0=>⟨hr,h⟩
 |_+1=>⟨fun _=>h,by rw[hr];simp⟩
theorem down_nil(n:Nat):Down ops (Array.replicate n false):=by
 intro p o _ h
 rw[Array.getD_eq_getD_getElem?,Array.getElem?_replicate]at h
 split at h<;>cases h
end Go.Dm
namespace Go.Dm
variable {P:Program} {E:Env} {C:CallT} {I:Nat→List V→List V→St→(V→St→Prop)→Prop}
variable {B0:Nat} {bx:List Nat} {W0:World} {ok0:Nat→Prop} {Z:Zr} {N:Nat}
variable {ok:Nat→Prop} {φ:Nat→Value} {s:St} {a:Act} {w:World}
theorem run_pick{x y c:Operand}{b:Bool}(h:a.eval c = .bool b)(w:World):
  (do pure (.value (if←asBool (a.eval c)then a.eval x else a.eval y)):Sem Next).run P w = .ok (.value (if b then a.eval x else a.eval y)) w:=by
 simp only[h,asBool,Sem.run_bind,Sem.run_pure,Result.andThen_ok]
theorem aOp_sound(hE:EnvOk P E)(hC:CallsOk P Z.gl C)(hI:IOk P Z.gl I)(r:Rel B0 bx W0 ok0 Z N ok φ s a w){g:List (Nat×Bool)}(hg:Holds a g){o:Oper}{K:V→St→Prop}(h:aOp E C I s g o K):
  OpRun P (execOp a.eval o) w (Pst B0 bx W0 ok0 Z N a (Frm (opKeys E s g o.op) φ s w) K):=by
 unfold aOp at h
 split at h
 ·rename_i c x y hop
  obtain⟨b,hb,v,s',h1,h2,h3,h4⟩:=aPick_sound r hg h
  refine OpRun.of_run (v:=if b then a.eval x else a.eval y) (w':=w) ?_ ⟨v,s',ok,φ,h1,h2,h3,Frm.same_hp h4⟩
  unfold execOp
  rw[hop]
  exact run_pick hb w
 all_goals first|exact aHeap_sound hE hC hI r hg h|exact opRun_val hE r hg h
def quietB:Op→Bool
 | .alloc .. | .box .. | .store .. | .buildSlice .. | .makeSlice .. =>false
 | .makeMap .. | .lookup .. | .mapUpdate .. | .insert .. =>false
 | .call {callee:=.builtin .append,..}=>false
 | .call {callee:=.builtin .clear,..}=>false
 | .call {callee:=.builtin .copy,..}=>false
 | .call {callee:=.value _,..}=>false
 |_=>true
theorem load_own(r:Rel B0 bx W0 ok0 Z N ok φ s a w){ti:TI}(hpos:0<ti.ck.length){c:V}{y:Value}(hv:VR ok φ s.hp w c y){K:V→Prop}(h:aLoad ti s c K){b:Nat}(hb:blockOf y=some b):
  b<w.heap.size∧∀k b',lk s.hp k=some b'→b'.active=true→blockOf (φ k)=some b→k∈addrKey c:=by
 have viaOk:ok b→b<w.heap.size∧∀k b',lk s.hp k=some b'→b'.active=true→blockOf (φ k)=some b→k∈addrKey c:=
  fun ho=>⟨r.okl b ho,fun k b' h1 h2 h3=>((r.act k b' b h1 h2 h3).1 ho).elim⟩
 have viaKey:∀j bj,lk s.hp j=some bj→bj.active=true→blockOf (φ j)=some b→j∈addrKey c→b<w.heap.size∧∀k b',lk s.hp k=some b'→b'.active=true→blockOf (φ k)=some b→k∈addrKey c:=by
  intro j bj h1 h2 h3 h4
  refine⟨(r.hp j bj h1).block_lt h2 h3,fun k b' h5 h6 h7=>?_⟩
  by_cases e:j=k
  ·subst e;exact h4
  ·exact(r.inj j k bj b' b e h1 h5 h2 h6 h3 h7).elim
 cases hv with
 | @ref k off g cs0 hb0 hφ=>
   simp[blockOf]at hb;subst hb
   exact viaKey k _ hb0 rfl (by rw[hφ];rfl) (by simp[addrKey])
 | @optr k i off g n cap sz es hb' hφ=>
   simp[blockOf]at hb;subst hb
   rcases hb' with⟨e,hb'⟩|hb'
   ·exact viaKey k _ hb' rfl (by rw[hφ];rfl) (by simp[addrKey])
   ·simp only[aLoad]at h
    rw[hb']at h
    obtain⟨cells,hi,_⟩:=h
    obtain⟨_,_,hrd,_⟩:=r.hp k _ hb'
    rw[hφ]at hrd
    have hlt:=(List.getElem?_eq_some_iff.1 hi).1
    cases hrd with
    |nul=>simp at hlt
    |sl sz x hcap hok hsz hc hr=>exact viaOk (hok (by rintro rfl;simp at hlt))
 | @dptr b' off cs x hok hc hr=>
   simp[blockOf]at hb;subst hb
   simp only[aLoad]at h
   obtain⟨l,hl,hcut,_⟩:=exK_some h
   obtain⟨hlen,_⟩:=cut_some hcut
   exact viaOk (hok (by intro hcs;rw[hcs]at hlen;simp only[List.length_nil]at hlen;omega))
 |_=>exact(h:False).elim
theorem conv_own(r:Rel B0 bx W0 ok0 Z N ok φ s a w){c:V}{y:Value}(hv:VR ok φ s.hp w c y){K:List (List D)→Prop}(h:aList c s K){b:Nat}(hb:readB y=some b):
  b<w.heap.size∧∀k b',lk s.hp k=some b'→b'.active=true→blockOf (φ k)=some b→k∈ownKey c:=by
 have viaOk:ok b→b<w.heap.size∧∀k b',lk s.hp k=some b'→b'.active=true→blockOf (φ k)=some b→k∈ownKey c:=
  fun ho=>⟨r.okl b ho,fun k b' h1 h2 h3=>((r.act k b' b h1 h2 h3).1 ho).elim⟩
 have viaRd:∀es,Rd ok w y (.sl es)→ok b:=fun es hrd=>by
  cases hrd with
  |nil=>cases hb
  |nul=>cases hb
  | @sl g off cap es sz x hcap hok hsz hc hr=>
    cases es with
    |nil=>cases hb
    |cons e es=>
     simp only[List.length_cons,readB,Option.some.injEq]at hb
     subst hb
     exact hok (by simp)
 cases hv with
 |nil=>cases hb
 | @own k sz0 es0 v hb0 hφ=>
   subst hφ
   simp only[aList]at h
   split at h
   ·rename_i e0 sz es hlk
    have hblk:blockOf (φ k)=some b:=by
     generalize φ k=u at hb
     cases u<;>first|exact hb|skip
     rename_i ad n cap
     cases ad with
     |none=>cases n<;>cases hb
     |some x=>cases n with
      |zero=>cases hb
      |succ n=>exact hb
    refine⟨(r.hp k _ hlk).block_lt rfl hblk,fun j b' h5 h6 h7=>?_⟩
    by_cases e:k=j
    ·subst e;simp[ownKey]
    ·exact(r.inj k j _ b' b e hlk h5 rfl h6 hblk h7).elim
   ·rename_i sz es hlk
    obtain⟨_,_,hrd,_⟩:=r.hp k _ hlk
    exact viaOk (viaRd es hrd)
   ·exact h.elim
 |d hrd=>
  obtain⟨es,rfl,hk⟩:=h
  exact viaOk (viaRd es hrd)
 | @vw k lo n g m cap cap' off sz0 es0 hb0 hφ hle hcap hoff=>
   simp only[aList]at h
   split at h
   ·rename_i e sz es hlk
    have hbg:b=g:=by
       cases n with
       |zero=>cases hb
       |succ n=>simp only[readB,Option.some.injEq]at hb;exact hb.symm
    subst hbg
    have hblk:blockOf (φ k)=some b:=by rw[hφ];rfl
    refine⟨(r.hp k _ hlk).block_lt rfl hblk,fun j b' h5 h6 h7=>?_⟩
    by_cases e:k=j
    ·subst e;simp[ownKey]
    ·exact(r.inj k j _ b' b e hlk h5 rfl h6 hblk h7).elim
   ·exact h.elim
 |_=>exact(h:False).elim
theorem aVal_quiet(hE:EnvOk P E)(r:Rel B0 bx W0 ok0 Z N ok φ s a w){g:List (Nat×Bool)}(hg:Holds a g){o:Oper}{K:V→Prop}(h:aVal E s g o.op K):
  ∃v v',∃X:Nat→Prop,(∀w₂,(∀b,X b→w₂.heap[b]? = w.heap[b]?)→(execOp a.eval o).run P w₂ = .ok (.value v') w₂)∧K v∧VR ok φ s.hp w v v'∧
   ∀b,X b→b<w.heap.size∧∀k b',lk s.hp k=some b'→b'.active=true→blockOf (φ k)=some b→k∈useKeys E s g o.op:=by
 by_cases hl:∃t x,o.op = .load t x
 ·obtain⟨t,x,hl⟩:=hl
  obtain⟨v,v',h1,h2,h3⟩:=aVal_sound hE r hg (o:=o) (A:=fun w₂=>∀b,blockOf (a.eval x)=some b→w₂.heap[b]? = w.heap[b]?) (fun x' h' w₂ hw b hb=>by
   rw[hl]at h';simp only[readOf,Option.some.injEq]at h';rw[←h']at hb
   refine hw b ?_
   have h0:=h
   rw[hl]at h0
   simp only[aVal]at h0
   split at h0
   ·rw[←load_readB (vr_ev r hg x) h0];exact hb
   ·exact h0.elim) h
  refine⟨v,v',fun b=>blockOf (a.eval x)=some b,h1,h2,h3,fun b hb=>?_⟩
  rw[hl]at h
  simp only[aVal]at h
  split at h
  ·rename_i ti hti
   have:=load_own r (hE.ti hti).pos (vr_ev r hg x) h hb
   rw[hl]
   exact this
  ·exact h.elim
 by_cases hc:∃t0 t x,o.op = .convert t0 t x
 ·obtain⟨t0,t,x,hc⟩:=hc
  obtain⟨v,v',h1,h2,h3⟩:=aVal_sound hE r hg (o:=o) (A:=fun w₂=>∀b,readB (a.eval x)=some b→w₂.heap[b]? = w.heap[b]?) (fun x' h' w₂ hw=>by rw[hc]at h';simp only[readOf,Option.some.injEq]at h';rw[←h'];exact hw) h
  refine⟨v,v',fun b=>readB (a.eval x)=some b,h1,h2,h3,fun b hb=>?_⟩
  rw[hc]
  rw[hc]at h
  simp only[aVal]at h
  split at h
  ·rename_i e2;rw[ev_int r hg e2]at hb;cases hb
  ·rename_i e2;rw[ev_int r hg e2]at hb;cases hb
  ·split at h
   ·exact conv_own r (vr_ev r hg x) h hb
   ·exact h.elim
  ·exact h.elim
 ·obtain⟨v,v',h1,h2,h3⟩:=aVal_sound hE r hg (o:=o) (A:=fun _=>True) (fun x h'=>by
   cases ho:o.op<;>rw[ho]at h'<;>simp only[readOf,reduceCtorEq]at h'
   ·exact(hl ⟨_,_,ho⟩).elim
   ·exact(hc ⟨_,_,_,ho⟩).elim) h
  exact⟨v,v',fun _=>False,fun w₂ _=>h1 w₂ trivial,h2,h3,fun b hb=>hb.elim⟩
theorem aOp_quiet(hE:EnvOk P E)(r:Rel B0 bx W0 ok0 Z N ok φ s a w){g:List (Nat×Bool)}(hg:Holds a g){o:Oper}(hq:quietB o.op=true){K:V→St→Prop}(h:aOp E C I s g o K):
  ∃v v' s',∃X:Nat→Prop,(∀w₂,(∀b,X b→w₂.heap[b]? = w.heap[b]?)→(execOp a.eval o).run P w₂ = .ok (.value v') w₂)∧K v s'∧Rel B0 bx W0 ok0 Z N ok φ s' a w∧VR ok φ s'.hp w v v'∧s'.hp=s.hp∧
   ∀b,X b→b<w.heap.size∧∀k b',lk s.hp k=some b'→b'.active=true→blockOf (φ k)=some b→k∈useKeys E s g o.op:=by
 unfold aOp at h
 split at h
 ·rename_i c x y hop
  obtain⟨b,hb,v,s',h1,h2,h3,h4⟩:=aPick_sound r hg h
  refine⟨v,if b then a.eval x else a.eval y,s',fun _=>False,fun w₂ _=>?_,h1,h2,h3,h4,fun b hb=>hb.elim⟩
  unfold execOp
  rw[hop]
  exact run_pick hb w₂
 all_goals first
  |(rename_i hop;rw[hop]at hq;cases hq;done)
  |skip
 ·obtain⟨v,v',X,h1,h2,h3,h4⟩:=aVal_quiet hE r hg h
  exact⟨v,v',s,X,h1,h2,r,h3,rfl,h4⟩
def After(B0:Nat)(bx:List Nat)(W0:World)(ok0:Nat→Prop)(Z:Zr)(N:Nat)(o:Oper)(a:Act)(φ:Nat→Value)(s:St)(w:World)(next:List Nat→St→Prop)(v':Value)(w':World):Prop:=
 ∃ks s' ok' φ',next ks s'∧Rel B0 bx W0 ok0 Z N ok' φ' s' (a.put o.dst v') w'∧Frm ks φ s w φ' s' w'
theorem hp_putO(s:St)(d:Option Nat)(v:V):(putO s d v).hp=s.hp:=by
 cases d with
 |none=>rfl
 |some d=>cases v<;>rfl
theorem hp_putGO(s:St)(d:Option Nat)(g:Nat×Bool)(v:V):(putGO s d g v).hp=s.hp:=by
 cases d with
 |none=>rfl
 |some d=>cases v<;>rfl
theorem Frm.hp_eq{T:List Nat}{φ':Nat→Value}{s0 s' s'':St}{w':World}(h:Frm T φ s0 w φ' s' w')(e:s''.hp=s'.hp):Frm T φ s0 w φ' s'' w':=
 ⟨h.size,h.same,fun k b' g h1=>h.own k b' g (by rw[←e];exact h1)⟩
theorem Frm.from_eq{T:List Nat}{φ':Nat→Value}{s0 s1 s':St}{w':World}(h:Frm T φ s1 w φ' s' w')(e:s1.hp=s0.hp):Frm T φ s0 w φ' s' w':=
 ⟨h.size,fun g hg hn=>h.same g hg (fun k b hk hb=>hn k b hk (by rw[←e];exact hb)),fun k b' g h1 h2 h3 h4=>by
  obtain⟨k0,b,e1,e2⟩:=h.own k b' g h1 h2 h3 h4
  exact⟨k0,b,by rw[←e];exact e1,e2⟩⟩
theorem opKeys_sub(s:St)(g:List (Nat×Bool))(op:Op):∀k∈opKeys E s g op,k∈useKeys E s g op:=by
 intro k hk
 cases op<;>first|exact hk|(simp[opKeys]at hk)
theorem wanted_iff{ops:Array Oper}{o:Oper}{j t:Nat}{want:Bool}(hg:o.guard=some (j,want))(ht:guardSlot ops.toList j=some t)(a:Act):
  Region.wanted o (yielded ops a.tmps)=true↔a.tmps.getD t undef = .bool want:=by
 have h1:(ops[j]?).bind (·.dst)=some t:=by
  unfold guardSlot at ht
  rw[nth_get]at ht
  simp only[Array.getElem?_toList]at ht
  split at ht
  ·rename_i o' ho;rw[ho];exact ht
  ·cases ht
 unfold Region.wanted
 rw[hg]
 simp only[yielded,h1,Option.bind_some]
 rw[Array.getD_eq_getD_getElem?]
 cases he:a.tmps[t]? with
 |none=>simp[undef]
 |some v=>cases v<;>simp
theorem run_put(hE:EnvOk P E)(hC:CallsOk P Z.gl C)(hI:IOk P Z.gl I){o:Oper}(hd:∀k,o.dst=some k→k<N){s1:St}(r:Rel B0 bx W0 ok0 Z N ok φ s1 a w)(hs1:s1.hp=s.hp){g:List (Nat×Bool)}(hg:Holds a g){next:List Nat→St→Prop}
  (h:aOp E C I s1 g o fun v s'=>next (useKeys E s1 g o.op) (putO s' o.dst v)):OpRun P (execOp a.eval o) w (After B0 bx W0 ok0 Z N o a φ s w next):=by
 refine(aOp_sound hE hC hI r hg h).mono fun v' w' hp=>?_
 obtain⟨v,s',ok',φ',h1,h2,h3,h4⟩:=hp
 exact⟨_,_,ok',φ',h1,h2.putO hd h3,((h4.mono (opKeys_sub s1 g o.op)).hp_eq (hp_putO _ _ _)).from_eq hs1⟩
theorem loadC_ex{ti:TI}{cells:List D}{off:Nat}{K:V→Prop}(h:loadC ti cells off K):∃v,K v:=by
 obtain⟨l,_,_,hk⟩:=exK_some h
 split at hk
 ·exact⟨_,hk⟩
 ·exact hk.elim
theorem aInt_ex{op:BinOp}{k:IntKind}{x y:Int}{K:V→Prop}(h:aInt op k x y K):∃v,K v:=by
 cases op<;>simp only[aInt]at h<;>first|exact⟨_,h⟩|exact⟨_,h.2⟩|exact h.elim
theorem aBin_ex{op:BinOp}{t:Nat}{x y:V}{K:V→Prop}(h:aBin E op t x y K):∃v,K v:=by
 unfold aBin at h
 split at h
 ·split at h
  ·exact aInt_ex h
  ·exact aInt_ex h
  ·exact aInt_ex h
  ·exact h.elim
 all_goals(repeat' split at h)<;>first|exact⟨_,h⟩|exact⟨_,h.2⟩|exact h.elim|exact⟨_,h false (fun h=>by cases h)⟩|exact(h false (fun h=>by cases h)).elim
theorem aLoad_ex{ti:TI}{c:V}{K:V→Prop}(h:aLoad ti s c K):∃v,K v:=by
 unfold aLoad at h
 split at h
 ·repeat' split at h
  all_goals first|exact⟨_,h⟩|exact h.elim
 ·split at h
  ·obtain⟨_,_,h⟩:=h;exact loadC_ex h
  ·obtain⟨_,_,h⟩:=h;exact loadC_ex h
  ·exact h.elim
 ·exact loadC_ex h
 ·exact h.elim
theorem aList_ex{c:V}{K:List (List D)→Prop}(h:aList c s K):∃v,K v:=by
 unfold aList at h
 split at h
 ·exact⟨_,h⟩
 ·split at h
  ·exact⟨_,h⟩
  ·exact⟨_,h⟩
  ·exact h.elim
 ·obtain⟨_,_,h⟩:=h;exact⟨_,h⟩
 ·split at h
  ·exact⟨_,h⟩
  ·exact h.elim
 ·exact h.elim
theorem aVal_ex{g:List (Nat×Bool)}{op:Op}(hs:specOp op=true)(hp:∀x y z,op≠.pick x y z){K:V→Prop}(h:aVal E s g op K):∃v,K v:=by
 cases op with
 |pick x y z=>exact(hp x y z rfl).elim
 |move x=>exact⟨_,h⟩
 |assign x=>exact⟨_,h⟩
 |load t x=>simp only[aVal]at h;split at h;exact aLoad_ex h;exact h.elim
 |binOp op t x y u=>
  simp only[aVal]at h
  split at h
  ·unfold aIfn at h;(repeat' split at h)<;>first|exact⟨_,h⟩|exact h.elim
  ·exact aBin_ex h
 |nilCheck x=>simp only[aVal]at h;split at h<;>first|exact⟨_,h⟩|exact h.elim
 |unOp op t x=>simp only[aVal]at h;split at h<;>first|exact⟨_,h⟩|exact h.elim
 |extract x i=>simp only[aVal]at h;(repeat' split at h)<;>first|exact⟨_,h⟩|exact h.elim
 |fieldAddr t x f=>simp only[aVal]at h;(repeat' split at h)<;>first|exact⟨_,h⟩|exact h.elim
 |field t x f=>simp only[aVal]at h;(repeat' split at h)<;>first|exact⟨_,h⟩|exact h.elim
 |call c=>
  obtain⟨callee,args,tys⟩:=c
  cases callee with
  |value f=>exact(h:False).elim
  |invoke x m=>exact(h:False).elim
  |builtin b=>
   cases b<;>first|exact(h:False).elim|(simp only[specOp]at hs;cases hs;done)|skip
   replace h:(match args.toList,tys.toList with
        |[x],[t]=>
         (match ev s g x,E.ti t with
          | .d (.v (.string b)),some {ck:=[.str],td:=.plain,..}=>K (.d (.v (.int .i64 b.size)))
          |v,some {td:=.slice _,..}=>aList v s fun es=>K (.d (.v (.int .i64 es.length)))
          |_,_=>False)
        |_,_=>False):=h
   split at h
   ·split at h
    ·exact⟨_,h⟩
    ·obtain⟨_,h⟩:=aList_ex h;exact⟨_,h⟩
    ·exact h.elim
   ·exact h.elim
 |_=>exact(by simp only[specOp]at hs;cases hs)
theorem aStep_sound(hE:EnvOk P E)(hC:CallsOk P Z.gl C)(hI:IOk P Z.gl I){ops:Array Oper}{o:Oper}(hd:∀k,o.dst=some k→k<N)(r:Rel B0 bx W0 ok0 Z N ok φ s a w){next:List Nat→St→Prop}
  (h:aStep E C I ops.toList o s next):
  (Region.wanted o (yielded ops a.tmps)=true∧OpRun P (execOp a.eval o) w (After B0 bx W0 ok0 Z N o a φ s w next))∨
  (Region.wanted o (yielded ops a.tmps)=false∧After B0 bx W0 ok0 Z N o a φ s w next undef w):=by
 unfold aStep at h
 split at h
 ·rename_i hg
  exact .inl ⟨by unfold Region.wanted;rw[hg],run_put hE hC hI hd r rfl (fun _ _ h=>by cases h) h⟩
 ·rename_i j want hg
  split at h
  ·exact h.elim
  rename_i t ht
  have hw:=wanted_iff hg ht a
  have hwf:a.tmps.getD t undef≠.bool want→Region.wanted o (yielded ops a.tmps)=false:=fun hn=>by
   cases hc:Region.wanted o (yielded ops a.tmps)
   ·rfl
   ·exact(hn (hw.1 hc)).elim
  have yes:∀s1:St,Rel B0 bx W0 ok0 Z N ok φ s1 a w→s1.hp=s.hp→a.tmps.getD t undef = .bool want→(aOp E C I s1 [(t,want)] o fun v s'=>next (useKeys E s1 [(t,want)] o.op) (putO s' o.dst v))→
    (Region.wanted o (yielded ops a.tmps)=true∧OpRun P (execOp a.eval o) w (After B0 bx W0 ok0 Z N o a φ s w next))∨
    (Region.wanted o (yielded ops a.tmps)=false∧After B0 bx W0 ok0 Z N o a φ s w next undef w):=fun s1 r1 hs1 ht h=>
   .inl ⟨hw.2 ht,run_put hE hC hI hd r1 hs1 (fun u b hm=>by simp at hm;obtain⟨rfl,rfl⟩:=hm;exact ht) h⟩
  have no:∀s1:St,Rel B0 bx W0 ok0 Z N ok φ s1 a w→s1.hp=s.hp→a.tmps.getD t undef≠.bool want→next [] (putO s1 o.dst .dead)→
    (Region.wanted o (yielded ops a.tmps)=true∧OpRun P (execOp a.eval o) w (After B0 bx W0 ok0 Z N o a φ s w next))∨
    (Region.wanted o (yielded ops a.tmps)=false∧After B0 bx W0 ok0 Z N o a φ s w next undef w):=fun s1 r1 hs1 ht h=>
   .inr ⟨hwf ht,_,_,ok,φ,h,r1.putO hd (.dead _),Frm.same_hp (by rw[hp_putO,hs1])⟩
  have split4:splitG 4 s t want (fun s1=>aOp E C I s1 [(t,want)] o fun v s'=>next (useKeys E s1 [(t,want)] o.op) (putO s' o.dst v)) (fun s1=>next [] (putO s1 o.dst .dead))→
    (Region.wanted o (yielded ops a.tmps)=true∧OpRun P (execOp a.eval o) w (After B0 bx W0 ok0 Z N o a φ s w next))∨
    (Region.wanted o (yielded ops a.tmps)=false∧After B0 bx W0 ok0 Z N o a φ s w next undef w):=fun h=>by
   rcases splitG_sound 4 r h with⟨h1,s1,h2,h3,h4⟩|⟨h1,s1,h2,h3,h4⟩
   ·exact yes s1 h3 h4 h1 h2
   ·exact no s1 h3 h4 h1 h2
  split at h
  ·rename_i b hb
   have hk:=r.kn t b hb
   split at h
   ·exact yes s r rfl hk h
   ·exact yes s r rfl hk h
   ·rename_i h1 h2
    have hne:a.tmps.getD t undef≠.bool want:=by
     rw[hk]
     cases b<;>cases want<;>simp_all
    split at h
    ·exact .inr ⟨hwf hne,_,_,ok,φ,h,r.putGO hd (.inr ⟨hne,rfl⟩),Frm.same_hp (by rw[hp_putGO])⟩
    ·exact no s r rfl hne h
  ·split at h
   ·rcases splitG_sound 12 r h with⟨h1,s1,h2,h3,h4⟩|⟨h1,s1,h2,h3,h4⟩
    ·exact yes s1 h3 h4 h1 h2
    ·exact .inr ⟨hwf h1,_,_,ok,φ,h2,h3.putGO hd (.inr ⟨h1,rfl⟩),Frm.same_hp (by rw[hp_putGO,h4])⟩
   split at h
   ·rename_i hspec
    split at h
    ·rename_i c x y hop
     split at h
     ·rename_i bx' by' bz' h1 h2 h3
      by_cases hc:a.tmps.getD t undef = .bool want
      ·refine .inl ⟨hw.2 hc,?_⟩
       have hgd:Holds a [(t,want)]:=fun u b hm=>by simp at hm;obtain⟨rfl,rfl⟩:=hm;exact hc
       have e1:=ev_int r hgd h1
       have hpk:∀(b z:Bool) (e:Operand),bx'=b→aStep.evPick s (t,want) c b e = .d (.v (.bool z))→a.eval e = .bool z:=fun b z e hb he=>by
        unfold aStep.evPick at he
        split at he
        ·rename_i u
         refine ev_int r (fun u' b' hm=>?_) he
         rcases List.mem_cons.1 hm with hm|hm
         ·simp at hm;obtain⟨rfl,rfl⟩:=hm;rw[←hb];exact e1
         ·exact hgd u' b' hm
        ·exact ev_int r hgd he
       refine OpRun.of_run (v:=.bool (cond bx' by' bz')) (w':=w) ?_ ⟨_,_,ok,φ,h,r.putGO hd (.inl ⟨hc,vr_bool _⟩),Frm.same_hp (by rw[hp_putGO])⟩
       unfold execOp
       rw[hop]
       have:=run_pick (P:=P) (x:=x) (y:=y) e1 w
       refine this.trans ?_
       cases bx'
       ·simp[hpk false bz' y rfl h3]
       ·simp[hpk true by' x rfl h2]
      ·exact .inr ⟨hwf hc,_,_,ok,φ,h,r.putGO hd (.inr ⟨hc,rfl⟩),Frm.same_hp (by rw[hp_putGO])⟩
     ·exact split4 h
    ·rename_i hnp
     obtain⟨v0,hv0⟩:=aVal_ex hspec (fun x y z h'=>hnp x y z h') h
     by_cases hc:a.tmps.getD t undef = .bool want
     ·refine .inl ⟨hw.2 hc,?_⟩
      have hgd:Holds a [(t,want)]:=fun u b hm=>by simp at hm;obtain⟨rfl,rfl⟩:=hm;exact hc
      obtain⟨v,v',h1,h2,h3⟩:=aVal_sound hE r hgd (o:=o) (A:=fun w₂=>w₂=w) (fun _ _ w₂ hw _ _=>by rw[hw]) h
      exact OpRun.of_run (h1 w rfl) ⟨_,_,ok,φ,h2,r.putGO hd (.inl ⟨hc,h3⟩),Frm.same_hp (by rw[hp_putGO])⟩
     ·exact .inr ⟨hwf hc,_,_,ok,φ,hv0,r.putGO hd (.inr ⟨hc,rfl⟩),Frm.same_hp (by rw[hp_putGO])⟩
   ·rename_i hspec
    split at h
    ·rename_i f args tys hop
     split at h
     ·obtain⟨hfn,⟨v0,hv0⟩,hcall⟩:=aCallB_sound hC r h
      by_cases hc:a.tmps.getD t undef = .bool want
      ·refine .inl ⟨hw.2 hc,?_⟩
       have hgd:Holds a [(t,want)]:=fun u b hm=>by simp at hm;obtain⟨rfl,rfl⟩:=hm;exact hc
       have hl:(args.map a.eval).toList.length=(evs s [(t,want)] args.toList).length:=by rw[evs_length];simp
       have h2:=hcall (args.map a.eval).toList hl (fun i c x h1 h2=>vr_evs r hgd args.toList i c x h1 (by simpa using h2))
       unfold OpRun execOp
       rw[hop]
       simp only
       rw[run_call_value hfn rfl]
       have e0:(args.map a.eval).toList.toArray=args.map a.eval ++ #[]:=by simp only[Array.toArray_toList,Array.append_empty]
       rw[e0]at h2
       refine h2.mono fun e w'' ⟨v',he,v,hK,hR,hV,hF⟩=>⟨v',he,_,_,ok,φ,hK,hR.putGO hd (.inl ⟨hc,hV⟩),hF.hp_eq (hp_putGO _ _ _ _)⟩
      ·exact .inr ⟨hwf hc,_,_,ok,φ,hv0,r.putGO hd (.inr ⟨hc,rfl⟩),Frm.same_hp (by rw[hp_putGO])⟩
     split at h
     ·obtain⟨hfn,⟨v0,hv0⟩,hcall⟩:=aCallPure_sound hC r h
      by_cases hc:a.tmps.getD t undef = .bool want
      ·refine .inl ⟨hw.2 hc,?_⟩
       have hgd:Holds a [(t,want)]:=fun u b hm=>by simp at hm;obtain⟨rfl,rfl⟩:=hm;exact hc
       have hl:(args.map a.eval).toList.length=(evs s [(t,want)] args.toList).length:=by rw[evs_length];simp
       have h2:=hcall (args.map a.eval).toList hl (fun i c x h1 h2=>vr_evs r hgd args.toList i c x h1 (by simpa using h2))
       unfold OpRun execOp
       rw[hop]
       simp only
       rw[run_call_value hfn rfl]
       have e0:(args.map a.eval).toList.toArray=args.map a.eval ++ #[]:=by simp only[Array.toArray_toList,Array.append_empty]
       rw[e0]at h2
       refine h2.mono fun e w'' ⟨v',he,v,ok',φ',hK,hR,hV,hF⟩=>⟨v',he,_,_,ok',φ',hK,hR.putGO hd (.inl ⟨hc,hV⟩),hF.hp_eq (hp_putGO _ _ _ _)⟩
      ·exact .inr ⟨hwf hc,_,_,ok,φ,hv0,r.putGO hd (.inr ⟨hc,rfl⟩),Frm.same_hp (by rw[hp_putGO])⟩
     ·exact split4 h
    ·exact split4 h
end Go.Dm
namespace Go.Dm
variable {P:Program} {E:Env} {C:CallT} {I:Nat→List V→List V→St→(V→St→Prop)→Prop}
variable {B0:Nat} {bx:List Nat} {W0:World} {ok0:Nat→Prop} {Z:Zr} {N:Nat}
theorem aOps_sound(hE:EnvOk P E)(hC:CallsOk P Z.gl C)(hI:IOk P Z.gl I){ops:Array Oper}(hd:∀(i:Nat) (o:Oper),ops[i]? = some o→∀k,o.dst=some k→k<N){Q:Exit→Act→World→Prop}{K:St→Prop}
  (hQ:∀ok φ s a w,Rel B0 bx W0 ok0 Z N ok φ s a w→K s→Q .normal a w):
  ∀(rest:List Oper) (i:Nat),(∀j,rest[j]? = ops[i+j]?)→∀(ok:Nat→Prop) (φ:Nat→Value) (s:St) (a:Act) (w:World),Rel B0 bx W0 ok0 Z N ok φ s a w→aOps E C I ops.toList rest s K→
   wpOps P ops Q (List.range' i rest.length) a w:=by
 intro rest
 induction rest with
 |nil=>intro i _ ok φ s a w r h;exact hQ ok φ s a w r h
 |cons o rest ih=>
  intro i hi ok φ s a w r h
  have ho:ops[i]? = some o:=by simpa using(hi 0).symm
  have hnext:∀v' w',After B0 bx W0 ok0 Z N o a φ s w (fun _ s=>aOps E C I ops.toList rest s K) v' w'→wpOps P ops Q (List.range' (i+1) rest.length) (a.put o.dst v') w':=fun v' w' ⟨_,s',ok',φ',h1,h2,_⟩=>
   ih (i+1) (fun j=>by have:=hi (j+1);simpa[Nat.add_assoc,Nat.add_comm 1 j]using this) ok' φ' s' _ w' h2 h1
  simp only[List.length_cons,List.range'_succ]
  unfold wpOps
  rw[ho]
  simp only
  rcases aStep_sound hE hC hI (hd i o ho) r h with⟨hw,hrun⟩|⟨hw,hrun⟩
  ·rw[if_pos hw]
   exact .inl (hrun.wp hnext)
  ·rw[if_neg (by rw[hw];simp)]
   exact hnext _ _ hrun
def QPost(P:Program)(B0:Nat)(bx:List Nat)(W0:World)(ok0:Nat→Prop)(Z:Zr)(N:Nat)(ops:Array Oper)(o:Oper)(ok:Nat→Prop)(φ:Nat→Value)(s:St)(a:Act)(w:World)(next:List Nat→St→Prop):Prop:=
 ∃v',∃X:Nat→Prop,((Region.wanted o (yielded ops a.tmps)=true∧∀w₂,(∀b,X b→w₂.heap[b]? = w.heap[b]?)→(execOp a.eval o).run P w₂ = .ok (.value v') w₂)∨(Region.wanted o (yielded ops a.tmps)=false∧v'=undef))∧
    ∃ks s',next ks s'∧Rel B0 bx W0 ok0 Z N ok φ s' (a.put o.dst v') w∧s'.hp=s.hp∧∀b,X b→b<w.heap.size∧∀k b',lk s.hp k=some b'→b'.active=true→blockOf (φ k)=some b→k∈ks
theorem aStep_quiet(hE:EnvOk P E){ops:Array Oper}{o:Oper}(hd:∀k,o.dst=some k→k<N)(hq:quietB o.op=true){ok:Nat→Prop}{φ:Nat→Value}{s:St}{a:Act}{w:World}(r:Rel B0 bx W0 ok0 Z N ok φ s a w){next:List Nat→St→Prop}
  (h:aStep E C I ops.toList o s next):
  QPost P B0 bx W0 ok0 Z N ops o ok φ s a w next:=by
 have exec:∀(s1:St),Rel B0 bx W0 ok0 Z N ok φ s1 a w→s1.hp=s.hp→∀g,Holds a g→Region.wanted o (yielded ops a.tmps)=true→(aOp E C I s1 g o fun v s'=>next (useKeys E s1 g o.op) (putO s' o.dst v))→
  QPost P B0 bx W0 ok0 Z N ops o ok φ s a w next:=by
  intro s1 r1 hs1 g hg hw h
  obtain⟨v,v',s',X,h1,h2,h3,h4,h5,h6⟩:=aOp_quiet hE r1 hg hq h
  exact⟨v',X,.inl ⟨hw,h1⟩,_,_,h2,h3.putO hd h4,by rw[hp_putO,h5,hs1],fun b hb=>by rw[←hs1];exact h6 b hb⟩
 have skip:∀(s1:St),Rel B0 bx W0 ok0 Z N ok φ s1 a w→s1.hp=s.hp→Region.wanted o (yielded ops a.tmps)=false→next [] (putO s1 o.dst .dead)→
  QPost P B0 bx W0 ok0 Z N ops o ok φ s a w next:=by
  intro s1 r1 hs1 hw h
  exact⟨undef,fun _=>False,.inr ⟨hw,rfl⟩,_,_,h,r1.putO hd (.dead _),by rw[hp_putO,hs1],fun b hb=>hb.elim⟩
 unfold aStep at h
 split at h
 ·rename_i hg
  exact exec s r rfl [] (fun _ _ h=>by cases h) (by unfold Region.wanted;rw[hg]) h
 ·rename_i j want hg
  split at h
  ·exact h.elim
  rename_i t ht
  have hw:=wanted_iff hg ht a
  have hwf:a.tmps.getD t undef≠.bool want→Region.wanted o (yielded ops a.tmps)=false:=fun hn=>by
   cases hc:Region.wanted o (yielded ops a.tmps)
   ·rfl
   ·exact(hn (hw.1 hc)).elim
  have hgd:a.tmps.getD t undef = .bool want→Holds a [(t,want)]:=fun hc u b hm=>by simp at hm;obtain⟨rfl,rfl⟩:=hm;exact hc
  have split4:splitG 4 s t want (fun s1=>aOp E C I s1 [(t,want)] o fun v s'=>next (useKeys E s1 [(t,want)] o.op) (putO s' o.dst v)) (fun s1=>next [] (putO s1 o.dst .dead))→QPost P B0 bx W0 ok0 Z N ops o ok φ s a w next:=fun h=>by
   rcases splitG_sound 4 r h with⟨h1,s1,h2,h3,h4⟩|⟨h1,s1,h2,h3,h4⟩
   ·exact exec s1 h3 h4 _ (hgd h1) (hw.2 h1) h2
   ·exact skip s1 h3 h4 (hwf h1) h2
  split at h
  ·rename_i b hb
   have hk:=r.kn t b hb
   split at h
   ·exact exec s r rfl _ (hgd hk) (hw.2 hk) h
   ·exact exec s r rfl _ (hgd hk) (hw.2 hk) h
   ·rename_i h1 h2
    have hne:a.tmps.getD t undef≠.bool want:=by
     rw[hk]
     cases b<;>cases want<;>simp_all
    split at h
    ·exact⟨undef,fun _=>False,.inr ⟨hwf hne,rfl⟩,_,_,h,r.putGO hd (.inr ⟨hne,rfl⟩),by rw[hp_putGO],fun b hb=>hb.elim⟩
    ·exact skip s r rfl (hwf hne) h
  ·split at h
   ·rcases splitG_sound 12 r h with⟨h1,s1,h2,h3,h4⟩|⟨h1,s1,h2,h3,h4⟩
    ·exact exec s1 h3 h4 _ (hgd h1) (hw.2 h1) h2
    ·exact⟨undef,fun _=>False,.inr ⟨hwf h1,rfl⟩,_,_,h2,h3.putGO hd (.inr ⟨h1,rfl⟩),by rw[hp_putGO,h4],fun b hb=>hb.elim⟩
   split at h
   ·rename_i hspec
    split at h
    ·rename_i c x y hop
     split at h
     ·rename_i bx' by' bz' h1 h2 h3
      by_cases hc:a.tmps.getD t undef = .bool want
      ·have e1:=ev_int r (hgd hc) h1
       have hpk:∀(b z:Bool) (e:Operand),bx'=b→aStep.evPick s (t,want) c b e = .d (.v (.bool z))→a.eval e = .bool z:=fun b z e hb he=>by
        unfold aStep.evPick at he
        split at he
        ·rename_i u
         refine ev_int r (fun u' b' hm=>?_) he
         rcases List.mem_cons.1 hm with hm|hm
         ·simp at hm;obtain⟨rfl,rfl⟩:=hm;rw[←hb];exact e1
         ·exact hgd hc u' b' hm
        ·exact ev_int r (hgd hc) he
       refine⟨.bool (cond bx' by' bz'),fun _=>False,.inl ⟨hw.2 hc,fun w₂ _=>?_⟩,_,_,h,r.putGO hd (.inl ⟨hc,vr_bool _⟩),by rw[hp_putGO],fun b hb=>hb.elim⟩
       unfold execOp
       rw[hop]
       have:=run_pick (P:=P) (x:=x) (y:=y) e1 w₂
       refine this.trans ?_
       cases bx'
       ·simp[hpk false bz' y rfl h3]
       ·simp[hpk true by' x rfl h2]
      ·exact⟨undef,fun _=>False,.inr ⟨hwf hc,rfl⟩,_,_,h,r.putGO hd (.inr ⟨hc,rfl⟩),by rw[hp_putGO],fun b hb=>hb.elim⟩
     ·exact split4 h
    ·rename_i hnp
     obtain⟨v0,hv0⟩:=aVal_ex hspec (fun x y z h'=>hnp x y z h') h
     by_cases hc:a.tmps.getD t undef = .bool want
     ·obtain⟨v,v',X,h1,h2,h3,h4⟩:=aVal_quiet hE r (hgd hc) (o:=o) h
      exact⟨v',X,.inl ⟨hw.2 hc,h1⟩,_,_,h2,r.putGO hd (.inl ⟨hc,h3⟩),by rw[hp_putGO],h4⟩
     ·exact⟨undef,fun _=>False,.inr ⟨hwf hc,rfl⟩,_,_,hv0,r.putGO hd (.inr ⟨hc,rfl⟩),by rw[hp_putGO],fun b hb=>hb.elim⟩
   ·rename_i hspec
    split at h
    ·rename_i f args tys hop
     rw[hop]at hq;cases hq
    ·exact split4 h
def altIs:Sched→List Nat
 | .one i _ _=>[i]
 | .alt i _ _ rest=>i::altIs rest
 |_=>[]
def opB(ops:Array Oper)(i:Nat):Bool:=match ops[i]? with|some o=>quietB o.op|none=>false
def schedB(ops:Array Oper):Sched→Nat→Bool→Array Bool→Bool
 | .done,_,top,listed=>top&&(Region.ready md ops listed).isEmpty
 | .q _ _,0,_,_=>false
 | .q i k,n+1,top,listed=>top&&opB ops i&&Region.free md ops listed i&&(Region.ready md ops listed).contains i&&schedB ops k n true (listed.setIfInBounds i true)
 | .one _ _ _,0,_,_=>false
 | .one i drop k,n+1,top,listed=>(!top||(Region.ready md ops listed).all fun j=>j==i)&&(Region.ready md ops listed).contains i&&drop.all (fun q=>waitsT ops ops.size i q)&&schedB ops k n true (listed.setIfInBounds i true)
 | .alt _ _ _ _,0,_,_=>false
 | .alt i drop k rest,n+1,top,listed=>(!top||(Region.ready md ops listed).all fun j=>(i::altIs rest).contains j)&&(Region.ready md ops listed).contains i&&drop.all (fun q=>waitsT ops ops.size i q)&&schedB ops k n true (listed.setIfInBounds i true)&&schedB ops rest (n+1) false listed
def InvR(𝒞:Conds)(rs:List (Nat×List Nat))(φ:Nat→Value)(s:St)(w:World):Prop:=
 ∀q S,𝒞 q S→∃ks,∃X:Nat→Prop,(q,ks)∈rs∧(∀w₂,(∀b,X b→w₂.heap[b]? = w.heap[b]?)→S w₂)∧∀b,X b→b<w.heap.size∧∀k b',lk s.hp k=some b'→b'.active=true→blockOf (φ k)=some b→k∈ks
theorem mem_dropR{drop:List Nat}{rs:List (Nat×List Nat)}{q:Nat}{ks:List Nat}(h:(q,ks)∈rs)(hn:q∉drop):(q,ks)∈dropR drop rs:=by
 induction rs with
 |nil=>cases h
 |cons p r ih=>
  obtain⟨q',ks'⟩:=p
  simp only[dropR]
  split
  ·rename_i hm
   rw[mem_iff]at hm
   rcases List.mem_cons.1 h with h|h
   ·simp at h;obtain⟨rfl,_⟩:=h;exact(hn hm).elim
   ·exact ih h
  ·rcases List.mem_cons.1 h with h|h
   ·rw[h];exact List.mem_cons_self
   ·exact List.mem_cons_of_mem _ (ih h)
theorem disjL_spec{ks l:List Nat}(h:disjL ks l=true):∀k∈ks,k∉l:=by
 induction ks with
 |nil=>intro k hk;cases hk
 |cons x r ih=>
  intro k hk hl
  simp only[disjL]at h
  split at h
  ·cases h
  ·rename_i hm
   rcases List.mem_cons.1 hk with rfl|hk
   ·rw[←mem_iff]at hl;rw[hl]at hm;cases hm
   ·exact ih h k hk hl
theorem disj_spec{ks:List Nat}{rs:List (Nat×List Nat)}(h:disj ks rs=true):∀q l,(q,l)∈rs→∀k∈ks,k∉l:=by
 induction rs with
 |nil=>intro q l hm;cases hm
 |cons p r ih=>
  obtain⟨q',l'⟩:=p
  intro q l hm
  simp only[disj]at h
  split at h
  ·rename_i h1
   rcases List.mem_cons.1 hm with hm|hm
   ·simp at hm;obtain⟨rfl,rfl⟩:=hm;exact disjL_spec h1
   ·exact ih h q l hm
  ·cases h
theorem InvR.step{ops:Array Oper}{i:Nat}{𝒞:Conds}{rs:List (Nat×List Nat)}{drop ks:List Nat}{φ φ':Nat→Value}{s s':St}{w w':World}(h:InvR 𝒞 rs φ s w)(hdrop:∀q∈drop,Waits ops i q)
  (hd:disj ks (dropR drop rs)=true) (hF:Frm ks φ s w φ' s' w'):InvR (𝒞.past ops i) (dropR drop rs) φ' s' w'∧∀q S,𝒞.past ops i q S→S w':=by
 have key:∀q S,𝒞.past ops i q S→∃l,∃X:Nat→Prop,(q,l)∈dropR drop rs∧(∀w₂,(∀b,X b→w₂.heap[b]? = w.heap[b]?)→S w₂)∧(∀b,X b→b<w.heap.size∧∀k b',lk s.hp k=some b'→b'.active=true→blockOf (φ k)=some b→k∈l)∧
   ∀b,X b→w'.heap[b]? = w.heap[b]?:=by
  intro q S hq
  obtain⟨l,X,h1,h2,h3⟩:=h q S hq.1
  have hm:=mem_dropR h1 (fun hm=>hq.2 (hdrop q hm))
  refine⟨l,X,hm,h2,h3,fun b hb=>hF.same b (h3 b hb).1 fun k b' hk hb' ha he=>?_⟩
  exact disj_spec hd q l hm k hk ((h3 b hb).2 k b' hb' ha he)
 refine⟨fun q S hq=>?_,fun q S hq=>?_⟩
 ·obtain⟨l,X,h1,h2,h3,h4⟩:=key q S hq
  refine⟨l,X,h1,fun w₂ hw=>h2 w₂ fun b hb=>(hw b hb).trans (h4 b hb),fun b hb=>⟨Nat.lt_of_lt_of_le (h3 b hb).1 hF.size,fun k b' hk ha he=>?_⟩⟩
  obtain⟨k0,b0,e1,e2,e3,e4⟩:=hF.own k b' b hk ha he (h3 b hb).1
  have hl:=(h3 b hb).2 k0 b0 e1 e2 e3
  rcases e4 with rfl|e4
  ·exact hl
  ·exact(disj_spec hd q l h1 k0 e4 hl).elim
 ·obtain⟨l,X,h1,h2,h3,h4⟩:=key q S hq
  exact h2 w' h4
theorem aOne_sound(hE:EnvOk P E)(hC:CallsOk P Z.gl C)(hI:IOk P Z.gl I){ops:Array Oper}(hd:∀(i:Nat) (o:Oper),ops[i]? = some o→∀k,o.dst=some k→k<N){Q:Exit→Act→World→Prop}{K:St→Prop}
  {i:Nat} {drop:List Nat} {k:Sched} {listed:Array Bool} {𝒞:Conds} {rs:List (Nat×List Nat)} {ok:Nat→Prop} {φ:Nat→Value} {s:St} {a:Act} {w:World} (hdn:Down ops listed) (hinv:InvR 𝒞 rs φ s w) (r:Rel B0 bx W0 ok0 Z N ok φ s a w)
  (h:(match nth ops.toList i with
   |none=>False
   |some o=>aStep E C I ops.toList o s fun ks s=>match disj ks (dropR drop rs)with|true=>aAny E C I ops.toList K k (dropR drop rs) s|false=>False))
  (n:Nat) (ih:∀(𝒞:Conds) (rs:List (Nat×List Nat)) (ok:Nat→Prop) (φ:Nat→Value) (s:St) (a:Act) (w:World),Down ops (listed.setIfInBounds i true)→InvR 𝒞 rs φ s w→
   Rel B0 bx W0 ok0 Z N ok φ s a w→aAny E C I ops.toList K k rs s→wpAnyM P ops Q n 𝒞 (listed.setIfInBounds i true) a w)
  (hdrop:∀q∈drop,Waits ops i q) (hready:i∈Region.ready md ops listed):
  wpOp P ops Q i (fun a' w'=>(∀q S,𝒞.past ops i q S→S w')∧wpAnyM P ops Q n (𝒞.past ops i) (listed.setIfInBounds i true) a' w') a w:=by
 split at h
 ·exact h.elim
 rename_i o ho
 rw[nth_get]at ho
 have ho:ops[i]? = some o:=by simpa using ho
 have hnext:∀v' w',After B0 bx W0 ok0 Z N o a φ s w (fun ks s=>match disj ks (dropR drop rs)with|true=>aAny E C I ops.toList K k (dropR drop rs) s|false=>False) v' w'→
   (∀q S,𝒞.past ops i q S→S w')∧wpAnyM P ops Q n (𝒞.past ops i) (listed.setIfInBounds i true) (a.put o.dst v') w':=fun v' w' ⟨ks,s',ok',φ',h1,h2,h3⟩=>by
  dsimp only at h1
  split at h1
  ·rename_i hdis
   obtain⟨i1,i2⟩:=hinv.step hdrop hdis h3
   exact⟨i2,ih _ _ ok' φ' s' _ w' (hdn.add hready) i1 h2 h1⟩
  ·exact h1.elim
 unfold wpOp
 rw[ho]
 simp only
 rcases aStep_sound hE hC hI (hd i o ho) r h with⟨hw,hrun⟩|⟨hw,hrun⟩
 ·rw[if_pos hw]
  exact .inl (hrun.wp hnext)
 ·rw[if_neg (by rw[hw];simp)]
  exact hnext _ _ hrun
theorem Rel.drew{ok:Nat→Prop}{φ:Nat→Value}{s:St}{a:Act}{w:World}(r:Rel B0 bx W0 ok0 Z N ok φ s a w):Rel B0 bx W0 ok0 Z N ok φ s a {w with drawn:=w.drawn+1}:=by
 have:=r.step (w':={w with drawn:=w.drawn+1}) (φ':=φ) (ok':=ok) (hp':=s.hp) (fun _=>False) (fun _ h=>h.elim) (fun _ h=>h) (fun _ _=>rfl) (fun _ _ _=>rfl) (fun k _=>Sim.refl _ k)
  (fun k b hb=>(r.hp k b hb).keep (fun _=>False) (fun _ _ h=>h.elim) (fun _ h=>h) (fun _ _=>rfl) (fun _ _ _=>rfl) (fun k _=>Sim.refl _ k) (fun _ _ _=>rfl)) r.act r.inj r.one r.okl r.oks ⟨rfl,rfl,rfl,Nat.le_refl _,fun _ _ _=>rfl⟩
 exact this
theorem aAny_sound(hE:EnvOk P E)(hC:CallsOk P Z.gl C)(hI:IOk P Z.gl I){ops:Array Oper}(hsel:Region.noSelect ops=true)(hd:∀(i:Nat) (o:Oper),ops[i]? = some o→∀k,o.dst=some k→k<N){Q:Exit→Act→World→Prop}{K:St→Prop}
  (hQ:∀ok φ s a w,Rel B0 bx W0 ok0 Z N ok φ s a w→K s→Q .normal a w) (hQp:∀c a w,¬Q (.panic c) a w):
  ∀(sch:Sched) (n:Nat) (listed:Array Bool) (𝒞:Conds) (rs:List (Nat×List Nat)) (ok:Nat→Prop) (φ:Nat→Value) (s:St) (a:Act) (w:World),Down ops listed→InvR 𝒞 rs φ s w→
   Rel B0 bx W0 ok0 Z N ok φ s a w→aAny E C I ops.toList K sch rs s→
   (schedB ops sch n true listed=true→wpAnyM P ops Q n 𝒞 listed a w)∧
   (schedB ops sch n false listed=true→∃m,n=m+1∧∀i∈altIs sch,i∈Region.ready md ops listed→wpOp P ops Q i (fun a' w'=>(∀q S,𝒞.past ops i q S→S w')∧wpAnyM P ops Q m (𝒞.past ops i) (listed.setIfInBounds i true) a' w') a w):=by
 intro sch
 induction sch with
 |done=>
  intro n listed 𝒞 rs ok φ s a w hdn hinv r h
  refine⟨fun hs=>?_,fun hs=>by simp[schedB]at hs⟩
  simp only[schedB,Bool.true_and,List.isEmpty_iff]at hs
  exact wpAnyM_done hs (hQ ok φ s a w r h) n
 |q i k ih=>
  intro n listed 𝒞 rs ok φ s a w hdn hinv r h
  cases n with
  |zero=>exact⟨fun hs=>by simp[schedB]at hs,fun hs=>by simp[schedB]at hs⟩
  |succ n=>
   refine⟨fun hs=>?_,fun hs=>by simp[schedB]at hs⟩
   simp only[schedB,Bool.true_and,Bool.and_eq_true]at hs
   obtain⟨⟨⟨hq,hf⟩,hr⟩,hk⟩:=hs
   simp only[aAny]at h
   split at h
   ·exact h.elim
   rename_i o ho
   rw[nth_get]at ho
   have ho:ops[i]? = some o:=by simpa using ho
   have hq:quietB o.op=true:=by unfold opB at hq;rw[ho]at hq;exact hq
   obtain⟨v',X,hy,ks,s',h1,h2,h3,h4⟩:=aStep_quiet hE (hd i o ho) hq r h
   have hready:i∈Region.ready md ops listed:=by simpa using hr
   refine wpAnyM_first (S:=fun w₂=>∀b,X b→w₂.heap[b]? = w.heap[b]?) ho (Region.noSelect_spec hsel) hQp n 𝒞 listed a w hdn (Region.free_spec ho hf) hready hy (fun _ _=>rfl) (fun q T hq'=>?_) ?_
   ·obtain⟨_,_,_,e,_⟩:=hinv q T hq'
    exact e w fun _ _=>rfl
   ·refine(ih n _ _ ((i,ks)::rs) ok φ s' _ w (hdn.add hready) (fun q T hq'=>?_) h2 h1).1 hk
    rcases hq' with hq'|⟨rfl,rfl⟩
    ·obtain⟨l,Y,e1,e2,e3⟩:=hinv q T hq'
     exact⟨l,Y,List.mem_cons_of_mem _ e1,e2,by rw[h3];exact e3⟩
    ·exact⟨ks,X,List.mem_cons_self,fun w₂ hw=>hw,by rw[h3];exact h4⟩
 |one i drop k ih=>
  intro n listed 𝒞 rs ok φ s a w hdn hinv r h
  cases n with
  |zero=>exact⟨fun hs=>by simp[schedB]at hs,fun hs=>by simp[schedB]at hs⟩
  |succ n=>
   have step:=fun hk=>aOne_sound (Q:=Q) (K:=K) (drop:=drop) (k:=k) hE hC hI hd hdn hinv r h n (fun 𝒞 rs ok φ s a w h1 h2 h3 h4=>(ih n _ 𝒞 rs ok φ s a w h1 h2 h3 h4).1 hk)
   refine⟨fun hs=>?_,fun hs=>⟨n,rfl,fun j hj hready=>?_⟩⟩
   ·simp only[schedB,Bool.not_true,Bool.false_or,Bool.and_eq_true,List.all_eq_true,beq_iff_eq]at hs
    obtain⟨⟨⟨h1,h0⟩,h2⟩,h3⟩:=hs
    refine⟨fun he=>?_,fun j hj=>?_⟩
    ·rw[he]at h0;simp at h0
    ·have:=h1 j hj
     subst this
     exact step h3 (fun q hq=>⟨_,h2 q hq⟩) hj
   ·simp only[schedB,Bool.not_false,Bool.true_or,Bool.true_and,Bool.and_eq_true,List.all_eq_true]at hs
    simp only[altIs,List.mem_singleton]at hj
    subst hj
    exact step hs.2 (fun q hq=>⟨_,hs.1.2 q hq⟩) hready
 |alt i drop k rest ih1 ih2=>
  intro n listed 𝒞 rs ok φ s a w hdn hinv r h
  cases n with
  |zero=>exact⟨fun hs=>by simp[schedB]at hs,fun hs=>by simp[schedB]at hs⟩
  |succ n=>
   have step:=fun hk=>aOne_sound (Q:=Q) (K:=K) (drop:=drop) (k:=k) hE hC hI hd hdn hinv r h.1 n (fun 𝒞 rs ok φ s a w h1 h2 h3 h4=>(ih1 n _ 𝒞 rs ok φ s a w h1 h2 h3 h4).1 hk)
   have all:schedB ops k n true (listed.setIfInBounds i true)=true→(∀q∈drop,waitsT ops ops.size i q=true)→schedB ops rest (n+1) false listed=true→∀j∈i::altIs rest,j∈Region.ready md ops listed→
        wpOp P ops Q j (fun a' w'=>(∀q S,𝒞.past ops j q S→S w')∧wpAnyM P ops Q n (𝒞.past ops j) (listed.setIfInBounds j true) a' w') a w:=by
      intro h1 h2 h3 j hj hready
      rcases List.mem_cons.1 hj with rfl|hj
      ·exact step h1 (fun q hq=>⟨_,h2 q hq⟩) hready
      ·obtain⟨m,hm,hall⟩:=(ih2 (n+1) listed 𝒞 rs ok φ s a w hdn hinv r h.2).2 h3
       simp only[Nat.add_right_cancel_iff]at hm
       subst hm
       exact hall j hj hready
   refine⟨fun hs=>?_,fun hs=>⟨n,rfl,fun j hj hready=>?_⟩⟩
   ·simp only[schedB,Bool.not_true,Bool.false_or,Bool.and_eq_true,List.all_eq_true]at hs
    obtain⟨⟨⟨⟨h1,h0⟩,h2⟩,h3⟩,h4⟩:=hs
    refine⟨fun he=>?_,fun j hj=>?_⟩
    ·rw[he]at h0;simp at h0
    ·exact all h3 h2 h4 j (by have:=h1 j hj;rw[List.contains_iff_mem]at this;exact this) hj
   ·simp only[schedB,Bool.not_false,Bool.true_or,Bool.true_and,Bool.and_eq_true,List.all_eq_true]at hs
    exact all hs.1.2 hs.1.1.2 hs.2 j hj hready
theorem region_any(hE:EnvOk P E)(hC:CallsOk P Z.gl C)(hI:IOk P Z.gl I)(hm:P.follows .mixedOrders=true){ops:Array Oper}(hsel:Region.noSelect ops=true)(hd:∀(i:Nat) (o:Oper),ops[i]? = some o→∀k,o.dst=some k→k<N){Q:Exit→Act→World→Prop}{K:St→Prop}
  (hQ:∀ok φ s a w,Rel B0 bx W0 ok0 Z N ok φ s a w→K s→Q .normal a w) (hQp:∀c a w,¬Q (.panic c) a w) {sch:Sched} (hs:schedB ops sch ops.size true (Array.replicate ops.size false)=true)
  {ok:Nat→Prop} {φ:Nat→Value} {s:St} {a:Act} {w:World} (r:Rel B0 bx W0 ok0 Z N ok φ s a w) (h:aAny E C I ops.toList K sch [] s) (t:Nat):wpOps P ops Q (Region.schedule (P.follows .mixedOrders) ops t) a {w with drawn:=w.drawn+1}:=by
 have r':Rel B0 bx W0 ok0 Z N ok φ s a {w with drawn:=w.drawn+1}:=r.drew
 simp only[Region.schedule,hm,Bool.true_or,if_true]
 exact wpAny_sound ops.size t _ a _ (wpAnyM_any _ (fun _ _=>False) _ _ _ ((aAny_sound hE hC hI hsel hd hQ hQp sch ops.size _ _ [] ok φ s a _ (down_nil _) (fun q S h=>h.elim) r' h).1 hs))
end Go.Dm
namespace Go.Dm
variable {P:Program} {E:Env} {C:CallT} {I:Nat→List V→List V→St→(V→St→Prop)→Prop}
variable {B0:Nat} {bx:List Nat} {W0:World} {ok0:Nat→Prop} {Z:Zr} {N:Nat}
def dstB(N:Nat)(ops:Array Oper):Bool:=ops.all fun o=>match o.dst with|some k=>decide (k<N)|none=>true
def noDefB(ops:Array Oper):Bool:=ops.all fun o=>match o.op with | .defer _=>false|_=>true
theorem noDefB_spec{ops:Array Oper}(h:noDefB ops=true):∀(i:Nat) (o:Oper),ops[i]? = some o→∀c,o.op≠.defer c:=by
 intro i o ho c hc
 have:=Array.all_eq_true_iff_forall_mem.1 h o (Array.mem_of_getElem? ho)
 rw[hc]at this
 simp at this
def codeB(N:Nat)(sc:List (Nat×Sched))(inR:Bool):Code→Bool
 | .region _ ops false=>dstB N ops&&noDefB ops
 | .region id ops true=>dstB N ops&&noDefB ops&&Region.noSelect ops&&(match lk sc id with|none=>false|some sch=>schedB ops sch ops.size true (Array.replicate ops.size false))
 | .seq a b=>codeB N sc inR a&&codeB N sc inR b
 | .cond _ a b=>codeB N sc inR a&&codeB N sc inR b
 | .block _ b=>codeB N sc inR b
 | .loop b=>codeB N sc inR b
 | .rangeFunc _ ps a b=>!inR&&ps.all (fun p=>decide (p<N))&&codeB N sc true a&&codeB N sc true b
 |_=>true
theorem dstB_spec{ops:Array Oper}(h:dstB N ops=true):∀(i:Nat) (o:Oper),ops[i]? = some o→∀k,o.dst=some k→k<N:=by
 intro i o ho k hk
 have:=Array.all_eq_true_iff_forall_mem.1 h o (Array.mem_of_getElem? ho)
 rw[hk]at this
 simpa using this
def Qof(B0:Nat)(bx:List Nat)(W0:World)(ok0:Nat→Prop)(Z:Zr)(N:Nat)(K:Ex→St→Prop)(e:Exit)(a:Act)(w:World):Prop:=
 ∃ok φ s,Rel B0 bx W0 ok0 Z N ok φ s a w∧match e with | .normal=>K .normal s | .exit i=>K (.exit i) s | .ret=>K .ret s|_=>False
theorem aCond_sound{ok:Nat→Prop}{φ:Nat→Value}{s:St}{a:Act}{w:World}(r:Rel B0 bx W0 ok0 Z N ok φ s a w){c:Operand}{X Y:St→Prop}(h:aCond s c X Y):
  ∃b,a.eval c = .bool b∧∃s',Rel B0 bx W0 ok0 Z N ok φ s' a w∧(if b then X s' else Y s'):=by
 unfold aCond at h
 split at h
 ·rename_i t
  split at h
  ·rename_i hk;exact⟨true,r.kn t _ hk,s,r,h⟩
  ·rename_i hk;exact⟨false,r.kn t _ hk,s,r,h⟩
  ·split at h
   ·rename_i b hb
    have hb':a.tmps.getD t undef = .bool b:=vr_v (r.tm t _ hb)
    refine⟨b,hb',s.know t b,r.know hb',?_⟩
    cases b
    ·exact h.2 rfl
    ·exact h.1 rfl
   ·exact h.elim
 ·exact⟨true,rfl,s,r,h⟩
 ·exact⟨false,rfl,s,r,h⟩
 ·exact h.elim
theorem least{p:Nat→Prop}(h:∃n,p n):∃n,p n∧∀m,p m→n≤m:=by
 obtain⟨n,hn⟩:=h
 induction n using Nat.strongRecOn with
 |_ n ih=>
  by_cases hx:∃m,m<n∧p m
  ·obtain⟨m,hm,hp⟩:=hx;exact ih m hm hp
  ·exact⟨n,hn,fun m hp=>Nat.le_of_not_lt fun hlt=>hx ⟨m,hlt,hp⟩⟩
open Classical in
noncomputable def least?(p:Nat→Prop):Nat:=if h:∃n,p n then(least h).choose else 0
theorem least?_spec{p:Nat→Prop}(h:∃n,p n):p (least? p)∧∀m,p m→least? p≤m:=by
 unfold least?
 rw[dif_pos h]
 exact(least h).choose_spec
theorem Rel.drop{ok:Nat→Prop}{φ:Nat→Value}{s:St}{a:Act}{w:World}(r:Rel B0 bx W0 ok0 Z N ok φ s a w){k:Nat}(hk:k<100000):Rel B0 bx W0 ok0 Z N ok φ (s.drop k) a w:=by
 have rs:=r.strike k
 have hnn:=noName_strike s k
 have hne:∀j,k≠j→lk (rm (s.strike k).hp k) j=lk (s.strike k).hp j:=fun j h=>by rw[lk_rm,if_neg h]
 have hsome:∀j b,lk (rm (s.strike k).hp k) j=some b→k≠j∧lk (s.strike k).hp j=some b:=fun j b h=>by
  rw[lk_rm]at h
  split at h
  ·cases h
  ·rename_i e;exact⟨e,h⟩
 have h4:∀j,¬(j=k)→Sim (s.strike k).hp (rm (s.strike k).hp k) j:=fun j hj=>by
  unfold Sim;rw[hne j (Ne.symm hj)];exact Sim.refl _ j
 have:=rs.step' (fun _ h=>h) (φ':=φ) (w':=w) (ok':=ok) (hp':=rm (s.strike k).hp k) (fun j=>j=k) (fun j hj=>by cases hj;exact hnn) (fun _ h=>h) (fun _ _=>rfl) (fun _ _ _=>rfl) h4
  (fun j b hb=>by
   obtain⟨e,hb'⟩:=hsome j b hb
   exact(rs.hp j b hb').keep (fun i=>i=k) (fun i cs hi hbox=>by cases hi;subst hbox;exact hnn.hp j cs hb') (fun _ h=>h) (fun _ _=>rfl) (fun _ _ _=>rfl) h4 (fun _ _ _=>rfl) (fun i es hi hm=>by cases hi;subst hm;exact hnn.mp j es hb'))
  (fun j b g hb=>rs.act j b g (hsome j b hb).2) (fun j j' b b' g hn hb hb'=>rs.inj j j' b b' g hn (hsome j b hb).2 (hsome j' b' hb').2) rs.one rs.okl rs.oks (Upd.refl _ _ _)
  (fun i g hi=>by
   obtain⟨e1,cs,e2⟩:=rs.pin i g hi
   exact⟨e1,cs,by rw[hne _ (by omega)];exact e2⟩)
 exact this
theorem Rel.dropL(l:List Nat):∀{ok:Nat→Prop} {φ:Nat→Value} {s:St} {a:Act} {w:World},Rel B0 bx W0 ok0 Z N ok φ s a w→Rel B0 bx W0 ok0 Z N ok φ (Dm.dropL l s) a w:=by
 induction l with
 |nil=>intro ok φ s a w r;exact r
 |cons k l ih=>
  intro ok φ s a w r
  simp only[Dm.dropL]
  split
  ·exact ih r
  ·rename_i h
   exact ih (r.drop (by
    rcases Nat.lt_or_ge k 100000 with h'|h'
    ·exact h'
    ·rw[Nat.ble_eq_true_of_le h']at h;cases h))
theorem lk_killBut(live:List Nat)(tm:List (Nat×V))(t:Nat)(x:V)(h:lk (killBut live tm) t=some x):lk tm t=some x:=by
 have hnone:∀tm:List (Nat×V),mem live t=false→lk (killBut live tm) t=none:=by
  intro tm hm
  induction tm with
  |nil=>rfl
  |cons p r ih=>
   obtain⟨a,y⟩:=p
   simp only[killBut]
   split
   ·rename_i hm'
    have:a≠t:=by rintro rfl;rw[hm]at hm';cases hm'
    simp only[lk,beq_false.2 this];exact ih
   ·exact ih
 have hsame:mem live t=true→∀tm:List (Nat×V),lk (killBut live tm) t=lk tm t:=by
  intro hm tm
  induction tm with
  |nil=>rfl
  |cons p r ih=>
   obtain⟨a,y⟩:=p
   simp only[killBut]
   by_cases e:a=t
   ·subst e;rw[hm];simp[lk]
   ·split
    ·simp only[lk,beq_false.2 e];exact ih
    ·simp only[lk,beq_false.2 e];exact ih
 cases hm:mem live t
 ·rw[hnone tm hm]at h;cases h
 ·rw[hsame hm tm]at h;exact h
theorem Rel.clean{ok:Nat→Prop}{φ:Nat→Value}{s:St}{a:Act}{w:World}(r:Rel B0 bx W0 ok0 Z N ok φ s a w)(live dk:List Nat):Rel B0 bx W0 ok0 Z N ok φ (Dm.clean live dk s) a w:=by
 have h:=r.dropL dk
 exact {h with
  tm:=fun t x hx=>h.tm t x (lk_killBut live _ t x hx)
  gd:=fun t t' w' x hx=>by simp[Dm.clean,lk]at hx
  gu:=fun t t' w' b hx=>by simp[Dm.clean,lk]at hx
  kn:=fun t b hx=>by simp[Dm.clean,lk]at hx}
theorem setAt_eq{α:Type}(n:Nat)(y:α)(l:List α):setAt n y l=l.set n y:=by
 induction l generalizing n with
 |nil=>cases n<;>rfl
 |cons x r ih=>cases n with
  |zero=>rfl
  |succ n=>simp[setAt,ih]
theorem sim_ne(hp:List (Nat×B)){b k:Nat}(x:B)(e:b≠k):Sim hp (pt hp b x) k:=by
 have:lk (pt hp b x) k=lk hp k:=by rw[lk_pt,if_neg e]
 unfold Sim
 rw[this]
 exact Sim.refl hp k
theorem Rel.own0{ok:Nat→Prop}{φ:Nat→Value}{s:St}{a:Act}{w:World}(r:Rel B0 bx W0 ok0 Z N ok φ s a w){key e sz:Nat}(hk:lk s.hp key=none)(hsz:0<sz):
  Rel B0 bx W0 ok0 Z N ok (updF φ key (.slice none 0 0)) (s.setB key (.lst e sz [])) a w∧
  (∀c v,VR ok φ s.hp w c v→VR ok (updF φ key (.slice none 0 0)) (pt s.hp key (.lst e sz [])) w c v):=by
 have h3:∀k,¬False→lk s.hp k≠none→updF φ key (.slice none 0 0) k=φ k:=fun k _ hn=>by simp only[updF];rw[if_neg (by rintro rfl;exact hn hk)]
 have h4:∀k,¬False→Sim s.hp (pt s.hp key (.lst e sz [])) k:=fun k _=>by
  unfold Sim
  rw[lk_pt]
  by_cases h:key=k
  ·subst h;rw[hk];trivial
  ·rw[if_neg h];exact Sim.refl s.hp k
 refine⟨r.step (fun _=>False) (fun _ h=>h.elim) (fun _ h=>h) (fun _ _=>rfl) h3 h4 (fun k b' hb=>?_) (fun k b' g hb ha hg=>?_) (fun k k' b1 b2 g hne' hb1 hb2 ha1 ha2 hg1 hg2=>?_) (fun k=>?_) r.okl r.oks (Upd.refl _ _ _),
  fun c v h=>h.mono (fun _ h=>h) (fun _ _=>rfl) (fun k _ hn=>h3 k id hn) (fun k _=>h4 k id)⟩
 ·rw[lk_pt]at hb
  by_cases h:key=k
  ·subst h
   rw[if_pos rfl]at hb
   simp only[Option.some.injEq]at hb;subst hb
   simp only[updF,if_true]
   exact⟨hsz,by simp,[],World.ownsRow_nil w B0 e sz,by simp⟩
  ·rw[if_neg h]at hb
   have:updF φ key (.slice none 0 0) k=φ k:=by simp[updF,Ne.symm h]
   rw[this]
   exact(r.hp k b' hb).keep (fun _=>False) (fun _ _ h=>h.elim) (fun _ h=>h) (fun _ _=>rfl) h3 h4 (fun _ _ _=>rfl)
 ·rw[lk_pt]at hb
  by_cases h:key=k
  ·subst h
   simp[updF,blockOf]at hg
  ·rw[if_neg h]at hb
   simp only[updF,if_neg (Ne.symm h)]at hg
   exact r.act k b' g hb ha hg
 ·rw[lk_pt]at hb1 hb2
  by_cases h:key=k
  ·subst h
   simp[updF,blockOf]at hg1
  ·rw[if_neg h]at hb1
   simp only[updF,if_neg (Ne.symm h)]at hg1
   by_cases h':key=k'
   ·subst h'
    simp[updF,blockOf]at hg2
   ·rw[if_neg h']at hb2
    simp only[updF,if_neg (Ne.symm h')]at hg2
    exact r.inj k k' b1 b2 g hne' hb1 hb2 ha1 ha2 hg1 hg2
 ·simp only[updF];split
  ·rfl
  ·exact r.one k
theorem lk_subT(k:Nat)(es:List (List D))(t:Nat)(tm:List (Nat×V)):lk (subT k es tm) t=(lk tm t).map (subV k es):=by
 induction tm with
 |nil=>simp[subT,lk]
 |cons p r ih=>
  obtain⟨x,b⟩:=p
  simp only[subT,lk]
  split
  ·rfl
  ·exact ih
theorem lk_subH(k:Nat)(es:List (List D))(j:Nat)(hp:List (Nat×B)):lk (subH k es hp) j=(lk hp j).map fun b=>match b with | .box cs=>.box (subL k es cs) | .mp l=>.mp (subM k es l)|b=>b:=by
 induction hp with
 |nil=>simp[subH,lk]
 |cons p r ih=>
  obtain⟨x,b⟩:=p
  simp only[subH,lk]
  split
  ·rfl
  ·exact ih
theorem nth_subR(k:Nat)(es:List (List D))(d:Nat)(rt:List (List (Nat×V))):nth (subR k es rt) d=(nth rt d).map (subT k es):=by
 induction rt generalizing d with
 |nil=>simp[subR,nth]
 |cons l r ih=>cases d with
  |zero=>rfl
  |succ d=>exact ih d
theorem subL_get(k:Nat)(es:List (List D))(cs:List V)(i:Nat)(c:V)(h:(subL k es cs)[i]? = some c):∃c0,cs[i]? = some c0∧c=subV k es c0:=by
 induction cs generalizing i with
 |nil=>simp[subL]at h
 |cons x r ih=>
  cases i with
  |zero=>simp[subL]at h;exact⟨x,rfl,h.symm⟩
  |succ i=>exact ih i (by simpa[subL]using h)
theorem subL_length(k:Nat)(es:List (List D))(cs:List V):(subL k es cs).length=cs.length:=by
 induction cs with
 |nil=>rfl
 |cons x r ih=>simp[subL,ih]
theorem subM_get(k:Nat)(es:List (List D))(l:List (Value×V))(i:Nat)(x:Value×V)(h:(subM k es l)[i]? = some x):∃x0,l[i]? = some x0∧x=(x0.1,subV k es x0.2):=by
 induction l generalizing i with
 |nil=>simp[subM]at h
 |cons y r ih=>
  cases i with
  |zero=>simp[subM]at h;exact⟨y,rfl,h.symm⟩
  |succ i=>exact ih i (by simpa[subM]using h)
theorem subM_length(k:Nat)(es:List (List D))(l:List (Value×V)):(subM k es l).length=l.length:=by
 induction l with
 |nil=>rfl
 |cons x r ih=>simp[subM,ih]
theorem sim_sub(k:Nat)(es:List (List D))(j:Nat)(hp:List (Nat×B)):Sim hp (subH k es hp) j:=by
 unfold Sim
 split
 ·trivial
 ·rename_i cs h;exact⟨subL k es cs,by rw[lk_subH,h];rfl⟩
 ·rename_i e sz es' h;exact⟨es',.inl ⟨e,by rw[lk_subH,h];rfl⟩⟩
 ·rename_i sz es' h;exact⟨es',.inr (by rw[lk_subH,h];rfl)⟩
 ·rename_i l h;exact⟨subM k es l,by rw[lk_subH,h];rfl⟩
theorem Rel.deFro{ok:Nat→Prop}{φ:Nat→Value}{s:St}{a:Act}{w:World}(r:Rel B0 bx W0 ok0 Z N ok φ s a w){k sz:Nat}{es:List (List D)}(hk:k<100000)(hf:lk s.hp k=some (.fro sz es)):Rel B0 bx W0 ok0 Z N ok φ (s.deFro k es) a w:=by
 have hrd:Rd ok w (φ k) (.sl es):=(r.hp k _ hf).2.2.1
 have hm:∀{c:V} {v:Value},VR ok φ s.hp w c v→VR ok φ (subH k es s.hp) w (subV k es c) v:=fun {c v} h=>by
  have h':VR ok φ (subH k es s.hp) w c v:=h.mono (fun _ h=>h) (fun _ _=>rfl) (fun _ _ _=>rfl) (fun j _=>sim_sub k es j s.hp)
  cases c with
  |own j=>
   simp only[subV]
   split
   ·rename_i e
    have:j=k:=Nat.eq_of_beq_eq_true e
    subst this
    cases h with
    |own hb hφ=>subst hφ;exact .d hrd
   ·exact h'
  |_=>exact h'
 have hb:∀j b,lk (subH k es s.hp) j=some b→∃b0,lk s.hp j=some b0∧b0.active=b.active∧BR B0 ok φ (subH k es s.hp) w (φ j) b:=by
  intro j b h
  rw[lk_subH]at h
  cases h0:lk s.hp j with
  |none=>rw[h0]at h;cases h
  |some b0=>
   rw[h0]at h
   simp only[Option.map_some,Option.some.injEq]at h
   refine⟨b0,rfl,by subst h;cases b0<;>rfl,?_⟩
   have hB:=r.hp j b0 h0
   cases b0 with
   |box cs=>
    subst h
    obtain⟨g,arr,T,h1,h2,h3,h4⟩:=hB
    refine⟨g,arr,T,h1,h2,by rw[subL_length];exact h3,fun i c x hc hx=>?_⟩
    obtain⟨c0,hc0,rfl⟩:=subL_get k es cs i c hc
    exact hm (h4 i c0 x hc0 hx)
   |lst e sz es=>subst h;exact hB
   |fro sz es=>subst h;exact hB
   |mp l=>
    subst h
    obtain⟨g,ents,clock,h1,h2,h3,h5,h4⟩:=hB
    refine⟨g,ents,clock,h1,h2,by rw[subM_length];exact h3,fun x hx=>?_,fun i x y hc hx=>?_⟩
    ·obtain⟨i,hi,rfl⟩:=List.getElem_of_mem hx
     obtain⟨x0,hc0,e0⟩:=subM_get k es l i _ (List.getElem?_eq_getElem hi)
     rw[e0];exact h5 x0 (List.mem_of_getElem? hc0)
    ·obtain⟨x0,hc0,rfl⟩:=subM_get k es l i x hc
     exact⟨(h4 i x0 y hc0 hx).1,hm (h4 i x0 y hc0 hx).2⟩
 have r1:Rel B0 bx W0 ok0 Z N ok φ {tm:=subT k es s.tm,hp:=subH k es s.hp,kn:=s.kn,gd:=[],rt:=subR k es s.rt} a w:={
  sz:=r.sz
  tm:=fun t x h=>by
   dsimp only at h
   rw[lk_subT]at h
   cases h0:lk s.tm t with
   |none=>rw[h0]at h;cases h
   |some y=>
    rw[h0]at h
    simp only[Option.map_some,Option.some.injEq]at h
    subst h
    exact hm (r.tm t y h0)
  rt:=fun d l t x hl h=>by
   dsimp only at hl
   rw[nth_subR]at hl
   cases hd:nth s.rt d with
   |none=>rw[hd]at hl;cases hl
   |some l0=>
    rw[hd]at hl
    simp only[Option.map_some,Option.some.injEq]at hl
    subst hl
    rw[lk_subT]at h
    cases h0:lk l0 t with
    |none=>rw[h0]at h;cases h
    |some y=>
     rw[h0]at h
     simp only[Option.map_some,Option.some.injEq]at h
     subst h
     exact hm (r.rt d l0 t y hd h0)
  gd:=fun t t' w' x h=>by simp[lk]at h
  gu:=fun t t' w' b h=>by simp[lk]at h
  kn:=r.kn
  hp:=fun j b h=>let ⟨_,_,_,h3⟩:=hb j b h;h3
  act:=fun j b g h ha hg=>by
   obtain⟨b0,h1,h2,_⟩:=hb j b h
   exact r.act j b0 g h1 (by rw[h2];exact ha) hg
  inj:=fun j j' b b' g hne h h' ha ha' hg hg'=>by
   obtain⟨b0,h1,h2,_⟩:=hb j b h
   obtain⟨b1,h3,h4,_⟩:=hb j' b' h'
   exact r.inj j j' b0 b1 g hne h1 h3 (by rw[h2];exact ha) (by rw[h4];exact ha') hg hg'
  one:=r.one
  okl:=r.okl
  oks:=r.oks
  ok0:=r.ok0
  upd:=r.upd
  b0:=r.b0
  df:=r.df
  kz:=r.kz
  zs:=r.zs
  pin:=fun i g h=>by
   obtain⟨e1,cs,e2⟩:=r.pin i g h
   exact⟨e1,(sim_sub k es _ s.hp).box e2⟩}
 exact r1.drop hk
theorem Rel.nilOwn(l:List Cv):∀{φ:Nat→Value} {ok:Nat→Prop} {s:St} {a:Act} {w:World},Rel B0 bx W0 ok0 Z N ok φ s a w→∃ok' φ',(∀b,ok b→ok' b)∧Rel B0 bx W0 ok0 Z N ok' φ' (Dm.nilOwn l s) a w:=by
 induction l with
 |nil=>intro φ ok s a w r;exact⟨ok,φ,fun _ h=>h,r⟩
 |cons c l ih=>
  intro φ ok s a w r
  simp only[Dm.nilOwn]
  split
  ·rename_i hsz hk
   obtain⟨r1,hm⟩:=r.own0 (e:=c.e) (sz:=c.sz) hk (Nat.le_of_ble_eq_true hsz)
   have hkey:VR ok (updF φ c.key (.slice none 0 0)) (pt s.hp c.key (.lst c.e c.sz [])) w (.own c.key) (.slice none 0 0):=
    .own (sz:=c.sz) (es:=[]) (.inl ⟨c.e,by simp[lk_pt]⟩) (by simp[updF])
   split
   ·split
    ·rename_i htm
     refine ih (φ:=updF φ c.key (.slice none 0 0)) (s:={s with tm:=pt s.tm c.ix (.own c.key),hp:=pt s.hp c.key (.lst c.e c.sz [])}) ?_
     have hv:=r.tm c.ix _ htm
     generalize hx:a.tmps.getD c.ix undef=x at hv
     cases hv
     exact {r1 with
      tm:=fun u y hy=>by
       dsimp only at hy
       rw[lk_pt]at hy
       by_cases e:c.ix=u
       ·subst e;simp at hy;subst hy;rw[hx];exact hkey
       ·rw[if_neg e]at hy;exact r1.tm u y hy}
    ·exact ih r
   ·rename_i b hbx
    split
    ·rename_i cs hb
     split
     ·rename_i hn
      rw[nth_get]at hn
      have hne:c.key≠b:=by rintro e;rw[e,hb]at hk;cases hk
      have hb1:lk (s.setB c.key (.lst c.e c.sz [])).hp b=some (.box cs):=by simp only[St.setB];rw[lk_pt,if_neg hne];exact hb
      obtain⟨g,arr,T,h1,h2,h3,h4⟩:=r1.hp b _ hb1
      refine ih (φ:=updF φ c.key (.slice none 0 0)) (s:={s with hp:=pt (pt s.hp c.key (.lst c.e c.sz [])) b (.box (setAt c.ix (.own c.key) cs))}) ?_
      have h4':∀k,¬False→Sim (pt s.hp c.key (.lst c.e c.sz [])) (pt (pt s.hp c.key (.lst c.e c.sz [])) b (.box (setAt c.ix (.own c.key) cs))) k:=fun k _=>by
       by_cases e:b=k
       ·subst e;exact sim_box hb1
       ·exact sim_ne _ _ e
      have back:∀k b',lk (pt (pt s.hp c.key (.lst c.e c.sz [])) b (.box (setAt c.ix (.own c.key) cs))) k=some b'→b'.active=true→∃b0,lk (s.setB c.key (.lst c.e c.sz [])).hp k=some b0∧b0.active=true:=fun k b' hb' ha=>by
       rw[lk_pt]at hb'
       by_cases e:b=k
       ·subst e;exact⟨_,hb1,rfl⟩
       ·rw[if_neg e]at hb';exact⟨b',hb',ha⟩
      refine r1.step (hp':=pt (pt s.hp c.key (.lst c.e c.sz [])) b (.box (setAt c.ix (.own c.key) cs))) (w':=w) (ok':=ok) (fun _=>False) (fun _ h=>h.elim) (fun _ h=>h) (fun _ _=>rfl) (fun _ _ _=>rfl) h4' (fun k b' hb'=>?_) (fun k b' g hb' ha hg=>?_) (fun k k' b1 b2 g hne' hb1' hb2' ha1 ha2 hg1 hg2=>?_) r1.one r1.okl r1.oks (Upd.refl _ _ _)
      ·rw[lk_pt]at hb'
       by_cases e:b=k
       ·subst e
        rw[if_pos rfl]at hb'
        simp only[Option.some.injEq]at hb';subst hb'
        refine⟨g,arr,T,h1,h2,by rw[setAt_eq,List.length_set];exact h3,fun i c' x hc hx=>?_⟩
        rw[setAt_eq,List.getElem?_set]at hc
        have tr:∀(c0:V) (v:Value),VR ok (updF φ c.key (.slice none 0 0)) (pt s.hp c.key (.lst c.e c.sz [])) w c0 v→VR ok (updF φ c.key (.slice none 0 0)) (pt (pt s.hp c.key (.lst c.e c.sz [])) b (.box (setAt c.ix (.own c.key) cs))) w c0 v:=fun c0 v h=>h.mono (fun _ h=>h) (fun _ _=>rfl) (fun _ _ _=>rfl) (fun k _=>h4' k id)
        by_cases hi:c.ix=i
        ·subst hi
         rw[if_pos rfl]at hc
         split at hc
         ·simp only[Option.some.injEq]at hc;subst hc
          have hv:=h4 c.ix _ x hn hx
          cases hv
          exact tr _ _ hkey
         ·cases hc
        ·rw[if_neg hi]at hc
         exact tr _ _ (h4 i c' x hc hx)
       ·rw[if_neg e]at hb'
        exact(r1.hp k b' hb').keep (fun _=>False) (fun _ _ h=>h.elim) (fun _ h=>h) (fun _ _=>rfl) (fun _ _ _=>rfl) h4' (fun _ _ _=>rfl)
      ·obtain⟨b0,e1,e2⟩:=back k b' hb' ha
       exact r1.act k b0 g e1 e2 hg
      ·obtain⟨b3,e1,e2⟩:=back k b1 hb1' ha1
       obtain⟨b4,e3,e4⟩:=back k' b2 hb2' ha2
       exact r1.inj k k' b3 b4 g hne' e1 e3 e2 e4 hg1 hg2
     ·exact ih r
    ·exact ih r
  ·rename_i sz' es hsz hk
   split
   ·exact ih r
   ·rename_i hlt
    refine ih (r.deFro ?_ hk)
    rcases Nat.lt_or_ge c.key 100000 with h'|h'
    ·exact h'
    ·rw[Nat.ble_eq_true_of_le h']at hlt;cases hlt
  ·rename_i e' sz' es hsz hk
   split
   ·exact ih r
   ·rename_i hlt
    obtain⟨ok1,r1,_,h1⟩:=r.freeze hk
    have hk1:lk (s.setB c.key (.fro sz' es)).hp c.key=some (.fro sz' es):=by simp[St.setB,lk_pt]
    obtain⟨ok2,φ2,h2,r2⟩:=ih (r1.deFro (by
     rcases Nat.lt_or_ge c.key 100000 with h'|h'
     ·exact h'
     ·rw[Nat.ble_eq_true_of_le h']at hlt;cases hlt) hk1)
    exact⟨ok2,φ2,fun b hb=>h2 b (h1 b hb),r2⟩
  ·exact ih r
end Go.Dm
