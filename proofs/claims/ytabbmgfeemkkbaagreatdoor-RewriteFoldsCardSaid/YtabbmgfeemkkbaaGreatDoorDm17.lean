/- Part of the proof: contracts of functions; no condition. -/
import Derived.Test.YtabbmgfeemkkbaaGreatDoorDm13
import Derived.OrdersHeld
namespace Go.Dm
variable {P:Program} {ops:Array Oper} {Q:Exit→Act→World→Prop}
abbrev md:Region.Mode:=.any
def k8(ops:Array Oper):Nat→Nat→Nat→Bool
 |0,_,_=>false
 |n+1,i,q=>
  match ops[i]? with
  |none=>false
  |some o=>o.after.any fun e=>Region.binds md e&&(e.on==q||k8 ops n e.on q)
def yw(ops:Array Oper)(i q:Nat):Prop:=∃n,k8 ops n i q=true
def Down(ops:Array Oper)(listed:Array Bool):Prop:=
 ∀p o,ops[p]? = some o→listed.getD p false=true→∀e∈o.after,Region.binds md e=true→listed.getD e.on false=true
theorem F4(listed:Array Bool)(i:Nat)(h:listed.getD i true=false):listed.getD i false=false:=by
 rw[Array.getD_eq_getD_getElem?]at *
 cases he:listed[i]? with
 |none=>rw[he]at h;cases h
 |some b=>rw[he]at h;simpa using h
theorem Down.waits{listed:Array Bool}(hd:Down ops listed):∀(n i q:Nat),listed.getD i false=true→k8 ops n i q=true→listed.getD q false=true:=by
 intro n
 induction n with
 |zero=>intro i q _ h;cases h
 |succ n ih=>
  intro i q hi h
  unfold k8 at h
  split at h
  ·cases h
  rename_i o ho
  rw[Array.any_eq_true']at h
  obtain⟨e,he,h⟩:=h
  simp only[Bool.and_eq_true,Bool.or_eq_true,beq_iff_eq]at h
  have hl:=hd i o ho hi e he h.1
  rcases h.2 with h2|h2
  ·rw[←h2];exact hl
  ·exact ih e.on q hl h2
theorem yx{listed:Array Bool}(hd:Down ops listed){j i:Nat}(hj:j∈Region.ready md ops listed)(hw:yw ops j i):listed.getD i false=true:=by
 obtain⟨n,hw⟩:=hw
 obtain⟨_,oj,T6,bC⟩:=mem_ready.1 hj
 cases n with
 |zero=>cases hw
 |succ n=>
  unfold k8 at hw
  rw[T6]at hw
  simp only at hw
  rw[Array.any_eq_true']at hw
  obtain⟨e,he,h⟩:=hw
  simp only[Bool.and_eq_true,Bool.or_eq_true,beq_iff_eq]at h
  have hl:=bC e he h.1
  rcases h.2 with h2|h2
  ·rw[←h2];exact hl
  ·exact hd.waits n e.on i hl h2
theorem mq{listed:Array Bool}{i j:Nat}(h:listed.getD j false=true):(listed.setIfInBounds i true).getD j false=true:=by
 by_cases e:i=j
 ·subst e
  rw[Array.getD_eq_getD_getElem?]at *
  rcases Nat.lt_or_ge i listed.size with h'|h'
  ·simp[h']
  ·rw[Array.getElem?_eq_none h']at h;cases h
 ·rw[getD_set_ne false e];exact h
theorem Down.add{listed:Array Bool}(hd:Down ops listed){j:Nat}(hj:j∈Region.ready md ops listed):Down ops (listed.setIfInBounds j true):=by
 intro p o ho hp e he hb
 obtain⟨hun,oj,T6,bC⟩:=mem_ready.1 hj
 by_cases h:j=p
 ·subst h
  rw[T6]at ho
  simp only[Option.some.injEq]at ho;subst ho
  exact mq (bC e he hb)
 ·rw[getD_set_ne false h]at hp
  exact mq (hd p o ho hp e he hb)
abbrev gR:=Nat→(World→Prop)→Prop
def gR.past(ops:Array Oper)(j:Nat)(𝒞:gR):gR:=fun q S=>𝒞 q S∧¬yw ops j q
def gR.add(𝒞:gR)(i:Nat)(S:World→Prop):gR:=fun q T=>𝒞 q T∨(q=i∧T=S)
def fg(P:Program)(ops:Array Oper)(Q:Exit→Act→World→Prop):Nat→gR→Array Bool→Act→World→Prop
 |0,_,listed,a,w=>Region.ready md ops listed=[]∧Q .normal a w
 |fuel+1,𝒞,listed,a,w=>
  (Region.ready md ops listed=[]→Q .normal a w)∧
  ∀j∈Region.ready md ops listed,wpOp P ops Q j (fun a' w'=>(∀q S,𝒞.past ops j q S→S w')∧fg P ops Q fuel (𝒞.past ops j) (listed.setIfInBounds j true) a' w') a w
theorem sd:∀(fuel:Nat) (𝒞:gR) (listed:Array Bool) (a:Act) (w:World),fg P ops Q fuel 𝒞 listed a w→wpAny P md ops Q fuel listed a w
 |0,_,_,_,_,h=>h
 |fuel+1,_,_,_,_,h=>⟨h.1,fun i hi=>wpOp_mono (fun a' w' h'=>sd fuel _ _ a' w' h'.2) (h.2 i hi)⟩
theorem k_:∀(fuel:Nat) (𝒞 𝒞':gR) (listed:Array Bool) (a:Act) (w:World),(∀q S,𝒞' q S→𝒞 q S)→fg P ops Q fuel 𝒞 listed a w→fg P ops Q fuel 𝒞' listed a w
 |0,_,_,_,_,_,_,h=>h
 |fuel+1,_,_,_,_,_,hs,h=>⟨h.1,fun i hi=>wpOp_mono (fun a' w' h'=>⟨fun q S hq=>h'.1 q S ⟨hs _ _ hq.1,hq.2⟩,k_ fuel _ _ _ a' w' (fun q S hq=>⟨hs _ _ hq.1,hq.2⟩) h'.2⟩) (h.2 i hi)⟩
theorem wS{i:Nat}{oi:Oper}{v:Value}{S:World→Prop}(hi:ops[i]? = some oi)(wT:∀(j:Nat) (o:Oper) cs b,ops[j]? = some o→o.op≠.select cs b)
  (hQ:∀c a w,¬Q (.panic c) a w):
  ∀(fuel:Nat) (𝒞:gR) (listed:Array Bool) (a:Act) (w:World),Down ops listed→
   (∀j oj,ops[j]? = some oj→j≠i→listed.getD j true=false→(∀e∈oj.after,Region.binds md e=true→e.on≠i)→oi.apart ops oj=true)→
   i∈Region.ready md ops listed→YieldsIf P ops S oi v a→S w→(∀q T,𝒞 q T→T w)→
   fg P ops Q fuel (𝒞.add i S) (listed.setIfInBounds i true) (a.put oi.dst v) w→fg P ops Q (fuel+1) 𝒞 listed a w:=by
 have hQ':∀c a w,Q (.panic c) (Act.put a oi.dst v) w→Q (.panic c) a w:=fun c a w h=>(hQ c _ w h).elim
 have hit:∀(fuel:Nat) (𝒞:gR) (listed:Array Bool) (a:Act) (w:World),YieldsIf P ops S oi v a→S w→(∀q T,𝒞 q T→T w)→
   fg P ops Q fuel (𝒞.add i S) (listed.setIfInBounds i true) (a.put oi.dst v) w→
   wpOp P ops Q i (fun a' w'=>(∀q S,𝒞.past ops i q S→S w')∧fg P ops Q fuel (𝒞.past ops i) (listed.setIfInBounds i true) a' w') a w:=fun fuel 𝒞 listed a w hy hS hC H=>
  hy.wpOp hi hS ⟨fun q T hq=>hC q T hq.1,k_ fuel _ _ _ _ _ (fun q T hq=>.inl hq.1) H⟩
 intro fuel
 induction fuel with
 |zero=>
  intro 𝒞 listed a w hd _ hr hy hS hC H
  refine⟨fun h=>(by rw[h]at hr;cases hr),fun j hj=>?_⟩
  by_cases Fa:j=i
  ·subst Fa;exact hit 0 𝒞 listed a w hy hS hC H
  ·have:=ready_mono hj Fa
   rw[H.1]at this
   cases this
 |succ fuel ih=>
  intro 𝒞 listed a w hd Rf hr hy hS hC H
  refine⟨fun h=>(by rw[h]at hr;cases hr),fun j hj=>?_⟩
  by_cases Fa:j=i
  ·subst Fa;exact hit _ 𝒞 listed a w hy hS hC H
  ·have h1:=H.2 j (ready_mono hj Fa)
   obtain⟨XU,oj,T6,bC⟩:=mem_ready.1 hj
   have XV:listed.getD i false=false:=F4 listed i (mem_ready.1 hr).1
   have hnw:¬yw ops j i:=fun hw=>by
    have:=yx hd hj hw
    rw[XV]at this;cases this
   have ajq:∀e∈oj.after,Region.binds md e=true→e.on≠i:=fun e he hb heq=>by
    have h1:=bC e he hb
    rw[heq,XV]at h1;cases h1
   have h2:=wpOp_putIf T6 (Rf j oj T6 Fa XU ajq) (fun cs b=>wT i oi cs b hi) (fun cs b=>wT j oj cs b T6) hQ' hy h1
   have T7:∀k ok,ops[k]? = some ok→k≠i→(listed.setIfInBounds j true).getD k true=false→
     (∀e∈ok.after,Region.binds md e=true→e.on≠i)→oi.apart ops ok=true:=fun k ok hk Re hun hno=>by
    refine Rf k ok hk Re ?_ hno
    by_cases hjk:j=k
    ·subst hjk;exact XU
    ·rw[getD_set_ne true hjk]at hun;exact hun
   refine wpOp_mono (fun a' w' h3=>?_) h2
   obtain⟨E9,l9,hM⟩:=h3
   have hSw:S w':=l9 i S ⟨.inr ⟨rfl,rfl⟩,hnw⟩
   have hCw:∀q T,𝒞.past ops j q T→T w':=fun q T hq=>l9 q T ⟨.inl hq.1,hq.2⟩
   refine⟨hCw,ih (𝒞.past ops j) (listed.setIfInBounds j true) a' w' (hd.add hj) T7 (ready_mono hr (Ne.symm Fa)) E9 hSw hCw ?_⟩
   rw[Array.setIfInBounds_comm _ _ Fa]
   refine k_ fuel _ _ _ _ _ (fun q T hq=>?_) hM
   rcases hq with hq|⟨rfl,rfl⟩
   ·exact⟨.inl hq.1,hq.2⟩
   ·exact⟨.inr ⟨rfl,rfl⟩,hnw⟩
theorem yy{𝒞:gR}{listed:Array Bool}{a:Act}{w:World}(hr:Region.ready md ops listed=[])(h:Q .normal a w):
  ∀fuel,fg P ops Q fuel 𝒞 listed a w
 |0=>⟨hr,h⟩
 |_+1=>⟨fun _=>h,by rw[hr];simp⟩
theorem F5(n:Nat):Down ops (Array.replicate n false):=by
 intro p o _ h
 rw[Array.getD_eq_getD_getElem?,Array.getElem?_replicate]at h
 split at h<;>cases h
end Go.Dm
namespace Go.Dm
variable {P:Program} {E:Env} {C:aj} {I:Nat→List V→List V→St→(V→St→Prop)→Prop}
variable {B0:Nat} {bx:List Nat} {W0:World} {aI:Nat→Prop} {Z:Zr} {N:Nat}
variable {ok:Nat→Prop} {φ:Nat→Value} {s:St} {a:Act} {w:World}
theorem nI{x y c:Operand}{b:Bool}(h:a.eval c = .bool b)(w:World):
  (do pure (.value (if←asBool (a.eval c)then a.eval x else a.eval y)):Sem Next).run P w = .ok (.value (if b then a.eval x else a.eval y)) w:=by
 simp only[h,asBool,Sem.run_bind,Sem.run_pure,Result.andThen_ok]
theorem D6(hE:c8 P E)(hC:ah P Z.gl C)(hI:Cz P Z.gl I)(r:Rel B0 bx W0 aI Z N ok φ s a w){g:List (Nat×Bool)}(hg:Holds a g){o:Oper}{K:V→St→Prop}(h:FE E C I s g o K):
  bK P (execOp a.eval o) w (xO B0 bx W0 aI Z N a (fa (dj E s g o.op) φ s w) K):=by
 unfold FE at h
 split at h
 ·rename_i c x y oG
  obtain⟨b,hb,v,s',h1,h2,h3,h4⟩:=pJ r hg h
  refine bK.mJ (v:=if b then a.eval x else a.eval y) (w':=w) ?_ ⟨v,s',ok,φ,h1,h2,h3,fa.eF h4⟩
  unfold execOp
  rw[oG]
  exact nI hb w
 all_goals first|exact yu hE hC hI r hg h|exact D5 hE r hg h
def wU:Op→Bool
 | .alloc .. | .box .. | .store .. | .buildSlice .. | .makeSlice .. =>false
 | .makeMap .. | .lookup .. | .mapUpdate .. | .insert .. =>false
 | .call {callee:=.builtin .append,..}=>false
 | .call {callee:=.builtin .clear,..}=>false
 | .call {callee:=.builtin .copy,..}=>false
 | .call {callee:=.value _,..}=>false
 |_=>true
theorem F6(r:Rel B0 bx W0 aI Z N ok φ s a w){ti:TI}(ct:0<ti.ck.length){c:V}{y:Value}(hv:VR ok φ s.hp w c y){K:V→Prop}(h:jN ti s c K){b:Nat}(hb:aq y=some b):
  b<w.heap.size∧∀k b',lk s.hp k=some b'→b'.aM=true→aq (φ k)=some b→k∈iC c:=by
 have yz:ok b→b<w.heap.size∧∀k b',lk s.hp k=some b'→b'.aM=true→aq (φ k)=some b→k∈iC c:=
  fun ho=>⟨r.fH b ho,fun k b' h1 h2 h3=>((r.act k b' b h1 h2 h3).1 ho).elim⟩
 have F7:∀j bj,lk s.hp j=some bj→bj.aM=true→aq (φ j)=some b→j∈iC c→b<w.heap.size∧∀k b',lk s.hp k=some b'→b'.aM=true→aq (φ k)=some b→k∈iC c:=by
  intro j bj h1 h2 h3 h4
  refine⟨(r.hp j bj h1).cy h2 h3,fun k b' h5 h6 h7=>?_⟩
  by_cases e:j=k
  ·subst e;exact h4
  ·exact(r.inj j k bj b' b e h1 h5 h2 h6 h3 h7).elim
 cases hv with
 | @ref k off g DM jR hφ=>
   simp[aq]at hb;subst hb
   exact F7 k _ jR rfl (by rw[hφ];rfl) (by simp[iC])
 | @gg k i off g n cap sz es cJ hφ=>
   simp[aq]at hb;subst hb
   rcases cJ with⟨e,cJ⟩|cJ
   ·exact F7 k _ cJ rfl (by rw[hφ];rfl) (by simp[iC])
   ·simp only[jN]at h
    rw[cJ]at h
    obtain⟨cells,hi,_⟩:=h
    obtain⟨_,_,cK,_⟩:=r.hp k _ cJ
    rw[hφ]at cK
    have hlt:=(List.getElem?_eq_some_iff.1 hi).1
    cases cK with
    |aA=>simp at hlt
    |sl sz x dy fQ hsz hc hr=>exact yz (fQ (by rintro rfl;simp at hlt))
 | @bW b' off cs x fQ hc hr=>
   simp[aq]at hb;subst hb
   simp only[jN]at h
   obtain⟨l,hl,rI,_⟩:=rH h
   obtain⟨hlen,_⟩:=jP rI
   exact yz (fQ (by intro hO;rw[hO]at hlen;simp only[List.length_nil]at hlen;omega))
 |_=>exact(h:False).elim
theorem F8(r:Rel B0 bx W0 aI Z N ok φ s a w){c:V}{y:Value}(hv:VR ok φ s.hp w c y){K:List (List D)→Prop}(h:jq c s K){b:Nat}(hb:pC y=some b):
  b<w.heap.size∧∀k b',lk s.hp k=some b'→b'.aM=true→aq (φ k)=some b→k∈fO c:=by
 have yz:ok b→b<w.heap.size∧∀k b',lk s.hp k=some b'→b'.aM=true→aq (φ k)=some b→k∈fO c:=
  fun ho=>⟨r.fH b ho,fun k b' h1 h2 h3=>((r.act k b' b h1 h2 h3).1 ho).elim⟩
 have Rg:∀es,Rd ok w y (.sl es)→ok b:=fun es cK=>by
  cases cK with
  |nil=>cases hb
  |aA=>cases hb
  | @sl g off cap es sz x dy fQ hsz hc hr=>
    cases es with
    |nil=>cases hb
    |cons e es=>
     simp only[List.length_cons,pC,Option.some.injEq]at hb
     subst hb
     exact fQ (by simp)
 cases hv with
 |nil=>cases hb
 | @own k g_ DQ v jR hφ=>
   subst hφ
   simp only[jq]at h
   split at h
   ·rename_i e0 sz es Ol
    have hblk:aq (φ k)=some b:=by
     generalize φ k=u at hb
     cases u<;>first|exact hb|skip
     rename_i ad n cap
     cases ad with
     |none=>cases n<;>cases hb
     |some x=>cases n with
      |zero=>cases hb
      |succ n=>exact hb
    refine⟨(r.hp k _ Ol).cy rfl hblk,fun j b' h5 h6 h7=>?_⟩
    by_cases e:k=j
    ·subst e;simp[fO]
    ·exact(r.inj k j _ b' b e Ol h5 rfl h6 hblk h7).elim
   ·rename_i sz es Ol
    obtain⟨_,_,cK,_⟩:=r.hp k _ Ol
    exact yz (Rg es cK)
   ·exact h.elim
 |d cK=>
  obtain⟨es,rfl,hk⟩:=h
  exact yz (Rg es cK)
 | @vw k lo n g m cap iE off g_ DQ jR hφ hle dy gZ=>
   simp only[jq]at h
   split at h
   ·rename_i e sz es Ol
    have Og:b=g:=by
       cases n with
       |zero=>cases hb
       |succ n=>simp only[pC,Option.some.injEq]at hb;exact hb.symm
    subst Og
    have hblk:aq (φ k)=some b:=by rw[hφ];rfl
    refine⟨(r.hp k _ Ol).cy rfl hblk,fun j b' h5 h6 h7=>?_⟩
    by_cases e:k=j
    ·subst e;simp[fO]
    ·exact(r.inj k j _ b' b e Ol h5 rfl h6 hblk h7).elim
   ·exact h.elim
 |_=>exact(h:False).elim
theorem se(hE:c8 P E)(r:Rel B0 bx W0 aI Z N ok φ s a w){g:List (Nat×Bool)}(hg:Holds a g){o:Oper}{K:V→Prop}(h:dx E s g o.op K):
  ∃v v',∃X:Nat→Prop,(∀w₂,(∀b,X b→w₂.heap[b]? = w.heap[b]?)→(execOp a.eval o).run P w₂ = .ok (.value v') w₂)∧K v∧VR ok φ s.hp w v v'∧
   ∀b,X b→b<w.heap.size∧∀k b',lk s.hp k=some b'→b'.aM=true→aq (φ k)=some b→k∈fP E s g o.op:=by
 by_cases hl:∃t x,o.op = .load t x
 ·obtain⟨t,x,hl⟩:=hl
  obtain⟨v,v',h1,h2,h3⟩:=iY hE r hg (o:=o) (A:=fun w₂=>∀b,aq (a.eval x)=some b→w₂.heap[b]? = w.heap[b]?) (fun x' h' w₂ hw b hb=>by
   rw[hl]at h';simp only[wF,Option.some.injEq]at h';rw[←h']at hb
   refine hw b ?_
   have h0:=h
   rw[hl]at h0
   simp only[dx]at h0
   split at h0
   ·rw[←rS (bI r hg x) h0];exact hb
   ·exact h0.elim) h
  refine⟨v,v',fun b=>aq (a.eval x)=some b,h1,h2,h3,fun b hb=>?_⟩
  rw[hl]at h
  simp only[dx]at h
  split at h
  ·rename_i ti dY
   have:=F6 r (hE.ti dY).pos (bI r hg x) h hb
   rw[hl]
   exact this
  ·exact h.elim
 by_cases hc:∃t0 t x,o.op = .convert t0 t x
 ·obtain⟨t0,t,x,hc⟩:=hc
  obtain⟨v,v',h1,h2,h3⟩:=iY hE r hg (o:=o) (A:=fun w₂=>∀b,pC (a.eval x)=some b→w₂.heap[b]? = w.heap[b]?) (fun x' h' w₂ hw=>by rw[hc]at h';simp only[wF,Option.some.injEq]at h';rw[←h'];exact hw) h
  refine⟨v,v',fun b=>pC (a.eval x)=some b,h1,h2,h3,fun b hb=>?_⟩
  rw[hc]
  rw[hc]at h
  simp only[dx]at h
  split at h
  ·rename_i e2;rw[cd r hg e2]at hb;cases hb
  ·rename_i e2;rw[cd r hg e2]at hb;cases hb
  ·split at h
   ·exact F8 r (bI r hg x) h hb
   ·exact h.elim
  ·exact h.elim
 ·obtain⟨v,v',h1,h2,h3⟩:=iY hE r hg (o:=o) (A:=fun _=>True) (fun x h'=>by
   cases ho:o.op<;>rw[ho]at h'<;>simp only[wF,reduceCtorEq]at h'
   ·exact(hl ⟨_,_,ho⟩).elim
   ·exact(hc ⟨_,_,_,ho⟩).elim) h
  exact⟨v,v',fun _=>False,fun w₂ _=>h1 w₂ trivial,h2,h3,fun b hb=>hb.elim⟩
theorem D7(hE:c8 P E)(r:Rel B0 bx W0 aI Z N ok φ s a w){g:List (Nat×Bool)}(hg:Holds a g){o:Oper}(hq:wU o.op=true){K:V→St→Prop}(h:FE E C I s g o K):
  ∃v v' s',∃X:Nat→Prop,(∀w₂,(∀b,X b→w₂.heap[b]? = w.heap[b]?)→(execOp a.eval o).run P w₂ = .ok (.value v') w₂)∧K v s'∧Rel B0 bx W0 aI Z N ok φ s' a w∧VR ok φ s'.hp w v v'∧s'.hp=s.hp∧
   ∀b,X b→b<w.heap.size∧∀k b',lk s.hp k=some b'→b'.aM=true→aq (φ k)=some b→k∈fP E s g o.op:=by
 unfold FE at h
 split at h
 ·rename_i c x y oG
  obtain⟨b,hb,v,s',h1,h2,h3,h4⟩:=pJ r hg h
  refine⟨v,if b then a.eval x else a.eval y,s',fun _=>False,fun w₂ _=>?_,h1,h2,h3,h4,fun b hb=>hb.elim⟩
  unfold execOp
  rw[oG]
  exact nI hb w₂
 all_goals first
  |(rename_i oG;rw[oG]at hq;cases hq;done)
  |skip
 ·obtain⟨v,v',X,h1,h2,h3,h4⟩:=se hE r hg h
  exact⟨v,v',s,X,h1,h2,r,h3,rfl,h4⟩
def lf(B0:Nat)(bx:List Nat)(W0:World)(aI:Nat→Prop)(Z:Zr)(N:Nat)(o:Oper)(a:Act)(φ:Nat→Value)(s:St)(w:World)(next:List Nat→St→Prop)(v':Value)(w':World):Prop:=
 ∃ks s' ok' φ',next ks s'∧Rel B0 bx W0 aI Z N ok' φ' s' (a.put o.dst v') w'∧fa ks φ s w φ' s' w'
theorem qB(s:St)(d:Option Nat)(v:V):(kf s d v).hp=s.hp:=by
 cases d with
 |none=>rfl
 |some d=>cases v<;>rfl
theorem cS(s:St)(d:Option Nat)(g:Nat×Bool)(v:V):(dR s d g v).hp=s.hp:=by
 cases d with
 |none=>rfl
 |some d=>cases v<;>rfl
theorem fa.F9{T:List Nat}{φ':Nat→Value}{s0 s' t_:St}{w':World}(h:fa T φ s0 w φ' s' w')(e:t_.hp=s'.hp):fa T φ s0 w φ' t_ w':=
 ⟨h.size,h.same,fun k b' g h1=>h.own k b' g (by rw[←e];exact h1)⟩
theorem fa.Om{T:List Nat}{φ':Nat→Value}{s0 s1 s':St}{w':World}(h:fa T φ s1 w φ' s' w')(e:s1.hp=s0.hp):fa T φ s0 w φ' s' w':=
 ⟨h.size,fun g hg hn=>h.same g hg (fun k b hk hb=>hn k b hk (by rw[←e];exact hb)),fun k b' g h1 h2 h3 h4=>by
  obtain⟨k0,b,e1,e2⟩:=h.own k b' g h1 h2 h3 h4
  exact⟨k0,b,by rw[←e];exact e1,e2⟩⟩
theorem Ac(s:St)(g:List (Nat×Bool))(op:Op):∀k∈dj E s g op,k∈fP E s g op:=by
 intro k hk
 cases op<;>first|exact hk|(simp[dj]at hk)
theorem sf{ops:Array Oper}{o:Oper}{j t:Nat}{want:Bool}(hg:o.guard=some (j,want))(ht:oM ops.toList j=some t)(a:Act):
  Region.wanted o (yielded ops a.tmps)=true↔a.tmps.getD t undef = .bool want:=by
 have h1:(ops[j]?).bind (·.dst)=some t:=by
  unfold oM at ht
  rw[lR]at ht
  simp only[Array.getElem?_toList]at ht
  split at ht
  ·rename_i o' ho;rw[ho];exact ht
  ·cases ht
 unfold Region.wanted
 rw[hg]
 simp only[yielded,h1,Option.bind_some]
 rw[Array.getD_eq_getD_getElem?]
 cases he:a.tmps[t]? with
 |none=>simp[undef]
 |some v=>cases v<;>simp
theorem CC(hE:c8 P E)(hC:ah P Z.gl C)(hI:Cz P Z.gl I){o:Oper}(hd:∀k,o.dst=some k→k<N){s1:St}(r:Rel B0 bx W0 aI Z N ok φ s1 a w)(mn:s1.hp=s.hp){g:List (Nat×Bool)}(hg:Holds a g){next:List Nat→St→Prop}
  (h:FE E C I s1 g o fun v s'=>next (fP E s1 g o.op) (kf s' o.dst v)):bK P (execOp a.eval o) w (lf B0 bx W0 aI Z N o a φ s w next):=by
 refine(D6 hE hC hI r hg h).mono fun v' w' hp=>?_
 obtain⟨v,s',ok',φ',h1,h2,h3,h4⟩:=hp
 exact⟨_,_,ok',φ',h1,h2.kf hd h3,((h4.mono (Ac s1 g o.op)).F9 (qB _ _ _)).Om mn⟩
theorem sg{ti:TI}{cells:List D}{off:Nat}{K:V→Prop}(h:xV ti cells off K):∃v,K v:=by
 obtain⟨l,_,_,hk⟩:=rH h
 split at hk
 ·exact⟨_,hk⟩
 ·exact hk.elim
theorem wV{op:BinOp}{k:IntKind}{x y:Int}{K:V→Prop}(h:aB op k x y K):∃v,K v:=by
 cases op<;>simp only[aB]at h<;>first|exact⟨_,h⟩|exact⟨_,h.2⟩|exact h.elim
theorem On{op:BinOp}{t:Nat}{x y:V}{K:V→Prop}(h:Fz E op t x y K):∃v,K v:=by
 unfold Fz at h
 split at h
 ·split at h
  ·exact wV h
  ·exact wV h
  ·exact wV h
  ·exact h.elim
 all_goals(repeat' split at h)<;>first|exact⟨_,h⟩|exact⟨_,h.2⟩|exact h.elim|exact⟨_,h false (fun h=>by cases h)⟩|exact(h false (fun h=>by cases h)).elim
theorem F_{ti:TI}{c:V}{K:V→Prop}(h:jN ti s c K):∃v,K v:=by
 unfold jN at h
 split at h
 ·repeat' split at h
  all_goals first|exact⟨_,h⟩|exact h.elim
 ·split at h
  ·obtain⟨_,_,h⟩:=h;exact sg h
  ·obtain⟨_,_,h⟩:=h;exact sg h
  ·exact h.elim
 ·exact sg h
 ·exact h.elim
theorem F'{c:V}{K:List (List D)→Prop}(h:jq c s K):∃v,K v:=by
 unfold jq at h
 split at h
 ·exact⟨_,h⟩
 ·split at h
  ·exact⟨_,h⟩
  ·exact⟨_,h⟩
  ·exact h.elim
 ·obtain⟨_,_,h⟩:=h;exact⟨_,h⟩
 ·split at h
  ·exact⟨_,h⟩
  ·exact h.elim
 ·exact h.elim
theorem CD{g:List (Nat×Bool)}{op:Op}(hs:wv op=true)(hp:∀x y z,op≠.pick x y z){K:V→Prop}(h:dx E s g op K):∃v,K v:=by
 cases op with
 |pick x y z=>exact(hp x y z rfl).elim
 |move x=>exact⟨_,h⟩
 |assign x=>exact⟨_,h⟩
 |load t x=>simp only[dx]at h;split at h;exact F_ h;exact h.elim
 |binOp op t x y u=>
  simp only[dx]at h
  split at h
  ·unfold NU at h;(repeat' split at h)<;>first|exact⟨_,h⟩|exact h.elim
  ·exact On h
 |nilCheck x=>simp only[dx]at h;split at h<;>first|exact⟨_,h⟩|exact h.elim
 |unOp op t x=>simp only[dx]at h;split at h<;>first|exact⟨_,h⟩|exact h.elim
 |extract x i=>simp only[dx]at h;(repeat' split at h)<;>first|exact⟨_,h⟩|exact h.elim
 |fieldAddr t x f=>simp only[dx]at h;(repeat' split at h)<;>first|exact⟨_,h⟩|exact h.elim
 |field t x f=>simp only[dx]at h;(repeat' split at h)<;>first|exact⟨_,h⟩|exact h.elim
 |call c=>
  obtain⟨callee,args,pv⟩:=c
  cases callee with
  |value f=>exact(h:False).elim
  |invoke x m=>exact(h:False).elim
  |builtin b=>
   cases b<;>first|exact(h:False).elim|(simp only[wv]at hs;cases hs;done)|skip
   replace h:(match args.toList,pv.toList with
        |[x],[t]=>
         (match ev s g x,E.ti t with
          | .d (.v (.string b)),some {ck:=[.str],td:=.plain,..}=>K (.d (.v (.int .i64 b.size)))
          |v,some {td:=.slice _,..}=>jq v s fun es=>K (.d (.v (.int .i64 es.length)))
          |_,_=>False)
        |_,_=>False):=h
   split at h
   ·split at h
    ·exact⟨_,h⟩
    ·obtain⟨_,h⟩:=F' h;exact⟨_,h⟩
    ·exact h.elim
   ·exact h.elim
 |_=>exact(by simp only[wv]at hs;cases hs)
theorem pK(hE:c8 P E)(hC:ah P Z.gl C)(hI:Cz P Z.gl I){ops:Array Oper}{o:Oper}(hd:∀k,o.dst=some k→k<N)(r:Rel B0 bx W0 aI Z N ok φ s a w){next:List Nat→St→Prop}
  (h:jO E C I ops.toList o s next):
  (Region.wanted o (yielded ops a.tmps)=true∧bK P (execOp a.eval o) w (lf B0 bx W0 aI Z N o a φ s w next))∨
  (Region.wanted o (yielded ops a.tmps)=false∧lf B0 bx W0 aI Z N o a φ s w next undef w):=by
 unfold jO at h
 split at h
 ·rename_i hg
  exact .inl ⟨by unfold Region.wanted;rw[hg],CC hE hC hI hd r rfl (fun _ _ h=>by cases h) h⟩
 ·rename_i j want hg
  split at h
  ·exact h.elim
  rename_i t ht
  have hw:=sf hg ht a
  have CE:a.tmps.getD t undef≠.bool want→Region.wanted o (yielded ops a.tmps)=false:=fun hn=>by
   cases hc:Region.wanted o (yielded ops a.tmps)
   ·rfl
   ·exact(hn (hw.1 hc)).elim
  have yes:∀s1:St,Rel B0 bx W0 aI Z N ok φ s1 a w→s1.hp=s.hp→a.tmps.getD t undef = .bool want→(FE E C I s1 [(t,want)] o fun v s'=>next (fP E s1 [(t,want)] o.op) (kf s' o.dst v))→
    (Region.wanted o (yielded ops a.tmps)=true∧bK P (execOp a.eval o) w (lf B0 bx W0 aI Z N o a φ s w next))∨
    (Region.wanted o (yielded ops a.tmps)=false∧lf B0 bx W0 aI Z N o a φ s w next undef w):=fun s1 r1 mn ht h=>
   .inl ⟨hw.2 ht,CC hE hC hI hd r1 mn (fun u b hm=>by simp at hm;obtain⟨rfl,rfl⟩:=hm;exact ht) h⟩
  have no:∀s1:St,Rel B0 bx W0 aI Z N ok φ s1 a w→s1.hp=s.hp→a.tmps.getD t undef≠.bool want→next [] (kf s1 o.dst .dead)→
    (Region.wanted o (yielded ops a.tmps)=true∧bK P (execOp a.eval o) w (lf B0 bx W0 aI Z N o a φ s w next))∨
    (Region.wanted o (yielded ops a.tmps)=false∧lf B0 bx W0 aI Z N o a φ s w next undef w):=fun s1 r1 mn ht h=>
   .inr ⟨CE ht,_,_,ok,φ,h,r1.kf hd (.dead _),fa.eF (by rw[qB,mn])⟩
  have oZ:ke 4 s t want (fun s1=>FE E C I s1 [(t,want)] o fun v s'=>next (fP E s1 [(t,want)] o.op) (kf s' o.dst v)) (fun s1=>next [] (kf s1 o.dst .dead))→
    (Region.wanted o (yielded ops a.tmps)=true∧bK P (execOp a.eval o) w (lf B0 bx W0 aI Z N o a φ s w next))∨
    (Region.wanted o (yielded ops a.tmps)=false∧lf B0 bx W0 aI Z N o a φ s w next undef w):=fun h=>by
   rcases iG 4 r h with⟨h1,s1,h2,h3,h4⟩|⟨h1,s1,h2,h3,h4⟩
   ·exact yes s1 h3 h4 h1 h2
   ·exact no s1 h3 h4 h1 h2
  split at h
  ·rename_i b hb
   have hk:=r.kn t b hb
   split at h
   ·exact yes s r rfl hk h
   ·exact yes s r rfl hk h
   ·rename_i h1 h2
    have bT:a.tmps.getD t undef≠.bool want:=by
     rw[hk]
     cases b<;>cases want<;>simp_all
    split at h
    ·exact .inr ⟨CE bT,_,_,ok,φ,h,r.dR hd (.inr ⟨bT,rfl⟩),fa.eF (by rw[cS])⟩
    ·exact no s r rfl bT h
  ·split at h
   ·rcases iG 12 r h with⟨h1,s1,h2,h3,h4⟩|⟨h1,s1,h2,h3,h4⟩
    ·exact yes s1 h3 h4 h1 h2
    ·exact .inr ⟨CE h1,_,_,ok,φ,h2,h3.dR hd (.inr ⟨h1,rfl⟩),fa.eF (by rw[cS,h4])⟩
   split at h
   ·rename_i nJ
    split at h
    ·rename_i c x y oG
     split at h
     ·rename_i tq XW XX h1 h2 h3
      by_cases hc:a.tmps.getD t undef = .bool want
      ·refine .inl ⟨hw.2 hc,?_⟩
       have qC:Holds a [(t,want)]:=fun u b hm=>by simp at hm;obtain⟨rfl,rfl⟩:=hm;exact hc
       have e1:=cd r qC h1
       have XY:∀(b z:Bool) (e:Operand),tq=b→jO.oO s (t,want) c b e = .d (.v (.bool z))→a.eval e = .bool z:=fun b z e hb he=>by
        unfold jO.oO at he
        split at he
        ·rename_i u
         refine cd r (fun u' b' hm=>?_) he
         rcases List.mem_cons.1 hm with hm|hm
         ·simp at hm;obtain⟨rfl,rfl⟩:=hm;rw[←hb];exact e1
         ·exact qC u' b' hm
        ·exact cd r qC he
       refine bK.mJ (v:=.bool (cond tq XW XX)) (w':=w) ?_ ⟨_,_,ok,φ,h,r.dR hd (.inl ⟨hc,cj _⟩),fa.eF (by rw[cS])⟩
       unfold execOp
       rw[oG]
       have:=nI (P:=P) (x:=x) (y:=y) e1 w
       refine this.trans ?_
       cases tq
       ·simp[XY false XX y rfl h3]
       ·simp[XY true XW x rfl h2]
      ·exact .inr ⟨CE hc,_,_,ok,φ,h,r.dR hd (.inr ⟨hc,rfl⟩),fa.eF (by rw[cS])⟩
     ·exact oZ h
    ·rename_i hnp
     obtain⟨v0,yq⟩:=CD nJ (fun x y z h'=>hnp x y z h') h
     by_cases hc:a.tmps.getD t undef = .bool want
     ·refine .inl ⟨hw.2 hc,?_⟩
      have qC:Holds a [(t,want)]:=fun u b hm=>by simp at hm;obtain⟨rfl,rfl⟩:=hm;exact hc
      obtain⟨v,v',h1,h2,h3⟩:=iY hE r qC (o:=o) (A:=fun w₂=>w₂=w) (fun _ _ w₂ hw _ _=>by rw[hw]) h
      exact bK.mJ (h1 w rfl) ⟨_,_,ok,φ,h2,r.dR hd (.inl ⟨hc,h3⟩),fa.eF (by rw[cS])⟩
     ·exact .inr ⟨CE hc,_,_,ok,φ,yq,r.dR hd (.inr ⟨hc,rfl⟩),fa.eF (by rw[cS])⟩
   ·rename_i nJ
    split at h
    ·rename_i f args pv oG
     split at h
     ·obtain⟨Rh,⟨v0,yq⟩,pL⟩:=nH hC r h
      by_cases hc:a.tmps.getD t undef = .bool want
      ·refine .inl ⟨hw.2 hc,?_⟩
       have qC:Holds a [(t,want)]:=fun u b hm=>by simp at hm;obtain⟨rfl,rfl⟩:=hm;exact hc
       have hl:(args.map a.eval).toList.length=(kQ s [(t,want)] args.toList).length:=by rw[dH];simp
       have h2:=pL (args.map a.eval).toList hl (fun i c x h1 h2=>rG r qC args.toList i c x h1 (by simpa using h2))
       unfold bK execOp
       rw[oG]
       simp only
       rw[en Rh rfl]
       have e0:(args.map a.eval).toList.toArray=args.map a.eval ++ #[]:=by simp only[Array.toArray_toList,Array.append_empty]
       rw[e0]at h2
       refine h2.mono fun e tu ⟨v',he,v,hK,hR,hV,hF⟩=>⟨v',he,_,_,ok,φ,hK,hR.dR hd (.inl ⟨hc,hV⟩),hF.F9 (cS _ _ _ _)⟩
      ·exact .inr ⟨CE hc,_,_,ok,φ,yq,r.dR hd (.inr ⟨hc,rfl⟩),fa.eF (by rw[cS])⟩
     split at h
     ·obtain⟨Rh,⟨v0,yq⟩,pL⟩:=qf hC r h
      by_cases hc:a.tmps.getD t undef = .bool want
      ·refine .inl ⟨hw.2 hc,?_⟩
       have qC:Holds a [(t,want)]:=fun u b hm=>by simp at hm;obtain⟨rfl,rfl⟩:=hm;exact hc
       have hl:(args.map a.eval).toList.length=(kQ s [(t,want)] args.toList).length:=by rw[dH];simp
       have h2:=pL (args.map a.eval).toList hl (fun i c x h1 h2=>rG r qC args.toList i c x h1 (by simpa using h2))
       unfold bK execOp
       rw[oG]
       simp only
       rw[en Rh rfl]
       have e0:(args.map a.eval).toList.toArray=args.map a.eval ++ #[]:=by simp only[Array.toArray_toList,Array.append_empty]
       rw[e0]at h2
       refine h2.mono fun e tu ⟨v',he,v,ok',φ',hK,hR,hV,hF⟩=>⟨v',he,_,_,ok',φ',hK,hR.dR hd (.inl ⟨hc,hV⟩),hF.F9 (cS _ _ _ _)⟩
      ·exact .inr ⟨CE hc,_,_,ok,φ,yq,r.dR hd (.inr ⟨hc,rfl⟩),fa.eF (by rw[cS])⟩
     ·exact oZ h
    ·exact oZ h
end Go.Dm
namespace Go.Dm
variable {P:Program} {E:Env} {C:aj} {I:Nat→List V→List V→St→(V→St→Prop)→Prop}
variable {B0:Nat} {bx:List Nat} {W0:World} {aI:Nat→Prop} {Z:Zr} {N:Nat}
theorem Ad(hE:c8 P E)(hC:ah P Z.gl C)(hI:Cz P Z.gl I){ops:Array Oper}(hd:∀(i:Nat) (o:Oper),ops[i]? = some o→∀k,o.dst=some k→k<N){Q:Exit→Act→World→Prop}{K:St→Prop}
  (hQ:∀ok φ s a w,Rel B0 bx W0 aI Z N ok φ s a w→K s→Q .normal a w):
  ∀(rest:List Oper) (i:Nat),(∀j,rest[j]? = ops[i+j]?)→∀(ok:Nat→Prop) (φ:Nat→Value) (s:St) (a:Act) (w:World),Rel B0 bx W0 aI Z N ok φ s a w→NW E C I ops.toList rest s K→
   wpOps P ops Q (List.range' i rest.length) a w:=by
 intro rest
 induction rest with
 |nil=>intro i _ ok φ s a w r h;exact hQ ok φ s a w r h
 |cons o rest ih=>
  intro i hi ok φ s a w r h
  have ho:ops[i]? = some o:=by simpa using(hi 0).symm
  have yA:∀v' w',lf B0 bx W0 aI Z N o a φ s w (fun _ s=>NW E C I ops.toList rest s K) v' w'→wpOps P ops Q (List.range' (i+1) rest.length) (a.put o.dst v') w':=fun v' w' ⟨_,s',ok',φ',h1,h2,_⟩=>
   ih (i+1) (fun j=>by have:=hi (j+1);simpa[Nat.add_assoc,Nat.add_comm 1 j]using this) ok' φ' s' _ w' h2 h1
  simp only[List.length_cons,List.range'_succ]
  unfold wpOps
  rw[ho]
  simp only
  rcases pK hE hC hI (hd i o ho) r h with⟨hw,dE⟩|⟨hw,dE⟩
  ·rw[if_pos hw]
   exact .inl (dE.wp yA)
  ·rw[if_neg (by rw[hw];simp)]
   exact yA _ _ dE
def CF(P:Program)(B0:Nat)(bx:List Nat)(W0:World)(aI:Nat→Prop)(Z:Zr)(N:Nat)(ops:Array Oper)(o:Oper)(ok:Nat→Prop)(φ:Nat→Value)(s:St)(a:Act)(w:World)(next:List Nat→St→Prop):Prop:=
 ∃v',∃X:Nat→Prop,((Region.wanted o (yielded ops a.tmps)=true∧∀w₂,(∀b,X b→w₂.heap[b]? = w.heap[b]?)→(execOp a.eval o).run P w₂ = .ok (.value v') w₂)∨(Region.wanted o (yielded ops a.tmps)=false∧v'=undef))∧
    ∃ks s',next ks s'∧Rel B0 bx W0 aI Z N ok φ s' (a.put o.dst v') w∧s'.hp=s.hp∧∀b,X b→b<w.heap.size∧∀k b',lk s.hp k=some b'→b'.aM=true→aq (φ k)=some b→k∈ks
theorem yB(hE:c8 P E){ops:Array Oper}{o:Oper}(hd:∀k,o.dst=some k→k<N)(hq:wU o.op=true){ok:Nat→Prop}{φ:Nat→Value}{s:St}{a:Act}{w:World}(r:Rel B0 bx W0 aI Z N ok φ s a w){next:List Nat→St→Prop}
  (h:jO E C I ops.toList o s next):
  CF P B0 bx W0 aI Z N ops o ok φ s a w next:=by
 have exec:∀(s1:St),Rel B0 bx W0 aI Z N ok φ s1 a w→s1.hp=s.hp→∀g,Holds a g→Region.wanted o (yielded ops a.tmps)=true→(FE E C I s1 g o fun v s'=>next (fP E s1 g o.op) (kf s' o.dst v))→
  CF P B0 bx W0 aI Z N ops o ok φ s a w next:=by
  intro s1 r1 mn g hg hw h
  obtain⟨v,v',s',X,h1,h2,h3,h4,h5,h6⟩:=D7 hE r1 hg hq h
  exact⟨v',X,.inl ⟨hw,h1⟩,_,_,h2,h3.kf hd h4,by rw[qB,h5,mn],fun b hb=>by rw[←mn];exact h6 b hb⟩
 have skip:∀(s1:St),Rel B0 bx W0 aI Z N ok φ s1 a w→s1.hp=s.hp→Region.wanted o (yielded ops a.tmps)=false→next [] (kf s1 o.dst .dead)→
  CF P B0 bx W0 aI Z N ops o ok φ s a w next:=by
  intro s1 r1 mn hw h
  exact⟨undef,fun _=>False,.inr ⟨hw,rfl⟩,_,_,h,r1.kf hd (.dead _),by rw[qB,mn],fun b hb=>hb.elim⟩
 unfold jO at h
 split at h
 ·rename_i hg
  exact exec s r rfl [] (fun _ _ h=>by cases h) (by unfold Region.wanted;rw[hg]) h
 ·rename_i j want hg
  split at h
  ·exact h.elim
  rename_i t ht
  have hw:=sf hg ht a
  have CE:a.tmps.getD t undef≠.bool want→Region.wanted o (yielded ops a.tmps)=false:=fun hn=>by
   cases hc:Region.wanted o (yielded ops a.tmps)
   ·rfl
   ·exact(hn (hw.1 hc)).elim
  have qC:a.tmps.getD t undef = .bool want→Holds a [(t,want)]:=fun hc u b hm=>by simp at hm;obtain⟨rfl,rfl⟩:=hm;exact hc
  have oZ:ke 4 s t want (fun s1=>FE E C I s1 [(t,want)] o fun v s'=>next (fP E s1 [(t,want)] o.op) (kf s' o.dst v)) (fun s1=>next [] (kf s1 o.dst .dead))→CF P B0 bx W0 aI Z N ops o ok φ s a w next:=fun h=>by
   rcases iG 4 r h with⟨h1,s1,h2,h3,h4⟩|⟨h1,s1,h2,h3,h4⟩
   ·exact exec s1 h3 h4 _ (qC h1) (hw.2 h1) h2
   ·exact skip s1 h3 h4 (CE h1) h2
  split at h
  ·rename_i b hb
   have hk:=r.kn t b hb
   split at h
   ·exact exec s r rfl _ (qC hk) (hw.2 hk) h
   ·exact exec s r rfl _ (qC hk) (hw.2 hk) h
   ·rename_i h1 h2
    have bT:a.tmps.getD t undef≠.bool want:=by
     rw[hk]
     cases b<;>cases want<;>simp_all
    split at h
    ·exact⟨undef,fun _=>False,.inr ⟨CE bT,rfl⟩,_,_,h,r.dR hd (.inr ⟨bT,rfl⟩),by rw[cS],fun b hb=>hb.elim⟩
    ·exact skip s r rfl (CE bT) h
  ·split at h
   ·rcases iG 12 r h with⟨h1,s1,h2,h3,h4⟩|⟨h1,s1,h2,h3,h4⟩
    ·exact exec s1 h3 h4 _ (qC h1) (hw.2 h1) h2
    ·exact⟨undef,fun _=>False,.inr ⟨CE h1,rfl⟩,_,_,h2,h3.dR hd (.inr ⟨h1,rfl⟩),by rw[cS,h4],fun b hb=>hb.elim⟩
   split at h
   ·rename_i nJ
    split at h
    ·rename_i c x y oG
     split at h
     ·rename_i tq XW XX h1 h2 h3
      by_cases hc:a.tmps.getD t undef = .bool want
      ·have e1:=cd r (qC hc) h1
       have XY:∀(b z:Bool) (e:Operand),tq=b→jO.oO s (t,want) c b e = .d (.v (.bool z))→a.eval e = .bool z:=fun b z e hb he=>by
        unfold jO.oO at he
        split at he
        ·rename_i u
         refine cd r (fun u' b' hm=>?_) he
         rcases List.mem_cons.1 hm with hm|hm
         ·simp at hm;obtain⟨rfl,rfl⟩:=hm;rw[←hb];exact e1
         ·exact qC hc u' b' hm
        ·exact cd r (qC hc) he
       refine⟨.bool (cond tq XW XX),fun _=>False,.inl ⟨hw.2 hc,fun w₂ _=>?_⟩,_,_,h,r.dR hd (.inl ⟨hc,cj _⟩),by rw[cS],fun b hb=>hb.elim⟩
       unfold execOp
       rw[oG]
       have:=nI (P:=P) (x:=x) (y:=y) e1 w₂
       refine this.trans ?_
       cases tq
       ·simp[XY false XX y rfl h3]
       ·simp[XY true XW x rfl h2]
      ·exact⟨undef,fun _=>False,.inr ⟨CE hc,rfl⟩,_,_,h,r.dR hd (.inr ⟨hc,rfl⟩),by rw[cS],fun b hb=>hb.elim⟩
     ·exact oZ h
    ·rename_i hnp
     obtain⟨v0,yq⟩:=CD nJ (fun x y z h'=>hnp x y z h') h
     by_cases hc:a.tmps.getD t undef = .bool want
     ·obtain⟨v,v',X,h1,h2,h3,h4⟩:=se hE r (qC hc) (o:=o) h
      exact⟨v',X,.inl ⟨hw.2 hc,h1⟩,_,_,h2,r.dR hd (.inl ⟨hc,h3⟩),by rw[cS],h4⟩
     ·exact⟨undef,fun _=>False,.inr ⟨CE hc,rfl⟩,_,_,yq,r.dR hd (.inr ⟨hc,rfl⟩),by rw[cS],fun b hb=>hb.elim⟩
   ·rename_i nJ
    split at h
    ·rename_i f args pv oG
     rw[oG]at hq;cases hq
    ·exact oZ h
def yC:js→List Nat
 | .one i _ _=>[i]
 | .alt i _ _ rest=>i::yC rest
 |_=>[]
def opB(ops:Array Oper)(i:Nat):Bool:=match ops[i]? with|some o=>wU o.op|none=>false
def cX(ops:Array Oper):js→Nat→Bool→Array Bool→Bool
 | .done,_,top,listed=>top&&(Region.ready md ops listed).isEmpty
 | .q _ _,0,_,_=>false
 | .q i k,n+1,top,listed=>top&&opB ops i&&Region.free md ops listed i&&(Region.ready md ops listed).contains i&&cX ops k n true (listed.setIfInBounds i true)
 | .one _ _ _,0,_,_=>false
 | .one i drop k,n+1,top,listed=>(!top||(Region.ready md ops listed).all fun j=>j==i)&&(Region.ready md ops listed).contains i&&drop.all (fun q=>k8 ops ops.size i q)&&cX ops k n true (listed.setIfInBounds i true)
 | .alt _ _ _ _,0,_,_=>false
 | .alt i drop k rest,n+1,top,listed=>(!top||(Region.ready md ops listed).all fun j=>(i::yC rest).contains j)&&(Region.ready md ops listed).contains i&&drop.all (fun q=>k8 ops ops.size i q)&&cX ops k n true (listed.setIfInBounds i true)&&cX ops rest (n+1) false listed
def D8(𝒞:gR)(rs:List (Nat×List Nat))(φ:Nat→Value)(s:St)(w:World):Prop:=
 ∀q S,𝒞 q S→∃ks,∃X:Nat→Prop,(q,ks)∈rs∧(∀w₂,(∀b,X b→w₂.heap[b]? = w.heap[b]?)→S w₂)∧∀b,X b→b<w.heap.size∧∀k b',lk s.hp k=some b'→b'.aM=true→aq (φ k)=some b→k∈ks
theorem D9{drop:List Nat}{rs:List (Nat×List Nat)}{q:Nat}{ks:List Nat}(h:(q,ks)∈rs)(hn:q∉drop):(q,ks)∈iU drop rs:=by
 induction rs with
 |nil=>cases h
 |cons p r ih=>
  obtain⟨q',ks'⟩:=p
  simp only[iU]
  split
  ·rename_i hm
   rw[mem_iff]at hm
   rcases List.mem_cons.1 h with h|h
   ·simp at h;obtain⟨rfl,_⟩:=h;exact(hn hm).elim
   ·exact ih h
  ·rcases List.mem_cons.1 h with h|h
   ·rw[h];exact List.mem_cons_self
   ·exact List.mem_cons_of_mem _ (ih h)
theorem Ae{ks l:List Nat}(h:Cj ks l=true):∀k∈ks,k∉l:=by
 induction ks with
 |nil=>intro k hk;cases hk
 |cons x r ih=>
  intro k hk hl
  simp only[Cj]at h
  split at h
  ·cases h
  ·rename_i hm
   rcases List.mem_cons.1 hk with rfl|hk
   ·rw[←mem_iff]at hl;rw[hl]at hm;cases hm
   ·exact ih h k hk hl
theorem uz{ks:List Nat}{rs:List (Nat×List Nat)}(h:x7 ks rs=true):∀q l,(q,l)∈rs→∀k∈ks,k∉l:=by
 induction rs with
 |nil=>intro q l hm;cases hm
 |cons p r ih=>
  obtain⟨q',l'⟩:=p
  intro q l hm
  simp only[x7]at h
  split at h
  ·rename_i h1
   rcases List.mem_cons.1 hm with hm|hm
   ·simp at hm;obtain⟨rfl,rfl⟩:=hm;exact Ae h1
   ·exact ih h q l hm
  ·cases h
theorem D8.step{ops:Array Oper}{i:Nat}{𝒞:gR}{rs:List (Nat×List Nat)}{drop ks:List Nat}{φ φ':Nat→Value}{s s':St}{w w':World}(h:D8 𝒞 rs φ s w)(yD:∀q∈drop,yw ops i q)
  (hd:x7 ks (iU drop rs)=true) (hF:fa ks φ s w φ' s' w'):D8 (𝒞.past ops i) (iU drop rs) φ' s' w'∧∀q S,𝒞.past ops i q S→S w':=by
 have key:∀q S,𝒞.past ops i q S→∃l,∃X:Nat→Prop,(q,l)∈iU drop rs∧(∀w₂,(∀b,X b→w₂.heap[b]? = w.heap[b]?)→S w₂)∧(∀b,X b→b<w.heap.size∧∀k b',lk s.hp k=some b'→b'.aM=true→aq (φ k)=some b→k∈l)∧
   ∀b,X b→w'.heap[b]? = w.heap[b]?:=by
  intro q S hq
  obtain⟨l,X,h1,h2,h3⟩:=h q S hq.1
  have hm:=D9 h1 (fun hm=>hq.2 (yD q hm))
  refine⟨l,X,hm,h2,h3,fun b hb=>hF.same b (h3 b hb).1 fun k b' hk cJ ha he=>?_⟩
  exact uz hd q l hm k hk ((h3 b hb).2 k b' cJ ha he)
 refine⟨fun q S hq=>?_,fun q S hq=>?_⟩
 ·obtain⟨l,X,h1,h2,h3,h4⟩:=key q S hq
  refine⟨l,X,h1,fun w₂ hw=>h2 w₂ fun b hb=>(hw b hb).trans (h4 b hb),fun b hb=>⟨Nat.lt_of_lt_of_le (h3 b hb).1 hF.size,fun k b' hk ha he=>?_⟩⟩
  obtain⟨k0,b0,e1,e2,e3,e4⟩:=hF.own k b' b hk ha he (h3 b hb).1
  have hl:=(h3 b hb).2 k0 b0 e1 e2 e3
  rcases e4 with rfl|e4
  ·exact hl
  ·exact(uz hd q l h1 k0 e4 hl).elim
 ·obtain⟨l,X,h1,h2,h3,h4⟩:=key q S hq
  exact h2 w' h4
theorem sj(hE:c8 P E)(hC:ah P Z.gl C)(hI:Cz P Z.gl I){ops:Array Oper}(hd:∀(i:Nat) (o:Oper),ops[i]? = some o→∀k,o.dst=some k→k<N){Q:Exit→Act→World→Prop}{K:St→Prop}
  {i:Nat} {drop:List Nat} {k:js} {listed:Array Bool} {𝒞:gR} {rs:List (Nat×List Nat)} {ok:Nat→Prop} {φ:Nat→Value} {s:St} {a:Act} {w:World} (yE:Down ops listed) (hinv:D8 𝒞 rs φ s w) (r:Rel B0 bx W0 aI Z N ok φ s a w)
  (h:(match nth ops.toList i with
   |none=>False
   |some o=>jO E C I ops.toList o s fun ks s=>match x7 ks (iU drop rs)with|true=>rC E C I ops.toList K k (iU drop rs) s|false=>False))
  (n:Nat) (ih:∀(𝒞:gR) (rs:List (Nat×List Nat)) (ok:Nat→Prop) (φ:Nat→Value) (s:St) (a:Act) (w:World),Down ops (listed.setIfInBounds i true)→D8 𝒞 rs φ s w→
   Rel B0 bx W0 aI Z N ok φ s a w→rC E C I ops.toList K k rs s→fg P ops Q n 𝒞 (listed.setIfInBounds i true) a w)
  (yD:∀q∈drop,yw ops i q) (i_:i∈Region.ready md ops listed):
  wpOp P ops Q i (fun a' w'=>(∀q S,𝒞.past ops i q S→S w')∧fg P ops Q n (𝒞.past ops i) (listed.setIfInBounds i true) a' w') a w:=by
 split at h
 ·exact h.elim
 rename_i o ho
 rw[lR]at ho
 have ho:ops[i]? = some o:=by simpa using ho
 have yA:∀v' w',lf B0 bx W0 aI Z N o a φ s w (fun ks s=>match x7 ks (iU drop rs)with|true=>rC E C I ops.toList K k (iU drop rs) s|false=>False) v' w'→
   (∀q S,𝒞.past ops i q S→S w')∧fg P ops Q n (𝒞.past ops i) (listed.setIfInBounds i true) (a.put o.dst v') w':=fun v' w' ⟨ks,s',ok',φ',h1,h2,h3⟩=>by
  dsimp only at h1
  split at h1
  ·rename_i Od
   obtain⟨i1,i2⟩:=hinv.step yD Od h3
   exact⟨i2,ih _ _ ok' φ' s' _ w' (yE.add i_) i1 h2 h1⟩
  ·exact h1.elim
 unfold wpOp
 rw[ho]
 simp only
 rcases pK hE hC hI (hd i o ho) r h with⟨hw,dE⟩|⟨hw,dE⟩
 ·rw[if_pos hw]
  exact .inl (dE.wp yA)
 ·rw[if_neg (by rw[hw];simp)]
  exact yA _ _ dE
theorem Rd.drew{ok:Nat→Prop}{w:World}{v:Value}{d:D}(h:Rd ok w v d)(n:Nat):Rd ok {w with drawn:=n} v d:=h.mono (fun _ h=>h) (fun _ _=>rfl)
theorem Rel.drew{ok:Nat→Prop}{φ:Nat→Value}{s:St}{a:Act}{w:World}(r:Rel B0 bx W0 aI Z N ok φ s a w):Rel B0 bx W0 aI Z N ok φ s a {w with drawn:=w.drawn+1}:=by
 have:=r.step (w':={w with drawn:=w.drawn+1}) (φ':=φ) (ok':=ok) (hp':=s.hp) (fun _=>False) (fun _ h=>h.elim) (fun _ h=>h) (fun _ _=>rfl) (fun _ _ _=>rfl) (fun k _=>cI.refl _ k)
  (fun k b hb=>(r.hp k b hb).keep (fun _=>False) (fun _ _ h=>h.elim) (fun _ h=>h) (fun _ _=>rfl) (fun _ _ _=>rfl) (fun k _=>cI.refl _ k) (fun _ _ _=>rfl)) r.act r.inj r.one r.fH r.kT ⟨rfl,rfl,rfl,Nat.le_refl _,fun _ _ _=>rfl⟩
 exact this
theorem Af(hE:c8 P E)(hC:ah P Z.gl C)(hI:Cz P Z.gl I){ops:Array Oper}(wT:Region.noSelect ops=true)(hd:∀(i:Nat) (o:Oper),ops[i]? = some o→∀k,o.dst=some k→k<N){Q:Exit→Act→World→Prop}{K:St→Prop}
  (hQ:∀ok φ s a w,Rel B0 bx W0 aI Z N ok φ s a w→K s→Q .normal a w) (hQp:∀c a w,¬Q (.panic c) a w):
  ∀(zN:js) (n:Nat) (listed:Array Bool) (𝒞:gR) (rs:List (Nat×List Nat)) (ok:Nat→Prop) (φ:Nat→Value) (s:St) (a:Act) (w:World),Down ops listed→D8 𝒞 rs φ s w→
   Rel B0 bx W0 aI Z N ok φ s a w→rC E C I ops.toList K zN rs s→
   (cX ops zN n true listed=true→fg P ops Q n 𝒞 listed a w)∧
   (cX ops zN n false listed=true→∃m,n=m+1∧∀i∈yC zN,i∈Region.ready md ops listed→wpOp P ops Q i (fun a' w'=>(∀q S,𝒞.past ops i q S→S w')∧fg P ops Q m (𝒞.past ops i) (listed.setIfInBounds i true) a' w') a w):=by
 intro zN
 induction zN with
 |done=>
  intro n listed 𝒞 rs ok φ s a w yE hinv r h
  refine⟨fun hs=>?_,fun hs=>by simp[cX]at hs⟩
  simp only[cX,Bool.true_and,List.isEmpty_iff]at hs
  exact yy hs (hQ ok φ s a w r h) n
 |q i k ih=>
  intro n listed 𝒞 rs ok φ s a w yE hinv r h
  cases n with
  |zero=>exact⟨fun hs=>by simp[cX]at hs,fun hs=>by simp[cX]at hs⟩
  |succ n=>
   refine⟨fun hs=>?_,fun hs=>by simp[cX]at hs⟩
   simp only[cX,Bool.true_and,Bool.and_eq_true]at hs
   obtain⟨⟨⟨hq,hf⟩,hr⟩,hk⟩:=hs
   simp only[rC]at h
   split at h
   ·exact h.elim
   rename_i o ho
   rw[lR]at ho
   have ho:ops[i]? = some o:=by simpa using ho
   have hq:wU o.op=true:=by unfold opB at hq;rw[ho]at hq;exact hq
   obtain⟨v',X,hy,ks,s',h1,h2,h3,h4⟩:=yB hE (hd i o ho) hq r h
   have i_:i∈Region.ready md ops listed:=by simpa using hr
   refine wS (S:=fun w₂=>∀b,X b→w₂.heap[b]? = w.heap[b]?) ho (Region.noSelect_spec wT) hQp n 𝒞 listed a w yE (Region.free_spec ho hf) i_ hy (fun _ _=>rfl) (fun q T Oo=>?_) ?_
   ·obtain⟨_,_,_,e,_⟩:=hinv q T Oo
    exact e w fun _ _=>rfl
   ·refine(ih n _ _ ((i,ks)::rs) ok φ s' _ w (yE.add i_) (fun q T Oo=>?_) h2 h1).1 hk
    rcases Oo with Oo|⟨rfl,rfl⟩
    ·obtain⟨l,Y,e1,e2,e3⟩:=hinv q T Oo
     exact⟨l,Y,List.mem_cons_of_mem _ e1,e2,by rw[h3];exact e3⟩
    ·exact⟨ks,X,List.mem_cons_self,fun w₂ hw=>hw,by rw[h3];exact h4⟩
 |one i drop k ih=>
  intro n listed 𝒞 rs ok φ s a w yE hinv r h
  cases n with
  |zero=>exact⟨fun hs=>by simp[cX]at hs,fun hs=>by simp[cX]at hs⟩
  |succ n=>
   have step:=fun hk=>sj (Q:=Q) (K:=K) (drop:=drop) (k:=k) hE hC hI hd yE hinv r h n (fun 𝒞 rs ok φ s a w h1 h2 h3 h4=>(ih n _ 𝒞 rs ok φ s a w h1 h2 h3 h4).1 hk)
   refine⟨fun hs=>?_,fun hs=>⟨n,rfl,fun j hj i_=>?_⟩⟩
   ·simp only[cX,Bool.not_true,Bool.false_or,Bool.and_eq_true,List.all_eq_true,beq_iff_eq]at hs
    obtain⟨⟨⟨h1,h0⟩,h2⟩,h3⟩:=hs
    refine⟨fun he=>?_,fun j hj=>?_⟩
    ·rw[he]at h0;simp at h0
    ·have:=h1 j hj
     subst this
     exact step h3 (fun q hq=>⟨_,h2 q hq⟩) hj
   ·simp only[cX,Bool.not_false,Bool.true_or,Bool.true_and,Bool.and_eq_true,List.all_eq_true]at hs
    simp only[yC,List.mem_singleton]at hj
    subst hj
    exact step hs.2 (fun q hq=>⟨_,hs.1.2 q hq⟩) i_
 |alt i drop k rest T8 T9=>
  intro n listed 𝒞 rs ok φ s a w yE hinv r h
  cases n with
  |zero=>exact⟨fun hs=>by simp[cX]at hs,fun hs=>by simp[cX]at hs⟩
  |succ n=>
   have step:=fun hk=>sj (Q:=Q) (K:=K) (drop:=drop) (k:=k) hE hC hI hd yE hinv r h.1 n (fun 𝒞 rs ok φ s a w h1 h2 h3 h4=>(T8 n _ 𝒞 rs ok φ s a w h1 h2 h3 h4).1 hk)
   have all:cX ops k n true (listed.setIfInBounds i true)=true→(∀q∈drop,k8 ops ops.size i q=true)→cX ops rest (n+1) false listed=true→∀j∈i::yC rest,j∈Region.ready md ops listed→
        wpOp P ops Q j (fun a' w'=>(∀q S,𝒞.past ops j q S→S w')∧fg P ops Q n (𝒞.past ops j) (listed.setIfInBounds j true) a' w') a w:=by
      intro h1 h2 h3 j hj i_
      rcases List.mem_cons.1 hj with rfl|hj
      ·exact step h1 (fun q hq=>⟨_,h2 q hq⟩) i_
      ·obtain⟨m,hm,bC⟩:=(T9 (n+1) listed 𝒞 rs ok φ s a w yE hinv r h.2).2 h3
       simp only[Nat.add_right_cancel_iff]at hm
       subst hm
       exact bC j hj i_
   refine⟨fun hs=>?_,fun hs=>⟨n,rfl,fun j hj i_=>?_⟩⟩
   ·simp only[cX,Bool.not_true,Bool.false_or,Bool.and_eq_true,List.all_eq_true]at hs
    obtain⟨⟨⟨⟨h1,h0⟩,h2⟩,h3⟩,h4⟩:=hs
    refine⟨fun he=>?_,fun j hj=>?_⟩
    ·rw[he]at h0;simp at h0
    ·exact all h3 h2 h4 j (by have:=h1 j hj;rw[List.contains_iff_mem]at this;exact this) hj
   ·simp only[cX,Bool.not_false,Bool.true_or,Bool.true_and,Bool.and_eq_true,List.all_eq_true]at hs
    exact all hs.1.2 hs.1.1.2 hs.2 j hj i_
theorem Ag(hE:c8 P E)(hC:ah P Z.gl C)(hI:Cz P Z.gl I)(hm:P.follows .mixedOrders=true){ops:Array Oper}(wT:Region.noSelect ops=true)(hd:∀(i:Nat) (o:Oper),ops[i]? = some o→∀k,o.dst=some k→k<N){Q:Exit→Act→World→Prop}{K:St→Prop}
  (hQ:∀ok φ s a w,Rel B0 bx W0 aI Z N ok φ s a w→K s→Q .normal a w) (hQp:∀c a w,¬Q (.panic c) a w) {zN:js} (hs:cX ops zN ops.size true (Array.replicate ops.size false)=true)
  {ok:Nat→Prop} {φ:Nat→Value} {s:St} {a:Act} {w:World} (r:Rel B0 bx W0 aI Z N ok φ s a w) (h:rC E C I ops.toList K zN [] s) (t:Nat):wpOps P ops Q (Region.schedule (P.follows .mixedOrders) ops t) a {w with drawn:=w.drawn+1}:=by
 have r':Rel B0 bx W0 aI Z N ok φ s a {w with drawn:=w.drawn+1}:=r.drew
 simp only[Region.schedule,hm,Bool.true_or,if_true]
 exact wpAny_sound ops.size t _ a _ (sd _ (fun _ _=>False) _ _ _ ((Af hE hC hI wT hd hQ hQp zN ops.size _ _ [] ok φ s a _ (F5 _) (fun q S h=>h.elim) r' h).1 hs))
def T_(N:Nat)(ops:Array Oper):Bool:=ops.all fun o=>match o.dst with|some k=>decide (k<N)|none=>true
def Ah(ops:Array Oper):Bool:=ops.all fun o=>match o.op with | .defer _=>false|_=>true
theorem pM{ops:Array Oper}(h:Ah ops=true):∀(i:Nat) (o:Oper),ops[i]? = some o→∀c,o.op≠.defer c:=by
 intro i o ho c hc
 have:=Array.all_eq_true_iff_forall_mem.1 h o (Array.mem_of_getElem? ho)
 rw[hc]at this
 simp at this
def fx(N:Nat)(sc:List (Nat×js))(tw:Bool):Code→Bool
 | .region _ ops false=>T_ N ops&&Ah ops
 | .region id ops true=>T_ N ops&&Ah ops&&Region.noSelect ops&&(match lk sc id with|none=>false|some zN=>cX ops zN ops.size true (Array.replicate ops.size false))
 | .seq a b=>fx N sc tw a&&fx N sc tw b
 | .cond _ a b=>fx N sc tw a&&fx N sc tw b
 | .block _ b=>fx N sc tw b
 | .loop b=>fx N sc tw b
 | .rangeFunc _ ps a b=>!tw&&ps.all (fun p=>decide (p<N))&&fx N sc true a&&fx N sc true b
 |_=>true
theorem uA{ops:Array Oper}(h:T_ N ops=true):∀(i:Nat) (o:Oper),ops[i]? = some o→∀k,o.dst=some k→k<N:=by
 intro i o ho k hk
 have:=Array.all_eq_true_iff_forall_mem.1 h o (Array.mem_of_getElem? ho)
 rw[hk]at this
 simpa using this
def Qof(B0:Nat)(bx:List Nat)(W0:World)(aI:Nat→Prop)(Z:Zr)(N:Nat)(K:Ex→St→Prop)(e:Exit)(a:Act)(w:World):Prop:=
 ∃ok φ s,Rel B0 bx W0 aI Z N ok φ s a w∧match e with | .normal=>K .normal s | .exit i=>K (.exit i) s | .ret=>K .ret s|_=>False
theorem yF{ok:Nat→Prop}{φ:Nat→Value}{s:St}{a:Act}{w:World}(r:Rel B0 bx W0 aI Z N ok φ s a w){c:Operand}{X Y:St→Prop}(h:FG s c X Y):
  ∃b,a.eval c = .bool b∧∃s',Rel B0 bx W0 aI Z N ok φ s' a w∧(if b then X s' else Y s'):=by
 unfold FG at h
 split at h
 ·rename_i t
  split at h
  ·rename_i hk;exact⟨true,r.kn t _ hk,s,r,h⟩
  ·rename_i hk;exact⟨false,r.kn t _ hk,s,r,h⟩
  ·split at h
   ·rename_i b hb
    have cJ:a.tmps.getD t undef = .bool b:=iV (r.tm t _ hb)
    refine⟨b,cJ,s.ka t b,r.ka cJ,?_⟩
    cases b
    ·exact h.2 rfl
    ·exact h.1 rfl
   ·exact h.elim
 ·exact⟨true,rfl,s,r,h⟩
 ·exact⟨false,rfl,s,r,h⟩
 ·exact h.elim
theorem least{p:Nat→Prop}(h:∃n,p n):∃n,p n∧∀m,p m→n≤m:=by
 obtain⟨n,hn⟩:=h
 induction n using Nat.strongRecOn with
 |_ n ih=>
  by_cases hx:∃m,m<n∧p m
  ·obtain⟨m,hm,hp⟩:=hx;exact ih m hm hp
  ·exact⟨n,hn,fun m hp=>Nat.le_of_not_lt fun hlt=>hx ⟨m,hlt,hp⟩⟩
open Classical in
noncomputable def least?(p:Nat→Prop):Nat:=if h:∃n,p n then(least h).choose else 0
theorem pN{p:Nat→Prop}(h:∃n,p n):p (least? p)∧∀m,p m→least? p≤m:=by
 unfold least?
 rw[dif_pos h]
 exact(least h).choose_spec
theorem Rel.drop{ok:Nat→Prop}{φ:Nat→Value}{s:St}{a:Act}{w:World}(r:Rel B0 bx W0 aI Z N ok φ s a w){k:Nat}(hk:k<100000):Rel B0 bx W0 aI Z N ok φ (s.drop k) a w:=by
 have rs:=r.bH k
 have FR:=mm s k
 have bT:∀j,k≠j→lk (rm (s.bH k).hp k) j=lk (s.bH k).hp j:=fun j h=>by rw[pz,if_neg h]
 have CG:∀j b,lk (rm (s.bH k).hp k) j=some b→k≠j∧lk (s.bH k).hp j=some b:=fun j b h=>by
  rw[pz]at h
  split at h
  ·cases h
  ·rename_i e;exact⟨e,h⟩
 have h4:∀j,¬(j=k)→cI (s.bH k).hp (rm (s.bH k).hp k) j:=fun j hj=>by
  unfold cI;rw[bT j (Ne.symm hj)];exact cI.refl _ j
 have:=rs.FL (fun _ h=>h) (φ':=φ) (w':=w) (ok':=ok) (hp':=rm (s.bH k).hp k) (fun j=>j=k) (fun j hj=>by cases hj;exact FR) (fun _ h=>h) (fun _ _=>rfl) (fun _ _ _=>rfl) h4
  (fun j b hb=>by
   obtain⟨e,cJ⟩:=CG j b hb
   exact(rs.hp j b cJ).keep (fun i=>i=k) (fun i cs hi Oe=>by cases hi;subst Oe;exact FR.hp j cs cJ) (fun _ h=>h) (fun _ _=>rfl) (fun _ _ _=>rfl) h4 (fun _ _ _=>rfl) (fun i es hi hm=>by cases hi;subst hm;exact FR.mp j es cJ))
  (fun j b g hb=>rs.act j b g (CG j b hb).2) (fun j j' b b' g hn hb cJ=>rs.inj j j' b b' g hn (CG j b hb).2 (CG j' b' cJ).2) rs.one rs.fH rs.kT (mB.refl _ _ _)
  (fun i g hi=>by
   obtain⟨e1,cs,e2⟩:=rs.oP i g hi
   exact⟨e1,cs,by rw[bT _ (by omega)];exact e2⟩)
 exact this
theorem Rel.tY(l:List Nat):∀{ok:Nat→Prop} {φ:Nat→Value} {s:St} {a:Act} {w:World},Rel B0 bx W0 aI Z N ok φ s a w→Rel B0 bx W0 aI Z N ok φ (Dm.tY l s) a w:=by
 induction l with
 |nil=>intro ok φ s a w r;exact r
 |cons k l ih=>
  intro ok φ s a w r
  simp only[Dm.tY]
  split
  ·exact ih r
  ·rename_i h
   exact ih (r.drop (by
    rcases Nat.lt_or_ge k 100000 with h'|h'
    ·exact h'
    ·rw[Nat.ble_eq_true_of_le h']at h;cases h))
theorem Ai(live:List Nat)(tm:List (Nat×V))(t:Nat)(x:V)(h:lk (jt live tm) t=some x):lk tm t=some x:=by
 have Ga:∀tm:List (Nat×V),mem live t=false→lk (jt live tm) t=none:=by
  intro tm hm
  induction tm with
  |nil=>rfl
  |cons p r ih=>
   obtain⟨a,y⟩:=p
   simp only[jt]
   split
   ·rename_i Wu
    have:a≠t:=by rintro rfl;rw[hm]at Wu;cases Wu
    simp only[lk,beq_false.2 this];exact ih
   ·exact ih
 have yi:mem live t=true→∀tm:List (Nat×V),lk (jt live tm) t=lk tm t:=by
  intro hm tm
  induction tm with
  |nil=>rfl
  |cons p r ih=>
   obtain⟨a,y⟩:=p
   simp only[jt]
   by_cases e:a=t
   ·subst e;rw[hm];simp[lk]
   ·split
    ·simp only[lk,beq_false.2 e];exact ih
    ·simp only[lk,beq_false.2 e];exact ih
 cases hm:mem live t
 ·rw[Ga tm hm]at h;cases h
 ·rw[yi hm tm]at h;exact h
theorem Rel.clean{ok:Nat→Prop}{φ:Nat→Value}{s:St}{a:Act}{w:World}(r:Rel B0 bx W0 aI Z N ok φ s a w)(live dk:List Nat):Rel B0 bx W0 aI Z N ok φ (Dm.clean live dk s) a w:=by
 have h:=r.tY dk
 exact {h with
  tm:=fun t x hx=>h.tm t x (Ai live _ t x hx)
  gd:=fun t t' w' x hx=>by simp[Dm.clean,lk]at hx
  gu:=fun t t' w' b hx=>by simp[Dm.clean,lk]at hx
  kn:=fun t b hx=>by simp[Dm.clean,lk]at hx}
theorem yG{α:Type}(n:Nat)(y:α)(l:List α):setAt n y l=l.set n y:=by
 induction l generalizing n with
 |nil=>cases n<;>rfl
 |cons x r ih=>cases n with
  |zero=>rfl
  |succ n=>simp[setAt,ih]
theorem Ua(hp:List (Nat×B)){b k:Nat}(x:B)(e:b≠k):cI hp (pt hp b x) k:=by
 have:lk (pt hp b x) k=lk hp k:=by rw[aJ,if_neg e]
 unfold cI
 rw[this]
 exact cI.refl hp k
theorem Rel.ajt{ok:Nat→Prop}{φ:Nat→Value}{s:St}{a:Act}{w:World}(r:Rel B0 bx W0 aI Z N ok φ s a w){key e sz:Nat}(hk:lk s.hp key=none)(hsz:0<sz):
  Rel B0 bx W0 aI Z N ok (aO φ key (.slice none 0 0)) (s.bp key (.bu e sz [])) a w∧
  (∀c v,VR ok φ s.hp w c v→VR ok (aO φ key (.slice none 0 0)) (pt s.hp key (.bu e sz [])) w c v):=by
 have h3:∀k,¬False→lk s.hp k≠none→aO φ key (.slice none 0 0) k=φ k:=fun k _ hn=>by simp only[aO];rw[if_neg (by rintro rfl;exact hn hk)]
 have h4:∀k,¬False→cI s.hp (pt s.hp key (.bu e sz [])) k:=fun k _=>by
  unfold cI
  rw[aJ]
  by_cases h:key=k
  ·subst h;rw[hk];trivial
  ·rw[if_neg h];exact cI.refl s.hp k
 refine⟨r.step (fun _=>False) (fun _ h=>h.elim) (fun _ h=>h) (fun _ _=>rfl) h3 h4 (fun k b' hb=>?_) (fun k b' g hb ha hg=>?_) (fun k k' b1 b2 g nE hb1 du gp jJ fe gn=>?_) (fun k=>?_) r.fH r.kT (mB.refl _ _ _),
  fun c v h=>h.mono (fun _ h=>h) (fun _ _=>rfl) (fun k _ hn=>h3 k id hn) (fun k _=>h4 k id)⟩
 ·rw[aJ]at hb
  by_cases h:key=k
  ·subst h
   rw[if_pos rfl]at hb
   simp only[Option.some.injEq]at hb;subst hb
   simp only[aO,if_true]
   exact⟨hsz,by simp,[],World.ownsRow_nil w B0 e sz,by simp⟩
  ·rw[if_neg h]at hb
   have:aO φ key (.slice none 0 0) k=φ k:=by simp[aO,Ne.symm h]
   rw[this]
   exact(r.hp k b' hb).keep (fun _=>False) (fun _ _ h=>h.elim) (fun _ h=>h) (fun _ _=>rfl) h3 h4 (fun _ _ _=>rfl)
 ·rw[aJ]at hb
  by_cases h:key=k
  ·subst h
   simp[aO,aq]at hg
  ·rw[if_neg h]at hb
   simp only[aO,if_neg (Ne.symm h)]at hg
   exact r.act k b' g hb ha hg
 ·rw[aJ]at hb1 du
  by_cases h:key=k
  ·subst h
   simp[aO,aq]at fe
  ·rw[if_neg h]at hb1
   simp only[aO,if_neg (Ne.symm h)]at fe
   by_cases h':key=k'
   ·subst h'
    simp[aO,aq]at gn
   ·rw[if_neg h']at du
    simp only[aO,if_neg (Ne.symm h')]at gn
    exact r.inj k k' b1 b2 g nE hb1 du gp jJ fe gn
 ·simp only[aO];split
  ·rfl
  ·exact r.one k
theorem CH(k:Nat)(es:List (List D))(t:Nat)(tm:List (Nat×V)):lk (x9 k es tm) t=(lk tm t).map (x8 k es):=by
 induction tm with
 |nil=>simp[x9,lk]
 |cons p r ih=>
  obtain⟨x,b⟩:=p
  simp only[x9,lk]
  split
  ·rfl
  ·exact ih
theorem nK(k:Nat)(es:List (List D))(j:Nat)(hp:List (Nat×B)):lk (rE k es hp) j=(lk hp j).map fun b=>match b with | .box cs=>.box (tD k es cs) | .mp l=>.mp (tE k es l)|b=>b:=by
 induction hp with
 |nil=>simp[rE,lk]
 |cons p r ih=>
  obtain⟨x,b⟩:=p
  simp only[rE,lk]
  split
  ·rfl
  ·exact ih
theorem Gb(k:Nat)(es:List (List D))(d:Nat)(rt:List (List (Nat×V))):nth (FF k es rt) d=(nth rt d).map (x9 k es):=by
 induction rt generalizing d with
 |nil=>simp[FF,nth]
 |cons l r ih=>cases d with
  |zero=>rfl
  |succ d=>exact ih d
theorem Gc(k:Nat)(es:List (List D))(cs:List V)(i:Nat)(c:V)(h:(tD k es cs)[i]? = some c):∃c0,cs[i]? = some c0∧c=x8 k es c0:=by
 induction cs generalizing i with
 |nil=>simp[tD]at h
 |cons x r ih=>
  cases i with
  |zero=>simp[tD]at h;exact⟨x,rfl,h.symm⟩
  |succ i=>exact ih i (by simpa[tD]using h)
theorem yH(k:Nat)(es:List (List D))(cs:List V):(tD k es cs).length=cs.length:=by
 induction cs with
 |nil=>rfl
 |cons x r ih=>simp[tD,ih]
theorem yI(k:Nat)(es:List (List D))(l:List (Value×V))(i:Nat)(x:Value×V)(h:(tE k es l)[i]? = some x):∃x0,l[i]? = some x0∧x=(x0.1,x8 k es x0.2):=by
 induction l generalizing i with
 |nil=>simp[tE]at h
 |cons y r ih=>
  cases i with
  |zero=>simp[tE]at h;exact⟨y,rfl,h.symm⟩
  |succ i=>exact ih i (by simpa[tE]using h)
theorem yJ(k:Nat)(es:List (List D))(l:List (Value×V)):(tE k es l).length=l.length:=by
 induction l with
 |nil=>rfl
 |cons x r ih=>simp[tE,ih]
theorem CI(k:Nat)(es:List (List D))(j:Nat)(hp:List (Nat×B)):cI hp (rE k es hp) j:=by
 unfold cI
 split
 ·trivial
 ·rename_i cs h;exact⟨tD k es cs,by rw[nK,h];rfl⟩
 ·rename_i e sz iz h;exact⟨iz,.inl ⟨e,by rw[nK,h];rfl⟩⟩
 ·rename_i sz iz h;exact⟨iz,.inr (by rw[nK,h];rfl)⟩
 ·rename_i l h;exact⟨tE k es l,by rw[nK,h];rfl⟩
theorem Rel.tZ{ok:Nat→Prop}{φ:Nat→Value}{s:St}{a:Act}{w:World}(r:Rel B0 bx W0 aI Z N ok φ s a w){k sz:Nat}{es:List (List D)}(hk:k<100000)(hf:lk s.hp k=some (.j9 sz es)):Rel B0 bx W0 aI Z N ok φ (s.tZ k es) a w:=by
 have cK:Rd ok w (φ k) (.sl es):=(r.hp k _ hf).2.2.1
 have hm:∀{c:V} {v:Value},VR ok φ s.hp w c v→VR ok φ (rE k es s.hp) w (x8 k es c) v:=fun {c v} h=>by
  have h':VR ok φ (rE k es s.hp) w c v:=h.mono (fun _ h=>h) (fun _ _=>rfl) (fun _ _ _=>rfl) (fun j _=>CI k es j s.hp)
  cases c with
  |own j=>
   simp only[x8]
   split
   ·rename_i e
    have:j=k:=Nat.eq_of_beq_eq_true e
    subst this
    cases h with
    |own hb hφ=>subst hφ;exact .d cK
   ·exact h'
  |_=>exact h'
 have hb:∀j b,lk (rE k es s.hp) j=some b→∃b0,lk s.hp j=some b0∧b0.aM=b.aM∧BR B0 ok φ (rE k es s.hp) w (φ j) b:=by
  intro j b h
  rw[nK]at h
  cases h0:lk s.hp j with
  |none=>rw[h0]at h;cases h
  |some b0=>
   rw[h0]at h
   simp only[Option.map_some,Option.some.injEq]at h
   refine⟨b0,rfl,by subst h;cases b0<;>rfl,?_⟩
   have hB:=r.hp j b0 h0
   cases b0 with
   |box cs=>
    subst h
    obtain⟨g,arr,T,h1,h2,h3,h4⟩:=hB
    refine⟨g,arr,T,h1,h2,by rw[yH];exact h3,fun i c x hc hx=>?_⟩
    obtain⟨c0,hc0,rfl⟩:=Gc k es cs i c hc
    exact hm (h4 i c0 x hc0 hx)
   |bu e sz es=>subst h;exact hB
   |j9 sz es=>subst h;exact hB
   |mp l=>
    subst h
    obtain⟨g,gk,clock,h1,h2,h3,h5,h4⟩:=hB
    refine⟨g,gk,clock,h1,h2,by rw[yJ];exact h3,fun x hx=>?_,fun i x y hc hx=>?_⟩
    ·obtain⟨i,hi,rfl⟩:=List.getElem_of_mem hx
     obtain⟨x0,hc0,e0⟩:=yI k es l i _ (List.getElem?_eq_getElem hi)
     rw[e0];exact h5 x0 (List.mem_of_getElem? hc0)
    ·obtain⟨x0,hc0,rfl⟩:=yI k es l i x hc
     exact⟨(h4 i x0 y hc0 hx).1,hm (h4 i x0 y hc0 hx).2⟩
 have r1:Rel B0 bx W0 aI Z N ok φ {tm:=x9 k es s.tm,hp:=rE k es s.hp,kn:=s.kn,gd:=[],rt:=FF k es s.rt} a w:={
  sz:=r.sz
  tm:=fun t x h=>by
   dsimp only at h
   rw[CH]at h
   cases h0:lk s.tm t with
   |none=>rw[h0]at h;cases h
   |some y=>
    rw[h0]at h
    simp only[Option.map_some,Option.some.injEq]at h
    subst h
    exact hm (r.tm t y h0)
  rt:=fun d l t x hl h=>by
   dsimp only at hl
   rw[Gb]at hl
   cases hd:nth s.rt d with
   |none=>rw[hd]at hl;cases hl
   |some l0=>
    rw[hd]at hl
    simp only[Option.map_some,Option.some.injEq]at hl
    subst hl
    rw[CH]at h
    cases h0:lk l0 t with
    |none=>rw[h0]at h;cases h
    |some y=>
     rw[h0]at h
     simp only[Option.map_some,Option.some.injEq]at h
     subst h
     exact hm (r.rt d l0 t y hd h0)
  gd:=fun t t' w' x h=>by simp[lk]at h
  gu:=fun t t' w' b h=>by simp[lk]at h
  kn:=r.kn
  hp:=fun j b h=>let ⟨_,_,_,h3⟩:=hb j b h;h3
  act:=fun j b g h ha hg=>by
   obtain⟨b0,h1,h2,_⟩:=hb j b h
   exact r.act j b0 g h1 (by rw[h2];exact ha) hg
  inj:=fun j j' b b' g bT h h' ha DT hg oT=>by
   obtain⟨b0,h1,h2,_⟩:=hb j b h
   obtain⟨b1,h3,h4,_⟩:=hb j' b' h'
   exact r.inj j j' b0 b1 g bT h1 h3 (by rw[h2];exact ha) (by rw[h4];exact DT) hg oT
  one:=r.one
  fH:=r.fH
  kT:=r.kT
  aI:=r.aI
  l8:=r.l8
  b0:=r.b0
  df:=r.df
  kz:=r.kz
  zs:=r.zs
  oP:=fun i g h=>by
   obtain⟨e1,cs,e2⟩:=r.oP i g h
   exact⟨e1,(CI k es _ s.hp).box e2⟩}
 exact r1.drop hk
theorem Rel.cU(l:List Cv):∀{φ:Nat→Value} {ok:Nat→Prop} {s:St} {a:Act} {w:World},Rel B0 bx W0 aI Z N ok φ s a w→∃ok' φ',(∀b,ok b→ok' b)∧Rel B0 bx W0 aI Z N ok' φ' (Dm.cU l s) a w:=by
 induction l with
 |nil=>intro φ ok s a w r;exact⟨ok,φ,fun _ h=>h,r⟩
 |cons c l ih=>
  intro φ ok s a w r
  simp only[Dm.cU]
  split
  ·rename_i hsz hk
   obtain⟨r1,hm⟩:=r.ajt (e:=c.e) (sz:=c.sz) hk (Nat.le_of_ble_eq_true hsz)
   have qg:VR ok (aO φ c.key (.slice none 0 0)) (pt s.hp c.key (.bu c.e c.sz [])) w (.own c.key) (.slice none 0 0):=
    .own (sz:=c.sz) (es:=[]) (.inl ⟨c.e,by simp[aJ]⟩) (by simp[aO])
   split
   ·split
    ·rename_i Ub
     refine ih (φ:=aO φ c.key (.slice none 0 0)) (s:={s with tm:=pt s.tm c.ix (.own c.key),hp:=pt s.hp c.key (.bu c.e c.sz [])}) ?_
     have hv:=r.tm c.ix _ Ub
     generalize hx:a.tmps.getD c.ix undef=x at hv
     cases hv
     exact {r1 with
      tm:=fun u y hy=>by
       dsimp only at hy
       rw[aJ]at hy
       by_cases e:c.ix=u
       ·subst e;simp at hy;subst hy;rw[hx];exact qg
       ·rw[if_neg e]at hy;exact r1.tm u y hy}
    ·exact ih r
   ·rename_i b zx
    split
    ·rename_i cs hb
     split
     ·rename_i hn
      rw[lR]at hn
      have bT:c.key≠b:=by rintro e;rw[e,hb]at hk;cases hk
      have hb1:lk (s.bp c.key (.bu c.e c.sz [])).hp b=some (.box cs):=by simp only[St.bp];rw[aJ,if_neg bT];exact hb
      obtain⟨g,arr,T,h1,h2,h3,h4⟩:=r1.hp b _ hb1
      refine ih (φ:=aO φ c.key (.slice none 0 0)) (s:={s with hp:=pt (pt s.hp c.key (.bu c.e c.sz [])) b (.box (setAt c.ix (.own c.key) cs))}) ?_
      have h4':∀k,¬False→cI (pt s.hp c.key (.bu c.e c.sz [])) (pt (pt s.hp c.key (.bu c.e c.sz [])) b (.box (setAt c.ix (.own c.key) cs))) k:=fun k _=>by
       by_cases e:b=k
       ·subst e;exact wI hb1
       ·exact Ua _ _ e
      have back:∀k b',lk (pt (pt s.hp c.key (.bu c.e c.sz [])) b (.box (setAt c.ix (.own c.key) cs))) k=some b'→b'.aM=true→∃b0,lk (s.bp c.key (.bu c.e c.sz [])).hp k=some b0∧b0.aM=true:=fun k b' cJ ha=>by
       rw[aJ]at cJ
       by_cases e:b=k
       ·subst e;exact⟨_,hb1,rfl⟩
       ·rw[if_neg e]at cJ;exact⟨b',cJ,ha⟩
      refine r1.step (hp':=pt (pt s.hp c.key (.bu c.e c.sz [])) b (.box (setAt c.ix (.own c.key) cs))) (w':=w) (ok':=ok) (fun _=>False) (fun _ h=>h.elim) (fun _ h=>h) (fun _ _=>rfl) (fun _ _ _=>rfl) h4' (fun k b' cJ=>?_) (fun k b' g cJ ha hg=>?_) (fun k k' b1 b2 g nE T4 ajv gp jJ fe gn=>?_) r1.one r1.fH r1.kT (mB.refl _ _ _)
      ·rw[aJ]at cJ
       by_cases e:b=k
       ·subst e
        rw[if_pos rfl]at cJ
        simp only[Option.some.injEq]at cJ;subst cJ
        refine⟨g,arr,T,h1,h2,by rw[yG,List.length_set];exact h3,fun i c' x hc hx=>?_⟩
        rw[yG,List.getElem?_set]at hc
        have tr:∀(c0:V) (v:Value),VR ok (aO φ c.key (.slice none 0 0)) (pt s.hp c.key (.bu c.e c.sz [])) w c0 v→VR ok (aO φ c.key (.slice none 0 0)) (pt (pt s.hp c.key (.bu c.e c.sz [])) b (.box (setAt c.ix (.own c.key) cs))) w c0 v:=fun c0 v h=>h.mono (fun _ h=>h) (fun _ _=>rfl) (fun _ _ _=>rfl) (fun k _=>h4' k id)
        by_cases hi:c.ix=i
        ·subst hi
         rw[if_pos rfl]at hc
         split at hc
         ·simp only[Option.some.injEq]at hc;subst hc
          have hv:=h4 c.ix _ x hn hx
          cases hv
          exact tr _ _ qg
         ·cases hc
        ·rw[if_neg hi]at hc
         exact tr _ _ (h4 i c' x hc hx)
       ·rw[if_neg e]at cJ
        exact(r1.hp k b' cJ).keep (fun _=>False) (fun _ _ h=>h.elim) (fun _ h=>h) (fun _ _=>rfl) (fun _ _ _=>rfl) h4' (fun _ _ _=>rfl)
      ·obtain⟨b0,e1,e2⟩:=back k b' cJ ha
       exact r1.act k b0 g e1 e2 hg
      ·obtain⟨b3,e1,e2⟩:=back k b1 T4 gp
       obtain⟨b4,e3,e4⟩:=back k' b2 ajv jJ
       exact r1.inj k k' b3 b4 g nE e1 e3 e2 e4 fe gn
     ·exact ih r
    ·exact ih r
  ·rename_i eC es hsz hk
   split
   ·exact ih r
   ·rename_i hlt
    refine ih (r.tZ ?_ hk)
    rcases Nat.lt_or_ge c.key 100000 with h'|h'
    ·exact h'
    ·rw[Nat.ble_eq_true_of_le h']at hlt;cases hlt
  ·rename_i e' eC es hsz hk
   split
   ·exact ih r
   ·rename_i hlt
    obtain⟨jK,r1,_,h1⟩:=r.freeze hk
    have hk1:lk (s.bp c.key (.j9 eC es)).hp c.key=some (.j9 eC es):=by simp[St.bp,aJ]
    obtain⟨pF,φ2,h2,r2⟩:=ih (r1.tZ (by
     rcases Nat.lt_or_ge c.key 100000 with h'|h'
     ·exact h'
     ·rw[Nat.ble_eq_true_of_le h']at hlt;cases hlt) hk1)
    exact⟨pF,φ2,fun b hb=>h2 b (h1 b hb),r2⟩
  ·exact ih r
end Go.Dm
