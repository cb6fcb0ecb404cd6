/- A part of the proof: contracts of functions, by a verified generator of conditions; no condition of its own. -/
import Derived.Test.YthhomimmnogngaaGreatDoorDm10
namespace Go.Dm
variable {P:Program} {E:Env}
variable {B0:Nat} {bx:List Nat} {W0:World} {ok0:Nat→Prop} {Z:Zr} {N:Nat}
variable {ok:Nat→Prop} {φ:Nat→Value} {s:St} {a:Act} {w:World}
def RowRd(ok:Nat→Prop)(w:World)(n:Nat)(cs:List D):Prop:=
 ∃arr T,w.heap[n]? = some (.cells arr T (0,0))∧arr.size=cs.length∧∀(i:Nat) (x:D) (v:Value),cs[i]? = some x→arr[i]? = some v→Rd ok w v x
inductive ArgsR (ok:Nat→Prop) (w:World):List Nat→List R→List Value→Prop
 |nil:ArgsR ok w [] [] []
 |d {bs rs vs x v} (h:Rd ok w v x) (r:ArgsR ok w bs rs vs):ArgsR ok w bs (.d x::rs) (v::vs)
 |agg {bs rs vs cs} {xs:Array Value} (hs:xs.size=cs.length) (h:∀(i:Nat) (x:D) (v:Value),cs[i]? = some x→xs[i]? = some v→Rd ok w v x) (r:ArgsR ok w bs rs vs):ArgsR ok w bs (.agg cs::rs) (.agg xs::vs)
 |ptr {bs rs vs cs v} (h:VR ok (fun _=>.int .i64 0) [] w (.dptr cs) v) (r:ArgsR ok w bs rs vs):ArgsR ok w bs (.ptr cs::rs) (v::vs)
 |fn {bs rs vs f caps v} (h:VR ok (fun _=>.int .i64 0) [] w (.fn f (cpV caps)) v) (r:ArgsR ok w bs rs vs):ArgsR ok w bs (.fn f caps::rs) (v::vs)
 |box {bs rs vs cs n} (h:RowRd ok w n cs) (r:ArgsR ok w bs rs vs):ArgsR ok w (n::bs) (.box cs::rs) (.pointer (some ⟨n,0,none⟩)::vs)
def blkL(v:Value):List Nat:=match blockOf v with|some g=>[g]|none=>[]
def LstRd(ok:Nat→Prop)(w:World)(v:Value)(e sz:Nat)(es:List (List D)):Prop:=
 0<sz∧(∀c∈es,c.length=sz)∧∃xs,w.ownsRow 0 e sz v es.length xs∧∀i j,i<es.length→j<sz→Rd ok w (xs.getD (i*sz+j) undef) ((es.getD i []).getD j default)
inductive ResR (ok:Nat→Prop) (w:World):List Nat→List R→List Value→Prop
 |nil:ResR ok w [] [] []
 |d {bs rs vs x v} (h:Rd ok w v x) (r:ResR ok w bs rs vs):ResR ok w bs (.d x::rs) (v::vs)
 |agg {bs rs vs cs} {xs:Array Value} (hs:xs.size=cs.length) (h:∀(i:Nat) (x:D) (v:Value),cs[i]? = some x→xs[i]? = some v→Rd ok w v x) (r:ResR ok w bs rs vs):ResR ok w bs (.agg cs::rs) (.agg xs::vs)
 |ptr {bs rs vs cs v} (h:VR ok (fun _=>.int .i64 0) [] w (.dptr cs) v) (r:ResR ok w bs rs vs):ResR ok w bs (.ptr cs::rs) (v::vs)
 |fn {bs rs vs f caps v} (h:VR ok (fun _=>.int .i64 0) [] w (.fn f (cpV caps)) v) (r:ResR ok w bs rs vs):ResR ok w bs (.fn f caps::rs) (v::vs)
 |box {bs rs vs cs n} (h:RowRd ok w n cs) (r:ResR ok w bs rs vs):ResR ok w (n::bs) (.box cs::rs) (.pointer (some ⟨n,0,none⟩)::vs)
 |lst {bs rs vs e sz es v} (h:LstRd ok w v e sz es) (r:ResR ok w bs rs vs):ResR ok w (blkL v++bs) (.lst e sz es::rs) (v::vs)
theorem ArgsR.res{ok:Nat→Prop}{w:World}{bs:List Nat}{rs:List R}{vs:List Value}(h:ArgsR ok w bs rs vs):ResR ok w bs rs vs:=by
 induction h with
 |nil=>exact .nil
 |d h _ ih=>exact .d h ih
 |agg hs h _ ih=>exact .agg hs h ih
 |ptr h _ ih=>exact .ptr h ih
 |fn h _ ih=>exact .fn h ih
 |box h _ ih=>exact .box h ih
theorem VR.bare{ok ok':Nat→Prop}{φ':Nat→Value}{hp':List (Nat×B)}{w w':World}{c:V}{v:Value}(h:VR ok (fun _=>.int .i64 0) [] w c v)(h1:∀b,ok b→ok' b)(h2:∀b,ok b→w'.heap[b]? = w.heap[b]?):VR ok' φ' hp' w' c v:=
 h.mono h1 h2 (fun k _ hn=>(hn rfl).elim) (fun k _=>by unfold Sim;simp[lk])
theorem VR.toBare{ok:Nat→Prop}{φ:Nat→Value}{hp:List (Nat×B)}{w:World}{c:V}{v:Value}(h:VR ok φ hp w c v)(hn:∀k,V.names k c=false):VR ok (fun _=>.int .i64 0) [] w c v:=
 h.mono (fun _ h=>h) (fun _ _=>rfl) (fun k hk=>by rw[hn k]at hk;cases hk) (fun k hk=>by rw[hn k]at hk;cases hk)
theorem cpV_names(l:List Cp)(k:Nat):V.namesL k (cpV l)=false:=by
 induction l with
 |nil=>rfl
 |cons c r ih=>cases c<;>simp[cpV,V.namesL,V.names,ih]
theorem toCps_eq{l:List V}{m:List Cp}(h:toCps l=some m):cpV m=l:=by
 induction l generalizing m with
 |nil=>simp[toCps]at h;subst h;rfl
 |cons c r ih=>
  cases c<;>simp only[toCps]at h<;>first|(cases h;done)|skip
  all_goals
   split at h
   ·rename_i l hl
    simp only[Option.some.injEq]at h
    subst h
    simp[cpV,ih hl]
   ·cases h
theorem ArgsR.mono{ok ok':Nat→Prop}{w:World}{bs:List Nat}{rs:List R}{vs:List Value}(h:ArgsR ok w bs rs vs)(h1:∀b,ok b→ok' b):ArgsR ok' w bs rs vs:=by
 induction h with
 |nil=>exact .nil
 |d h r ih=>exact .d (h.mono h1 (fun _ _=>rfl)) ih
 |agg hs h r ih=>exact .agg hs (fun i x v a b=>(h i x v a b).mono h1 (fun _ _=>rfl)) ih
 |ptr h r ih=>exact .ptr (h.bare h1 (fun _ _=>rfl)) ih
 |fn h r ih=>exact .fn (h.bare h1 (fun _ _=>rfl)) ih
 |box h r ih=>
  obtain⟨arr,T,e1,e2,e3⟩:=h
  exact .box ⟨arr,T,e1,e2,fun i x v a b=>(e3 i x v a b).mono h1 (fun _ _=>rfl)⟩ ih
theorem LstRd.mono{ok ok':Nat→Prop}{w:World}{v:Value}{e sz:Nat}{es:List (List D)}(h:LstRd ok w v e sz es)(h1:∀b,ok b→ok' b):LstRd ok' w v e sz es:=
 ⟨h.1,h.2.1,let ⟨xs,a,b⟩:=h.2.2;⟨xs,a,fun i j hi hj=>(b i j hi hj).mono h1 (fun _ _=>rfl)⟩⟩
theorem ResR.mono{ok ok':Nat→Prop}{w:World}{bs:List Nat}{rs:List R}{vs:List Value}(h:ResR ok w bs rs vs)(h1:∀b,ok b→ok' b):ResR ok' w bs rs vs:=by
 induction h with
 |nil=>exact .nil
 |d h r ih=>exact .d (h.mono h1 (fun _ _=>rfl)) ih
 |agg hs h r ih=>exact .agg hs (fun i x v a b=>(h i x v a b).mono h1 (fun _ _=>rfl)) ih
 |ptr h r ih=>exact .ptr (h.bare h1 (fun _ _=>rfl)) ih
 |fn h r ih=>exact .fn (h.bare h1 (fun _ _=>rfl)) ih
 |box h r ih=>
  obtain⟨arr,T,e1,e2,e3⟩:=h
  exact .box ⟨arr,T,e1,e2,fun i x v a b=>(e3 i x v a b).mono h1 (fun _ _=>rfl)⟩ ih
 |lst h r ih=>exact .lst (h.mono h1) ih
theorem resR_length{ok:Nat→Prop}{w:World}{bs:List Nat}{rs:List R}{vs:List Value}(h:ResR ok w bs rs vs):rs.length=vs.length:=by
 induction h with
 |nil=>rfl
 |_=>simp_all
def FinR(ok:Nat→Prop)(w:World)(bs:List Nat)(fin:List (List D)):Prop:=
 bs.length=fin.length∧∀(i n:Nat) (cs:List D),bs[i]? = some n→fin[i]? = some cs→RowRd ok w n cs
def FnOk(P:Program)(f:Nat):Prop:=∃fn,P.funcs[f]? = some fn∧(fn.name == "runtime.NumGoroutine")=false∧fn.body.isNone=false
def tupled:List Value→Value
 |[v]=>v
 |vs=>.tuple vs.toArray
def CtPost(ok:Nat→Prop)(bs:List Nat)(w:World)(Q:KT)(e:Ending)(w':World):Prop:=
 ∃res fin vs ok' bn,e = .returned (tupled vs)∧Q res fin∧(∀b,ok b→ok' b)∧(∀b,ok' b→ok b∨w.heap.size≤b)∧(∀b,ok' b→b<w'.heap.size)∧
  Upd bs w.heap.size w w'∧ResR ok' w' bn res vs∧bn.Nodup∧(∀b∈bn,w.heap.size≤b∧¬ok' b)∧FinR ok' w' bs fin
structure Ct (P:Program) (gl:Nat→Option Obj) (f:Nat) (args:List R) (Q:KT):Prop where
 fn:FnOk P f
 ex:∃res fin,Q res fin
 run:∀(w:World) (ok:Nat→Prop) (vs:List Value) (bs:List Nat),(∀b o,gl b=some o→ok b∧w.heap[b]? = some o)→(∀b,ok b→b<w.heap.size)→(∀b∈bs,b<w.heap.size∧¬ok b)→bs.Nodup→ArgsR ok w bs args vs→
  Calls P f vs.toArray w (CtPost ok bs w Q)
theorem Ct.mono{gl:Nat→Option Obj}{f:Nat}{args:List R}{Q Q':KT}(h:Ct P gl f args Q)(hq:∀r c,Q r c→Q' r c):Ct P gl f args Q':=
 ⟨h.fn,let ⟨r,c,h⟩:=h.ex;⟨r,c,hq _ _ h⟩,fun w ok vs bs h0 h1 h2 h3 h4=>(h.run w ok vs bs h0 h1 h2 h3 h4).mono fun e w' ⟨res,fin,vs,ok',bn,h5,h6,h7⟩=>⟨res,fin,vs,ok',bn,h5,hq _ _ h6,h7⟩⟩
def CallsOk(P:Program)(gl:Nat→Option Obj)(C:CallT):Prop:=∀f args Q,C f args Q→Ct P gl f args Q
def blk(φ:Nat→Value)(k:Nat):Nat:=match φ k with | .pointer (some a)=>a.block|_=>0
def keyBs(φ:Nat→Value):Option Nat→List Nat
 |some k=>[blk φ k]
 |none=>[]
theorem toR_sound(r:Rel B0 bx W0 ok0 Z N ok φ s a w){c:V}{v:Value}(hv:VR ok φ s.hp w c v){x:R}{k:Option Nat}{s':St}(h:toR s c=some (x,k,s')):
  ∃ok',Rel B0 bx W0 ok0 Z N ok' φ s' a w∧(∀b,ok b→ok' b)∧(∀j,Sim s.hp s'.hp j)∧(∀bs rs vs,ArgsR ok' w bs rs vs→ArgsR ok' w (keyBs φ k++bs) (x::rs) (v::vs))∧
   (∀j,k=some j→(∃cs,lk s'.hp j=some (.box cs))∧∃g,φ j = .pointer (some ⟨g,0,none⟩)):=by
 have viaD:∀(y:D) (s1:St),toD s c=some (y,s1)→x = .d y→k=none→s'=s1→
   ∃ok',Rel B0 bx W0 ok0 Z N ok' φ s' a w∧(∀b,ok b→ok' b)∧(∀j,Sim s.hp s'.hp j)∧(∀bs rs vs,ArgsR ok' w bs rs vs→ArgsR ok' w (keyBs φ k++bs) (x::rs) (v::vs))∧
   (∀j,k=some j→(∃cs,lk s'.hp j=some (.box cs))∧∃g,φ j = .pointer (some ⟨g,0,none⟩)):=by
  intro y s1 hy hx hk hs
  subst hx;subst hk;subst hs
  obtain⟨ok',r',hrd,h1,h2⟩:=toD_sound r hv hy
  exact⟨ok',r',h1,h2,fun bs rs vs h=>.d hrd h,fun j h=>by cases h⟩
 have other:(toD s c).map (fun p=>(R.d p.1,(none:Option Nat),p.2))=some (x,k,s')→∃ok',Rel B0 bx W0 ok0 Z N ok' φ s' a w∧(∀b,ok b→ok' b)∧(∀j,Sim s.hp s'.hp j)∧(∀bs rs vs,ArgsR ok' w bs rs vs→ArgsR ok' w (keyBs φ k++bs) (x::rs) (v::vs))∧
   (∀j,k=some j→(∃cs,lk s'.hp j=some (.box cs))∧∃g,φ j = .pointer (some ⟨g,0,none⟩)):=by
  intro h
  cases hd:toD s c with
  |none=>rw[hd]at h;cases h
  |some p=>
   rw[hd]at h
   simp only[Option.map_some,Option.some.injEq,Prod.mk.injEq]at h
   exact viaD p.1 p.2 hd h.1.symm h.2.1.symm h.2.2.symm
 cases c with
 |agg cs=>
  cases hv
  rename_i xs hs hr
  simp only[toR]at h
  split at h
  ·cases h
  rename_i ds s1 hds
  simp only[Option.some.injEq,Prod.mk.injEq]at h
  obtain⟨rfl,rfl,rfl⟩:=h
  obtain⟨ok',r',hl,hrd,h1,h2⟩:=toDs_sound (vs:=xs.toList) r (by simpa using hs) (fun i c y hc hy=>hr i c y hc (by simpa using hy)) hds
  exact⟨ok',r',h1,h2,fun bs rs vs h=>.agg (by omega) (fun i x v a b=>hrd i x v a (by simpa using b)) h,fun j h=>by cases h⟩
 |ref k0 off=>
  cases off with
  |zero=>
   cases hv
   rename_i g cs0 hb0 hφ
   simp only[toR]at h
   split at h
   rotate_left
   ·cases h
   rename_i cs hb
   split at h
   ·cases h
   rename_i ds s1 hds
   simp only[Option.some.injEq,Prod.mk.injEq]at h
   obtain⟨rfl,rfl,rfl⟩:=h
   obtain⟨g',arr,T,hp,hh,hs,hr⟩:=r.hp k0 _ hb
   rw[hφ]at hp;simp at hp;subst hp
   obtain⟨ok',r',hl,hrd,h1,h2⟩:=toDs_sound (vs:=arr.toList) r (by simpa using hs) (fun i c y hc hy=>hr i c y hc (by simpa using hy)) hds
   refine⟨ok',r',h1,h2,fun bs rs vs h=>?_,fun j hj=>?_⟩
   ·have:blk φ k0=g:=by simp[blk,hφ]
    simp only[keyBs,this,List.singleton_append]
    exact .box ⟨arr,T,hh,by omega,fun i x v a b=>hrd i x v a (by simpa using b)⟩ h
   ·simp only[Option.some.injEq]at hj;subst hj
    exact⟨(h2 k0).box hb,g,hφ⟩
  |succ n=>simp[toR,toD]at h
 |dptr cs=>
  simp only[toR,Option.some.injEq,Prod.mk.injEq]at h
  obtain⟨rfl,rfl,rfl⟩:=h
  exact⟨ok,r,fun _ h=>h,Sim.refl _,fun bs rs vs h=>.ptr (hv.toBare (fun k=>rfl)) h,fun j h=>by cases h⟩
 |fn f caps=>
  simp only[toR]at h
  split at h
  ·rename_i l hl
   simp only[Option.some.injEq,Prod.mk.injEq]at h
   obtain⟨rfl,rfl,rfl⟩:=h
   have hc:=toCps_eq hl
   subst hc
   exact⟨ok,r,fun _ h=>h,Sim.refl _,fun bs rs vs h=>.fn (hv.toBare (fun k=>by simp[V.names,cpV_names])) h,fun j h=>by cases h⟩
  ·cases h
 |_=>exact other (by
   simp only[toR]at h
   split at h
   ·cases h
   ·rename_i hd;simp only[hd,Option.map_some];exact h)
theorem toRs_sound{vs:List Value}:∀{cs:List V} {ok:Nat→Prop} {s s':St} {xs:List R} {ks:List Nat},Rel B0 bx W0 ok0 Z N ok φ s a w→vs.length=cs.length→
  (∀(i:Nat) (c:V) (x:Value),cs[i]? = some c→vs[i]? = some x→VR ok φ s.hp w c x)→toRs s cs=some (xs,ks,s')→
  ∃ok',Rel B0 bx W0 ok0 Z N ok' φ s' a w∧(∀b,ok b→ok' b)∧(∀j,Sim s.hp s'.hp j)∧ArgsR ok' w (ks.map (blk φ)) xs vs∧
   (∀j∈ks,(∃cs,lk s'.hp j=some (.box cs))∧∃g,φ j = .pointer (some ⟨g,0,none⟩)):=by
 induction vs with
 |nil=>
  intro cs ok s s' xs ks r hl hv h
  cases cs with
  |nil=>simp[toRs]at h;obtain⟨rfl,rfl,rfl⟩:=h;exact⟨ok,r,fun _ h=>h,Sim.refl _,.nil,fun j h=>by cases h⟩
  |cons c cs=>simp at hl
 |cons v vs ih=>
  intro cs ok s s' xs ks r hl hv h
  cases cs with
  |nil=>simp at hl
  |cons c cs=>
   simp only[toRs]at h
   split at h
   ·cases h
   rename_i x k s1 hx
   split at h
   ·cases h
   rename_i xs1 ks1 s2 hxs
   simp only[Option.some.injEq,Prod.mk.injEq]at h
   obtain⟨rfl,rfl,rfl⟩:=h
   obtain⟨ok1,r1,h1,hs1,hA,hb1⟩:=toR_sound r (hv 0 c v rfl rfl) hx
   obtain⟨ok2,r2,h2,hs2,hA2,hb2⟩:=ih r1 (by simpa using hl) (fun i c x hc hx=>(hv (i+1) c x (by simpa using hc) (by simpa using hx)).mono h1 (fun _ _=>rfl) (fun _ _ _=>rfl) (fun j _=>hs1 j)) hxs
   refine⟨ok2,r2,fun b hb=>h2 b (h1 b hb),fun j=>(hs1 j).trans (hs2 j),?_,?_⟩
   ·have h0:=(hA [] [] [] .nil).mono h2
    cases k with
    |none=>
     simp only[keyBs,List.nil_append]at h0 ⊢
     cases h0 with
     |d h _=>exact .d h hA2
     |agg hs h _=>exact .agg hs h hA2
     |ptr h _=>exact .ptr h hA2
     |fn h _=>exact .fn h hA2
    |some k=>
     simp only[keyBs,List.append_nil,List.map_cons]at h0 ⊢
     cases h0 with
     |box h _=>exact .box h hA2
     |d h h'=>cases h'
     |agg hs h h'=>cases h'
     |ptr h h'=>cases h'
     |fn h h'=>cases h'
   ·intro j hj
    cases k with
    |none=>exact hb2 j hj
    |some k=>
     rcases List.mem_cons.1 hj with rfl|hj
     ·obtain⟨⟨cs',hc⟩,hg⟩:=hb1 j rfl
      exact⟨(hs2 j).box hc,hg⟩
     ·exact hb2 j hj
theorem mem_iff(l:List Nat)(k:Nat):mem l k=true↔k∈l:=by
 induction l with
 |nil=>simp[mem]
 |cons x r ih=>
  simp only[mem]
  by_cases h:x=k
  ·subst h;simp
  ·have:Nat.beq x k=false:=beq_false.2 h
   simp[this,ih,Ne.symm h]
theorem nodupB_iff(l:List Nat):nodupB l=true→l.Nodup:=by
 induction l with
 |nil=>simp
 |cons x r ih=>
  intro h
  simp only[nodupB]at h
  split at h
  ·cases h
  ·rename_i hm
   refine List.nodup_cons.2 ⟨fun hx=>?_,ih h⟩
   rw[←mem_iff]at hx;rw[hx]at hm;cases hm
theorem blk_nodup(r:Rel B0 bx W0 ok0 Z N ok φ s a w){ks:List Nat}(hk:∀j∈ks,(∃cs,lk s.hp j=some (.box cs))∧∃g,φ j = .pointer (some ⟨g,0,none⟩))(hn:ks.Nodup):(ks.map (blk φ)).Nodup:=by
 induction ks with
 |nil=>simp
 |cons k ks ih=>
  obtain⟨h1,h2⟩:=List.nodup_cons.1 hn
  refine List.nodup_cons.2 ⟨fun hm=>?_,ih (fun j hj=>hk j (by simp[hj])) h2⟩
  obtain⟨j,hj,he⟩:=List.mem_map.1 hm
  obtain⟨⟨cs,hc⟩,g,hg⟩:=hk k (by simp)
  obtain⟨⟨cs',hc'⟩,g',hg'⟩:=hk j (by simp[hj])
  have e1:blk φ k=g:=by simp[blk,hg]
  have e2:blk φ j=g':=by simp[blk,hg']
  rw[e1,e2]at he
  subst he
  exact r.inj k j _ _ g' (by rintro rfl;exact h1 hj) hc hc' rfl rfl (by rw[hg];rfl) (by rw[hg'];rfl)
theorem Rel.called(r:Rel B0 bx W0 ok0 Z N ok φ s a w){w':World}{ok':Nat→Prop}{ks:List Nat}{fin:List (List D)}{s':St}(hk:∀j∈ks,(∃cs,lk s.hp j=some (.box cs))∧∃g,φ j = .pointer (some ⟨g,0,none⟩))(hnd:ks.Nodup)
  (h1:∀b,ok b→ok' b) (h2:∀b,ok' b→ok b∨w.heap.size≤b) (h3:∀b,ok' b→b<w'.heap.size) (hu:Upd (ks.map (blk φ)) w.heap.size w w') (hf:FinR ok' w' (ks.map (blk φ)) fin) (hs:setBoxes s ks fin=some s'):
  Rel B0 bx W0 ok0 Z N ok' φ s' a w'∧(∀k,lk s.hp k=none→lk s'.hp k=none)∧(∀k b g,lk s'.hp k=some b→b.active=true→blockOf (φ k)=some g→g<w.heap.size):=by
 have hsb:∀(ks:List Nat) (fin:List (List D)) (s s':St),setBoxes s ks fin=some s'→ks.Nodup→s'={s with hp:=s'.hp}∧ks.length=fin.length∧
   (∀j,j∉ks→lk s'.hp j=lk s.hp j)∧∀(i j:Nat) (cs:List D),ks[i]? = some j→fin[i]? = some cs→lk s'.hp j=some (.box (vd cs)):=by
  intro ks
  induction ks with
  |nil=>
   intro fin s s' h _
   cases fin with
   |nil=>simp[setBoxes]at h;subst h;exact⟨rfl,rfl,fun _ _=>rfl,fun i j cs h=>by simp at h⟩
   |cons c r=>simp[setBoxes]at h
  |cons k ks ih=>
   intro fin s s' h hn
   cases fin with
   |nil=>simp[setBoxes]at h
   |cons c fin=>
    simp only[setBoxes]at h
    obtain⟨hn1,hn2⟩:=List.nodup_cons.1 hn
    obtain⟨e1,e2,e3,e4⟩:=ih fin _ s' h hn2
    refine⟨by rw[e1];rfl,by simp[e2],fun j hj=>?_,fun i j cs hi hc=>?_⟩
    ·have hj':j≠k∧j∉ks:=by simpa using hj
     rw[e3 j hj'.2];simp only[St.setB];rw[lk_pt,if_neg (Ne.symm hj'.1)]
    ·cases i with
     |zero=>
      simp at hi hc;subst hi;subst hc
      rw[e3 k hn1];simp only[St.setB];rw[lk_pt,if_pos rfl]
     |succ i=>exact e4 i j cs (by simpa using hi) (by simpa using hc)
 obtain⟨e1,e2,e3,e4⟩:=hsb ks fin s s' hs hnd
 have hokb:∀b,ok b→b∉ks.map (blk φ):=by
  intro b hb hm
  obtain⟨j,hj,rfl⟩:=List.mem_map.1 hm
  obtain⟨⟨cs,hc⟩,g,hg⟩:=hk j hj
  have:blk φ j=g:=by simp[blk,hg]
  rw[this]at hb
  exact(r.act j _ g hc rfl (by rw[hg];rfl)).1 hb
 have hw:∀b,ok b→w'.heap[b]? = w.heap[b]?:=fun b hb=>hu.block b (r.okl b hb) (hokb b hb)
 have hin:∀j∈ks,∃cs,lk s'.hp j=some (.box (vd cs))∧RowRd ok' w' (blk φ j) cs:=by
  intro j hj
  obtain⟨i,hi⟩:=List.getElem?_of_mem hj
  have hlt:i<fin.length:=by rw[←e2];exact(List.getElem?_eq_some_iff.1 hi).1
  refine⟨fin[i],e4 i j _ hi (List.getElem?_eq_getElem hlt),hf.2 i _ _ ?_ (List.getElem?_eq_getElem hlt)⟩
  rw[List.getElem?_map,hi];rfl
 have h4:∀j,Sim s.hp s'.hp j:=by
  intro j
  by_cases hj:j∈ks
  ·obtain⟨⟨cs,hc⟩,_⟩:=hk j hj
   obtain⟨cs',hc',_⟩:=hin j hj
   unfold Sim;rw[hc];exact⟨_,hc'⟩
  ·unfold Sim;rw[e3 j hj];exact Sim.refl _ j
 have hlt:∀k b g,lk s'.hp k=some b→b.active=true→blockOf (φ k)=some g→g<w.heap.size:=by
  intro k b g hb ha hg
  by_cases hj:k∈ks
  ·obtain⟨⟨cs,hc⟩,_⟩:=hk k hj
   exact(r.hp k _ hc).block_lt rfl hg
  ·rw[e3 k hj]at hb;exact(r.hp k b hb).block_lt ha hg
 have act0:∀k b,lk s'.hp k=some b→b.active=true→∃b0,lk s.hp k=some b0∧b0.active=true:=by
  intro k b hb ha
  by_cases hj:k∈ks
  ·obtain⟨⟨cs,hc⟩,_⟩:=hk k hj;exact⟨_,hc,rfl⟩
  ·rw[e3 k hj]at hb;exact⟨b,hb,ha⟩
 refine⟨?_,fun k hn=>?_,hlt⟩
 ·rw[e1]
  refine r.step (fun _=>False) (fun _ h=>h.elim) h1 hw (fun _ _ _=>rfl) (fun j _=>h4 j) (fun j b hb=>?_) (fun j b g hb ha hg=>?_) (fun j j' b1 b2 g hne hb1 hb2 ha1 ha2 hg1 hg2=>?_) r.one h3 (fun b hb=>?_) ?_
  ·by_cases hj:j∈ks
   ·obtain⟨cs,hc,arr,T,hh,hsz,hrd⟩:=hin j hj
    obtain⟨_,g,hg⟩:=hk j hj
    have hbg:blk φ j=g:=by simp[blk,hg]
    rw[hc]at hb
    simp only[Option.some.injEq]at hb;subst hb
    refine⟨g,arr,T,hg,by rw[←hbg];exact hh,by rw[vd_length];exact hsz,fun i c x hci hx=>?_⟩
    rw[vd_get]at hci
    cases hcs:cs[i]? with
    |none=>rw[hcs]at hci;cases hci
    |some d=>rw[hcs]at hci;simp at hci;subst hci;exact .d (hrd i d x hcs hx)
   ·rw[e3 j hj]at hb
    refine(r.hp j b hb).keep (fun _=>False) (fun _ _ h=>h.elim) h1 hw (fun _ _ _=>rfl) (fun j _=>h4 j) (fun ha g hg=>hu.block g ((r.hp j b hb).block_lt ha hg) (fun hm=>?_))
    obtain⟨j',hj',he⟩:=List.mem_map.1 hm
    obtain⟨⟨cs,hc⟩,g',hg'⟩:=hk j' hj'
    have hbg:blk φ j'=g':=by simp[blk,hg']
    rw[hbg]at he;subst he
    exact r.inj j j' b _ g' (by rintro rfl;exact hj hj') hb hc ha rfl hg (by rw[hg'];rfl)
  ·obtain⟨b0,hb0,ha0⟩:=act0 j b hb ha
   have hact:=r.act j b0 g hb0 ha0 hg
   refine⟨fun ho=>?_,hact.2⟩
   rcases h2 g ho with ho|ho
   ·exact hact.1 ho
   ·have:=hlt j b g hb ha hg;omega
  ·obtain⟨b3,hb3,ha3⟩:=act0 j b1 hb1 ha1
   obtain⟨b4,hb4,ha4⟩:=act0 j' b2 hb2 ha2
   exact r.inj j j' b3 b4 g hne hb3 hb4 ha3 ha4 hg1 hg2
  ·rcases h2 b hb with hb|hb
   ·exact r.oks b hb
   ·exact .inr (Nat.le_trans r.b0 hb)
  ·refine⟨hu.os,hu.tape,hu.output,hu.size,fun k hk0 hkb=>hu.block k (Nat.lt_of_lt_of_le hk0 r.b0) (fun hm=>?_)⟩
   obtain⟨j,hj,rfl⟩:=List.mem_map.1 hm
   obtain⟨⟨cs,hc⟩,g,hg⟩:=hk j hj
   have hbg:blk φ j=g:=by simp[blk,hg]
   rw[hbg]at hk0 hkb
   rcases(r.act j _ g hc rfl (by rw[hg];rfl)).2 with h|h
   ·omega
   ·exact hkb h
 ·by_cases hj:k∈ks
  ·obtain⟨⟨cs,hc⟩,_⟩:=hk k hj
   rw[hn]at hc;cases hc
  ·rw[e3 k hj];exact hn
end Go.Dm
namespace Go.Dm
variable {P:Program} {E:Env} {C:CallT}
variable {B0:Nat} {bx:List Nat} {W0:World} {ok0:Nat→Prop} {Z:Zr} {N:Nat}
variable {ok:Nat→Prop} {φ:Nat→Value} {s:St} {a:Act} {w:World}
theorem Rel.adopt'{bx':List Nat}(hbx:∀g∈bx,g∈bx')(r:Rel B0 bx W0 ok0 Z N ok φ s a w){key n:Nat}(hk:lk s.hp key=none){cs:List D}(hn:¬ok n)(hB:B0≤n∨n∈bx')(hne:∀k b,lk s.hp k=some b→b.active=true→blockOf (φ k)≠some n)(hrow:RowRd ok w n cs)
  (pin:∀(i g:Nat),bx'[i]? = some g→updF φ key (.pointer (some ⟨n,0,none⟩)) (100000+i) = .pointer (some ⟨g,0,none⟩)∧∃cs',lk (pt s.hp key (.box (vd cs))) (100000+i)=some (.box cs')):
  Rel B0 bx' W0 ok0 Z N ok (updF φ key (.pointer (some ⟨n,0,none⟩))) (s.setB key (.box (vd cs))) a w∧
  (∀c v,VR ok φ s.hp w c v→VR ok (updF φ key (.pointer (some ⟨n,0,none⟩))) (pt s.hp key (.box (vd cs))) w c v):=by
 have h3:∀k,¬False→lk s.hp k≠none→updF φ key (.pointer (some ⟨n,0,none⟩)) k=φ k:=fun k _ hn=>by simp only[updF];rw[if_neg (by rintro rfl;exact hn hk)]
 have h4:∀k,¬False→Sim s.hp (pt s.hp key (.box (vd cs))) k:=fun k _=>by
  unfold Sim
  rw[lk_pt]
  by_cases h:key=k
  ·subst h;rw[hk];trivial
  ·rw[if_neg h];exact Sim.refl s.hp k
 refine⟨r.step' hbx (fun _=>False) (fun _ h=>h.elim) (fun _ h=>h) (fun _ _=>rfl) h3 h4 (fun k b' hb=>?_) (fun k b' g hb ha hg=>?_) (fun k k' b1 b2 g hne' hb1 hb2 ha1 ha2 hg1 hg2=>?_) (fun k=>?_) r.okl r.oks (Upd.refl _ _ _) pin,
  fun c v h=>h.mono (fun _ h=>h) (fun _ _=>rfl) (fun k _ hn=>h3 k id hn) (fun k _=>h4 k id)⟩
 ·rw[lk_pt]at hb
  by_cases h:key=k
  ·subst h
   rw[if_pos rfl]at hb
   simp only[Option.some.injEq]at hb;subst hb
   simp only[updF,if_true]
   obtain⟨arr,T,hh,hs,hrd⟩:=hrow
   refine⟨n,arr,T,rfl,hh,by rw[vd_length];exact hs,fun i c x hci hx=>?_⟩
   rw[vd_get]at hci
   cases hcs:cs[i]? with
   |none=>rw[hcs]at hci;cases hci
   |some d=>rw[hcs]at hci;simp at hci;subst hci;exact .d (hrd i d x hcs hx)
  ·rw[if_neg h]at hb
   have:updF φ key (.pointer (some ⟨n,0,none⟩)) k=φ k:=by simp[updF,Ne.symm h]
   rw[this]
   exact(r.hp k b' hb).keep (fun _=>False) (fun _ _ h=>h.elim) (fun _ h=>h) (fun _ _=>rfl) h3 h4 (fun _ _ _=>rfl)
 ·rw[lk_pt]at hb
  by_cases h:key=k
  ·subst h
   simp only[updF,if_true,blockOf,Option.some.injEq]at hg
   subst hg
   exact⟨hn,hB⟩
  ·rw[if_neg h]at hb
   simp only[updF,if_neg (Ne.symm h)]at hg
   obtain⟨e1,e2⟩:=r.act k b' g hb ha hg
   exact⟨e1,e2.imp id (hbx g)⟩
 ·rw[lk_pt]at hb1 hb2
  by_cases h:key=k
  ·subst h
   rw[if_neg hne']at hb2
   simp only[updF,if_true,blockOf,Option.some.injEq]at hg1
   simp only[updF,if_neg (Ne.symm hne')]at hg2
   subst hg1
   exact hne k' b2 hb2 ha2 hg2
  ·rw[if_neg h]at hb1
   simp only[updF,if_neg (Ne.symm h)]at hg1
   by_cases h':key=k'
   ·subst h'
    simp only[updF,if_true,blockOf,Option.some.injEq]at hg2
    subst hg2
    exact hne k b1 hb1 ha1 hg1
   ·rw[if_neg h']at hb2
    simp only[updF,if_neg (Ne.symm h')]at hg2
    exact r.inj k k' b1 b2 g hne' hb1 hb2 ha1 ha2 hg1 hg2
 ·simp only[updF];split
  ·rfl
  ·exact r.one k
theorem Rel.adopt(r:Rel B0 bx W0 ok0 Z N ok φ s a w){key n:Nat}(hk:lk s.hp key=none){cs:List D}(hn:¬ok n)(hB:B0≤n∨n∈bx)(hne:∀k b,lk s.hp k=some b→b.active=true→blockOf (φ k)≠some n)(hrow:RowRd ok w n cs):
  Rel B0 bx W0 ok0 Z N ok (updF φ key (.pointer (some ⟨n,0,none⟩))) (s.setB key (.box (vd cs))) a w∧
  (∀c v,VR ok φ s.hp w c v→VR ok (updF φ key (.pointer (some ⟨n,0,none⟩))) (pt s.hp key (.box (vd cs))) w c v):=
 r.adopt' (fun _ h=>h) hk hn hB hne hrow fun i g h=>by
  obtain⟨e1,cs',e2⟩:=r.pin i g h
  have hne:key≠100000+i:=by rintro rfl;rw[hk]at e2;cases e2
  exact⟨by simp only[updF];rw[if_neg (Ne.symm hne)];exact e1,cs',by rw[lk_pt,if_neg hne];exact e2⟩
theorem Rel.adoptLst(r:Rel B0 bx W0 ok0 Z N ok φ s a w){key:Nat}(hk:lk s.hp key=none){e sz:Nat}{es:List (List D)}{v:Value}(hl:LstRd ok w v e sz es)
  (hb:∀g,blockOf v=some g→B0≤g∧¬ok g∧∀k c,lk s.hp k=some c→c.active=true→blockOf (φ k)≠some g):
  Rel B0 bx W0 ok0 Z N ok (updF φ key v) (s.setB key (.lst e sz es)) a w∧(∀c u,VR ok φ s.hp w c u→VR ok (updF φ key v) (pt s.hp key (.lst e sz es)) w c u):=by
 have h3:∀k,¬False→lk s.hp k≠none→updF φ key v k=φ k:=fun k _ hn=>by simp only[updF];rw[if_neg (by rintro rfl;exact hn hk)]
 have h4:∀k,¬False→Sim s.hp (pt s.hp key (.lst e sz es)) k:=fun k _=>by
  unfold Sim
  rw[lk_pt]
  by_cases h:key=k
  ·subst h;rw[hk];trivial
  ·rw[if_neg h];exact Sim.refl s.hp k
 obtain⟨hpos,hall,xs,hown,hrd⟩:=hl
 have hv1:v.oneCell'=true:=by
  rcases hown.2 with⟨rfl,_⟩|⟨g,cap,cur,rfl,_⟩<;>rfl
 refine⟨r.step (fun _=>False) (fun _ h=>h.elim) (fun _ h=>h) (fun _ _=>rfl) h3 h4 (fun k b' hb'=>?_) (fun k b' g hb' ha hg=>?_) (fun k k' b1 b2 g hne' hb1 hb2 ha1 ha2 hg1 hg2=>?_) (fun k=>?_) r.okl r.oks (Upd.refl _ _ _),
  fun c v h=>h.mono (fun _ h=>h) (fun _ _=>rfl) (fun k _ hn=>h3 k id hn) (fun k _=>h4 k id)⟩
 ·rw[lk_pt]at hb'
  by_cases h:key=k
  ·subst h
   rw[if_pos rfl]at hb'
   simp only[Option.some.injEq]at hb';subst hb'
   simp only[updF,if_true]
   refine⟨hpos,hall,xs,⟨hown.1,?_⟩,hrd⟩
   rcases hown.2 with hnil|⟨g,cap,cur,rfl,_,rest⟩
   ·exact .inl hnil
   ·exact .inr ⟨g,cap,cur,rfl,(hb g rfl).1,rest⟩
  ·rw[if_neg h]at hb'
   have:updF φ key v k=φ k:=by simp[updF,Ne.symm h]
   rw[this]
   exact(r.hp k b' hb').keep (fun _=>False) (fun _ _ h=>h.elim) (fun _ h=>h) (fun _ _=>rfl) h3 h4 (fun _ _ _=>rfl)
 ·rw[lk_pt]at hb'
  by_cases h:key=k
  ·subst h
   simp only[updF,if_true]at hg
   exact⟨(hb g hg).2.1,.inl (hb g hg).1⟩
  ·rw[if_neg h]at hb'
   simp only[updF,if_neg (Ne.symm h)]at hg
   exact r.act k b' g hb' ha hg
 ·rw[lk_pt]at hb1 hb2
  by_cases h:key=k
  ·subst h
   rw[if_neg hne']at hb2
   simp only[updF,if_true]at hg1
   simp only[updF,if_neg (Ne.symm hne')]at hg2
   exact(hb g hg1).2.2 k' b2 hb2 ha2 hg2
  ·rw[if_neg h]at hb1
   simp only[updF,if_neg (Ne.symm h)]at hg1
   by_cases h':key=k'
   ·subst h'
    simp only[updF,if_true]at hg2
    exact(hb g hg2).2.2 k b1 hb1 ha1 hg1
   ·rw[if_neg h']at hb2
    simp only[updF,if_neg (Ne.symm h')]at hg2
    exact r.inj k k' b1 b2 g hne' hb1 hb2 ha1 ha2 hg1 hg2
 ·simp only[updF];split
  ·exact hv1
  ·exact r.one k
theorem ofR_sound(r:Rel B0 bx W0 ok0 Z N ok φ s a w){key:Nat}{x:R}{v:V}{s':St}(h:ofR s key x=some (v,s')){bs:List Nat}{rs:List R}{y:Value}{vs:List Value}(hA:ResR ok w bs (x::rs) (y::vs))(hn:bs.Nodup)
  (hb:∀b∈bs,B0≤b∧¬ok b∧∀k c,lk s.hp k=some c→c.active=true→blockOf (φ k)≠some b):
  ∃φ' bs',Rel B0 bx W0 ok0 Z N ok φ' s' a w∧VR ok φ' s'.hp w v y∧ResR ok w bs' rs vs∧bs'.Nodup∧(∀b∈bs',B0≤b∧¬ok b∧∀k c,lk s'.hp k=some c→c.active=true→blockOf (φ' k)≠some b)∧
   (∀c v,VR ok φ s.hp w c v→VR ok φ' s'.hp w c v)∧(∀b∈bs',b∈bs)∧(∀k b' g,lk s'.hp k=some b'→b'.active=true→blockOf (φ' k)=some g→(∃b,lk s.hp k=some b∧b.active=true∧blockOf (φ k)=some g)∨g∈bs):=by
 cases hA with
 |d hrd hr=>
  simp[ofR]at h;obtain⟨rfl,rfl⟩:=h
  exact⟨φ,bs,r,.d hrd,hr,hn,hb,fun _ _ h=>h,fun _ h=>h,fun k b' g h1 h2 h3=>.inl ⟨b',h1,h2,h3⟩⟩
 | @agg _ _ _ cs xs hs hrd hr=>
   simp[ofR]at h;obtain⟨rfl,rfl⟩:=h
   refine⟨φ,bs,r,.agg (by rw[vd_length];exact hs) (fun i c x hc hx=>?_),hr,hn,hb,fun _ _ h=>h,fun _ h=>h,fun k b' g h1 h2 h3=>.inl ⟨b',h1,h2,h3⟩⟩
   rw[vd_get]at hc
   cases hcs:cs[i]? with
   |none=>rw[hcs]at hc;cases hc
   |some d=>rw[hcs]at hc;simp at hc;subst hc;exact .d (hrd i d x hcs hx)
 |ptr hrd hr=>
  simp[ofR]at h;obtain⟨rfl,rfl⟩:=h
  exact⟨φ,bs,r,hrd.bare (fun _ h=>h) (fun _ _=>rfl),hr,hn,hb,fun _ _ h=>h,fun _ h=>h,fun k b' g h1 h2 h3=>.inl ⟨b',h1,h2,h3⟩⟩
 |fn hrd hr=>
  simp[ofR]at h;obtain⟨rfl,rfl⟩:=h
  exact⟨φ,bs,r,hrd.bare (fun _ h=>h) (fun _ _=>rfl),hr,hn,hb,fun _ _ h=>h,fun _ h=>h,fun k b' g h1 h2 h3=>.inl ⟨b',h1,h2,h3⟩⟩
 | @box bs0 _ _ cs n hrow hr=>
   simp only[ofR]at h
   split at h
   rotate_left
   ·cases h
   rename_i hk
   simp only[Option.some.injEq,Prod.mk.injEq]at h
   obtain⟨rfl,rfl⟩:=h
   obtain⟨hn1,hn2⟩:=List.nodup_cons.1 hn
   obtain⟨h1,h2,h3⟩:=hb n (by simp)
   obtain⟨r',hm⟩:=r.adopt hk h2 (.inl h1) h3 hrow
   refine⟨_,bs0,r',.ref (cs:=vd cs) (by simp[St.setB,lk_pt]) (by simp[updF]),hr,hn2,fun b hb'=>?_,hm,fun b hb=>by simp[hb],fun k b' g h1 h2 h3=>?_⟩
   rotate_left
   ·simp only[St.setB]at h1
    rw[lk_pt]at h1
    by_cases e:key=k
    ·subst e
     simp only[updF,if_true,blockOf,Option.some.injEq]at h3
     exact .inr (by simp[h3])
    ·rw[if_neg e]at h1
     simp only[updF,if_neg (Ne.symm e)]at h3
     exact .inl ⟨b',h1,h2,h3⟩
   obtain⟨h4,h5,h6⟩:=hb b (by simp[hb'])
   refine⟨h4,h5,fun k c hc ha=>?_⟩
   simp only[St.setB]at hc
   rw[lk_pt]at hc
   by_cases e:key=k
   ·subst e
    simp only[updF,if_true,blockOf]
    rintro⟨⟩
    exact hn1 hb'
   ·rw[if_neg e]at hc
    simp only[updF,if_neg (Ne.symm e)]
    exact h6 k c hc ha
 | @lst bs0 _ _ e sz es _ hlst hr=>
   simp only[ofR]at h
   split at h
   rotate_left
   ·cases h
   rename_i hk
   simp only[Option.some.injEq,Prod.mk.injEq]at h
   obtain⟨rfl,rfl⟩:=h
   obtain⟨hn1,hn2,hn3⟩:=List.nodup_append.1 hn
   have hblk:∀g,blockOf y=some g→g∈blkL y:=fun g hg=>by simp[blkL,hg]
   have hy:∀g,blockOf y=some g→B0≤g∧¬ok g∧∀k c,lk s.hp k=some c→c.active=true→blockOf (φ k)≠some g:=fun g hg=>hb g (List.mem_append_left _ (hblk g hg))
   obtain⟨r',hm⟩:=r.adoptLst hk hlst hy
   refine⟨_,bs0,r',.own (sz:=sz) (es:=es) (.inl ⟨e,by simp[St.setB,lk_pt]⟩) (by simp[updF]),hr,hn2,fun b hb'=>?_,hm,fun b hb=>by simp[hb],fun k b' g h1 h2 h3=>?_⟩
   rotate_left
   ·simp only[St.setB]at h1
    rw[lk_pt]at h1
    by_cases e:key=k
    ·subst e
     simp only[updF,if_true]at h3
     exact .inr (List.mem_append_left _ (hblk g h3))
    ·rw[if_neg e]at h1
     simp only[updF,if_neg (Ne.symm e)]at h3
     exact .inl ⟨b',h1,h2,h3⟩
   obtain⟨h4,h5,h6⟩:=hb b (List.mem_append_right _ hb')
   refine⟨h4,h5,fun k c hc ha=>?_⟩
   simp only[St.setB]at hc
   rw[lk_pt]at hc
   by_cases e:key=k
   ·subst e
    simp only[updF,if_true]
    intro hg
    exact hn3 b (hblk b hg) b hb' rfl
   ·rw[if_neg e]at hc
    simp only[updF,if_neg (Ne.symm e)]
    exact h6 k c hc ha
theorem ofRs_sound{rs:List R}:∀{φ:Nat→Value} {s:St} {key:Nat} {vs:List V} {s':St} {bs:List Nat} {ys:List Value},Rel B0 bx W0 ok0 Z N ok φ s a w→ofRs s key rs=some (vs,s')→ResR ok w bs rs ys→bs.Nodup→
  (∀b∈bs,B0≤b∧¬ok b∧∀k c,lk s.hp k=some c→c.active=true→blockOf (φ k)≠some b)→
  ∃φ',Rel B0 bx W0 ok0 Z N ok φ' s' a w∧ys.length=vs.length∧(∀(i:Nat) (c:V) (x:Value),vs[i]? = some c→ys[i]? = some x→VR ok φ' s'.hp w c x)∧(∀c v,VR ok φ s.hp w c v→VR ok φ' s'.hp w c v)∧(∀k b' g,lk s'.hp k=some b'→b'.active=true→blockOf (φ' k)=some g→(∃b,lk s.hp k=some b∧b.active=true∧blockOf (φ k)=some g)∨g∈bs):=by
 induction rs with
 |nil=>
  intro φ s key vs s' bs ys r h hA hn hb
  simp[ofRs]at h;obtain⟨rfl,rfl⟩:=h
  cases hA
  exact⟨φ,r,rfl,fun i c x h=>by simp at h,fun _ _ h=>h,fun k b' g h1 h2 h3=>.inl ⟨b',h1,h2,h3⟩⟩
 |cons x rs ih=>
  intro φ s key vs s' bs ys r h hA hn hb
  simp only[ofRs]at h
  split at h
  ·cases h
  rename_i v s1 hv
  split at h
  ·cases h
  rename_i vs1 s2 hvs
  simp only[Option.some.injEq,Prod.mk.injEq]at h
  obtain⟨rfl,rfl⟩:=h
  obtain⟨y,ys,rfl⟩:∃y ys',ys=y::ys':=by cases hA<;>exact⟨_,_,rfl⟩
  obtain⟨φ1,bs1,r1,hv1,hA1,hn1,hb1,hm1,hsub1,hown1⟩:=ofR_sound r hv hA hn hb
  obtain⟨φ2,r2,hl,hvr,hm2,hown2⟩:=ih r1 hvs hA1 hn1 hb1
  refine⟨φ2,r2,by simp[hl],fun i c x hc hx=>?_,fun c v h=>hm2 _ _ (hm1 _ _ h),fun k b' g h1 h2 h3=>?_⟩
  rotate_left
  ·rcases hown2 k b' g h1 h2 h3 with⟨b,e1,e2,e3⟩|h
   ·exact hown1 k b g e1 e2 e3
   ·exact .inr (hsub1 _ h)
  cases i with
  |zero=>simp at hc hx;subst hc;subst hx;exact hm2 _ _ hv1
  |succ i=>exact hvr i c x (by simpa using hc) (by simpa using hx)
theorem argsR_length{bs:List Nat}{rs:List R}{vs:List Value}(h:ArgsR ok w bs rs vs):rs.length=vs.length:=by
 induction h with
 |nil=>rfl
 |_=>simp_all
theorem ofResults_sound(r:Rel B0 bx W0 ok0 Z N ok φ s a w){key:Nat}{rs:List R}{v:V}{s':St}(h:ofResults s key rs=some (v,s')){bs:List Nat}{ys:List Value}(hA:ResR ok w bs rs ys)(hn:bs.Nodup)
  (hb:∀b∈bs,B0≤b∧¬ok b∧∀k c,lk s.hp k=some c→c.active=true→blockOf (φ k)≠some b):
  ∃φ',Rel B0 bx W0 ok0 Z N ok φ' s' a w∧VR ok φ' s'.hp w v (tupled ys)∧(∀k b' g,lk s'.hp k=some b'→b'.active=true→blockOf (φ' k)=some g→(∃b,lk s.hp k=some b∧b.active=true∧blockOf (φ k)=some g)∨g∈bs):=by
 unfold ofResults at h
 have hl:=resR_length hA
 split at h
 ·rename_i x
  obtain⟨y,rfl⟩:∃y,ys=[y]:=by
   match ys,hl with
   |[y],_=>exact⟨y,rfl⟩
  obtain⟨φ1,_,r1,hv1,_,_,_,_,_,hown⟩:=ofR_sound r h hA hn hb
  exact⟨φ1,r1,hv1,hown⟩
 ·rename_i hne
  split at h
  ·cases h
  rename_i vs s2 hvs
  simp only[Option.some.injEq,Prod.mk.injEq]at h
  obtain⟨rfl,rfl⟩:=h
  obtain⟨φ2,r2,hl2,hvr,_,hown⟩:=ofRs_sound r hvs hA hn hb
  refine⟨φ2,r2,?_,hown⟩
  have:tupled ys = .tuple ys.toArray:=by
   unfold tupled
   split
   ·rename_i y
    match rs,hl with
    |[x],_=>exact(hne x rfl).elim
   ·rfl
  rw[this]
  exact .tup (by simpa using hl2) (fun i c x hc hx=>hvr i c x hc (by simpa using hx))
def OpRun(P:Program)(x:Sem Next)(w:World)(post:Value→World→Prop):Prop:=
 match x.run P w with
 | .ok (.value v) w'=>post v w'
 | .ok .skip w'=>post undef w'
 | .ok (.enter f args) w'=>Calls P f args w' (fun e w''=>∃v,e = .returned v∧post v w'')
 |_=>False
theorem OpRun.wp{o:Oper}{post:Value→World→Prop}(h:OpRun P (execOp a.eval o) w post){next:Act→World→Prop}{Q:Exit→Act→World→Prop}(hn:∀v' w',post v' w'→next (a.put o.dst v') w'):
  o.wp P a w next Q:=by
 unfold Oper.wp
 unfold OpRun at h
 generalize (execOp a.eval o).run P w=r at h
 cases r with
 |ok n w'=>
  cases n<;>simp only[Oper.upon]at h ⊢
  ·exact hn _ _ h
  ·exact hn _ _ h
  ·exact h.mono fun e w'' ⟨v,he,hp⟩=>by subst he;exact hn _ _ hp
 |halt x w'=>exact h.elim
theorem OpRun.of_value{x:Sem Value}{post:Value→World→Prop}(h:∃v' w',x.run P w = .ok v' w'∧post v' w'):OpRun P (do pure (.value (←x))) w post:=by
 obtain⟨v',w',h1,h2⟩:=h
 unfold OpRun
 simp only[Sem.run_bind,h1,Result.andThen_ok,Sem.run_pure]
 exact h2
theorem OpRun.of_unit{x:Sem Unit}{post:Value→World→Prop}(h:∃w',x.run P w = .ok () w'∧post undef w'):OpRun P (do x;pure .skip) w post:=by
 obtain⟨w',h1,h2⟩:=h
 unfold OpRun
 simp only[Sem.run_bind,h1,Result.andThen_ok,Sem.run_pure]
 exact h2
theorem run_callFunc{f:Nat}(hf:FnOk P f)(args:Array Value):(callFunc f args).run P w = .ok (.enter f args) w:=by
 obtain⟨fn,h1,h2,h3⟩:=hf
 unfold callFunc
 simp only[Sem.run_bind,run_program,Result.andThen_ok,h1,h2,h3,Bool.false_eq_true,if_false,Sem.run_pure]
theorem run_call_value{f:Operand}{args:Array Operand}{tys:Array TypeId}{t:TypeId}{fid:Nat}{caps:Array Value}(hf:FnOk P fid)(hv:a.eval f = .func (.func fid) #[] caps):
  (do let d←resolve a.eval {callee:=.value f,args:=args,argTypes:=tys} t;invoke d.target d.args:Sem Next).run P w = .ok (.enter fid (args.map a.eval++caps)) w:=by
 simp only[resolve,Sem.run_bind,hv,Deferred.ofValue,Sem.run_pure,Result.andThen_ok,invoke]
 rw[run_callFunc hf]
 simp
theorem toR_keys{c:V}{x:R}{k:Option Nat}{s s':St}(h:toR s c=some (x,k,s')):ActSub s s'∧∀j,k=some j→∃o,c = .ref j o:=by
 unfold toR at h
 split at h
 ·split at h
  ·cases h
  ·rename_i hd
   simp only[Option.some.injEq,Prod.mk.injEq]at h
   obtain⟨_,rfl,rfl⟩:=h
   exact⟨actSub_toDs hd,fun j h=>by cases h⟩
 ·split at h
  ·split at h
   ·cases h
   ·rename_i hd
    simp only[Option.some.injEq,Prod.mk.injEq]at h
    obtain⟨_,rfl,rfl⟩:=h
    exact⟨actSub_toDs hd,fun j h=>by cases h;exact⟨_,rfl⟩⟩
  ·cases h
 ·simp only[Option.some.injEq,Prod.mk.injEq]at h
  obtain⟨_,rfl,rfl⟩:=h
  exact⟨.refl _,fun j h=>by cases h⟩
 ·split at h
  ·simp only[Option.some.injEq,Prod.mk.injEq]at h
   obtain⟨_,rfl,rfl⟩:=h
   exact⟨.refl _,fun j h=>by cases h⟩
  ·cases h
 ·split at h
  ·cases h
  ·rename_i hd
   simp only[Option.some.injEq,Prod.mk.injEq]at h
   obtain⟨_,rfl,rfl⟩:=h
   exact⟨actSub_toD hd,fun j h=>by cases h⟩
theorem toRs_keys{cs:List V}:∀{s s':St} {xs:List R} {ks:List Nat},toRs s cs=some (xs,ks,s')→ActSub s s'∧∀j∈ks,j∈argKeys cs:=by
 induction cs with
 |nil=>intro s s' xs ks h;simp[toRs]at h;obtain⟨_,rfl,rfl⟩:=h;exact⟨.refl _,fun j h=>by cases h⟩
 |cons c cs ih=>
  intro s s' xs ks h
  simp only[toRs]at h
  split at h
  ·cases h
  rename_i x k s1 hx
  split at h
  ·cases h
  rename_i xs1 ks1 s2 hxs
  simp only[Option.some.injEq,Prod.mk.injEq]at h
  obtain⟨_,rfl,rfl⟩:=h
  obtain⟨h1,h2⟩:=toR_keys hx
  obtain⟨h3,h4⟩:=ih hxs
  refine⟨h1.trans h3,fun j hj=>?_⟩
  have hsub:∀j,j∈argKeys cs→j∈argKeys (c::cs):=fun j hj=>by cases c<;>simp[argKeys,hj]
  cases k with
  |none=>exact hsub j (h4 j hj)
  |some k=>
   rcases List.mem_cons.1 hj with rfl|hj
   ·obtain⟨o,rfl⟩:=h2 _ rfl;simp[argKeys]
   ·exact hsub j (h4 j hj)
theorem setBoxes_act{ks:List Nat}:∀{s s':St} {fin:List (List D)},setBoxes s ks fin=some s'→(∀j∈ks,∃b,lk s.hp j=some b∧b.active=true)→ActSub s s':=by
 induction ks with
 |nil=>
  intro s s' fin h _
  cases fin with
  |nil=>simp[setBoxes]at h;subst h;exact .refl _
  |cons=>simp[setBoxes]at h
 |cons k ks ih=>
  intro s s' fin h hk
  cases fin with
  |nil=>simp[setBoxes]at h
  |cons c fin=>
   simp only[setBoxes]at h
   have h1:ActSub s (s.setB k (.box (vd c))):=fun j b hj ha=>by
    simp only[St.setB]at hj
    rw[lk_pt]at hj
    by_cases e:k=j
    ·subst e;exact hk _ (by simp)
    ·rw[if_neg e]at hj;exact⟨b,hj,ha⟩
   refine h1.trans (ih h fun j hj=>?_)
   simp only[St.setB]
   rw[lk_pt]
   by_cases e:k=j
   ·rw[if_pos e];exact⟨_,rfl,rfl⟩
   ·rw[if_neg e];exact hk j (by simp[hj])
theorem aCallAny_sound(hC:CallsOk P Z.gl C)(r:Rel B0 bx W0 ok0 Z N ok φ s a w){key f:Nat}{args:List V}{K:V→St→Prop}(h:aCallAny C s key f args K){vs:List Value}(hl:vs.length=args.length)
  (hv:∀(i:Nat) (c:V) (x:Value),args[i]? = some c→vs[i]? = some x→VR ok φ s.hp w c x):
  FnOk P f∧Calls P f vs.toArray w (fun e w''=>∃v,e = .returned v∧Pst B0 bx W0 ok0 Z N a (Frm (argKeys args) φ s w) K v w''):=by
 unfold aCallAny at h
 split at h
 ·exact h.elim
 rename_i rs ks s1 hrs
 split at h
 ·exact h.elim
 rename_i hnd
 obtain⟨ok1,r1,h1,hs1,hA,hkb⟩:=toRs_sound (vs:=vs) r hl hv hrs
 have hct:=hC _ _ _ h
 have hnd':=nodupB_iff ks hnd
 refine⟨hct.fn,(hct.run w ok1 vs (ks.map (blk φ)) (fun b o h=>r1.kz b o (Z.sub b o h)) r1.okl (fun b hb=>?_) (blk_nodup r1 hkb hnd') hA).mono fun e w' hp=>?_⟩
 ·obtain⟨j,hj,rfl⟩:=List.mem_map.1 hb
  obtain⟨⟨cs,hc⟩,g,hg⟩:=hkb j hj
  have hbg:blk φ j=g:=by simp[blk,hg]
  rw[hbg]
  exact⟨(r1.hp j _ hc).block_lt rfl (by rw[hg];rfl),(r1.act j _ g hc rfl (by rw[hg];rfl)).1⟩
 ·obtain⟨res,fin,ys,ok',bn,rfl,hQ,ho1,ho2,ho3,hu,hAr,hbn,hbnb,hfin⟩:=hp
  refine⟨_,rfl,?_⟩
  split at hQ
  ·exact hQ.elim
  rename_i s2 hs2
  split at hQ
  rotate_left
  ·exact hQ.elim
  rename_i v s3 hres
  obtain⟨r2,_,hlt⟩:=r1.called hkb hnd' ho1 ho2 ho3 hu hfin hs2
  obtain⟨φ3,r3,hv3,hown⟩:=ofResults_sound r2 hres hAr hbn (fun b hb=>by
   obtain⟨e1,e2⟩:=hbnb b hb
   exact⟨Nat.le_trans r1.b0 e1,e2,fun k c hc ha hg=>by have:=hlt k c b hc ha hg;omega⟩)
  obtain⟨hact1,hksub⟩:=toRs_keys hrs
  have hact2:ActSub s1 s2:=setBoxes_act hs2 (fun j hj=>by obtain⟨⟨cs,hc⟩,_⟩:=hkb j hj;exact⟨_,hc,rfl⟩)
  refine⟨v,s3,ok',φ3,hQ,r3,hv3,⟨hu.size,fun g hg hn=>hu.block g hg (fun hm=>?_),fun k b' g h1 h2 h3 hlt=>?_⟩⟩
  ·obtain⟨j,hj,rfl⟩:=List.mem_map.1 hm
   obtain⟨⟨cs,hc⟩,g,hg'⟩:=hkb j hj
   obtain⟨b0,e1,e2⟩:=hact1 j _ hc rfl
   exact hn j b0 (hksub j hj) e1 e2 (by simp[blk,hg',blockOf])
  ·rcases hown k b' g h1 h2 h3 with⟨b,e1,e2,e3⟩|h
   ·obtain⟨b0,e4,e5⟩:=(hact1.trans hact2) k b e1 e2
    exact⟨k,b0,e4,e5,e3,.inl rfl⟩
   ·have:=(hbnb g h).1;omega
theorem toDs_pure{cs:List V}(h:pureV.pureL cs=true):∀{xs:List D} {s':St},toDs s cs=some (xs,s')→s'=s:=by
 induction cs with
 |nil=>intro xs s' hx;simp[toDs]at hx;exact hx.2.symm
 |cons c cs ih=>
  intro xs s' hx
  simp only[toDs]at hx
  split at hx
  ·cases hx
  rename_i x s1 hx1
  split at hx
  ·cases hx
  rename_i xs1 s2 hxs
  simp only[Option.some.injEq,Prod.mk.injEq]at hx
  obtain⟨_,rfl⟩:=hx
  have:s1=s∧pureV.pureL cs=true:=by
   cases c<;>simp[pureV.pureL]at h<;>simp[toD]at hx1
   ·exact⟨hx1.2.symm,h⟩
   ·exact⟨hx1.2.symm,h⟩
  obtain⟨rfl,h2⟩:=this
  exact ih h2 hxs
theorem toRs_pure{cs:List V}(h:pureVs cs=true):∀{xs:List R} {ks:List Nat} {s':St},toRs s cs=some (xs,ks,s')→s'=s∧ks=[]:=by
 induction cs with
 |nil=>intro xs ks s' hx;simp[toRs]at hx;obtain⟨_,rfl,rfl⟩:=hx;exact⟨rfl,rfl⟩
 |cons c cs ih=>
  intro xs ks s' hx
  simp only[pureVs]at h
  split at h
  rotate_left
  ·cases h
  rename_i hc
  simp only[toRs]at hx
  split at hx
  ·cases hx
  rename_i x k s1 hx1
  split at hx
  ·cases hx
  rename_i xs1 ks1 s2 hxs
  simp only[Option.some.injEq,Prod.mk.injEq]at hx
  obtain⟨_,rfl,rfl⟩:=hx
  have:s1=s∧k=none:=by
   cases c<;>simp[pureV]at hc<;>simp only[toR,toD]at hx1
   ·simp at hx1;exact⟨hx1.2.2.symm,hx1.2.1.symm⟩
   ·simp at hx1;exact⟨hx1.2.2.symm,hx1.2.1.symm⟩
   ·split at hx1
    ·cases hx1
    ·rename_i hd
     simp only[Option.some.injEq,Prod.mk.injEq]at hx1
     obtain⟨_,rfl,rfl⟩:=hx1
     exact⟨toDs_pure hc hd,rfl⟩
  obtain⟨rfl,rfl⟩:=this
  exact ih h hxs
theorem noBox_bs{rs:List R}{bs:List Nat}{vs:List Value}(h:noBox rs=true)(hA:ResR ok w bs rs vs):bs=[]:=by
 induction hA with
 |nil=>rfl
 |d _ _ ih=>exact ih (by simpa[noBox]using h)
 |agg _ _ _ ih=>exact ih (by simpa[noBox]using h)
 |ptr _ _ ih=>exact ih (by simpa[noBox]using h)
 |fn _ _ ih=>exact ih (by simpa[noBox]using h)
 |box=>simp[noBox]at h
 |lst=>simp[noBox]at h
theorem ofR_noBox{key:Nat}{x:R}{rs:List R}(h:noBox (x::rs)=true){v:V}{s':St}(hx:ofR s key x=some (v,s')):s'=s∧noBox rs=true:=by
 cases x<;>simp[noBox]at h<;>simp[ofR]at hx
 ·exact⟨hx.2.symm,h⟩
 ·exact⟨hx.2.symm,h⟩
 ·exact⟨hx.2.symm,h⟩
 ·exact⟨hx.2.symm,h⟩
theorem ofRs_noBox{rs:List R}:∀{key:Nat} {vs:List V} {s':St},noBox rs=true→ofRs s key rs=some (vs,s')→s'=s:=by
 induction rs with
 |nil=>intro key vs s' h hx;simp[ofRs]at hx;exact hx.2.symm
 |cons x rs ih=>
  intro key vs s' h hx
  simp only[ofRs]at hx
  split at hx
  ·cases hx
  rename_i v s1 hv
  split at hx
  ·cases hx
  rename_i vs1 s2 hvs
  simp only[Option.some.injEq,Prod.mk.injEq]at hx
  obtain⟨_,rfl⟩:=hx
  obtain⟨rfl,h2⟩:=ofR_noBox h hv
  exact ih h2 hvs
theorem ofResults_noBox{rs:List R}{key:Nat}{v:V}{s':St}(h:noBox rs=true)(hx:ofResults s key rs=some (v,s')):s'=s:=by
 unfold ofResults at hx
 split at hx
 ·exact(ofR_noBox h hx).1
 ·split at hx
  ·cases hx
  ·rename_i hvs
   simp only[Option.some.injEq,Prod.mk.injEq]at hx
   obtain⟨_,rfl⟩:=hx
   exact ofRs_noBox h hvs
theorem aCallPure_sound(hC:CallsOk P Z.gl C)(r:Rel B0 bx W0 ok0 Z N ok φ s a w){f:Nat}{args:List V}{K:V→Prop}(h:aCallPure C s f args K):
  FnOk P f∧(∃v,K v)∧∀(vs:List Value),vs.length=args.length→(∀(i:Nat) (c:V) (x:Value),args[i]? = some c→vs[i]? = some x→VR ok φ s.hp w c x)→
   Calls P f vs.toArray w (fun e w''=>∃v',e = .returned v'∧∃v ok' φ',K v∧Rel B0 bx W0 ok0 Z N ok' φ' s a w''∧VR ok' φ' s.hp w'' v v'∧Frm [] φ s w φ' s w''):=by
 unfold aCallPure at h
 split at h
 ·exact h.elim
 rename_i hpure
 split at h
 ·exact h.elim
 rename_i rs ks s1 hrs
 obtain⟨rfl,rfl⟩:=toRs_pure hpure hrs
 have hct:=hC _ _ _ h
 have hq:∀res fin,(match(fin:List (List D)),noBox res with|[],true=>(match ofResults s1 0 res with|some (v,_)=>K v|none=>False)|_,_=>False)→fin=[]∧noBox res=true∧∃v s',ofResults s1 0 res=some (v,s')∧K v:=by
  intro res fin hQ
  split at hQ
  ·rename_i hnb
   split at hQ
   ·rename_i v s' hr;exact⟨rfl,hnb,v,s',hr,hQ⟩
   ·exact hQ.elim
  ·exact hQ.elim
 refine⟨hct.fn,?_,fun vs hl hv=>?_⟩
 ·obtain⟨res,fin,hQ⟩:=hct.ex
  obtain⟨_,_,v,_,_,hK⟩:=hq res fin hQ
  exact⟨v,hK⟩
 ·obtain⟨ok1,r1,h1,hs1,hA,hkb⟩:=toRs_sound (vs:=vs) r hl hv hrs
  refine(hct.run w ok1 vs [] (fun b o h=>r1.kz b o (Z.sub b o h)) r1.okl (by simp) (by simp) hA).mono fun e w' hp=>?_
  obtain⟨res,fin,ys,ok',bn,rfl,hQ,ho1,ho2,ho3,hu,hAr,hbn,hbnb,hfin⟩:=hp
  obtain⟨rfl,hnb,v,s',hres,hK⟩:=hq res fin hQ
  obtain⟨r2,_,hlt⟩:=r1.called (ks:=[]) (fin:=[]) (by simp) (by simp) ho1 ho2 ho3 (by simpa using hu) (by simpa using hfin) rfl
  have hb0:=noBox_bs hnb hAr
  subst hb0
  have hs':=ofResults_noBox hnb hres
  subst hs'
  obtain⟨φ3,r3,hv3,hown⟩:=ofResults_sound r2 hres hAr hbn (by simp)
  refine⟨_,rfl,v,ok',φ3,hK,r3,hv3,⟨hu.size,fun g hg hn=>hu.block g hg (by simp),fun k b' g h1 h2 h3 hlt=>?_⟩⟩
  rcases hown k b' g h1 h2 h3 with⟨b,e1,e2,e3⟩|h
  ·exact⟨k,b,e1,e2,e3,.inl rfl⟩
  ·cases h
def okAll(ok:Nat→Prop)(φ:Nat→Value)(s:St)(b:Nat):Prop:=ok b∨∃k b',lk s.hp k=some b'∧b'.active=true∧blockOf (φ k)=some b
theorem viewD_sound(r:Rel B0 bx W0 ok0 Z N ok φ s a w){c:V}{v:Value}(hv:VR ok φ s.hp w c v){x:D}(h:viewD s c=some x):Rd (okAll ok φ s) w v x:=by
 cases hv with
 |d hrd=>simp[viewD]at h;subst h;exact hrd.mono (fun b hb=>.inl hb) (fun _ _=>rfl)
 |nil=>simp[viewD]at h;subst h;exact .nil
 | @own k sz0 es0 v hb0 hφ=>
   subst hφ
   simp only[viewD]at h
   split at h
   ·rename_i e sz es hb
    simp only[Option.some.injEq]at h;subst h
    exact(r.lstRd hb).mono (fun b hb'=>hb'.imp id (fun h=>⟨k,_,hb,rfl,h⟩)) (fun _ _=>rfl)
   ·rename_i sz es hb
    simp only[Option.some.injEq]at h;subst h
    obtain⟨_,_,hrd,_⟩:=r.hp k _ hb
    exact hrd.mono (fun b hb=>.inl hb) (fun _ _=>rfl)
   ·cases h
 | @vw k lo n g m cap cap' off sz0 es0 hb0 hφ hle hcap hoff=>
   simp only[viewD]at h
   split at h
   ·rename_i e sz es hb
    simp only[Option.some.injEq]at h;subst h
    have hs:sz0=sz:=by
       rcases hb0 with⟨e',h1⟩|h1
       ·rw[hb]at h1;simp only[Option.some.injEq,B.lst.injEq]at h1;exact h1.2.1.symm
       ·rw[hb]at h1;cases h1
    subst hs
    exact rd_cut ((r.lstRd hb).mono (fun b hb'=>hb'.imp id (fun h=>⟨k,_,hb,rfl,h⟩)) (fun _ _=>rfl)) hφ (r.hp k _ hb).2.1 hle hcap hoff
   ·rename_i sz es hb
    simp only[Option.some.injEq]at h;subst h
    obtain⟨_,hall,hrd,_⟩:=r.hp k _ hb
    have hs:sz0=sz:=by
       rcases hb0 with⟨e',h1⟩|h1
       ·rw[hb]at h1;cases h1
       ·rw[hb]at h1;simp only[Option.some.injEq,B.fro.injEq]at h1;exact h1.1.symm
    subst hs
    exact rd_cut (hrd.mono (fun b hb=>.inl hb) (fun _ _=>rfl)) hφ hall hle hcap hoff
   ·cases h
 |_=>simp[viewD]at h
theorem viewDs_sound(r:Rel B0 bx W0 ok0 Z N ok φ s a w):∀{cs:List V} {vs:List Value} {ds:List D},(∀(i:Nat) (c:V) (x:Value),cs[i]? = some c→vs[i]? = some x→VR ok φ s.hp w c x)→viewDs s cs=some ds→
  ds.length=cs.length∧∀(i:Nat) (x:D) (v:Value),ds[i]? = some x→vs[i]? = some v→Rd (okAll ok φ s) w v x:=by
 intro cs
 induction cs with
 |nil=>intro vs ds _ h;simp[viewDs]at h;subst h;exact⟨rfl,fun i x v h=>by simp at h⟩
 |cons c cs ih=>
  intro vs ds hv h
  simp only[viewDs]at h
  split at h
  ·cases h
  rename_i x hx
  split at h
  ·cases h
  rename_i xs hxs
  simp only[Option.some.injEq]at h;subst h
  obtain⟨h1,h2⟩:=ih (vs:=vs.drop 1) (fun i c x hc hx=>hv (i+1) c x (by simpa using hc) (by rw[List.getElem?_drop]at hx;rw[Nat.add_comm];exact hx)) hxs
  refine⟨by simp[h1],fun i y v hy hvi=>?_⟩
  cases i with
  |zero=>simp at hy;subst hy;exact viewD_sound r (hv 0 c v rfl hvi) hx
  |succ i=>exact h2 i y v (by simpa using hy) (by rw[List.getElem?_drop,Nat.add_comm];exact hvi)
theorem viewP_sound(r:Rel B0 bx W0 ok0 Z N ok φ s a w){k off g:Nat}(hφ:φ k = .pointer (some ⟨g,0,none⟩)){ds:List D}(h:viewP s k off=some ds):VR (okAll ok φ s) (fun _=>.int .i64 0) [] w (.dptr ds) (.pointer (some ⟨g,off,none⟩)):=by
 unfold viewP at h
 split at h
 rotate_left
 ·cases h
 rename_i cs hb
 split at h
 rotate_left
 ·cases h
 rename_i ds0 hds
 simp only[Option.some.injEq]at h
 subst h
 rw[dropN_eq]
 obtain⟨g',arr,T,hp,hh,hs,hr⟩:=r.hp k _ hb
 rw[hφ]at hp;simp at hp;subst hp
 obtain⟨h1,h2⟩:=viewDs_sound r (vs:=arr.toList) (fun i c x hc hx=>hr i c x hc (by simpa using hx)) hds
 refine .dptr (fun j=>arr.getD (off+j) undef) (fun _=>.inr ⟨k,_,hb,rfl,by rw[hφ];rfl⟩) (fun j hj=>?_) (fun j hj=>?_)
 ·have hlt:off+j<arr.size:=by simp at hj;omega
  simp[World.cell?,hh,hlt]
 ·have hlt:off+j<arr.size:=by simp at hj;omega
  have hlt2:off+j<ds0.length:=by simp at hj;omega
  rw[List.getD_eq_getElem?_getD,List.getElem?_drop,List.getElem?_eq_getElem hlt2,Array.getD_eq_getD_getElem?,Array.getElem?_eq_getElem hlt]
  exact h2 (off+j) _ _ (List.getElem?_eq_getElem hlt2) (by simp[hlt])
theorem viewCps_sound(r:Rel B0 bx W0 ok0 Z N ok φ s a w):∀{cs:List V} {vs:List Value} {l:List Cp},(∀(i:Nat) (c:V) (x:Value),cs[i]? = some c→vs[i]? = some x→VR ok φ s.hp w c x)→viewCps s cs=some l→
  (cpV l).length=cs.length∧∀(i:Nat) (c:V) (x:Value),(cpV l)[i]? = some c→vs[i]? = some x→VR (okAll ok φ s) (fun _=>.int .i64 0) [] w c x:=by
 intro cs
 induction cs with
 |nil=>intro vs l _ h;simp[viewCps]at h;subst h;exact⟨rfl,fun i c x h=>by simp[cpV]at h⟩
 |cons c cs ih=>
  intro vs l hv h
  have fin:∀(y:Cp) (l':List Cp) (u:V),viewCps s cs=some l'→l=y::l'→cpV (y::l')=u::cpV l'→(∀v,vs[0]? = some v→VR (okAll ok φ s) (fun _=>.int .i64 0) [] w u v)→
    (cpV l).length=(c::cs).length∧∀(i:Nat) (c:V) (x:Value),(cpV l)[i]? = some c→vs[i]? = some x→VR (okAll ok φ s) (fun _=>.int .i64 0) [] w c x:=by
   intro y l' u h1 h2 h3 h4
   subst h2
   rw[h3]
   obtain⟨e1,e2⟩:=ih (vs:=vs.drop 1) (fun i c x hc hx=>hv (i+1) c x (by simpa using hc) (by rw[List.getElem?_drop]at hx;rw[Nat.add_comm];exact hx)) h1
   refine⟨by simp[e1],fun i c x hc hx=>?_⟩
   cases i with
   |zero=>simp at hc;subst hc;exact h4 x hx
   |succ i=>exact e2 i c x (by simpa using hc) (by rw[List.getElem?_drop,Nat.add_comm];exact hx)
  have other:(∃x l',viewD s c=some x∧viewCps s cs=some l'∧Cp.d x::l'=l)→(cpV l).length=(c::cs).length∧∀(i:Nat) (c:V) (x:Value),(cpV l)[i]? = some c→vs[i]? = some x→VR (okAll ok φ s) (fun _=>.int .i64 0) [] w c x:=by
   intro⟨x,l',hx,hl',h⟩
   exact fin (.d x) l' (.d x) hl' h.symm rfl fun v hv0=>.d (viewD_sound r (hv 0 _ v rfl hv0) hx)
  cases c with
  |ref k off=>
   simp only[viewCps]at h
   split at h
   ·rename_i ds l' hds hl'
    simp only[Option.some.injEq]at h
    refine fin (.ptr ds) l' (.dptr ds) hl' h.symm rfl fun v hv0=>?_
    have:=hv 0 _ v rfl hv0
    cases this
    rename_i hb hφ
    exact viewP_sound r hφ hds
   ·cases h
  |dptr cs'=>
   simp only[viewCps]at h
   split at h
   ·rename_i l' hl'
    simp only[Option.some.injEq]at h
    exact fin (.ptr cs') l' (.dptr cs') hl' h.symm rfl fun v hv0=>((hv 0 _ v rfl hv0).toBare (fun k=>rfl)).bare (fun b hb=>.inl hb) (fun _ _=>rfl)
   ·cases h
  |_=>exact other (by
    simp only[viewCps]at h
    split at h
    ·rename_i x l' hx hl'
     exact⟨x,l',hx,hl',by simpa using h⟩
    ·cases h)
theorem viewR_sound(r:Rel B0 bx W0 ok0 Z N ok φ s a w){c:V}{v:Value}(hv:VR ok φ s.hp w c v){x:R}(h:viewR s c=some x){bs:List Nat}{rs:List R}{vs:List Value}(hA:ArgsR (okAll ok φ s) w bs rs vs):ArgsR (okAll ok φ s) w bs (x::rs) (v::vs):=by
 have other:(viewD s c).map R.d=some x→ArgsR (okAll ok φ s) w bs (x::rs) (v::vs):=by
  intro h
  cases hd:viewD s c with
  |none=>rw[hd]at h;cases h
  |some y=>
   rw[hd]at h
   simp only[Option.map_some,Option.some.injEq]at h
   subst h
   exact .d (viewD_sound r hv hd) hA
 cases c with
 |agg cs=>
  simp only[viewR]at h
  split at h
  ·rename_i ds hds
   simp only[Option.some.injEq]at h;subst h
   cases hv
   rename_i xs hs hr
   obtain⟨h1,h2⟩:=viewDs_sound r (vs:=xs.toList) (fun i c x hc hx=>hr i c x hc (by simpa using hx)) hds
   exact .agg (by omega) (fun i x v hx hv=>h2 i x v hx (by simpa using hv)) hA
  ·cases h
 |ref k off=>
  simp only[viewR]at h
  split at h
  ·rename_i ds hds
   simp only[Option.some.injEq]at h;subst h
   cases hv
   rename_i g cs0 hb hφ
   exact .ptr (viewP_sound r hφ hds) hA
  ·cases h
 |dptr cs=>
  simp only[viewR,Option.some.injEq]at h;subst h
  exact .ptr ((hv.toBare (fun k=>rfl)).bare (fun b hb=>.inl hb) (fun _ _=>rfl)) hA
 |arrv k n c=>
  simp only[viewR]at h
  split at h
  rotate_left
  ·cases h
  rename_i ds hds
  split at h
  rotate_left
  ·cases h
  rename_i es hes
  simp only[Option.some.injEq]at h;subst h
  cases hv
  rename_i g cs0 hb hφ
  obtain⟨e1,e2,e3,e4⟩:=chunks_some hes
  have hp:=viewP_sound r hφ hds
  cases hp with
  |dptr x hok hc hr=>
   have hlt:∀i j,i<n→j<c→i*c+j<ds.length:=fun i j hi hj=>by
    have:(i+1)*c≤n*c:=Nat.mul_le_mul_right _ hi
    rw[Nat.succ_mul]at this
    omega
   have hrd:Rd (okAll ok φ s) w (.slice (some ⟨g,0,none⟩) es.length n) (.sl es):=.sl c (fun i j=>x (i*c+j)) (by omega) (fun hne=>by
    cases hes0:ds with
    |nil=>
     exact .inr ⟨k,_,hb,rfl,by rw[hφ];rfl⟩
    |cons d r=>exact hok (by rw[hes0];simp)) e3 (fun i j hi hj=>by
     have:=hc (i*c+j) (hlt i j (by omega) hj)
     simpa using this) (fun i j hi hj=>by
     rw[e4 i j (by omega) hj]
     exact hr (i*c+j) (hlt i j (by omega) hj))
   rw[e1]at hrd
   exact .d hrd hA
 |fn f caps=>
  simp only[viewR]at h
  split at h
  ·rename_i l hl
   simp only[Option.some.injEq]at h;subst h
   cases hv
   rename_i xs hs hr
   obtain⟨h1,h2⟩:=viewCps_sound r (vs:=xs.toList) (fun i c x hc hx=>hr i c x hc (by simpa using hx)) hl
   exact .fn (.fn (by omega) (fun i c x hc hx=>h2 i c x hc (by simpa using hx))) hA
  ·cases h
 |_=>exact other (by
   simp only[viewR]at h
   split at h
   ·rename_i hd;simp only[hd,Option.map_some];exact h
   ·cases h)
theorem viewRs_sound(r:Rel B0 bx W0 ok0 Z N ok φ s a w):∀{cs:List V} {vs:List Value} {rs:List R},vs.length=cs.length→(∀(i:Nat) (c:V) (x:Value),cs[i]? = some c→vs[i]? = some x→VR ok φ s.hp w c x)→viewRs s cs=some rs→
  ArgsR (okAll ok φ s) w [] rs vs:=by
 intro cs
 induction cs with
 |nil=>intro vs rs hl _ h;simp[viewRs]at h;subst h;cases vs with|nil=>exact .nil|cons=>simp at hl
 |cons c cs ih=>
  intro vs rs hl hv h
  cases vs with
  |nil=>simp at hl
  |cons v vs=>
   simp only[viewRs]at h
   split at h
   ·cases h
   rename_i x hx
   split at h
   ·cases h
   rename_i xs hxs
   simp only[Option.some.injEq]at h;subst h
   exact viewR_sound r (hv 0 c v rfl rfl) hx (ih (by simpa using hl) (fun i c x hc hx=>hv (i+1) c x (by simpa using hc) (by simpa using hx)) hxs)
theorem plainDs_spec{cs:List D}(h:plainDs cs=true):∀x∈cs,∃v,x = .v v:=by
 induction cs with
 |nil=>intro x hx;cases hx
 |cons c r ih=>
  cases c with
  |v y=>
   intro x hx
   rcases List.mem_cons.1 hx with rfl|hx
   ·exact⟨y,rfl⟩
   ·exact ih (by simpa[plainDs]using h) x hx
  |sl es=>simp[plainDs]at h
  |opq=>simp[plainDs]at h
theorem plainRes_sound{ok':Nat→Prop}{hp:List (Nat×B)}{w:World}:∀{res:List R} {vs:List V} {bn:List Nat} {ys:List Value},plainRes res=some vs→ResR ok' w bn res ys→
  ys.length=vs.length∧∀(i:Nat) (c:V) (x:Value),vs[i]? = some c→ys[i]? = some x→VR ok φ hp w c x:=by
 intro res
 induction res with
 |nil=>intro vs bn ys h hA;simp[plainRes]at h;subst h;cases hA;exact⟨rfl,fun i c x h=>by simp at h⟩
 |cons x res ih=>
  intro vs bn ys h hA
  have fin:∀(u:V) (l:List V) (y:Value) (ys':List Value) (bn':List Nat),plainRes res=some l→vs=u::l→ys=y::ys'→ResR ok' w bn' res ys'→VR ok φ hp w u y→
    ys.length=vs.length∧∀(i:Nat) (c:V) (x:Value),vs[i]? = some c→ys[i]? = some x→VR ok φ hp w c x:=by
   intro u l y ys' bn' h1 h2 h3 h4 h5
   subst h2;subst h3
   obtain⟨e1,e2⟩:=ih h1 h4
   refine⟨by simp[e1],fun i c x hc hx=>?_⟩
   cases i with
   |zero=>simp at hc hx;subst hc;subst hx;exact h5
   |succ i=>exact e2 i c x (by simpa using hc) (by simpa using hx)
  have rdv:∀(v:Value) (x:Value),Rd ok' w v (.v x)→Rd ok w v (.v x):=fun v x h=>by
   cases h;rename_i hp;exact .v hp
  cases x with
  |d x=>
   cases x with
   |v x=>
    simp only[plainRes]at h
    split at h
    ·rename_i l hl
     simp only[Option.some.injEq]at h
     cases hA
     rename_i vs' v hrd hA'
     exact fin _ l v vs' _ hl h.symm rfl hA' (.d (rdv _ _ hrd))
    ·cases h
   |sl es=>simp[plainRes]at h
   |opq=>simp[plainRes]at h
  |agg cs=>
   simp only[plainRes]at h
   split at h
   ·rename_i l hp hl
    simp only[Option.some.injEq]at h
    cases hA
    rename_i vs' xs hs hrd hA'
    refine fin _ l _ vs' _ hl h.symm rfl hA' (.agg (by rw[vd_length];exact hs) fun i c x hc hx=>?_)
    rw[vd_get]at hc
    cases hcs:cs[i]? with
    |none=>rw[hcs]at hc;cases hc
    |some d=>
     rw[hcs]at hc
     simp at hc;subst hc
     obtain⟨y,rfl⟩:=plainDs_spec hp d (List.mem_of_getElem? hcs)
     exact .d (rdv _ _ (hrd i _ x hcs hx))
   ·cases h
  |box cs=>simp[plainRes]at h
  |ptr cs=>simp[plainRes]at h
  |fn f caps=>simp[plainRes]at h
  |lst e sz es=>simp[plainRes]at h
theorem Rel.later(r:Rel B0 bx W0 ok0 Z N ok φ s a w){w':World}(hu:Upd [] w.heap.size w w'):Rel B0 bx W0 ok0 Z N ok φ s a w':=by
 have hw:∀b,b<w.heap.size→w'.heap[b]? = w.heap[b]?:=fun b hb=>hu.block b hb (by simp)
 have:=r.step (w':=w') (φ':=φ) (ok':=ok) (hp':=s.hp) (fun _=>False) (fun _ h=>h.elim) (fun _ h=>h) (fun b hb=>hw b (r.okl b hb)) (fun _ _ _=>rfl) (fun k _=>Sim.refl _ k)
  (fun k b hb=>(r.hp k b hb).keep (fun _=>False) (fun _ _ h=>h.elim) (fun _ h=>h) (fun b hb=>hw b (r.okl b hb)) (fun _ _ _=>rfl) (fun k _=>Sim.refl _ k) (fun ha g hg=>hw g ((r.hp k b hb).block_lt ha hg))) r.act r.inj r.one (fun b hb=>Nat.lt_of_lt_of_le (r.okl b hb) hu.size) r.oks ⟨hu.os,hu.tape,hu.output,hu.size,fun k hk _=>hw k (Nat.lt_of_lt_of_le hk r.b0)⟩
 exact this
theorem aCallB_sound(hC:CallsOk P Z.gl C)(r:Rel B0 bx W0 ok0 Z N ok φ s a w){f:Nat}{args:List V}{K:V→Prop}(h:aCallB C s f args K):
  FnOk P f∧(∃v,K v)∧∀(vs:List Value),vs.length=args.length→(∀(i:Nat) (c:V) (x:Value),args[i]? = some c→vs[i]? = some x→VR ok φ s.hp w c x)→
   Calls P f vs.toArray w (fun e w''=>∃v',e = .returned v'∧∃v,K v∧Rel B0 bx W0 ok0 Z N ok φ s a w''∧VR ok φ s.hp w'' v v'∧Frm [] φ s w φ s w''):=by
 unfold aCallB at h
 split at h
 ·exact h.elim
 rename_i rs hrs
 have hct:=hC _ _ _ h
 have hq:∀res fin,(match(fin:List (List D)),plainRes res with|[],some vs=>K (oneV vs)|_,_=>False)→fin=[]∧∃vs,plainRes res=some vs∧K (oneV vs):=by
  intro res fin hQ
  split at hQ
  ·rename_i vs hvs;exact⟨rfl,vs,hvs,hQ⟩
  ·exact hQ.elim
 refine⟨hct.fn,?_,fun vs hl hv=>?_⟩
 ·obtain⟨res,fin,hQ⟩:=hct.ex
  obtain⟨_,vs,_,hK⟩:=hq res fin hQ
  exact⟨_,hK⟩
 ·have hA:=viewRs_sound r hl hv hrs
  refine(hct.run w (okAll ok φ s) vs [] (fun b o h=>⟨.inl (r.kz b o (Z.sub b o h)).1,(r.kz b o (Z.sub b o h)).2⟩) (fun b hb=>?_) (by simp) (by simp) hA).mono fun e w' hp=>?_
  ·rcases hb with hb|⟨k,b',h1,h2,h3⟩
   ·exact r.okl b hb
   ·exact(r.hp k b' h1).block_lt h2 h3
  ·obtain⟨res,fin,ys,ok',bn,rfl,hQ,ho1,ho2,ho3,hu,hAr,_⟩:=hp
   obtain⟨rfl,us,hus,hK⟩:=hq res fin hQ
   obtain⟨h1,h2⟩:=plainRes_sound (ok:=ok) (φ:=φ) (hp:=s.hp) hus hAr
   refine⟨_,rfl,_,hK,r.later hu,?_,⟨hu.size,fun g hg _=>hu.block g hg (by simp),fun k b' g h1 h2 h3 _=>⟨k,b',h1,h2,h3,.inl rfl⟩⟩⟩
   match us,ys,h1,h2 with
   |[],[],_,_=>exact .tup rfl (fun i c x h=>by simp at h)
   |[u],[y],_,h2=>exact h2 0 u y rfl rfl
   |u1::u2::us,y1::y2::ys,h1,h2=>exact .tup (by simpa using h1) (fun i c x hc hx=>h2 i c x hc (by simpa using hx))
end Go.Dm
