/- Part of the proof: contracts of functions; no condition. -/
import Derived.Test.YtabbmgfeemkkbaaGreatDoorDm10
namespace Go.Dm
variable {P:Program} {E:Env}
variable {B0:Nat} {bx:List Nat} {W0:World} {aI:Nat→Prop} {Z:Zr} {N:Nat}
variable {ok:Nat→Prop} {φ:Nat→Value} {s:St} {a:Act} {w:World}
def uq(ok:Nat→Prop)(w:World)(n:Nat)(cs:List D):Prop:=
 ∃arr T,w.heap[n]? = some (.cells arr T (0,0))∧arr.size=cs.length∧∀(i:Nat) (x:D) (v:Value),cs[i]? = some x→arr[i]? = some v→Rd ok w v x
inductive cC (ok:Nat→Prop) (w:World):List Nat→List R→List Value→Prop
 |nil:cC ok w [] [] []
 |d {bs rs vs x v} (h:Rd ok w v x) (r:cC ok w bs rs vs):cC ok w bs (.d x::rs) (v::vs)
 |agg {bs rs vs cs} {xs:Array Value} (hs:xs.size=cs.length) (h:∀(i:Nat) (x:D) (v:Value),cs[i]? = some x→xs[i]? = some v→Rd ok w v x) (r:cC ok w bs rs vs):cC ok w bs (.agg cs::rs) (.agg xs::vs)
 |ptr {bs rs vs cs v} (h:VR ok (fun _=>.int .i64 0) [] w (.bW cs) v) (r:cC ok w bs rs vs):cC ok w bs (.ptr cs::rs) (v::vs)
 |fn {bs rs vs f bY v} (h:VR ok (fun _=>.int .i64 0) [] w (.fn f (kV bY)) v) (r:cC ok w bs rs vs):cC ok w bs (.fn f bY::rs) (v::vs)
 |box {bs rs vs cs n} (h:uq ok w n cs) (r:cC ok w bs rs vs):cC ok w (n::bs) (.box cs::rs) (.pointer (some ⟨n,0,none⟩)::vs)
def TW(v:Value):List Nat:=match aq v with|some g=>[g]|none=>[]
def ym(ok:Nat→Prop)(w:World)(v:Value)(e sz:Nat)(es:List (List D)):Prop:=
 0<sz∧(∀c∈es,c.length=sz)∧∃xs,w.ownsRow 0 e sz v es.length xs∧∀i j,i<es.length→j<sz→Rd ok w (xs.getD (i*sz+j) undef) ((es.getD i []).getD j default)
inductive gr (ok:Nat→Prop) (w:World):List Nat→List R→List Value→Prop
 |nil:gr ok w [] [] []
 |d {bs rs vs x v} (h:Rd ok w v x) (r:gr ok w bs rs vs):gr ok w bs (.d x::rs) (v::vs)
 |agg {bs rs vs cs} {xs:Array Value} (hs:xs.size=cs.length) (h:∀(i:Nat) (x:D) (v:Value),cs[i]? = some x→xs[i]? = some v→Rd ok w v x) (r:gr ok w bs rs vs):gr ok w bs (.agg cs::rs) (.agg xs::vs)
 |ptr {bs rs vs cs v} (h:VR ok (fun _=>.int .i64 0) [] w (.bW cs) v) (r:gr ok w bs rs vs):gr ok w bs (.ptr cs::rs) (v::vs)
 |fn {bs rs vs f bY v} (h:VR ok (fun _=>.int .i64 0) [] w (.fn f (kV bY)) v) (r:gr ok w bs rs vs):gr ok w bs (.fn f bY::rs) (v::vs)
 |box {bs rs vs cs n} (h:uq ok w n cs) (r:gr ok w bs rs vs):gr ok w (n::bs) (.box cs::rs) (.pointer (some ⟨n,0,none⟩)::vs)
 |bu {bs rs vs e sz es v} (h:ym ok w v e sz es) (r:gr ok w bs rs vs):gr ok w (TW v++bs) (.bu e sz es::rs) (v::vs)
theorem cC.res{ok:Nat→Prop}{w:World}{bs:List Nat}{rs:List R}{vs:List Value}(h:cC ok w bs rs vs):gr ok w bs rs vs:=by
 induction h with
 |nil=>exact .nil
 |d h _ ih=>exact .d h ih
 |agg hs h _ ih=>exact .agg hs h ih
 |ptr h _ ih=>exact .ptr h ih
 |fn h _ ih=>exact .fn h ih
 |box h _ ih=>exact .box h ih
theorem VR.bare{ok ok':Nat→Prop}{φ':Nat→Value}{hp':List (Nat×B)}{w w':World}{c:V}{v:Value}(h:VR ok (fun _=>.int .i64 0) [] w c v)(h1:∀b,ok b→ok' b)(h2:∀b,ok b→w'.heap[b]? = w.heap[b]?):VR ok' φ' hp' w' c v:=
 h.mono h1 h2 (fun k _ hn=>(hn rfl).elim) (fun k _=>by unfold cI;simp[lk])
theorem VR.rZ{ok:Nat→Prop}{φ:Nat→Value}{hp:List (Nat×B)}{w:World}{c:V}{v:Value}(h:VR ok φ hp w c v)(hn:∀k,V.names k c=false):VR ok (fun _=>.int .i64 0) [] w c v:=
 h.mono (fun _ h=>h) (fun _ _=>rfl) (fun k hk=>by rw[hn k]at hk;cases hk) (fun k hk=>by rw[hn k]at hk;cases hk)
theorem DZ(l:List Cp)(k:Nat):V.fK k (kV l)=false:=by
 induction l with
 |nil=>rfl
 |cons c r ih=>cases c<;>simp[kV,V.fK,V.names,ih]
theorem FV{l:List V}{m:List Cp}(h:tW l=some m):kV m=l:=by
 induction l generalizing m with
 |nil=>simp[tW]at h;subst h;rfl
 |cons c r ih=>
  cases c<;>simp only[tW]at h<;>first|(cases h;done)|skip
  all_goals
   split at h
   ·rename_i l hl
    simp only[Option.some.injEq]at h
    subst h
    simp[kV,ih hl]
   ·cases h
theorem cC.mono{ok ok':Nat→Prop}{w:World}{bs:List Nat}{rs:List R}{vs:List Value}(h:cC ok w bs rs vs)(h1:∀b,ok b→ok' b):cC ok' w bs rs vs:=by
 induction h with
 |nil=>exact .nil
 |d h r ih=>exact .d (h.mono h1 (fun _ _=>rfl)) ih
 |agg hs h r ih=>exact .agg hs (fun i x v a b=>(h i x v a b).mono h1 (fun _ _=>rfl)) ih
 |ptr h r ih=>exact .ptr (h.bare h1 (fun _ _=>rfl)) ih
 |fn h r ih=>exact .fn (h.bare h1 (fun _ _=>rfl)) ih
 |box h r ih=>
  obtain⟨arr,T,e1,e2,e3⟩:=h
  exact .box ⟨arr,T,e1,e2,fun i x v a b=>(e3 i x v a b).mono h1 (fun _ _=>rfl)⟩ ih
theorem ym.mono{ok ok':Nat→Prop}{w:World}{v:Value}{e sz:Nat}{es:List (List D)}(h:ym ok w v e sz es)(h1:∀b,ok b→ok' b):ym ok' w v e sz es:=
 ⟨h.1,h.2.1,let ⟨xs,a,b⟩:=h.2.2;⟨xs,a,fun i j hi hj=>(b i j hi hj).mono h1 (fun _ _=>rfl)⟩⟩
theorem gr.mono{ok ok':Nat→Prop}{w:World}{bs:List Nat}{rs:List R}{vs:List Value}(h:gr ok w bs rs vs)(h1:∀b,ok b→ok' b):gr ok' w bs rs vs:=by
 induction h with
 |nil=>exact .nil
 |d h r ih=>exact .d (h.mono h1 (fun _ _=>rfl)) ih
 |agg hs h r ih=>exact .agg hs (fun i x v a b=>(h i x v a b).mono h1 (fun _ _=>rfl)) ih
 |ptr h r ih=>exact .ptr (h.bare h1 (fun _ _=>rfl)) ih
 |fn h r ih=>exact .fn (h.bare h1 (fun _ _=>rfl)) ih
 |box h r ih=>
  obtain⟨arr,T,e1,e2,e3⟩:=h
  exact .box ⟨arr,T,e1,e2,fun i x v a b=>(e3 i x v a b).mono h1 (fun _ _=>rfl)⟩ ih
 |bu h r ih=>exact .bu (h.mono h1) ih
theorem yn{ok:Nat→Prop}{w:World}{bs:List Nat}{rs:List R}{vs:List Value}(h:gr ok w bs rs vs):rs.length=vs.length:=by
 induction h with
 |nil=>rfl
 |_=>simp_all
def TZ(ok:Nat→Prop)(w:World)(bs:List Nat)(fin:List (List D)):Prop:=
 bs.length=fin.length∧∀(i n:Nat) (cs:List D),bs[i]? = some n→fin[i]? = some cs→uq ok w n cs
def qc(P:Program)(f:Nat):Prop:=∃fn,P.funcs[f]? = some fn∧(fn.name == "runtime.NumGoroutine")=false∧fn.body.isNone=false
def ko:List Value→Value
 |[v]=>v
 |vs=>.tuple vs.toArray
def FX(ok:Nat→Prop)(bs:List Nat)(w:World)(Q:KT)(e:Ending)(w':World):Prop:=
 ∃res fin vs ok' bn,e = .returned (ko vs)∧Q res fin∧(∀b,ok b→ok' b)∧(∀b,ok' b→ok b∨w.heap.size≤b)∧(∀b,ok' b→b<w'.heap.size)∧
  mB bs w.heap.size w w'∧gr ok' w' bn res vs∧bn.Nodup∧(∀b∈bn,w.heap.size≤b∧¬ok' b)∧TZ ok' w' bs fin
structure Ct (P:Program) (gl:Nat→Option Obj) (f:Nat) (args:List R) (Q:KT):Prop where
 fn:qc P f
 ex:∃res fin,Q res fin
 run:∀(w:World) (ok:Nat→Prop) (vs:List Value) (bs:List Nat),(∀b o,gl b=some o→ok b∧w.heap[b]? = some o)→(∀b,ok b→b<w.heap.size)→(∀b∈bs,b<w.heap.size∧¬ok b)→bs.Nodup→cC ok w bs args vs→
  Calls P f vs.toArray w (FX ok bs w Q)
theorem Ct.mono{gl:Nat→Option Obj}{f:Nat}{args:List R}{Q Q':KT}(h:Ct P gl f args Q)(hq:∀r c,Q r c→Q' r c):Ct P gl f args Q':=
 ⟨h.fn,let ⟨r,c,h⟩:=h.ex;⟨r,c,hq _ _ h⟩,fun w ok vs bs h0 h1 h2 h3 h4=>(h.run w ok vs bs h0 h1 h2 h3 h4).mono fun e w' ⟨res,fin,vs,ok',bn,h5,h6,h7⟩=>⟨res,fin,vs,ok',bn,h5,hq _ _ h6,h7⟩⟩
def ah(P:Program)(gl:Nat→Option Obj)(C:aj):Prop:=∀f args Q,C f args Q→Ct P gl f args Q
def iH(φ:Nat→Value)(k:Nat):Nat:=match φ k with | .pointer (some a)=>a.block|_=>0
def ur(φ:Nat→Value):Option Nat→List Nat
 |some k=>[iH φ k]
 |none=>[]
theorem D0(r:Rel B0 bx W0 aI Z N ok φ s a w){c:V}{v:Value}(hv:VR ok φ s.hp w c v){x:R}{k:Option Nat}{s':St}(h:toR s c=some (x,k,s')):
  ∃ok',Rel B0 bx W0 aI Z N ok' φ s' a w∧(∀b,ok b→ok' b)∧(∀j,cI s.hp s'.hp j)∧(∀bs rs vs,cC ok' w bs rs vs→cC ok' w (ur φ k++bs) (x::rs) (v::vs))∧
   (∀j,k=some j→(∃cs,lk s'.hp j=some (.box cs))∧∃g,φ j = .pointer (some ⟨g,0,none⟩)):=by
 have Of:∀(y:D) (s1:St),tV s c=some (y,s1)→x = .d y→k=none→s'=s1→
   ∃ok',Rel B0 bx W0 aI Z N ok' φ s' a w∧(∀b,ok b→ok' b)∧(∀j,cI s.hp s'.hp j)∧(∀bs rs vs,cC ok' w bs rs vs→cC ok' w (ur φ k++bs) (x::rs) (v::vs))∧
   (∀j,k=some j→(∃cs,lk s'.hp j=some (.box cs))∧∃g,φ j = .pointer (some ⟨g,0,none⟩)):=by
  intro y s1 hy hx hk hs
  subst hx;subst hk;subst hs
  obtain⟨ok',r',cK,h1,h2⟩:=oU r hv hy
  exact⟨ok',r',h1,h2,fun bs rs vs h=>.d cK h,fun j h=>by cases h⟩
 have other:(tV s c).map (fun p=>(R.d p.1,(none:Option Nat),p.2))=some (x,k,s')→∃ok',Rel B0 bx W0 aI Z N ok' φ s' a w∧(∀b,ok b→ok' b)∧(∀j,cI s.hp s'.hp j)∧(∀bs rs vs,cC ok' w bs rs vs→cC ok' w (ur φ k++bs) (x::rs) (v::vs))∧
   (∀j,k=some j→(∃cs,lk s'.hp j=some (.box cs))∧∃g,φ j = .pointer (some ⟨g,0,none⟩)):=by
  intro h
  cases hd:tV s c with
  |none=>rw[hd]at h;cases h
  |some p=>
   rw[hd]at h
   simp only[Option.map_some,Option.some.injEq,Prod.mk.injEq]at h
   exact Of p.1 p.2 hd h.1.symm h.2.1.symm h.2.2.symm
 cases c with
 |agg cs=>
  cases hv
  rename_i xs hs hr
  simp only[toR]at h
  split at h
  ·cases h
  rename_i ds s1 hds
  simp only[Option.some.injEq,Prod.mk.injEq]at h
  obtain⟨rfl,rfl,rfl⟩:=h
  obtain⟨ok',r',hl,cK,h1,h2⟩:=gq (vs:=xs.toList) r (by simpa using hs) (fun i c y hc hy=>hr i c y hc (by simpa using hy)) hds
  exact⟨ok',r',h1,h2,fun bs rs vs h=>.agg (by omega) (fun i x v a b=>cK i x v a (by simpa using b)) h,fun j h=>by cases h⟩
 |ref k0 off=>
  cases off with
  |zero=>
   cases hv
   rename_i g DM jR hφ
   simp only[toR]at h
   split at h
   rotate_left
   ·cases h
   rename_i cs hb
   split at h
   ·cases h
   rename_i ds s1 hds
   simp only[Option.some.injEq,Prod.mk.injEq]at h
   obtain⟨rfl,rfl,rfl⟩:=h
   obtain⟨g',arr,T,hp,hh,hs,hr⟩:=r.hp k0 _ hb
   rw[hφ]at hp;simp at hp;subst hp
   obtain⟨ok',r',hl,cK,h1,h2⟩:=gq (vs:=arr.toList) r (by simpa using hs) (fun i c y hc hy=>hr i c y hc (by simpa using hy)) hds
   refine⟨ok',r',h1,h2,fun bs rs vs h=>?_,fun j hj=>?_⟩
   ·have:iH φ k0=g:=by simp[iH,hφ]
    simp only[ur,this,List.singleton_append]
    exact .box ⟨arr,T,hh,by omega,fun i x v a b=>cK i x v a (by simpa using b)⟩ h
   ·simp only[Option.some.injEq]at hj;subst hj
    exact⟨(h2 k0).box hb,g,hφ⟩
  |succ n=>simp[toR,tV]at h
 |bW cs=>
  simp only[toR,Option.some.injEq,Prod.mk.injEq]at h
  obtain⟨rfl,rfl,rfl⟩:=h
  exact⟨ok,r,fun _ h=>h,cI.refl _,fun bs rs vs h=>.ptr (hv.rZ (fun k=>rfl)) h,fun j h=>by cases h⟩
 |fn f bY=>
  simp only[toR]at h
  split at h
  ·rename_i l hl
   simp only[Option.some.injEq,Prod.mk.injEq]at h
   obtain⟨rfl,rfl,rfl⟩:=h
   have hc:=FV hl
   subst hc
   exact⟨ok,r,fun _ h=>h,cI.refl _,fun bs rs vs h=>.fn (hv.rZ (fun k=>by simp[V.names,DZ])) h,fun j h=>by cases h⟩
  ·cases h
 |_=>exact other (by
   simp only[toR]at h
   split at h
   ·cases h
   ·rename_i hd;simp only[hd,Option.map_some];exact h)
theorem mI{vs:List Value}:∀{cs:List V} {ok:Nat→Prop} {s s':St} {xs:List R} {ks:List Nat},Rel B0 bx W0 aI Z N ok φ s a w→vs.length=cs.length→
  (∀(i:Nat) (c:V) (x:Value),cs[i]? = some c→vs[i]? = some x→VR ok φ s.hp w c x)→oJ s cs=some (xs,ks,s')→
  ∃ok',Rel B0 bx W0 aI Z N ok' φ s' a w∧(∀b,ok b→ok' b)∧(∀j,cI s.hp s'.hp j)∧cC ok' w (ks.map (iH φ)) xs vs∧
   (∀j∈ks,(∃cs,lk s'.hp j=some (.box cs))∧∃g,φ j = .pointer (some ⟨g,0,none⟩)):=by
 induction vs with
 |nil=>
  intro cs ok s s' xs ks r hl hv h
  cases cs with
  |nil=>simp[oJ]at h;obtain⟨rfl,rfl,rfl⟩:=h;exact⟨ok,r,fun _ h=>h,cI.refl _,.nil,fun j h=>by cases h⟩
  |cons c cs=>simp at hl
 |cons v vs ih=>
  intro cs ok s s' xs ks r hl hv h
  cases cs with
  |nil=>simp at hl
  |cons c cs=>
   simp only[oJ]at h
   split at h
   ·cases h
   rename_i x k s1 hx
   split at h
   ·cases h
   rename_i Wn ks1 s2 nB
   simp only[Option.some.injEq,Prod.mk.injEq]at h
   obtain⟨rfl,rfl,rfl⟩:=h
   obtain⟨jK,r1,h1,mn,hA,hb1⟩:=D0 r (hv 0 c v rfl rfl) hx
   obtain⟨pF,r2,h2,DU,XE,du⟩:=ih r1 (by simpa using hl) (fun i c x hc hx=>(hv (i+1) c x (by simpa using hc) (by simpa using hx)).mono h1 (fun _ _=>rfl) (fun _ _ _=>rfl) (fun j _=>mn j)) nB
   refine⟨pF,r2,fun b hb=>h2 b (h1 b hb),fun j=>(mn j).trans (DU j),?_,?_⟩
   ·have h0:=(hA [] [] [] .nil).mono h2
    cases k with
    |none=>
     simp only[ur,List.nil_append]at h0 ⊢
     cases h0 with
     |d h _=>exact .d h XE
     |agg hs h _=>exact .agg hs h XE
     |ptr h _=>exact .ptr h XE
     |fn h _=>exact .fn h XE
    |some k=>
     simp only[ur,List.append_nil,List.map_cons]at h0 ⊢
     cases h0 with
     |box h _=>exact .box h XE
     |d h h'=>cases h'
     |agg hs h h'=>cases h'
     |ptr h h'=>cases h'
     |fn h h'=>cases h'
   ·intro j hj
    cases k with
    |none=>exact du j hj
    |some k=>
     rcases List.mem_cons.1 hj with rfl|hj
     ·obtain⟨⟨eN,hc⟩,hg⟩:=hb1 j rfl
      exact⟨(DU j).box hc,hg⟩
     ·exact du j hj
theorem mem_iff(l:List Nat)(k:Nat):mem l k=true↔k∈l:=by
 induction l with
 |nil=>simp[mem]
 |cons x r ih=>
  simp only[mem]
  by_cases h:x=k
  ·subst h;simp
  ·have:Nat.beq x k=false:=beq_false.2 h
   simp[this,ih,Ne.symm h]
theorem r6(l:List Nat):ru l=true→l.Nodup:=by
 induction l with
 |nil=>simp
 |cons x r ih=>
  intro h
  simp only[ru]at h
  split at h
  ·cases h
  ·rename_i hm
   refine List.nodup_cons.2 ⟨fun hx=>?_,ih h⟩
   rw[←mem_iff]at hx;rw[hx]at hm;cases hm
theorem uu(r:Rel B0 bx W0 aI Z N ok φ s a w){ks:List Nat}(hk:∀j∈ks,(∃cs,lk s.hp j=some (.box cs))∧∃g,φ j = .pointer (some ⟨g,0,none⟩))(hn:ks.Nodup):(ks.map (iH φ)).Nodup:=by
 induction ks with
 |nil=>simp
 |cons k ks ih=>
  obtain⟨h1,h2⟩:=List.nodup_cons.1 hn
  refine List.nodup_cons.2 ⟨fun hm=>?_,ih (fun j hj=>hk j (by simp[hj])) h2⟩
  obtain⟨j,hj,he⟩:=List.mem_map.1 hm
  obtain⟨⟨cs,hc⟩,g,hg⟩:=hk k (by simp)
  obtain⟨⟨eN,l9⟩,g',oT⟩:=hk j (by simp[hj])
  have e1:iH φ k=g:=by simp[iH,hg]
  have e2:iH φ j=g':=by simp[iH,oT]
  rw[e1,e2]at he
  subst he
  exact r.inj k j _ _ g' (by rintro rfl;exact h1 hj) hc l9 rfl rfl (by rw[hg];rfl) (by rw[oT];rfl)
theorem Rel.called(r:Rel B0 bx W0 aI Z N ok φ s a w){w':World}{ok':Nat→Prop}{ks:List Nat}{fin:List (List D)}{s':St}(hk:∀j∈ks,(∃cs,lk s.hp j=some (.box cs))∧∃g,φ j = .pointer (some ⟨g,0,none⟩))(Q_:ks.Nodup)
  (h1:∀b,ok b→ok' b) (h2:∀b,ok' b→ok b∨w.heap.size≤b) (h3:∀b,ok' b→b<w'.heap.size) (hu:mB (ks.map (iH φ)) w.heap.size w w') (hf:TZ ok' w' (ks.map (iH φ)) fin) (hs:dw s ks fin=some s'):
  Rel B0 bx W0 aI Z N ok' φ s' a w'∧(∀k,lk s.hp k=none→lk s'.hp k=none)∧(∀k b g,lk s'.hp k=some b→b.aM=true→aq (φ k)=some g→g<w.heap.size):=by
 have hsb:∀(ks:List Nat) (fin:List (List D)) (s s':St),dw s ks fin=some s'→ks.Nodup→s'={s with hp:=s'.hp}∧ks.length=fin.length∧
   (∀j,j∉ks→lk s'.hp j=lk s.hp j)∧∀(i j:Nat) (cs:List D),ks[i]? = some j→fin[i]? = some cs→lk s'.hp j=some (.box (vd cs)):=by
  intro ks
  induction ks with
  |nil=>
   intro fin s s' h _
   cases fin with
   |nil=>simp[dw]at h;subst h;exact⟨rfl,rfl,fun _ _=>rfl,fun i j cs h=>by simp at h⟩
   |cons c r=>simp[dw]at h
  |cons k ks ih=>
   intro fin s s' h hn
   cases fin with
   |nil=>simp[dw]at h
   |cons c fin=>
    simp only[dw]at h
    obtain⟨Ra,NN⟩:=List.nodup_cons.1 hn
    obtain⟨e1,e2,e3,e4⟩:=ih fin _ s' h NN
    refine⟨by rw[e1];rfl,by simp[e2],fun j hj=>?_,fun i j cs hi hc=>?_⟩
    ·have tp:j≠k∧j∉ks:=by simpa using hj
     rw[e3 j tp.2];simp only[St.bp];rw[aJ,if_neg (Ne.symm tp.1)]
    ·cases i with
     |zero=>
      simp at hi hc;subst hi;subst hc
      rw[e3 k Ra];simp only[St.bp];rw[aJ,if_pos rfl]
     |succ i=>exact e4 i j cs (by simpa using hi) (by simpa using hc)
 obtain⟨e1,e2,e3,e4⟩:=hsb ks fin s s' hs Q_
 have aje:∀b,ok b→b∉ks.map (iH φ):=by
  intro b hb hm
  obtain⟨j,hj,rfl⟩:=List.mem_map.1 hm
  obtain⟨⟨cs,hc⟩,g,hg⟩:=hk j hj
  have:iH φ j=g:=by simp[iH,hg]
  rw[this]at hb
  exact(r.act j _ g hc rfl (by rw[hg];rfl)).1 hb
 have hw:∀b,ok b→w'.heap[b]? = w.heap[b]?:=fun b hb=>hu.block b (r.fH b hb) (aje b hb)
 have FY:∀j∈ks,∃cs,lk s'.hp j=some (.box (vd cs))∧uq ok' w' (iH φ j) cs:=by
  intro j hj
  obtain⟨i,hi⟩:=List.getElem?_of_mem hj
  have hlt:i<fin.length:=by rw[←e2];exact(List.getElem?_eq_some_iff.1 hi).1
  refine⟨fin[i],e4 i j _ hi (List.getElem?_eq_getElem hlt),hf.2 i _ _ ?_ (List.getElem?_eq_getElem hlt)⟩
  rw[List.getElem?_map,hi];rfl
 have h4:∀j,cI s.hp s'.hp j:=by
  intro j
  by_cases hj:j∈ks
  ·obtain⟨⟨cs,hc⟩,_⟩:=hk j hj
   obtain⟨eN,l9,_⟩:=FY j hj
   unfold cI;rw[hc];exact⟨_,l9⟩
  ·unfold cI;rw[e3 j hj];exact cI.refl _ j
 have hlt:∀k b g,lk s'.hp k=some b→b.aM=true→aq (φ k)=some g→g<w.heap.size:=by
  intro k b g hb ha hg
  by_cases hj:k∈ks
  ·obtain⟨⟨cs,hc⟩,_⟩:=hk k hj
   exact(r.hp k _ hc).cy rfl hg
  ·rw[e3 k hj]at hb;exact(r.hp k b hb).cy ha hg
 have T0:∀k b,lk s'.hp k=some b→b.aM=true→∃b0,lk s.hp k=some b0∧b0.aM=true:=by
  intro k b hb ha
  by_cases hj:k∈ks
  ·obtain⟨⟨cs,hc⟩,_⟩:=hk k hj;exact⟨_,hc,rfl⟩
  ·rw[e3 k hj]at hb;exact⟨b,hb,ha⟩
 refine⟨?_,fun k hn=>?_,hlt⟩
 ·rw[e1]
  refine r.step (fun _=>False) (fun _ h=>h.elim) h1 hw (fun _ _ _=>rfl) (fun j _=>h4 j) (fun j b hb=>?_) (fun j b g hb ha hg=>?_) (fun j j' b1 b2 g bT hb1 du gp jJ fe gn=>?_) r.one h3 (fun b hb=>?_) ?_
  ·by_cases hj:j∈ks
   ·obtain⟨cs,hc,arr,T,hh,hsz,cK⟩:=FY j hj
    obtain⟨_,g,hg⟩:=hk j hj
    have Og:iH φ j=g:=by simp[iH,hg]
    rw[hc]at hb
    simp only[Option.some.injEq]at hb;subst hb
    refine⟨g,arr,T,hg,by rw[←Og];exact hh,by rw[iM];exact hsz,fun i c x D1 hx=>?_⟩
    rw[oQ]at D1
    cases hO:cs[i]? with
    |none=>rw[hO]at D1;cases D1
    |some d=>rw[hO]at D1;simp at D1;subst D1;exact .d (cK i d x hO hx)
   ·rw[e3 j hj]at hb
    refine(r.hp j b hb).keep (fun _=>False) (fun _ _ h=>h.elim) h1 hw (fun _ _ _=>rfl) (fun j _=>h4 j) (fun ha g hg=>hu.block g ((r.hp j b hb).cy ha hg) (fun hm=>?_))
    obtain⟨j',tp,he⟩:=List.mem_map.1 hm
    obtain⟨⟨cs,hc⟩,g',oT⟩:=hk j' tp
    have Og:iH φ j'=g':=by simp[iH,oT]
    rw[Og]at he;subst he
    exact r.inj j j' b _ g' (by rintro rfl;exact hj tp) hb hc ha rfl hg (by rw[oT];rfl)
  ·obtain⟨b0,jR,ha0⟩:=T0 j b hb ha
   have qb:=r.act j b0 g jR ha0 hg
   refine⟨fun ho=>?_,qb.2⟩
   rcases h2 g ho with ho|ho
   ·exact qb.1 ho
   ·have:=hlt j b g hb ha hg;omega
  ·obtain⟨b3,hb3,ha3⟩:=T0 j b1 hb1 gp
   obtain⟨b4,hb4,ha4⟩:=T0 j' b2 du jJ
   exact r.inj j j' b3 b4 g bT hb3 hb4 ha3 ha4 fe gn
  ·rcases h2 b hb with hb|hb
   ·exact r.kT b hb
   ·exact .inr (Nat.le_trans r.b0 hb)
  ·refine⟨hu.os,hu.tape,hu.output,hu.size,fun k hk0 tt=>hu.block k (Nat.lt_of_lt_of_le hk0 r.b0) (fun hm=>?_)⟩
   obtain⟨j,hj,rfl⟩:=List.mem_map.1 hm
   obtain⟨⟨cs,hc⟩,g,hg⟩:=hk j hj
   have Og:iH φ j=g:=by simp[iH,hg]
   rw[Og]at hk0 tt
   rcases(r.act j _ g hc rfl (by rw[hg];rfl)).2 with h|h
   ·omega
   ·exact tt h
 ·by_cases hj:k∈ks
  ·obtain⟨⟨cs,hc⟩,_⟩:=hk k hj
   rw[hn]at hc;cases hc
  ·rw[e3 k hj];exact hn
end Go.Dm
namespace Go.Dm
variable {P:Program} {E:Env} {C:aj}
variable {B0:Nat} {bx:List Nat} {W0:World} {aI:Nat→Prop} {Z:Zr} {N:Nat}
variable {ok:Nat→Prop} {φ:Nat→Value} {s:St} {a:Act} {w:World}
theorem Rel.FZ{tq:List Nat}(zx:∀g∈bx,g∈tq)(r:Rel B0 bx W0 aI Z N ok φ s a w){key n:Nat}(hk:lk s.hp key=none){cs:List D}(hn:¬ok n)(hB:B0≤n∨n∈tq)(bT:∀k b,lk s.hp k=some b→b.aM=true→aq (φ k)≠some n)(z':uq ok w n cs)
  (oP:∀(i g:Nat),tq[i]? = some g→aO φ key (.pointer (some ⟨n,0,none⟩)) (100000+i) = .pointer (some ⟨g,0,none⟩)∧∃eN,lk (pt s.hp key (.box (vd cs))) (100000+i)=some (.box eN)):
  Rel B0 tq W0 aI Z N ok (aO φ key (.pointer (some ⟨n,0,none⟩))) (s.bp key (.box (vd cs))) a w∧
  (∀c v,VR ok φ s.hp w c v→VR ok (aO φ key (.pointer (some ⟨n,0,none⟩))) (pt s.hp key (.box (vd cs))) w c v):=by
 have h3:∀k,¬False→lk s.hp k≠none→aO φ key (.pointer (some ⟨n,0,none⟩)) k=φ k:=fun k _ hn=>by simp only[aO];rw[if_neg (by rintro rfl;exact hn hk)]
 have h4:∀k,¬False→cI s.hp (pt s.hp key (.box (vd cs))) k:=fun k _=>by
  unfold cI
  rw[aJ]
  by_cases h:key=k
  ·subst h;rw[hk];trivial
  ·rw[if_neg h];exact cI.refl s.hp k
 refine⟨r.FL zx (fun _=>False) (fun _ h=>h.elim) (fun _ h=>h) (fun _ _=>rfl) h3 h4 (fun k b' hb=>?_) (fun k b' g hb ha hg=>?_) (fun k k' b1 b2 g nE hb1 du gp jJ fe gn=>?_) (fun k=>?_) r.fH r.kT (mB.refl _ _ _) oP,
  fun c v h=>h.mono (fun _ h=>h) (fun _ _=>rfl) (fun k _ hn=>h3 k id hn) (fun k _=>h4 k id)⟩
 ·rw[aJ]at hb
  by_cases h:key=k
  ·subst h
   rw[if_pos rfl]at hb
   simp only[Option.some.injEq]at hb;subst hb
   simp only[aO,if_true]
   obtain⟨arr,T,hh,hs,cK⟩:=z'
   refine⟨n,arr,T,rfl,hh,by rw[iM];exact hs,fun i c x D1 hx=>?_⟩
   rw[oQ]at D1
   cases hO:cs[i]? with
   |none=>rw[hO]at D1;cases D1
   |some d=>rw[hO]at D1;simp at D1;subst D1;exact .d (cK i d x hO hx)
  ·rw[if_neg h]at hb
   have:aO φ key (.pointer (some ⟨n,0,none⟩)) k=φ k:=by simp[aO,Ne.symm h]
   rw[this]
   exact(r.hp k b' hb).keep (fun _=>False) (fun _ _ h=>h.elim) (fun _ h=>h) (fun _ _=>rfl) h3 h4 (fun _ _ _=>rfl)
 ·rw[aJ]at hb
  by_cases h:key=k
  ·subst h
   simp only[aO,if_true,aq,Option.some.injEq]at hg
   subst hg
   exact⟨hn,hB⟩
  ·rw[if_neg h]at hb
   simp only[aO,if_neg (Ne.symm h)]at hg
   obtain⟨e1,e2⟩:=r.act k b' g hb ha hg
   exact⟨e1,e2.imp id (zx g)⟩
 ·rw[aJ]at hb1 du
  by_cases h:key=k
  ·subst h
   rw[if_neg nE]at du
   simp only[aO,if_true,aq,Option.some.injEq]at fe
   simp only[aO,if_neg (Ne.symm nE)]at gn
   subst fe
   exact bT k' b2 du jJ gn
  ·rw[if_neg h]at hb1
   simp only[aO,if_neg (Ne.symm h)]at fe
   by_cases h':key=k'
   ·subst h'
    simp only[aO,if_true,aq,Option.some.injEq]at gn
    subst gn
    exact bT k b1 hb1 gp fe
   ·rw[if_neg h']at du
    simp only[aO,if_neg (Ne.symm h')]at gn
    exact r.inj k k' b1 b2 g nE hb1 du gp jJ fe gn
 ·simp only[aO];split
  ·rfl
  ·exact r.one k
theorem Rel.XF(r:Rel B0 bx W0 aI Z N ok φ s a w){key n:Nat}(hk:lk s.hp key=none){cs:List D}(hn:¬ok n)(hB:B0≤n∨n∈bx)(bT:∀k b,lk s.hp k=some b→b.aM=true→aq (φ k)≠some n)(z':uq ok w n cs):
  Rel B0 bx W0 aI Z N ok (aO φ key (.pointer (some ⟨n,0,none⟩))) (s.bp key (.box (vd cs))) a w∧
  (∀c v,VR ok φ s.hp w c v→VR ok (aO φ key (.pointer (some ⟨n,0,none⟩))) (pt s.hp key (.box (vd cs))) w c v):=
 r.FZ (fun _ h=>h) hk hn hB bT z' fun i g h=>by
  obtain⟨e1,eN,e2⟩:=r.oP i g h
  have bT:key≠100000+i:=by rintro rfl;rw[hk]at e2;cases e2
  exact⟨by simp only[aO];rw[if_neg (Ne.symm bT)];exact e1,eN,by rw[aJ,if_neg bT];exact e2⟩
theorem Rel.F0(r:Rel B0 bx W0 aI Z N ok φ s a w){key:Nat}(hk:lk s.hp key=none){e sz:Nat}{es:List (List D)}{v:Value}(hl:ym ok w v e sz es)
  (hb:∀g,aq v=some g→B0≤g∧¬ok g∧∀k c,lk s.hp k=some c→c.aM=true→aq (φ k)≠some g):
  Rel B0 bx W0 aI Z N ok (aO φ key v) (s.bp key (.bu e sz es)) a w∧(∀c u,VR ok φ s.hp w c u→VR ok (aO φ key v) (pt s.hp key (.bu e sz es)) w c u):=by
 have h3:∀k,¬False→lk s.hp k≠none→aO φ key v k=φ k:=fun k _ hn=>by simp only[aO];rw[if_neg (by rintro rfl;exact hn hk)]
 have h4:∀k,¬False→cI s.hp (pt s.hp key (.bu e sz es)) k:=fun k _=>by
  unfold cI
  rw[aJ]
  by_cases h:key=k
  ·subst h;rw[hk];trivial
  ·rw[if_neg h];exact cI.refl s.hp k
 obtain⟨ct,bC,xs,cx,cK⟩:=hl
 have Cs:v.oneCell'=true:=by
  rcases cx.2 with⟨rfl,_⟩|⟨g,cap,cur,rfl,_⟩<;>rfl
 refine⟨r.step (fun _=>False) (fun _ h=>h.elim) (fun _ h=>h) (fun _ _=>rfl) h3 h4 (fun k b' cJ=>?_) (fun k b' g cJ ha hg=>?_) (fun k k' b1 b2 g nE hb1 du gp jJ fe gn=>?_) (fun k=>?_) r.fH r.kT (mB.refl _ _ _),
  fun c v h=>h.mono (fun _ h=>h) (fun _ _=>rfl) (fun k _ hn=>h3 k id hn) (fun k _=>h4 k id)⟩
 ·rw[aJ]at cJ
  by_cases h:key=k
  ·subst h
   rw[if_pos rfl]at cJ
   simp only[Option.some.injEq]at cJ;subst cJ
   simp only[aO,if_true]
   refine⟨ct,bC,xs,⟨cx.1,?_⟩,cK⟩
   rcases cx.2 with wK|⟨g,cap,cur,rfl,_,rest⟩
   ·exact .inl wK
   ·exact .inr ⟨g,cap,cur,rfl,(hb g rfl).1,rest⟩
  ·rw[if_neg h]at cJ
   have:aO φ key v k=φ k:=by simp[aO,Ne.symm h]
   rw[this]
   exact(r.hp k b' cJ).keep (fun _=>False) (fun _ _ h=>h.elim) (fun _ h=>h) (fun _ _=>rfl) h3 h4 (fun _ _ _=>rfl)
 ·rw[aJ]at cJ
  by_cases h:key=k
  ·subst h
   simp only[aO,if_true]at hg
   exact⟨(hb g hg).2.1,.inl (hb g hg).1⟩
  ·rw[if_neg h]at cJ
   simp only[aO,if_neg (Ne.symm h)]at hg
   exact r.act k b' g cJ ha hg
 ·rw[aJ]at hb1 du
  by_cases h:key=k
  ·subst h
   rw[if_neg nE]at du
   simp only[aO,if_true]at fe
   simp only[aO,if_neg (Ne.symm nE)]at gn
   exact(hb g fe).2.2 k' b2 du jJ gn
  ·rw[if_neg h]at hb1
   simp only[aO,if_neg (Ne.symm h)]at fe
   by_cases h':key=k'
   ·subst h'
    simp only[aO,if_true]at gn
    exact(hb g gn).2.2 k b1 hb1 gp fe
   ·rw[if_neg h']at du
    simp only[aO,if_neg (Ne.symm h')]at gn
    exact r.inj k k' b1 b2 g nE hb1 du gp jJ fe gn
 ·simp only[aO];split
  ·exact Cs
  ·exact r.one k
theorem uv(r:Rel B0 bx W0 aI Z N ok φ s a w){key:Nat}{x:R}{v:V}{s':St}(h:Fy s key x=some (v,s')){bs:List Nat}{rs:List R}{y:Value}{vs:List Value}(hA:gr ok w bs (x::rs) (y::vs))(hn:bs.Nodup)
  (hb:∀b∈bs,B0≤b∧¬ok b∧∀k c,lk s.hp k=some c→c.aM=true→aq (φ k)≠some b):
  ∃φ' bs',Rel B0 bx W0 aI Z N ok φ' s' a w∧VR ok φ' s'.hp w v y∧gr ok w bs' rs vs∧bs'.Nodup∧(∀b∈bs',B0≤b∧¬ok b∧∀k c,lk s'.hp k=some c→c.aM=true→aq (φ' k)≠some b)∧
   (∀c v,VR ok φ s.hp w c v→VR ok φ' s'.hp w c v)∧(∀b∈bs',b∈bs)∧(∀k b' g,lk s'.hp k=some b'→b'.aM=true→aq (φ' k)=some g→(∃b,lk s.hp k=some b∧b.aM=true∧aq (φ k)=some g)∨g∈bs):=by
 cases hA with
 |d cK hr=>
  simp[Fy]at h;obtain⟨rfl,rfl⟩:=h
  exact⟨φ,bs,r,.d cK,hr,hn,hb,fun _ _ h=>h,fun _ h=>h,fun k b' g h1 h2 h3=>.inl ⟨b',h1,h2,h3⟩⟩
 | @agg _ _ _ cs xs hs cK hr=>
   simp[Fy]at h;obtain⟨rfl,rfl⟩:=h
   refine⟨φ,bs,r,.agg (by rw[iM];exact hs) (fun i c x hc hx=>?_),hr,hn,hb,fun _ _ h=>h,fun _ h=>h,fun k b' g h1 h2 h3=>.inl ⟨b',h1,h2,h3⟩⟩
   rw[oQ]at hc
   cases hO:cs[i]? with
   |none=>rw[hO]at hc;cases hc
   |some d=>rw[hO]at hc;simp at hc;subst hc;exact .d (cK i d x hO hx)
 |ptr cK hr=>
  simp[Fy]at h;obtain⟨rfl,rfl⟩:=h
  exact⟨φ,bs,r,cK.bare (fun _ h=>h) (fun _ _=>rfl),hr,hn,hb,fun _ _ h=>h,fun _ h=>h,fun k b' g h1 h2 h3=>.inl ⟨b',h1,h2,h3⟩⟩
 |fn cK hr=>
  simp[Fy]at h;obtain⟨rfl,rfl⟩:=h
  exact⟨φ,bs,r,cK.bare (fun _ h=>h) (fun _ _=>rfl),hr,hn,hb,fun _ _ h=>h,fun _ h=>h,fun k b' g h1 h2 h3=>.inl ⟨b',h1,h2,h3⟩⟩
 | @box bs0 _ _ cs n z' hr=>
   simp only[Fy]at h
   split at h
   rotate_left
   ·cases h
   rename_i hk
   simp only[Option.some.injEq,Prod.mk.injEq]at h
   obtain⟨rfl,rfl⟩:=h
   obtain⟨Ra,NN⟩:=List.nodup_cons.1 hn
   obtain⟨h1,h2,h3⟩:=hb n (by simp)
   obtain⟨r',hm⟩:=r.XF hk h2 (.inl h1) h3 z'
   refine⟨_,bs0,r',.ref (cs:=vd cs) (by simp[St.bp,aJ]) (by simp[aO]),hr,NN,fun b cJ=>?_,hm,fun b hb=>by simp[hb],fun k b' g h1 h2 h3=>?_⟩
   rotate_left
   ·simp only[St.bp]at h1
    rw[aJ]at h1
    by_cases e:key=k
    ·subst e
     simp only[aO,if_true,aq,Option.some.injEq]at h3
     exact .inr (by simp[h3])
    ·rw[if_neg e]at h1
     simp only[aO,if_neg (Ne.symm e)]at h3
     exact .inl ⟨b',h1,h2,h3⟩
   obtain⟨h4,h5,h6⟩:=hb b (by simp[cJ])
   refine⟨h4,h5,fun k c hc ha=>?_⟩
   simp only[St.bp]at hc
   rw[aJ]at hc
   by_cases e:key=k
   ·subst e
    simp only[aO,if_true,aq]
    rintro⟨⟩
    exact Ra cJ
   ·rw[if_neg e]at hc
    simp only[aO,if_neg (Ne.symm e)]
    exact h6 k c hc ha
 | @bu bs0 _ _ e sz es _ ajg hr=>
   simp only[Fy]at h
   split at h
   rotate_left
   ·cases h
   rename_i hk
   simp only[Option.some.injEq,Prod.mk.injEq]at h
   obtain⟨rfl,rfl⟩:=h
   obtain⟨Ra,NN,hn3⟩:=List.nodup_append.1 hn
   have hblk:∀g,aq y=some g→g∈TW y:=fun g hg=>by simp[TW,hg]
   have hy:∀g,aq y=some g→B0≤g∧¬ok g∧∀k c,lk s.hp k=some c→c.aM=true→aq (φ k)≠some g:=fun g hg=>hb g (List.mem_append_left _ (hblk g hg))
   obtain⟨r',hm⟩:=r.F0 hk ajg hy
   refine⟨_,bs0,r',.own (sz:=sz) (es:=es) (.inl ⟨e,by simp[St.bp,aJ]⟩) (by simp[aO]),hr,NN,fun b cJ=>?_,hm,fun b hb=>by simp[hb],fun k b' g h1 h2 h3=>?_⟩
   rotate_left
   ·simp only[St.bp]at h1
    rw[aJ]at h1
    by_cases e:key=k
    ·subst e
     simp only[aO,if_true]at h3
     exact .inr (List.mem_append_left _ (hblk g h3))
    ·rw[if_neg e]at h1
     simp only[aO,if_neg (Ne.symm e)]at h3
     exact .inl ⟨b',h1,h2,h3⟩
   obtain⟨h4,h5,h6⟩:=hb b (List.mem_append_right _ cJ)
   refine⟨h4,h5,fun k c hc ha=>?_⟩
   simp only[St.bp]at hc
   rw[aJ]at hc
   by_cases e:key=k
   ·subst e
    simp only[aO,if_true]
    intro hg
    exact hn3 b (hblk b hg) b cJ rfl
   ·rw[if_neg e]at hc
    simp only[aO,if_neg (Ne.symm e)]
    exact h6 k c hc ha
theorem Aa{rs:List R}:∀{φ:Nat→Value} {s:St} {key:Nat} {vs:List V} {s':St} {bs:List Nat} {ys:List Value},Rel B0 bx W0 aI Z N ok φ s a w→xU s key rs=some (vs,s')→gr ok w bs rs ys→bs.Nodup→
  (∀b∈bs,B0≤b∧¬ok b∧∀k c,lk s.hp k=some c→c.aM=true→aq (φ k)≠some b)→
  ∃φ',Rel B0 bx W0 aI Z N ok φ' s' a w∧ys.length=vs.length∧(∀(i:Nat) (c:V) (x:Value),vs[i]? = some c→ys[i]? = some x→VR ok φ' s'.hp w c x)∧(∀c v,VR ok φ s.hp w c v→VR ok φ' s'.hp w c v)∧(∀k b' g,lk s'.hp k=some b'→b'.aM=true→aq (φ' k)=some g→(∃b,lk s.hp k=some b∧b.aM=true∧aq (φ k)=some g)∨g∈bs):=by
 induction rs with
 |nil=>
  intro φ s key vs s' bs ys r h hA hn hb
  simp[xU]at h;obtain⟨rfl,rfl⟩:=h
  cases hA
  exact⟨φ,r,rfl,fun i c x h=>by simp at h,fun _ _ h=>h,fun k b' g h1 h2 h3=>.inl ⟨b',h1,h2,h3⟩⟩
 |cons x rs ih=>
  intro φ s key vs s' bs ys r h hA hn hb
  simp only[xU]at h
  split at h
  ·cases h
  rename_i v s1 hv
  split at h
  ·cases h
  rename_i vs1 s2 oY
  simp only[Option.some.injEq,Prod.mk.injEq]at h
  obtain⟨rfl,rfl⟩:=h
  obtain⟨y,ys,rfl⟩:∃y E8,ys=y::E8:=by cases hA<;>exact⟨_,_,rfl⟩
  obtain⟨φ1,bs1,r1,Cs,hA1,Ra,hb1,hm1,XG,XH⟩:=uv r hv hA hn hb
  obtain⟨φ2,r2,hl,rJ,DW,XI⟩:=ih r1 oY hA1 Ra hb1
  refine⟨φ2,r2,by simp[hl],fun i c x hc hx=>?_,fun c v h=>DW _ _ (hm1 _ _ h),fun k b' g h1 h2 h3=>?_⟩
  rotate_left
  ·rcases XI k b' g h1 h2 h3 with⟨b,e1,e2,e3⟩|h
   ·exact XH k b g e1 e2 e3
   ·exact .inr (XG _ h)
  cases i with
  |zero=>simp at hc hx;subst hc;subst hx;exact DW _ _ Cs
  |succ i=>exact rJ i c x (by simpa using hc) (by simpa using hx)
theorem wM{bs:List Nat}{rs:List R}{vs:List Value}(h:cC ok w bs rs vs):rs.length=vs.length:=by
 induction h with
 |nil=>rfl
 |_=>simp_all
theorem kK(r:Rel B0 bx W0 aI Z N ok φ s a w){key:Nat}{rs:List R}{v:V}{s':St}(h:fr s key rs=some (v,s')){bs:List Nat}{ys:List Value}(hA:gr ok w bs rs ys)(hn:bs.Nodup)
  (hb:∀b∈bs,B0≤b∧¬ok b∧∀k c,lk s.hp k=some c→c.aM=true→aq (φ k)≠some b):
  ∃φ',Rel B0 bx W0 aI Z N ok φ' s' a w∧VR ok φ' s'.hp w v (ko ys)∧(∀k b' g,lk s'.hp k=some b'→b'.aM=true→aq (φ' k)=some g→(∃b,lk s.hp k=some b∧b.aM=true∧aq (φ k)=some g)∨g∈bs):=by
 unfold fr at h
 have hl:=yn hA
 split at h
 ·rename_i x
  obtain⟨y,rfl⟩:∃y,ys=[y]:=by
   match ys,hl with
   |[y],_=>exact⟨y,rfl⟩
  obtain⟨φ1,_,r1,Cs,_,_,_,_,_,cx⟩:=uv r h hA hn hb
  exact⟨φ1,r1,Cs,cx⟩
 ·rename_i bT
  split at h
  ·cases h
  rename_i vs s2 oY
  simp only[Option.some.injEq,Prod.mk.injEq]at h
  obtain⟨rfl,rfl⟩:=h
  obtain⟨φ2,r2,p',rJ,_,cx⟩:=Aa r oY hA hn hb
  refine⟨φ2,r2,?_,cx⟩
  have:ko ys = .tuple ys.toArray:=by
   unfold ko
   split
   ·rename_i y
    match rs,hl with
    |[x],_=>exact(bT x rfl).elim
   ·rfl
  rw[this]
  exact .pq (by simpa using p') (fun i c x hc hx=>rJ i c x hc (by simpa using hx))
def bK(P:Program)(x:Sem Next)(w:World)(post:Value→World→Prop):Prop:=
 match x.run P w with
 | .ok (.value v) w'=>post v w'
 | .ok .skip w'=>post undef w'
 | .ok (.enter f args) w'=>Calls P f args w' (fun e tu=>∃v,e = .returned v∧post v tu)
 |_=>False
theorem bK.wp{o:Oper}{post:Value→World→Prop}(h:bK P (execOp a.eval o) w post){next:Act→World→Prop}{Q:Exit→Act→World→Prop}(hn:∀v' w',post v' w'→next (a.put o.dst v') w'):
  o.wp P a w next Q:=by
 unfold Oper.wp
 unfold bK at h
 generalize (execOp a.eval o).run P w=r at h
 cases r with
 |ok n w'=>
  cases n<;>simp only[Oper.upon]at h ⊢
  ·exact hn _ _ h
  ·exact hn _ _ h
  ·exact h.mono fun e tu ⟨v,he,hp⟩=>by subst he;exact hn _ _ hp
 |halt x w'=>exact h.elim
theorem bK.iZ{x:Sem Value}{post:Value→World→Prop}(h:∃v' w',x.run P w = .ok v' w'∧post v' w'):bK P (do pure (.value (←x))) w post:=by
 obtain⟨v',w',h1,h2⟩:=h
 unfold bK
 simp only[Sem.run_bind,h1,Result.andThen_ok,Sem.run_pure]
 exact h2
theorem bK.wN{x:Sem Unit}{post:Value→World→Prop}(h:∃w',x.run P w = .ok () w'∧post undef w'):bK P (do x;pure .skip) w post:=by
 obtain⟨w',h1,h2⟩:=h
 unfold bK
 simp only[Sem.run_bind,h1,Result.andThen_ok,Sem.run_pure]
 exact h2
theorem nF{f:Nat}(hf:qc P f)(args:Array Value):(callFunc f args).run P w = .ok (.enter f args) w:=by
 obtain⟨fn,h1,h2,h3⟩:=hf
 unfold callFunc
 simp only[Sem.run_bind,run_program,Result.andThen_ok,h1,h2,h3,Bool.false_eq_true,if_false,Sem.run_pure]
theorem en{f:Operand}{args:Array Operand}{pv:Array TypeId}{t:TypeId}{XJ:Nat}{bY:Array Value}(hf:qc P XJ)(hv:a.eval f = .func (.func XJ) #[] bY):
  (do let d←resolve a.eval {callee:=.value f,args:=args,argTypes:=pv} t;invoke d.target d.args:Sem Next).run P w = .ok (.enter XJ (args.map a.eval++bY)) w:=by
 simp only[resolve,Sem.run_bind,hv,Deferred.ofValue,Sem.run_pure,Result.andThen_ok,invoke]
 rw[nF hf]
 simp
theorem F1{c:V}{x:R}{k:Option Nat}{s s':St}(h:toR s c=some (x,k,s')):eO s s'∧∀j,k=some j→∃o,c = .ref j o:=by
 unfold toR at h
 split at h
 ·split at h
  ·cases h
  ·rename_i hd
   simp only[Option.some.injEq,Prod.mk.injEq]at h
   obtain⟨_,rfl,rfl⟩:=h
   exact⟨gP hd,fun j h=>by cases h⟩
 ·split at h
  ·split at h
   ·cases h
   ·rename_i hd
    simp only[Option.some.injEq,Prod.mk.injEq]at h
    obtain⟨_,rfl,rfl⟩:=h
    exact⟨gP hd,fun j h=>by cases h;exact⟨_,rfl⟩⟩
  ·cases h
 ·simp only[Option.some.injEq,Prod.mk.injEq]at h
  obtain⟨_,rfl,rfl⟩:=h
  exact⟨.refl _,fun j h=>by cases h⟩
 ·split at h
  ·simp only[Option.some.injEq,Prod.mk.injEq]at h
   obtain⟨_,rfl,rfl⟩:=h
   exact⟨.refl _,fun j h=>by cases h⟩
  ·cases h
 ·split at h
  ·cases h
  ·rename_i hd
   simp only[Option.some.injEq,Prod.mk.injEq]at h
   obtain⟨_,rfl,rfl⟩:=h
   exact⟨rX hd,fun j h=>by cases h⟩
theorem D2{cs:List V}:∀{s s':St} {xs:List R} {ks:List Nat},oJ s cs=some (xs,ks,s')→eO s s'∧∀j∈ks,j∈gE cs:=by
 induction cs with
 |nil=>intro s s' xs ks h;simp[oJ]at h;obtain⟨_,rfl,rfl⟩:=h;exact⟨.refl _,fun j h=>by cases h⟩
 |cons c cs ih=>
  intro s s' xs ks h
  simp only[oJ]at h
  split at h
  ·cases h
  rename_i x k s1 hx
  split at h
  ·cases h
  rename_i Wn ks1 s2 nB
  simp only[Option.some.injEq,Prod.mk.injEq]at h
  obtain⟨_,rfl,rfl⟩:=h
  obtain⟨h1,h2⟩:=F1 hx
  obtain⟨h3,h4⟩:=ih nB
  refine⟨h1.trans h3,fun j hj=>?_⟩
  have iI:∀j,j∈gE cs→j∈gE (c::cs):=fun j hj=>by cases c<;>simp[gE,hj]
  cases k with
  |none=>exact iI j (h4 j hj)
  |some k=>
   rcases List.mem_cons.1 hj with rfl|hj
   ·obtain⟨o,rfl⟩:=h2 _ rfl;simp[gE]
   ·exact iI j (h4 j hj)
theorem wO{ks:List Nat}:∀{s s':St} {fin:List (List D)},dw s ks fin=some s'→(∀j∈ks,∃b,lk s.hp j=some b∧b.aM=true)→eO s s':=by
 induction ks with
 |nil=>
  intro s s' fin h _
  cases fin with
  |nil=>simp[dw]at h;subst h;exact .refl _
  |cons=>simp[dw]at h
 |cons k ks ih=>
  intro s s' fin h hk
  cases fin with
  |nil=>simp[dw]at h
  |cons c fin=>
   simp only[dw]at h
   have h1:eO s (s.bp k (.box (vd c))):=fun j b hj ha=>by
    simp only[St.bp]at hj
    rw[aJ]at hj
    by_cases e:k=j
    ·subst e;exact hk _ (by simp)
    ·rw[if_neg e]at hj;exact⟨b,hj,ha⟩
   refine h1.trans (ih h fun j hj=>?_)
   simp only[St.bp]
   rw[aJ]
   by_cases e:k=j
   ·rw[if_pos e];exact⟨_,rfl,rfl⟩
   ·rw[if_neg e];exact hk j (by simp[hj])
theorem r7(hC:ah P Z.gl C)(r:Rel B0 bx W0 aI Z N ok φ s a w){key f:Nat}{args:List V}{K:V→St→Prop}(h:rA C s key f args K){vs:List Value}(hl:vs.length=args.length)
  (hv:∀(i:Nat) (c:V) (x:Value),args[i]? = some c→vs[i]? = some x→VR ok φ s.hp w c x):
  qc P f∧Calls P f vs.toArray w (fun e tu=>∃v,e = .returned v∧xO B0 bx W0 aI Z N a (fa (gE args) φ s w) K v tu):=by
 unfold rA at h
 split at h
 ·exact h.elim
 rename_i rs ks s1 F2
 split at h
 ·exact h.elim
 rename_i Q_
 obtain⟨jK,r1,h1,mn,hA,tt⟩:=mI (vs:=vs) r hl hv F2
 have xN:=hC _ _ _ h
 have XK:=r6 ks Q_
 refine⟨xN.fn,(xN.run w jK vs (ks.map (iH φ)) (fun b o h=>r1.kz b o (Z.sub b o h)) r1.fH (fun b hb=>?_) (uu r1 tt XK) hA).mono fun e w' hp=>?_⟩
 ·obtain⟨j,hj,rfl⟩:=List.mem_map.1 hb
  obtain⟨⟨cs,hc⟩,g,hg⟩:=tt j hj
  have Og:iH φ j=g:=by simp[iH,hg]
  rw[Og]
  exact⟨(r1.hp j _ hc).cy rfl (by rw[hg];rfl),(r1.act j _ g hc rfl (by rw[hg];rfl)).1⟩
 ·obtain⟨res,fin,ys,ok',bn,rfl,hQ,ho1,ho2,ho3,hu,Wr,hbn,T1,yp⟩:=hp
  refine⟨_,rfl,?_⟩
  split at hQ
  ·exact hQ.elim
  rename_i s2 DU
  split at hQ
  rotate_left
  ·exact hQ.elim
  rename_i v s3 qd
  obtain⟨r2,_,hlt⟩:=r1.called tt XK ho1 ho2 ho3 hu yp DU
  obtain⟨φ3,r3,hv3,cx⟩:=kK r2 qd Wr hbn (fun b hb=>by
   obtain⟨e1,e2⟩:=T1 b hb
   exact⟨Nat.le_trans r1.b0 e1,e2,fun k c hc ha hg=>by have:=hlt k c b hc ha hg;omega⟩)
  obtain⟨Rb,XM⟩:=D2 F2
  have XN:eO s1 s2:=wO DU (fun j hj=>by obtain⟨⟨cs,hc⟩,_⟩:=tt j hj;exact⟨_,hc,rfl⟩)
  refine⟨v,s3,ok',φ3,hQ,r3,hv3,⟨hu.size,fun g hg hn=>hu.block g hg (fun hm=>?_),fun k b' g h1 h2 h3 hlt=>?_⟩⟩
  ·obtain⟨j,hj,rfl⟩:=List.mem_map.1 hm
   obtain⟨⟨cs,hc⟩,g,oT⟩:=tt j hj
   obtain⟨b0,e1,e2⟩:=Rb j _ hc rfl
   exact hn j b0 (XM j hj) e1 e2 (by simp[iH,oT,aq])
  ·rcases cx k b' g h1 h2 h3 with⟨b,e1,e2,e3⟩|h
   ·obtain⟨b0,e4,e5⟩:=(Rb.trans XN) k b e1 e2
    exact⟨k,b0,e4,e5,e3,.inl rfl⟩
   ·have:=(T1 g h).1;omega
theorem D3{cs:List V}(h:xY.tX cs=true):∀{xs:List D} {s':St},jM s cs=some (xs,s')→s'=s:=by
 induction cs with
 |nil=>intro xs s' hx;simp[jM]at hx;exact hx.2.symm
 |cons c cs ih=>
  intro xs s' hx
  simp only[jM]at hx
  split at hx
  ·cases hx
  rename_i x s1 tv
  split at hx
  ·cases hx
  rename_i Wn s2 nB
  simp only[Option.some.injEq,Prod.mk.injEq]at hx
  obtain⟨_,rfl⟩:=hx
  have:s1=s∧xY.tX cs=true:=by
   cases c<;>simp[xY.tX]at h<;>simp[tV]at tv
   ·exact⟨tv.2.symm,h⟩
   ·exact⟨tv.2.symm,h⟩
  obtain⟨rfl,h2⟩:=this
  exact ih h2 nB
theorem D4{cs:List V}(h:ry cs=true):∀{xs:List R} {ks:List Nat} {s':St},oJ s cs=some (xs,ks,s')→s'=s∧ks=[]:=by
 induction cs with
 |nil=>intro xs ks s' hx;simp[oJ]at hx;obtain⟨_,rfl,rfl⟩:=hx;exact⟨rfl,rfl⟩
 |cons c cs ih=>
  intro xs ks s' hx
  simp only[ry]at h
  split at h
  rotate_left
  ·cases h
  rename_i hc
  simp only[oJ]at hx
  split at hx
  ·cases hx
  rename_i x k s1 tv
  split at hx
  ·cases hx
  rename_i Wn ks1 s2 nB
  simp only[Option.some.injEq,Prod.mk.injEq]at hx
  obtain⟨_,rfl,rfl⟩:=hx
  have:s1=s∧k=none:=by
   cases c<;>simp[xY]at hc<;>simp only[toR,tV]at tv
   ·simp at tv;exact⟨tv.2.2.symm,tv.2.1.symm⟩
   ·simp at tv;exact⟨tv.2.2.symm,tv.2.1.symm⟩
   ·split at tv
    ·cases tv
    ·rename_i hd
     simp only[Option.some.injEq,Prod.mk.injEq]at tv
     obtain⟨_,rfl,rfl⟩:=tv
     exact⟨D3 hc hd,rfl⟩
  obtain⟨rfl,rfl⟩:=this
  exact ih h nB
theorem F3{rs:List R}{bs:List Nat}{vs:List Value}(h:il rs=true)(hA:gr ok w bs rs vs):bs=[]:=by
 induction hA with
 |nil=>rfl
 |d _ _ ih=>exact ih (by simpa[il]using h)
 |agg _ _ _ ih=>exact ih (by simpa[il]using h)
 |ptr _ _ ih=>exact ih (by simpa[il]using h)
 |fn _ _ ih=>exact ih (by simpa[il]using h)
 |box=>simp[il]at h
 |bu=>simp[il]at h
theorem uw{key:Nat}{x:R}{rs:List R}(h:il (x::rs)=true){v:V}{s':St}(hx:Fy s key x=some (v,s')):s'=s∧il rs=true:=by
 cases x<;>simp[il]at h<;>simp[Fy]at hx
 ·exact⟨hx.2.symm,h⟩
 ·exact⟨hx.2.symm,h⟩
 ·exact⟨hx.2.symm,h⟩
 ·exact⟨hx.2.symm,h⟩
theorem Ab{rs:List R}:∀{key:Nat} {vs:List V} {s':St},il rs=true→xU s key rs=some (vs,s')→s'=s:=by
 induction rs with
 |nil=>intro key vs s' h hx;simp[xU]at hx;exact hx.2.symm
 |cons x rs ih=>
  intro key vs s' h hx
  simp only[xU]at hx
  split at hx
  ·cases hx
  rename_i v s1 hv
  split at hx
  ·cases hx
  rename_i vs1 s2 oY
  simp only[Option.some.injEq,Prod.mk.injEq]at hx
  obtain⟨_,rfl⟩:=hx
  obtain⟨rfl,h2⟩:=uw h hv
  exact ih h2 oY
theorem qe{rs:List R}{key:Nat}{v:V}{s':St}(h:il rs=true)(hx:fr s key rs=some (v,s')):s'=s:=by
 unfold fr at hx
 split at hx
 ·exact(uw h hx).1
 ·split at hx
  ·cases hx
  ·rename_i oY
   simp only[Option.some.injEq,Prod.mk.injEq]at hx
   obtain⟨_,rfl⟩:=hx
   exact Ab h oY
theorem qf(hC:ah P Z.gl C)(r:Rel B0 bx W0 aI Z N ok φ s a w){f:Nat}{args:List V}{K:V→Prop}(h:oK C s f args K):
  qc P f∧(∃v,K v)∧∀(vs:List Value),vs.length=args.length→(∀(i:Nat) (c:V) (x:Value),args[i]? = some c→vs[i]? = some x→VR ok φ s.hp w c x)→
   Calls P f vs.toArray w (fun e tu=>∃v',e = .returned v'∧∃v ok' φ',K v∧Rel B0 bx W0 aI Z N ok' φ' s a tu∧VR ok' φ' s.hp tu v v'∧fa [] φ s w φ' s tu):=by
 unfold oK at h
 split at h
 ·exact h.elim
 rename_i XO
 split at h
 ·exact h.elim
 rename_i rs ks s1 F2
 obtain⟨rfl,rfl⟩:=D4 XO F2
 have xN:=hC _ _ _ h
 have hq:∀res fin,(match(fin:List (List D)),il res with|[],true=>(match fr s1 0 res with|some (v,_)=>K v|none=>False)|_,_=>False)→fin=[]∧il res=true∧∃v s',fr s1 0 res=some (v,s')∧K v:=by
  intro res fin hQ
  split at hQ
  ·rename_i hnb
   split at hQ
   ·rename_i v s' hr;exact⟨rfl,hnb,v,s',hr,hQ⟩
   ·exact hQ.elim
  ·exact hQ.elim
 refine⟨xN.fn,?_,fun vs hl hv=>?_⟩
 ·obtain⟨res,fin,hQ⟩:=xN.ex
  obtain⟨_,_,v,_,_,hK⟩:=hq res fin hQ
  exact⟨v,hK⟩
 ·obtain⟨jK,r1,h1,mn,hA,tt⟩:=mI (vs:=vs) r hl hv F2
  refine(xN.run w jK vs [] (fun b o h=>r1.kz b o (Z.sub b o h)) r1.fH (by simp) (by simp) hA).mono fun e w' hp=>?_
  obtain⟨res,fin,ys,ok',bn,rfl,hQ,ho1,ho2,ho3,hu,Wr,hbn,T1,yp⟩:=hp
  obtain⟨rfl,hnb,v,s',qd,hK⟩:=hq res fin hQ
  obtain⟨r2,_,hlt⟩:=r1.called (ks:=[]) (fin:=[]) (by simp) (by simp) ho1 ho2 ho3 (by simpa using hu) (by simpa using yp) rfl
  have jR:=F3 hnb Wr
  subst jR
  have hs':=qe hnb qd
  subst hs'
  obtain⟨φ3,r3,hv3,cx⟩:=kK r2 qd Wr hbn (by simp)
  refine⟨_,rfl,v,ok',φ3,hK,r3,hv3,⟨hu.size,fun g hg hn=>hu.block g hg (by simp),fun k b' g h1 h2 h3 hlt=>?_⟩⟩
  rcases cx k b' g h1 h2 h3 with⟨b,e1,e2,e3⟩|h
  ·exact⟨k,b,e1,e2,e3,.inl rfl⟩
  ·cases h
def jU(ok:Nat→Prop)(φ:Nat→Value)(s:St)(b:Nat):Prop:=ok b∨∃k b',lk s.hp k=some b'∧b'.aM=true∧aq (φ k)=some b
theorem kY(r:Rel B0 bx W0 aI Z N ok φ s a w){c:V}{v:Value}(hv:VR ok φ s.hp w c v){x:D}(h:kH s c=some x):Rd (jU ok φ s) w v x:=by
 cases hv with
 |d cK=>simp[kH]at h;subst h;exact cK.mono (fun b hb=>.inl hb) (fun _ _=>rfl)
 |nil=>simp[kH]at h;subst h;exact .nil
 | @own k g_ DQ v jR hφ=>
   subst hφ
   simp only[kH]at h
   split at h
   ·rename_i e sz es hb
    simp only[Option.some.injEq]at h;subst h
    exact(r.FN hb).mono (fun b cJ=>cJ.imp id (fun h=>⟨k,_,hb,rfl,h⟩)) (fun _ _=>rfl)
   ·rename_i sz es hb
    simp only[Option.some.injEq]at h;subst h
    obtain⟨_,_,cK,_⟩:=r.hp k _ hb
    exact cK.mono (fun b hb=>.inl hb) (fun _ _=>rfl)
   ·cases h
 | @vw k lo n g m cap iE off g_ DQ jR hφ hle dy gZ=>
   simp only[kH]at h
   split at h
   ·rename_i e sz es hb
    simp only[Option.some.injEq]at h;subst h
    have hs:g_=sz:=by
       rcases jR with⟨e',h1⟩|h1
       ·rw[hb]at h1;simp only[Option.some.injEq,B.bu.injEq]at h1;exact h1.2.1.symm
       ·rw[hb]at h1;cases h1
    subst hs
    exact wB ((r.FN hb).mono (fun b cJ=>cJ.imp id (fun h=>⟨k,_,hb,rfl,h⟩)) (fun _ _=>rfl)) hφ (r.hp k _ hb).2.1 hle dy gZ
   ·rename_i sz es hb
    simp only[Option.some.injEq]at h;subst h
    obtain⟨_,bC,cK,_⟩:=r.hp k _ hb
    have hs:g_=sz:=by
       rcases jR with⟨e',h1⟩|h1
       ·rw[hb]at h1;cases h1
       ·rw[hb]at h1;simp only[Option.some.injEq,B.j9.injEq]at h1;exact h1.1.symm
    subst hs
    exact wB (cK.mono (fun b hb=>.inl hb) (fun _ _=>rfl)) hφ bC hle dy gZ
   ·cases h
 |_=>simp[kH]at h
theorem nG(r:Rel B0 bx W0 aI Z N ok φ s a w):∀{cs:List V} {vs:List Value} {ds:List D},(∀(i:Nat) (c:V) (x:Value),cs[i]? = some c→vs[i]? = some x→VR ok φ s.hp w c x)→oL s cs=some ds→
  ds.length=cs.length∧∀(i:Nat) (x:D) (v:Value),ds[i]? = some x→vs[i]? = some v→Rd (jU ok φ s) w v x:=by
 intro cs
 induction cs with
 |nil=>intro vs ds _ h;simp[oL]at h;subst h;exact⟨rfl,fun i x v h=>by simp at h⟩
 |cons c cs ih=>
  intro vs ds hv h
  simp only[oL]at h
  split at h
  ·cases h
  rename_i x hx
  split at h
  ·cases h
  rename_i xs nB
  simp only[Option.some.injEq]at h;subst h
  obtain⟨h1,h2⟩:=ih (vs:=vs.drop 1) (fun i c x hc hx=>hv (i+1) c x (by simpa using hc) (by rw[List.getElem?_drop]at hx;rw[Nat.add_comm];exact hx)) nB
  refine⟨by simp[h1],fun i y v hy hvi=>?_⟩
  cases i with
  |zero=>simp at hy;subst hy;exact kY r (hv 0 c v rfl hvi) hx
  |succ i=>exact h2 i y v (by simpa using hy) (by rw[List.getElem?_drop,Nat.add_comm];exact hvi)
theorem kZ(r:Rel B0 bx W0 aI Z N ok φ s a w){k off g:Nat}(hφ:φ k = .pointer (some ⟨g,0,none⟩)){ds:List D}(h:xZ s k off=some ds):VR (jU ok φ s) (fun _=>.int .i64 0) [] w (.bW ds) (.pointer (some ⟨g,off,none⟩)):=by
 unfold xZ at h
 split at h
 rotate_left
 ·cases h
 rename_i cs hb
 split at h
 rotate_left
 ·cases h
 rename_i ds0 hds
 simp only[Option.some.injEq]at h
 subst h
 rw[rL]
 obtain⟨g',arr,T,hp,hh,hs,hr⟩:=r.hp k _ hb
 rw[hφ]at hp;simp at hp;subst hp
 obtain⟨h1,h2⟩:=nG r (vs:=arr.toList) (fun i c x hc hx=>hr i c x hc (by simpa using hx)) hds
 refine .bW (fun j=>arr.getD (off+j) undef) (fun _=>.inr ⟨k,_,hb,rfl,by rw[hφ];rfl⟩) (fun j hj=>?_) (fun j hj=>?_)
 ·have hlt:off+j<arr.size:=by simp at hj;omega
  simp[World.cell?,hh,hlt]
 ·have hlt:off+j<arr.size:=by simp at hj;omega
  have FQ:off+j<ds0.length:=by simp at hj;omega
  rw[List.getD_eq_getElem?_getD,List.getElem?_drop,List.getElem?_eq_getElem FQ,Array.getD_eq_getD_getElem?,Array.getElem?_eq_getElem hlt]
  exact h2 (off+j) _ _ (List.getElem?_eq_getElem FQ) (by simp[hlt])
theorem tK(r:Rel B0 bx W0 aI Z N ok φ s a w):∀{cs:List V} {vs:List Value} {l:List Cp},(∀(i:Nat) (c:V) (x:Value),cs[i]? = some c→vs[i]? = some x→VR ok φ s.hp w c x)→fN s cs=some l→
  (kV l).length=cs.length∧∀(i:Nat) (c:V) (x:Value),(kV l)[i]? = some c→vs[i]? = some x→VR (jU ok φ s) (fun _=>.int .i64 0) [] w c x:=by
 intro cs
 induction cs with
 |nil=>intro vs l _ h;simp[fN]at h;subst h;exact⟨rfl,fun i c x h=>by simp[kV]at h⟩
 |cons c cs ih=>
  intro vs l hv h
  have fin:∀(y:Cp) (l':List Cp) (u:V),fN s cs=some l'→l=y::l'→kV (y::l')=u::kV l'→(∀v,vs[0]? = some v→VR (jU ok φ s) (fun _=>.int .i64 0) [] w u v)→
    (kV l).length=(c::cs).length∧∀(i:Nat) (c:V) (x:Value),(kV l)[i]? = some c→vs[i]? = some x→VR (jU ok φ s) (fun _=>.int .i64 0) [] w c x:=by
   intro y l' u h1 h2 h3 h4
   subst h2
   rw[h3]
   obtain⟨e1,e2⟩:=ih (vs:=vs.drop 1) (fun i c x hc hx=>hv (i+1) c x (by simpa using hc) (by rw[List.getElem?_drop]at hx;rw[Nat.add_comm];exact hx)) h1
   refine⟨by simp[e1],fun i c x hc hx=>?_⟩
   cases i with
   |zero=>simp at hc;subst hc;exact h4 x hx
   |succ i=>exact e2 i c x (by simpa using hc) (by rw[List.getElem?_drop,Nat.add_comm];exact hx)
  have other:(∃x l',kH s c=some x∧fN s cs=some l'∧Cp.d x::l'=l)→(kV l).length=(c::cs).length∧∀(i:Nat) (c:V) (x:Value),(kV l)[i]? = some c→vs[i]? = some x→VR (jU ok φ s) (fun _=>.int .i64 0) [] w c x:=by
   intro⟨x,l',hx,wy,h⟩
   exact fin (.d x) l' (.d x) wy h.symm rfl fun v yq=>.d (kY r (hv 0 _ v rfl yq) hx)
  cases c with
  |ref k off=>
   simp only[fN]at h
   split at h
   ·rename_i ds l' hds wy
    simp only[Option.some.injEq]at h
    refine fin (.ptr ds) l' (.bW ds) wy h.symm rfl fun v yq=>?_
    have:=hv 0 _ v rfl yq
    cases this
    rename_i hb hφ
    exact kZ r hφ hds
   ·cases h
  |bW eN=>
   simp only[fN]at h
   split at h
   ·rename_i l' wy
    simp only[Option.some.injEq]at h
    exact fin (.ptr eN) l' (.bW eN) wy h.symm rfl fun v yq=>((hv 0 _ v rfl yq).rZ (fun k=>rfl)).bare (fun b hb=>.inl hb) (fun _ _=>rfl)
   ·cases h
  |_=>exact other (by
    simp only[fN]at h
    split at h
    ·rename_i x l' hx wy
     exact⟨x,l',hx,wy,by simpa using h⟩
    ·cases h)
theorem yr(r:Rel B0 bx W0 aI Z N ok φ s a w){c:V}{v:Value}(hv:VR ok φ s.hp w c v){x:R}(h:pw s c=some x){bs:List Nat}{rs:List R}{vs:List Value}(hA:cC (jU ok φ s) w bs rs vs):cC (jU ok φ s) w bs (x::rs) (v::vs):=by
 have other:(kH s c).map R.d=some x→cC (jU ok φ s) w bs (x::rs) (v::vs):=by
  intro h
  cases hd:kH s c with
  |none=>rw[hd]at h;cases h
  |some y=>
   rw[hd]at h
   simp only[Option.map_some,Option.some.injEq]at h
   subst h
   exact .d (kY r hv hd) hA
 cases c with
 |agg cs=>
  simp only[pw]at h
  split at h
  ·rename_i ds hds
   simp only[Option.some.injEq]at h;subst h
   cases hv
   rename_i xs hs hr
   obtain⟨h1,h2⟩:=nG r (vs:=xs.toList) (fun i c x hc hx=>hr i c x hc (by simpa using hx)) hds
   exact .agg (by omega) (fun i x v hx hv=>h2 i x v hx (by simpa using hv)) hA
  ·cases h
 |ref k off=>
  simp only[pw]at h
  split at h
  ·rename_i ds hds
   simp only[Option.some.injEq]at h;subst h
   cases hv
   rename_i g DM hb hφ
   exact .ptr (kZ r hφ hds) hA
  ·cases h
 |bW cs=>
  simp only[pw,Option.some.injEq]at h;subst h
  exact .ptr ((hv.rZ (fun k=>rfl)).bare (fun b hb=>.inl hb) (fun _ _=>rfl)) hA
 |rl k n c=>
  simp only[pw]at h
  split at h
  rotate_left
  ·cases h
  rename_i ds hds
  split at h
  rotate_left
  ·cases h
  rename_i es qy
  simp only[Option.some.injEq]at h;subst h
  cases hv
  rename_i g DM hb hφ
  obtain⟨e1,e2,e3,e4⟩:=pH qy
  have hp:=kZ r hφ hds
  cases hp with
  |bW x fQ hc hr=>
   have hlt:∀i j,i<n→j<c→i*c+j<ds.length:=fun i j hi hj=>by
    have:(i+1)*c≤n*c:=Nat.mul_le_mul_right _ hi
    rw[Nat.succ_mul]at this
    omega
   have cK:Rd (jU ok φ s) w (.slice (some ⟨g,0,none⟩) es.length n) (.sl es):=.sl c (fun i j=>x (i*c+j)) (by omega) (fun bT=>by
    cases ajl:ds with
    |nil=>
     exact .inr ⟨k,_,hb,rfl,by rw[hφ];rfl⟩
    |cons d r=>exact fQ (by rw[ajl];simp)) e3 (fun i j hi hj=>by
     have:=hc (i*c+j) (hlt i j (by omega) hj)
     simpa using this) (fun i j hi hj=>by
     rw[e4 i j (by omega) hj]
     exact hr (i*c+j) (hlt i j (by omega) hj))
   rw[e1]at cK
   exact .d cK hA
 |fn f bY=>
  simp only[pw]at h
  split at h
  ·rename_i l hl
   simp only[Option.some.injEq]at h;subst h
   cases hv
   rename_i xs hs hr
   obtain⟨h1,h2⟩:=tK r (vs:=xs.toList) (fun i c x hc hx=>hr i c x hc (by simpa using hx)) hl
   exact .fn (.fn (by omega) (fun i c x hc hx=>h2 i c x hc (by simpa using hx))) hA
  ·cases h
 |_=>exact other (by
   simp only[pw]at h
   split at h
   ·rename_i hd;simp only[hd,Option.map_some];exact h
   ·cases h)
theorem wP(r:Rel B0 bx W0 aI Z N ok φ s a w):∀{cs:List V} {vs:List Value} {rs:List R},vs.length=cs.length→(∀(i:Nat) (c:V) (x:Value),cs[i]? = some c→vs[i]? = some x→VR ok φ s.hp w c x)→rB s cs=some rs→
  cC (jU ok φ s) w [] rs vs:=by
 intro cs
 induction cs with
 |nil=>intro vs rs hl _ h;simp[rB]at h;subst h;cases vs with|nil=>exact .nil|cons=>simp at hl
 |cons c cs ih=>
  intro vs rs hl hv h
  cases vs with
  |nil=>simp at hl
  |cons v vs=>
   simp only[rB]at h
   split at h
   ·cases h
   rename_i x hx
   split at h
   ·cases h
   rename_i xs nB
   simp only[Option.some.injEq]at h;subst h
   exact yr r (hv 0 c v rfl rfl) hx (ih (by simpa using hl) (fun i c x hc hx=>hv (i+1) c x (by simpa using hc) (by simpa using hx)) nB)
theorem wQ{cs:List D}(h:lO cs=true):∀x∈cs,∃v,x = .v v:=by
 induction cs with
 |nil=>intro x hx;cases hx
 |cons c r ih=>
  cases c with
  |v y=>
   intro x hx
   rcases List.mem_cons.1 hx with rfl|hx
   ·exact⟨y,rfl⟩
   ·exact ih (by simpa[lO]using h) x hx
  |sl es=>simp[lO]at h
  |wm=>simp[lO]at h
theorem r8{ok':Nat→Prop}{hp:List (Nat×B)}{w:World}:∀{res:List R} {vs:List V} {bn:List Nat} {ys:List Value},cR res=some vs→gr ok' w bn res ys→
  ys.length=vs.length∧∀(i:Nat) (c:V) (x:Value),vs[i]? = some c→ys[i]? = some x→VR ok φ hp w c x:=by
 intro res
 induction res with
 |nil=>intro vs bn ys h hA;simp[cR]at h;subst h;cases hA;exact⟨rfl,fun i c x h=>by simp at h⟩
 |cons x res ih=>
  intro vs bn ys h hA
  have fin:∀(u:V) (l:List V) (y:Value) (E8:List Value) (bn':List Nat),cR res=some l→vs=u::l→ys=y::E8→gr ok' w bn' res E8→VR ok φ hp w u y→
    ys.length=vs.length∧∀(i:Nat) (c:V) (x:Value),vs[i]? = some c→ys[i]? = some x→VR ok φ hp w c x:=by
   intro u l y E8 bn' h1 h2 h3 h4 h5
   subst h2;subst h3
   obtain⟨e1,e2⟩:=ih h1 h4
   refine⟨by simp[e1],fun i c x hc hx=>?_⟩
   cases i with
   |zero=>simp at hc hx;subst hc;subst hx;exact h5
   |succ i=>exact e2 i c x (by simpa using hc) (by simpa using hx)
  have rdv:∀(v:Value) (x:Value),Rd ok' w v (.v x)→Rd ok w v (.v x):=fun v x h=>by
   cases h;rename_i hp;exact .v hp
  cases x with
  |d x=>
   cases x with
   |v x=>
    simp only[cR]at h
    split at h
    ·rename_i l hl
     simp only[Option.some.injEq]at h
     cases hA
     rename_i Oh v cK hA'
     exact fin _ l v Oh _ hl h.symm rfl hA' (.d (rdv _ _ cK))
    ·cases h
   |sl es=>simp[cR]at h
   |wm=>simp[cR]at h
  |agg cs=>
   simp only[cR]at h
   split at h
   ·rename_i l hp hl
    simp only[Option.some.injEq]at h
    cases hA
    rename_i Oh xs hs cK hA'
    refine fin _ l _ Oh _ hl h.symm rfl hA' (.agg (by rw[iM];exact hs) fun i c x hc hx=>?_)
    rw[oQ]at hc
    cases hO:cs[i]? with
    |none=>rw[hO]at hc;cases hc
    |some d=>
     rw[hO]at hc
     simp at hc;subst hc
     obtain⟨y,rfl⟩:=wQ hp d (List.mem_of_getElem? hO)
     exact .d (rdv _ _ (cK i _ x hO hx))
   ·cases h
  |box cs=>simp[cR]at h
  |ptr cs=>simp[cR]at h
  |fn f bY=>simp[cR]at h
  |bu e sz es=>simp[cR]at h
theorem Rel.later(r:Rel B0 bx W0 aI Z N ok φ s a w){w':World}(hu:mB [] w.heap.size w w'):Rel B0 bx W0 aI Z N ok φ s a w':=by
 have hw:∀b,b<w.heap.size→w'.heap[b]? = w.heap[b]?:=fun b hb=>hu.block b hb (by simp)
 have:=r.step (w':=w') (φ':=φ) (ok':=ok) (hp':=s.hp) (fun _=>False) (fun _ h=>h.elim) (fun _ h=>h) (fun b hb=>hw b (r.fH b hb)) (fun _ _ _=>rfl) (fun k _=>cI.refl _ k)
  (fun k b hb=>(r.hp k b hb).keep (fun _=>False) (fun _ _ h=>h.elim) (fun _ h=>h) (fun b hb=>hw b (r.fH b hb)) (fun _ _ _=>rfl) (fun k _=>cI.refl _ k) (fun ha g hg=>hw g ((r.hp k b hb).cy ha hg))) r.act r.inj r.one (fun b hb=>Nat.lt_of_lt_of_le (r.fH b hb) hu.size) r.kT ⟨hu.os,hu.tape,hu.output,hu.size,fun k hk _=>hw k (Nat.lt_of_lt_of_le hk r.b0)⟩
 exact this
theorem nH(hC:ah P Z.gl C)(r:Rel B0 bx W0 aI Z N ok φ s a w){f:Nat}{args:List V}{K:V→Prop}(h:wq C s f args K):
  qc P f∧(∃v,K v)∧∀(vs:List Value),vs.length=args.length→(∀(i:Nat) (c:V) (x:Value),args[i]? = some c→vs[i]? = some x→VR ok φ s.hp w c x)→
   Calls P f vs.toArray w (fun e tu=>∃v',e = .returned v'∧∃v,K v∧Rel B0 bx W0 aI Z N ok φ s a tu∧VR ok φ s.hp tu v v'∧fa [] φ s w φ s tu):=by
 unfold wq at h
 split at h
 ·exact h.elim
 rename_i rs F2
 have xN:=hC _ _ _ h
 have hq:∀res fin,(match(fin:List (List D)),cR res with|[],some vs=>K (zL vs)|_,_=>False)→fin=[]∧∃vs,cR res=some vs∧K (zL vs):=by
  intro res fin hQ
  split at hQ
  ·rename_i vs oY;exact⟨rfl,vs,oY,hQ⟩
  ·exact hQ.elim
 refine⟨xN.fn,?_,fun vs hl hv=>?_⟩
 ·obtain⟨res,fin,hQ⟩:=xN.ex
  obtain⟨_,vs,_,hK⟩:=hq res fin hQ
  exact⟨_,hK⟩
 ·have hA:=wP r hl hv F2
  refine(xN.run w (jU ok φ s) vs [] (fun b o h=>⟨.inl (r.kz b o (Z.sub b o h)).1,(r.kz b o (Z.sub b o h)).2⟩) (fun b hb=>?_) (by simp) (by simp) hA).mono fun e w' hp=>?_
  ·rcases hb with hb|⟨k,b',h1,h2,h3⟩
   ·exact r.fH b hb
   ·exact(r.hp k b' h1).cy h2 h3
  ·obtain⟨res,fin,ys,ok',bn,rfl,hQ,ho1,ho2,ho3,hu,Wr,_⟩:=hp
   obtain⟨rfl,us,hus,hK⟩:=hq res fin hQ
   obtain⟨h1,h2⟩:=r8 (ok:=ok) (φ:=φ) (hp:=s.hp) hus Wr
   refine⟨_,rfl,_,hK,r.later hu,?_,⟨hu.size,fun g hg _=>hu.block g hg (by simp),fun k b' g h1 h2 h3 _=>⟨k,b',h1,h2,h3,.inl rfl⟩⟩⟩
   match us,ys,h1,h2 with
   |[],[],_,_=>exact .pq rfl (fun i c x h=>by simp at h)
   |[u],[y],_,h2=>exact h2 0 u y rfl rfl
   |u1::u2::us,y1::y2::ys,h1,h2=>exact .pq (by simpa using h1) (fun i c x hc hx=>h2 i c x hc (by simpa using hx))
end Go.Dm
