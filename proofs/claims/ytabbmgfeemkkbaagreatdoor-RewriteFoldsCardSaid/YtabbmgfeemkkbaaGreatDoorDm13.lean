/- Part of the proof: contracts of functions; no condition. -/
import Derived.Test.YtabbmgfeemkkbaaGreatDoorDm12
import Derived.MapKept
import Derived.RangeFuncRecord
namespace Go.Dm
variable {P:Program} {E:Env} {C:aj} {I:Nat→List V→List V→St→(V→St→Prop)→Prop}
variable {B0:Nat} {bx:List Nat} {W0:World} {aI:Nat→Prop} {Z:Zr} {N:Nat}
variable {ok:Nat→Prop} {φ:Nat→Value} {s:St} {a:Act} {w:World}
theorem fa.eF{T:List Nat}{s':St}(h:s'.hp=s.hp):fa T φ s w φ s' w:=
 ⟨Nat.le_refl _,fun _ _ _=>rfl,fun k b' g h1 h2 h3 _=>⟨k,b',by rw[←h];exact h1,h2,h3,.inl rfl⟩⟩
def Cz(P:Program)(gl:Nat→Option Obj)(I:Nat→List V→List V→St→(V→St→Prop)→Prop):Prop:=
 ∀(B0:Nat) (bx:List Nat) (W0:World) (aI:Nat→Prop) (Z:Zr) (N:Nat) (ok:Nat→Prop) (φ:Nat→Value) (s:St) (a:Act) (w:World) (f:Nat) (args bY:List V) (K:V→St→Prop) (vs cs:List Value),
  Z.gl=gl→Rel B0 bx W0 aI Z N ok φ s a w→I f args bY s K→vs.length=args.length→(∀(i:Nat) (c:V) (x:Value),args[i]? = some c→vs[i]? = some x→VR ok φ s.hp w c x)→
  cs.length=bY.length→(∀(i:Nat) (c:V) (x:Value),bY[i]? = some c→cs[i]? = some x→VR ok φ s.hp w c x)→
  qc P f∧Calls P f (vs++cs).toArray w (fun e tu=>∃v,e = .returned v∧xO B0 bx W0 aI Z N a (fa (kg s.hp) φ s w) K v tu)
theorem aF{gl:Nat→Option Obj}:Cz P gl bf:=by
 intro B0 bx W0 aI Z N ok φ s a w f args bY K vs cs _ _ h
 exact h.elim
theorem bK.mono{x:Sem Next}{post Rc:Value→World→Prop}(h:bK P x w post)(hp:∀v w',post v w'→Rc v w'):bK P x w Rc:=by
 unfold bK at *
 generalize x.run P w=r at *
 cases r with
 |ok n w'=>
  cases n<;>simp only at h ⊢
  ·exact hp _ _ h
  ·exact hp _ _ h
  ·exact h.mono fun e tu ⟨v,he,hq⟩=>⟨v,he,hp _ _ hq⟩
 |halt x w'=>exact h.elim
theorem xO.mono{F:(Nat→Value)→St→World→Prop}{K K':V→St→Prop}{v':Value}{w':World}(h:xO B0 bx W0 aI Z N a F K v' w')(hk:∀v s,K v s→K' v s):xO B0 bx W0 aI Z N a F K' v' w':=by
 obtain⟨v,s',ok',φ',h1,h2⟩:=h
 exact⟨v,s',ok',φ',hk _ _ h1,h2⟩
theorem D5(hE:c8 P E)(r:Rel B0 bx W0 aI Z N ok φ s a w){g:List (Nat×Bool)}(hg:Holds a g){o:Oper}{K:V→St→Prop}{T:List Nat}(h:dx E s g o.op fun v=>K v s):
  bK P (execOp a.eval o) w (xO B0 bx W0 aI Z N a (fa T φ s w) K):=by
 obtain⟨v,v',h1,h2,h3⟩:=iY hE r hg (o:=o) (A:=fun w₂=>w₂=w) (fun _ _ w₂ hw _ _=>by rw[hw]) h
 unfold bK
 rw[h1 w rfl]
 exact⟨v,s,ok,φ,h2,r,h3,fa.eF rfl⟩
theorem pJ(r:Rel B0 bx W0 aI Z N ok φ s a w){g:List (Nat×Bool)}(hg:Holds a g){c x y:Operand}{K:V→St→Prop}(h:FD s g c x y K):
  ∃b,a.eval c = .bool b∧∃v s',K v s'∧Rel B0 bx W0 aI Z N ok φ s' a w∧VR ok φ s'.hp w v (if b then a.eval x else a.eval y)∧s'.hp=s.hp:=by
 unfold FD at h
 split at h
 ·rename_i t
  split at h
  ·rename_i hk
   exact⟨true,r.kn t _ hk,_,s,h,r,bI r hg x,rfl⟩
  ·rename_i hk
   exact⟨false,r.kn t _ hk,_,s,h,r,by simpa using bI r hg y,rfl⟩
  ·split at h
   ·rename_i b1 b2 b3 h1 h2 h3
    have e1:a.tmps.getD t undef = .bool b1:=by have:=zO r hg t;rw[h1]at this;exact iV this
    refine⟨b1,e1,_,s,h,r,?_,rfl⟩
    have XP:∀b,b1=b→Holds a ((t,b)::g):=fun b hb u c hm=>by
     rcases List.mem_cons.1 hm with hm|hm
     ·simp at hm;obtain⟨rfl,rfl⟩:=hm;rw[e1,hb]
     ·exact hg u c hm
    cases b1
    ·have:=bI r (XP false rfl) y;rw[h3]at this;simp only[cond_false,if_false,Bool.false_eq_true];exact this
    ·have:=bI r (XP true rfl) x;rw[h2]at this;simp only[cond_true,if_true];exact this
   ·rename_i va vb b1 h1 _
    have e1:a.tmps.getD t undef = .bool b1:=by have:=zO r hg t;rw[h1]at this;exact iV this
    have XP:∀b,b1=b→Holds a ((t,b)::g):=fun b hb u c hm=>by
     rcases List.mem_cons.1 hm with hm|hm
     ·simp at hm;obtain⟨rfl,rfl⟩:=hm;rw[e1,hb]
     ·exact hg u c hm
    refine⟨b1,e1,?_⟩
    cases b1
    ·have hr:=r.ka e1
     exact⟨_,_,h.2 rfl,hr,by simp only[if_false,Bool.false_eq_true];exact bI r (XP false rfl) y,rfl⟩
    ·have hr:=r.ka e1
     exact⟨_,_,h.1 rfl,hr,by simp only[if_true];exact bI r (XP true rfl) x,rfl⟩
   ·exact h.elim
 ·exact⟨true,rfl,_,s,h,r,bI r hg x,rfl⟩
 ·exact⟨false,rfl,_,s,h,r,by simpa using bI r hg y,rfl⟩
 ·exact h.elim
theorem Oi{g:List (Nat×Bool)}{args:Array Operand}{x y:V}(h:kQ s g args.toList=[x,y]):∃o1 o2,args = #[o1,o2]∧ev s g o1=x∧ev s g o2=y:=by
 have:=dH s g args.toList
 rw[h]at this
 match hl:args.toList,this with
 |[o1,o2],_=>
  rw[hl]at h
  simp[kQ]at h
  exact⟨o1,o2,by apply Array.ext';simpa using hl,h.1,h.2⟩
theorem kL{o:Oper}{x y:Operand}{t:TypeId}{v:Value}{w':World}(h:(Builtin.append_ #[t,t] o.type #[a.eval x,a.eval y]).run P w = .ok v w'):
  (do let d←resolve a.eval {callee:=.builtin .append,args:=#[x,y],argTypes:=#[t,t]} o.type;invoke d.target d.args:Sem Next).run P w = .ok (.value v) w':=by
 simp only[resolve,invoke,builtin,Sem.run_bind,Sem.run_pure,Result.andThen_ok,List.map_toArray,List.map_cons,List.map_nil,h]
theorem r9{o:Oper}{x:Operand}{t:TypeId}{v:Value}{w':World}(h:(Builtin.clear_ #[t] o.type #[a.eval x]).run P w = .ok v w'):
  (do let d←resolve a.eval {callee:=.builtin .clear,args:=#[x],argTypes:=#[t]} o.type;invoke d.target d.args:Sem Next).run P w = .ok (.value v) w':=by
 simp only[resolve,invoke,builtin,Sem.run_bind,Sem.run_pure,Result.andThen_ok,List.map_toArray,List.map_cons,List.map_nil,h]
theorem tL{o:Oper}{x y:Operand}{t t':TypeId}{v:Value}{w':World}(h:(Builtin.copy_ #[t,t'] o.type #[a.eval x,a.eval y]).run P w = .ok v w'):
  (do let d←resolve a.eval {callee:=.builtin .copy,args:=#[x,y],argTypes:=#[t,t']} o.type;invoke d.target d.args:Sem Next).run P w = .ok (.value v) w':=by
 simp only[resolve,invoke,builtin,Sem.run_bind,Sem.run_pure,Result.andThen_ok,List.map_toArray,List.map_cons,List.map_nil,h]
theorem bK.mJ{x:Sem Next}{post:Value→World→Prop}{v:Value}{w':World}(h:x.run P w = .ok (.value v) w')(hp:post v w'):bK P x w post:=by
 unfold bK;rw[h];exact hp
theorem cF.wR{t:Nat}{ti:TI}(h:cF P t ti){k e:Nat}(hf:ti.td = .map k e):P.underlying t=some (.map k e):=by
 obtain⟨d,hd,ht⟩:=h.zw
 unfold xM at ht
 rw[hf]at ht
 cases d<;>simp_all
theorem CA{kt:Nat}{ki:TI}(hT:cF P kt ki){k:Value}(h:zM ki k=true):plain k=true∧∃d,P.underlying kt=some d∧MapKept.IsKey d k:=by
 unfold zM at h
 split at h
 ·rename_i h1 h2
  exact⟨rfl,_,hT.lS h1 h2,trivial⟩
 ·rename_i q q' n h1 h2
  have e:=ub h
  subst e
  exact⟨rfl,_,hT.wA h1 h2,rfl⟩
 ·cases h
theorem r_{d:TypeDesc}{k:Value}(hk:MapKept.IsKey d k):∀(es:List (Value×V)) (l:List MapEntry) (i:Nat) {Y:V→Prop} {Nn:Prop},l.length=es.length→(∀(j:Nat) x y,es[j]? = some x→l[j]? = some y→y.key=x.1)→px k es Y Nn→
  (Instr.findNow d k l i=some none∧Nn)∨∃j x y,Instr.findNow d k l i=some (some (i+j,y.val))∧es[j]? = some x∧l[j]? = some y∧Y x.2
 |[],[],_,_,_,_,_,h=>.inl ⟨rfl,h⟩
 |[],_::_,_,_,_,hl,_,_=>by simp at hl
 |_::_,[],_,_,_,hl,_,_=>by simp at hl
 |(a,v)::es,y::l,i,Y,Nn,hl,qg,h=>by
  have hy:y.key=a:=qg 0 (a,v) y rfl rfl
  have core:∃b,Instr.sameNow d k y.key=some b∧(b=true→Y v)∧(b=false→px k es Y Nn):=by
    rw[hy]
    unfold px at h
    split at h
    ·rename_i u x
     cases d<;>simp only[MapKept.IsKey]at hk
     exact⟨u==x,rfl,h.1,h.2⟩
    ·rename_i q u q' x
     split at h
     ·rename_i he
      have e:=ub he
      subst e
      cases d<;>simp only[MapKept.IsKey]at hk
      subst hk
      exact⟨u==x,by simp[Instr.sameNow],h.1,h.2⟩
     ·exact h.elim
    ·exact h.elim
  obtain⟨b,hb,h1,h2⟩:=core
  cases b with
  |true=>exact .inr ⟨0,(a,v),y,by unfold Instr.findNow;rw[hb];rfl,rfl,rfl,h1 rfl⟩
  |false=>
   have hf:Instr.findNow d k (y::l) i=Instr.findNow d k l (i+1):=by
     conv=>lhs;unfold Instr.findNow
     rw[hb]
   rcases r_ hk es l (i+1) (by simpa using hl) (fun j x y h1 h2=>qg (j+1) x y h1 h2) (h2 rfl)with⟨e1,e2⟩|⟨j,x,y',e1,e2,e3,e4⟩
   ·exact .inl ⟨by rw[hf];exact e1,e2⟩
   ·exact .inr ⟨j+1,x,y',by rw[hf,e1,Nat.add_assoc,Nat.add_comm 1 j],e2,e3,e4⟩
theorem ux{d:TypeDesc}{k:Value}(hk:MapKept.IsKey d k)(v:V):∀(es:List (Value×V)) (l:List MapEntry) (i:Nat) (pre:List (Value×V)) {K:List (Value×V)→Prop},l.length=es.length→(∀(j:Nat) x y,es[j]? = some x→l[j]? = some y→y.key=x.1)→wu k v pre es K→
  (Instr.findNow d k l i=some none∧K (pre++(es++[(k,v)])))∨∃j y,Instr.findNow d k l i=some (some (i+j,y.val))∧l[j]? = some y∧y.key=k∧K (pre++es.set j (k,v))
 |[],[],_,_,_,_,_,h=>.inl ⟨rfl,by simpa only[wu,km,List.nil_append]using h⟩
 |[],_::_,_,_,_,hl,_,_=>by simp at hl
 |_::_,[],_,_,_,hl,_,_=>by simp at hl
 |(a,x0)::es,y::l,i,pre,K,hl,qg,h=>by
  have hy:y.key=a:=qg 0 (a,x0) y rfl rfl
  have core:∃b,Instr.sameNow d k y.key=some b∧(b=true→y.key=k∧K (pre++((k,v)::es)))∧(b=false→wu k v (pre++[(a,x0)]) es K):=by
    rw[hy]
    unfold wu at h
    simp only[km]at h
    split at h
    ·rename_i u x
     cases d<;>simp only[MapKept.IsKey]at hk
     exact⟨u==x,rfl,fun hb=>⟨by rw[(MapKept.bytes_beq u x).1 hb],h.1 hb⟩,h.2⟩
    ·rename_i q u q' x
     split at h
     ·rename_i he
      have e:=ub he
      subst e
      cases d<;>simp only[MapKept.IsKey]at hk
      subst hk
      exact⟨u==x,by simp[Instr.sameNow],fun hb=>⟨by rw[eq_of_beq hb],h.1 hb⟩,h.2⟩
     ·exact h.elim
    ·exact h.elim
  obtain⟨b,hb,h1,h2⟩:=core
  cases b with
  |true=>exact .inr ⟨0,y,by unfold Instr.findNow;rw[hb];rfl,rfl,(h1 rfl).1,(h1 rfl).2⟩
  |false=>
   have hf:Instr.findNow d k (y::l) i=Instr.findNow d k l (i+1):=by
     conv=>lhs;unfold Instr.findNow
     rw[hb]
   rcases ux hk v es l (i+1) (pre++[(a,x0)]) (by simpa using hl) (fun j x y h1 h2=>qg (j+1) x y h1 h2) (h2 rfl)with⟨e1,e2⟩|⟨j,y',e1,e2,e3,e4⟩
   ·exact .inl ⟨by rw[hf];exact e1,by simpa using e2⟩
   ·exact .inr ⟨j+1,y',by rw[hf,e1,Nat.add_assoc,Nat.add_comm 1 j],e2,e3,by simpa using e4⟩
theorem Rel.k7(r:Rel B0 bx W0 aI Z N ok φ s a w){k g:Nat}{b b':B}(hb:lk s.hp k=some b)(ha:b.aM=true)(DT:b'.aM=true)(hg:aq (φ k)=some g)(o:Obj)
  (FM:cI s.hp (pt s.hp k b') k) (hB:BR B0 ok φ (pt s.hp k b') (w.putObj g o) (φ k) b'):
  Rel B0 bx W0 aI Z N ok φ (s.bp k b') a (w.putObj g o):=by
 have zX:∀i,i≠g→(w.putObj g o).heap[i]? = w.heap[i]?:=fun i hi=>World.putObj_heap_other hi
 have qb:=r.act k b g hb ha hg
 have hsz:(w.putObj g o).heap.size=w.heap.size:=World.putObj_size
 have h2:∀b,ok b→(w.putObj g o).heap[b]? = w.heap[b]?:=fun b hb=>zX b (by rintro rfl;exact qb.1 hb)
 have h4:∀j,cI s.hp (pt s.hp k b') j:=by
  intro j
  by_cases h:k=j
  ·subst h;exact FM
  ·unfold cI;rw[aJ,if_neg h];exact cI.refl s.hp j
 refine r.step (fun _=>False) (fun _ h=>h.elim) (fun _ h=>h) h2 (fun _ _ _=>rfl) (fun j _=>h4 j) (fun j b1 hb1=>?_) (fun j b1 g1 hb1 gp fe=>?_) (fun j j' b1 b2 g1 bT hb1 du gp jJ fe gn=>?_) r.one (fun b hb=>by rw[hsz];exact r.fH b hb) r.kT ?_
 ·rw[aJ]at hb1
  by_cases h:k=j
  ·subst h;rw[if_pos rfl]at hb1;simp only[Option.some.injEq]at hb1;subst hb1;exact hB
  ·rw[if_neg h]at hb1
   refine(r.hp j b1 hb1).keep (fun _=>False) (fun _ _ h=>h.elim) (fun _ h=>h) h2 (fun _ _ _=>rfl) (fun j _=>h4 j) (fun gp g1 fe=>zX g1 ?_)
   rintro rfl
   exact r.inj k j b b1 g1 h hb hb1 ha gp hg fe
 ·rw[aJ]at hb1
  by_cases h:k=j
  ·subst h;exact r.act k b g1 hb ha fe
  ·rw[if_neg h]at hb1;exact r.act j b1 g1 hb1 gp fe
 ·rw[aJ]at hb1 du
  by_cases h:k=j
  ·subst h
   rw[if_neg bT]at du
   exact r.inj k j' b b2 g1 bT hb du ha jJ fe gn
  ·rw[if_neg h]at hb1
   by_cases h':k=j'
   ·subst h'
    exact r.inj j k b1 b g1 bT hb1 hb gp ha fe gn
   ·rw[if_neg h']at du
    exact r.inj j j' b1 b2 g1 bT hb1 du gp jJ fe gn
 ·exact⟨rfl,rfl,rfl,by rw[hsz];exact Nat.le_refl _,fun i hi zx=>zX i (by rintro rfl;exact qb.2.elim (fun h=>by omega) (fun h=>zx h))⟩
theorem fa.k7{s1:St}(hs:eO s s1){k g:Nat}{b0:B}(b:B)(o:Obj)(hb:lk s.hp k=some b0)(ha:b0.aM=true)(hg:aq (φ k)=some g):fa [k] φ s w φ (s1.bp k b) (w.putObj g o) where
 size:=by rw[World.putObj_size];exact Nat.le_refl _
 same:=fun g' _ hn=>World.putObj_heap_other (by rintro rfl;exact hn k b0 (by simp) hb ha hg)
 own:=fun j b' g' cJ DT oT _=>by
  simp only[St.bp]at cJ
  rw[aJ]at cJ
  by_cases e:k=j
  ·subst e;exact⟨k,b0,hb,ha,oT,.inl rfl⟩
  ·rw[if_neg e]at cJ
   obtain⟨b1,h1,h2⟩:=hs j b' cJ DT
   exact⟨j,b1,h1,h2,oT,.inl rfl⟩
theorem sa{t:Nat}(r:Rel B0 bx W0 aI Z N ok φ s a w){key:Nat}(hk:lk s.hp key=none){K:V→St→Prop}(h:K (.j_ key) (s.bp key (.mp []))):
  ∃v' w',(Instr.makeMap t none).run P w = .ok v' w'∧xO B0 bx W0 aI Z N a (fa [] φ s w) K v' w':=by
 have hB:BR B0 ok (aO φ key (.map (some w.heap.size))) (pt s.hp key (.mp [])) (w.alloc (.map #[] 0)) (.map (some w.heap.size)) (.mp []):=
  ⟨w.heap.size,#[],0,rfl,heap_alloc_new w _,rfl,by simp,fun j x y hx=>by simp at hx⟩
 have h2:=r.fresh hk (.map #[] 0) (.map (some w.heap.size)) (.mp []) rfl (fun g hg=>by simp[aq]at hg;exact hg.symm) hB
 refine⟨_,_,rfl,.j_ key,s.bp key (.mp []),ok,_,h,h2,?_,fa.fresh (.refl _) _ _ _ _ (fun g hg=>by simp[aq]at hg;omega)⟩
 exact .j_ (es:=[]) (by simp only[St.bp];rw[aJ,if_pos rfl]) (by simp[aO])
theorem uy{hp:List (Nat×B)}{j:Nat}{v:Value}(h:VR ok φ hp w (.j_ j) v):∃g,v = .map (some g)∧φ j = .map (some g):=by
 cases h with
 |j_ hb hφ=>exact⟨_,rfl,hφ⟩
theorem qh{t kt et g:Nat}{d:TypeDesc}{k v:Value}{gk:Array MapEntry}{clock j:Nat}(ht:P.underlying t=some (.map kt et))(hd:P.underlying kt=some d)(hk:MapKept.IsKey d k)(hb:w.heap[g]? = some (.map gk clock))
  (hf:Instr.findNow d k gk.toList 0=some (some (j,v))) (x6:Bool):(Instr.lookup t (.map (some g)) k x6).run P w = .ok (if x6 then .tuple #[v,.bool true]else v) w:=by
 have hc:(Instr.checkKey gk.isEmpty 10000 kt k).run P w = .ok () w:=MapKept.run_checkKey hd hk _ 9999
 simp[Instr.lookup,run_underlying ht,MapKept.run_getObj_map hb,hc,MapKept.run_findKey hd hf,Result.andThen]
theorem qi{t kt et g:Nat}{d:TypeDesc}{k z:Value}{gk:Array MapEntry}{clock:Nat}(ht:P.underlying t=some (.map kt et))(hd:P.underlying kt=some d)(hk:MapKept.IsKey d k)(hb:w.heap[g]? = some (.map gk clock))
  (hf:Instr.findNow d k gk.toList 0=some none) (hz:(zeroValue et).run P w = .ok z w) (x6:Bool):(Instr.lookup t (.map (some g)) k x6).run P w = .ok (if x6 then .tuple #[z,.bool false]else z) w:=by
 have hc:(Instr.checkKey gk.isEmpty 10000 kt k).run P w = .ok () w:=MapKept.run_checkKey hd hk _ 9999
 simp[Instr.lookup,run_underlying ht,MapKept.run_getObj_map hb,hc,MapKept.run_findKey hd hf,hz,Result.andThen]
theorem mo{t kt et:Nat}{ti ki ei:TI}(hT:cF P t ti)(xP:ti.td = .map kt et)(hK:cF P kt ki)(hE:cF P et ei)(r:Rel B0 bx W0 aI Z N ok φ s a w){j:Nat}{v k:Value}(hv:VR ok φ s.hp w (.j_ j) v)
  {es:List (Value×V)} (hj:lk s.hp j=some (.mp es)) (tt:zM ki k=true) (XQ:ei.agg=false) {z:V} (hz:fJ ei.ck=[z]) {Y:V→Prop} {Nn:Prop} (h:px k es Y Nn):
  ∃c c' b,(∀x6,(Instr.lookup t v k x6).run P w = .ok (if x6 then .tuple #[c',.bool b]else c') w)∧VR ok φ s.hp w c c'∧((b=true∧Y c)∨(b=false∧c=z∧Nn)):=by
 obtain⟨g,rfl,hφ⟩:=uy hv
 obtain⟨g',gk,clock,e1,hb,hs,hp,hr⟩:=r.hp j _ hj
 rw[hφ]at e1;cases e1
 obtain⟨_,d,hd,hk⟩:=CA hK tt
 rcases r_ hk es gk.toList 0 (by simpa using hs) (fun j x y h1 h2=>(hr j x y h1 (by simpa using h2)).1) h with⟨e1,e2⟩|⟨i,x,y,e1,e2,e3,e4⟩
 ·obtain⟨i,zv,hi,_,_,Xy,oF,hza⟩:=hE.info
  have dE:(zeroValue et).run P w = .ok zv w:=by simp[zeroValue,typeInfo,hi,Xy]
  obtain⟨Cn,E_⟩:=ml (ok:=ok) (φ:=φ) (w:=w) (hp:=s.hp) oF
  have hO:zv.cells.toList=[zv]:=by
   cases zv<;>simp_all[Value.cells]
  refine⟨z,zv,false,fun x6=>qi (hT.wR xP) hd hk hb e1 dE x6,?_,.inr ⟨rfl,rfl,e2⟩⟩
  exact E_ 0 z zv (by rw[hz];rfl) (by rw[hO];rfl)
 ·exact⟨x.2,y.val,true,fun x6=>qh (hT.wR xP) hd hk hb e1 x6,(hr i x y e2 (by simpa using e3)).2,.inl ⟨rfl,e4⟩⟩
theorem T2{c:V}{x:Value}{b:Bool}(h:VR ok φ s.hp w c x):VR ok φ s.hp w (.pq [c,b_ b]) (.tuple #[x,.bool b]):=by
 refine .pq rfl fun i c' x' hc hx=>?_
 match i with
 |0=>simp at hc hx;subst hc;subst hx;exact h
 |1=>simp at hc hx;subst hc;subst hx;exact cj _
 |i+2=>simp at hc
theorem jV{t kt et:Nat}{ti ki:TI}(hT:cF P t ti)(xP:ti.td = .map kt et)(hK:cF P kt ki)(r:Rel B0 bx W0 aI Z N ok φ s a w){j:Nat}{m k x:Value}(hm:VR ok φ s.hp w (.j_ j) m)
  {es:List (Value×V)} (hj:lk s.hp j=some (.mp es)) (tt:zM ki k=true) {c:V} (hx:VR ok φ s.hp w c x) {K:List (Value×V)→Prop} (h:wu k c [] es K):
  ∃w',(Instr.mapUpdate t m k x).run P w = .ok () w'∧∃iz,K iz∧Rel B0 bx W0 aI Z N ok φ (s.bp j (.mp iz)) a w'∧fa [j] φ s w φ (s.bp j (.mp iz)) w':=by
 obtain⟨g,rfl,hφ⟩:=uy hm
 obtain⟨g',gk,clock,e1,hb,hs,hp,hr⟩:=r.hp j _ hj
 rw[hφ]at e1;cases e1
 obtain⟨Q7,d,hd,hk⟩:=CA hK tt
 have ht:=hT.wR xP
 have hc:(Instr.checkKey false 10000 kt k).run P w = .ok () w:=MapKept.run_checkKey hd hk _ 9999
 have hg:aq (φ j)=some g:=by rw[hφ];rfl
 have hlt:g<w.heap.size:=(Array.getElem?_eq_some_iff.1 hb).1
 have qb:=r.act j _ g hj rfl hg
 have mono:∀{iz:List (Value×V)} {o:Obj} {c:V} {x:Value},VR ok φ s.hp w c x→VR ok φ (pt s.hp j (.mp iz)) (w.putObj g o) c x:=fun {iz o c x} hv=>
  hv.mono (fun _ h=>h) (fun b hbo=>World.putObj_heap_other (by intro e;subst e;exact qb.1 hbo)) (fun _ _ _=>rfl) (fun i _=>by
   unfold cI
   rw[aJ]
   by_cases e:j=i
   ·subst e;rw[if_pos rfl,hj];exact⟨iz,rfl⟩
   ·rw[if_neg e];exact cI.refl s.hp i)
 have sim:∀iz,cI s.hp (pt s.hp j (.mp iz)) j:=fun iz=>by unfold cI;rw[aJ,if_pos rfl,hj];exact⟨iz,rfl⟩
 rcases ux hk c es gk.toList 0 [] (by simpa using hs) (fun j x y h1 h2=>(hr j x y h1 (by simpa using h2)).1) h with⟨e1,e2⟩|⟨i,y,e1,e2,e3,e4⟩
 ·have dE:(Instr.mapUpdate t (.map (some g)) k x).run P w = .ok () (w.putObj g (.map (gk.push {key:=k,val:=x,born:=clock}) (clock+1))):=by
   simp[Instr.mapUpdate,run_underlying ht,MapKept.run_getObj_map hb,hc,MapKept.run_findKey hd e1,MapKept.run_setObj_map _ hb,Result.andThen,World.putObj]
  refine⟨_,dE,es++[(k,c)],by simpa using e2,r.k7 hj rfl rfl hg _ (sim _) ?_,fa.k7 (.refl _) _ _ hj rfl hg⟩
  rw[hφ]
  refine⟨g,_,_,rfl,World.putObj_heap_same hlt,by simp[hs],fun u hu=>?_,fun i u y hu hy=>?_⟩
  ·rcases List.mem_append.1 hu with hu|hu
   ·exact hp u hu
   ·rw[List.mem_singleton.1 hu];exact Q7
  ·by_cases hi:i<es.length
   ·rw[List.getElem?_append_left hi]at hu
    rw[Array.getElem?_push_lt (by omega)]at hy
    obtain⟨q1,q2⟩:=hr i u y hu (by rw[Array.getElem?_eq_getElem (by omega)];exact hy)
    exact⟨q1,mono q2⟩
   ·have hil:i=es.length:=by
     have:=(List.getElem?_eq_some_iff.1 hu).1
     simp at this;omega
    subst hil
    rw[List.getElem?_append_right (Nat.le_refl _),Nat.sub_self]at hu
    simp only[List.getElem?_cons_zero,Option.some.injEq]at hu
    subst hu
    rw[←hs,Array.getElem?_push_size]at hy
    simp only[Option.some.injEq]at hy
    subst hy
    exact⟨rfl,mono hx⟩
 ·rw[Nat.zero_add]at e1
  have E9:gk[i]? = some y:=by simpa using e2
  have dE:(Instr.mapUpdate t (.map (some g)) k x).run P w = .ok () (w.putObj g (.map (gk.modify i fun e=>{e with key:=k,val:=x}) clock)):=by
   simp[Instr.mapUpdate,run_underlying ht,MapKept.run_getObj_map hb,hc,MapKept.run_findKey hd e1,E9,e3,MapKept.run_keyThatStays hk,MapKept.run_setObj_map _ hb,Result.andThen,World.putObj]
  refine⟨_,dE,es.set i (k,c),by simpa using e4,r.k7 hj rfl rfl hg _ (sim _) ?_,fa.k7 (.refl _) _ _ hj rfl hg⟩
  rw[hφ]
  refine⟨g,_,_,rfl,World.putObj_heap_same hlt,by simp[hs],fun u hu=>?_,fun i2 u y2 hu Ws=>?_⟩
  ·rcases List.mem_or_eq_of_mem_set hu with hu|rfl
   ·exact hp u hu
   ·exact Q7
  ·rw[List.getElem?_set]at hu
   rw[Array.getElem?_modify]at Ws
   by_cases hi:i=i2
   ·subst hi
    rw[if_pos rfl,E9]at Ws
    simp only[Option.map_some,Option.some.injEq]at Ws
    rw[if_pos rfl]at hu
    split at hu
    ·simp only[Option.some.injEq]at hu
     subst hu;subst Ws
     exact⟨rfl,mono hx⟩
    ·cases hu
   ·rw[if_neg hi]at hu Ws
    obtain⟨q1,q2⟩:=hr i2 u y2 hu Ws
    exact⟨q1,mono q2⟩
theorem yu(hE:c8 P E)(hC:ah P Z.gl C)(hI:Cz P Z.gl I)(r:Rel B0 bx W0 aI Z N ok φ s a w){g:List (Nat×Bool)}(hg:Holds a g){o:Oper}{key:Nat}{K:V→St→Prop}(h:fu E C I s g key o.op K):
  bK P (execOp a.eval o) w (xO B0 bx W0 aI Z N a (fa (dj E s g o.op) φ s w) K):=by
 unfold execOp
 generalize o.op=op at h
 cases op with
 |alloc t=>
  simp only[fu]at h
  split at h
  ·rename_i ti dY hk
   exact bK.iZ (wH (hE.ti dY) r hk h)
  ·exact h.elim
 |box t x=>
  simp only[fu]at h
  split at h
  ·rename_i ti cs dY hk hO
   split at h
   ·exact bK.iZ (zY r hk (bI r hg x) hO h)
   ·exact h.elim
  ·exact h.elim
 |store t x y=>
  simp only[fu]at h
  split at h
  ·rename_i ti dY
   obtain⟨w',h1,s',ok',φ',h2,h3,h4⟩:=wJ (hE.ti dY) r (bI r hg x) (bI r hg y) h
   exact bK.wN ⟨w',h1,.dead,s',ok',φ',h2,h3,.dead _,h4⟩
  ·exact h.elim
 |buildSlice t len parts=>
  simp only[fu]at h
  split at h
  rotate_left
  ·exact h.elim
  rename_i e dY hk
  split at h
  rotate_left
  ·exact h.elim
  rename_i ei mj
  split at h
  rotate_left
  ·exact h.elim
  rename_i cs hle rQ
  split at h
  rotate_left
  ·exact h.elim
  rename_i ds s1 hds
  split at h
  rotate_left
  ·exact h.elim
  rename_i es qy
  exact bK.iZ (nD (hE.ti dY) rfl (hE.ti mj) r hg hk (Nat.le_of_ble_eq_true hle) rQ hds qy h)
 |makeSlice t n c=>
  simp only[fu]at h
  split at h
  rotate_left
  ·exact h.elim
  rename_i e n' c' dY hk hn hc
  split at h
  rotate_left
  ·exact h.elim
  rename_i ei mj
  obtain⟨h0,ug,z8,T3,h⟩:=h
  split at h
  rotate_left
  ·exact h.elim
  rename_i z hz
  have e1:=cd r hg hn
  have e2:=cd r hg hc
  simp only[e1,e2]
  exact bK.iZ (oV (hE.ti dY) rfl (hE.ti mj) r hk h0 ug z8 T3 hz h .i64 .i64)
 |call c=>
  obtain⟨callee,args,pv⟩:=c
  cases callee with
  |invoke x m=>exact(h:False).elim
  |builtin b=>
   cases b<;>first|exact(h:False).elim|skip
   case clear=>
    simp only[fu]at h
    split at h
    rotate_left
    ·exact h.elim
    rename_i x t jT zW
    have ha:args = #[x]:=by apply Array.ext';simpa using jT
    have ht:pv = #[t]:=by apply Array.ext';simpa using zW
    subst ha;subst ht
    split at h
    rotate_left
    ·exact h.elim
    rename_i e k lo n dY hst
    split at h
    rotate_left
    ·exact h.elim
    rename_i ei e' sz es mj hb
    split at h
    rotate_left
    ·exact h.elim
    rename_i z hz
    obtain⟨hsz,h⟩:=h
    have ma:dj E s g (.call {callee:=.builtin .clear,args:=#[x],argTypes:=#[t]})=fO (ev s g x):=by
     simp only[dj,kQ]
    rw[ma]
    obtain⟨v',w',h1,h2⟩:=wL (K:=K) (hE.ti dY) rfl (hE.ti mj) r (bI r hg x) hst hb hz hsz o.type h
    exact bK.mJ (r9 h1) h2
   case copy=>
    simp only[fu]at h
    split at h
    rotate_left
    ·exact h.elim
    rename_i x y t t' jT zW
    have ha:args = #[x,y]:=by apply Array.ext';simpa using jT
    have ht:pv = #[t,t']:=by apply Array.ext';simpa using zW
    subst ha;subst ht
    split at h
    rotate_left
    ·exact h.elim
    rename_i e k lo n dY hst
    split at h
    rotate_left
    ·exact h.elim
    rename_i ei e' sz es mj hb
    obtain⟨new,ad,cap,⟨hsz,bC,hk⟩,hv,hC',wK,_⟩:=jw r (bI r hg y) h
    have ma:dj E s g (.call {callee:=.builtin .copy,args:=#[x,y],argTypes:=#[t,t']})=fO (ev s g x):=by
     simp only[dj,kQ]
    rw[ma]
    obtain⟨v',w',h1,h2⟩:=yk (K:=K) (t':=t') (hE.ti dY) rfl (hE.ti mj) r (bI r hg x) hst hb hC' (fun e=>by rw[←hv];exact wK e) hsz bC o.type hk
    refine bK.mJ (tL ?_) h2
    rw[hv];exact h1
   simp only[fu]at h
   split at h
   rotate_left
   ·exact h.elim
   rename_i va vb t t' jT zW
   split at h
   rotate_left
   ·exact h.elim
   rename_i e dY zT
   have ht:pv = #[t,t]:=by
    have:t=t':=Nat.eq_of_beq_eq_true zT
    subst this
    apply Array.ext';simpa using zW
   subst ht
   split at h
   rotate_left
   ·exact h.elim
   rename_i ei mj
   split at h
   ·exact h.elim
   rename_i hb1
   have T4:1≤ei.bytes:=Nat.le_of_ble_eq_true hb1
   have XR:∀n:Nat,n*ei.bytes≤140737488355328→n≤maxLen:=fun n h=>by
    have:n≤n*ei.bytes:=Nat.le_mul_of_pos_right _ T4
    unfold maxLen;omega
   obtain⟨o1,o2,rfl,Cs,hv2⟩:=Oi jT
   have XS:=bI r hg o2
   rw[hv2]at XS
   obtain⟨new,ad,cap,⟨bC,hk⟩,hv,hC',wK,Ob⟩:=jw r XS h
   have Oj:=bI r hg o1
   rw[Cs]at Oj
   have ma:dj E s g (.call {callee:=.builtin .append,args:=#[o1,o2],argTypes:=#[t,t]})=fO va:=by
    simp only[dj,jT]
   rw[ma]
   clear ma h jT Cs
   have ct:=(hE.ti mj).pos
   have nC:∀n:Nat,(n:Int)*(ei.bytes:Int)≤140737488355328→n*ei.bytes≤140737488355328:=fun n h=>by
    rw[←Int.natCast_mul]at h
    omega
   generalize hgx:a.eval o1=x1 at Oj
   split at hk
   ·split at hk
    rotate_left
    ·exact hk.elim
    rename_i qg
    obtain⟨z8,hk⟩:=hk
    cases Oj
    obtain⟨v',w',h1,h2⟩:=oW (K:=K) (hE.ti dY) rfl (hE.ti mj) r qg hC' (fun e=>by rw[←hv];exact wK e) Ob bC o.type (nC _ z8) (XR _ (nC _ z8)) hk
    refine bK.mJ (kL ?_) h2
    rw[hgx,hv];exact h1
   ·rename_i k
    split at hk
    rotate_left
    ·exact hk.elim
    rename_i e' sz es hb
    obtain⟨rfl,rfl,z8,hk⟩:=hk
    cases Oj
    rename_i g_ DQ jR hφ
    obtain⟨v',w',h1,h2⟩:=oX (K:=K) (hE.ti dY) rfl (hE.ti mj) r hb hC' (fun e=>by rw[←hv];exact wK e) Ob bC o.type (nC _ z8) (XR _ (nC _ z8)) hk
    refine bK.mJ (kL ?_) h2
    rw[hgx,←hφ,hv];exact h1
   ·exact hk.elim
  |value f=>
   simp only[fu]at h
   have hf:=bI r hg f
   generalize T5:a.eval f=fv at hf
   split at h
   rotate_left
   ·exact h.elim
   rename_i XJ bY Wt
   rw[Wt]at hf
   cases hf
   rename_i xs hs hr
   rw[km]at h
   have hl:((args.map a.eval).toList++xs.toList).length=(kQ s g args.toList++bY).length:=by simp[dH,hs]
   have oY:∀(i:Nat) (c:V) (x:Value),(kQ s g args.toList++bY)[i]? = some c→((args.map a.eval).toList++xs.toList)[i]? = some x→VR ok φ s.hp w c x:=fun i c x h1 h2=>by
    have FK:(kQ s g args.toList).length=(args.map a.eval).toList.length:=by rw[dH];simp
    rw[List.getElem?_append]at h1 h2
    rw[FK]at h1
    split at h1
    ·rename_i hlt
     rw[if_pos hlt]at h2
     exact rG r hg args.toList i c x h1 (by simpa using h2)
    ·rename_i Wq
     rw[if_neg Wq]at h2
     exact hr _ c x h1 (by simpa using h2)
   have e0:((args.map a.eval).toList++xs.toList).toArray=args.map a.eval++xs:=by apply Array.ext';simp only[Array.toList_append]
   split at h
   ·rename_i hbw
    have ma:dj E s g (.call {callee:=.value f,args:=args,argTypes:=pv})=[]:=by
     simp only[dj,Wt,hbw]
    rw[ma]
    obtain⟨h1,_,h2⟩:=nH hC r h
    have h2:=h2 _ hl oY
    unfold bK
    rw[en h1 T5,←e0]
    exact h2.mono fun e tu ⟨v',he,v,hK,hR,hV,hF⟩=>⟨v',he,v,s,ok,φ,hK,hR,hV,hF⟩
   ·rename_i hbw
    split at h
    ·rename_i FY
     have ma:dj E s g (.call {callee:=.value f,args:=args,argTypes:=pv})=kg s.hp:=by
         simp only[dj,Wt,hbw,FY]
     rw[ma]
     obtain⟨h1,h2⟩:=hI B0 bx W0 aI Z N ok φ s a w XJ (kQ s g args.toList) bY K (args.map a.eval).toList xs.toList rfl r h (by rw[dH];simp) (fun i c x h1 h2=>rG r hg args.toList i c x h1 (by simpa using h2)) (by simpa using hs) (fun i c x h1 h2=>hr i c x h1 (by simpa using h2))
     unfold bK
     rw[en h1 T5,←e0]
     exact h2
    ·rename_i FY
     have ma:dj E s g (.call {callee:=.value f,args:=args,argTypes:=pv})=gE (kQ s g args.toList++bY):=by
         simp only[dj,Wt,hbw,FY,km]
     rw[ma]
     obtain⟨h1,h2⟩:=r7 hC r h hl oY
     unfold bK
     rw[en h1 T5,←e0]
     exact h2
 |makeMap t Ok=>
  cases Ok with
  |some _=>exact(h:False).elim
  |none=>
   simp only[fu]at h
   split at h
   ·rename_i dY hk
    exact bK.iZ (sa r hk h)
   ·exact h.elim
 |lookup t x ix x6=>
  simp only[fu]at h
  split at h
  rotate_left
  ·exact h.elim
  rename_i kt et j k dY hx hix
  split at h
  rotate_left
  ·exact h.elim
  rename_i ki ei es Re mj hj
  split at h
  rotate_left
  ·exact h.elim
  rename_i z tt XQ hz
  have hm:=bI r hg x
  rw[hx]at hm
  have CB:=bI r hg ix
  rw[hix]at CB
  have CB:=iV CB
  show bK P (do pure (.value (←Instr.lookup t (a.eval x) (a.eval ix) x6))) w _
  rw[CB]
  cases x6 with
  |true=>
   obtain⟨c,c',b,h1,h2,h3⟩:=mo (hE.ti dY) rfl (hE.ti Re) (hE.ti mj) r hm hj tt XQ hz (Y:=fun v=>K (.pq [v,b_ true]) s) (Nn:=K (.pq [z,b_ false]) s) h
   refine bK.iZ ⟨_,_,h1 true,.pq [c,b_ b],s,ok,φ,?_,r,T2 h2,fa.eF rfl⟩
   rcases h3 with⟨rfl,h3⟩|⟨rfl,rfl,h3⟩
   ·exact h3
   ·exact h3
  |false=>
   obtain⟨c,c',b,h1,h2,h3⟩:=mo (hE.ti dY) rfl (hE.ti Re) (hE.ti mj) r hm hj tt XQ hz (Y:=fun v=>K v s) (Nn:=K z s) h
   refine bK.iZ ⟨_,_,h1 false,c,s,ok,φ,?_,r,h2,fa.eF rfl⟩
   rcases h3 with⟨rfl,h3⟩|⟨rfl,rfl,h3⟩
   ·exact h3
   ·exact h3
 |mapUpdate t m k x=>
  simp only[fu]at h
  split at h
  rotate_left
  ·exact h.elim
  rename_i kt et j kv dY hm hk
  split at h
  rotate_left
  ·exact h.elim
  rename_i ki ei es Re mj hj hc
  split at h
  rotate_left
  ·exact h.elim
  rename_i tt XQ
  have XT:=bI r hg m
  rw[hm]at XT
  have CB:=bI r hg k
  rw[hk]at CB
  have CB:=iV CB
  show bK P (do Instr.mapUpdate t (a.eval m) (a.eval k) (a.eval x);pure .skip) w _
  rw[CB]
  obtain⟨w',h1,iz,h2,h3,h4⟩:=jV (hE.ti dY) rfl (hE.ti Re) r XT hj tt (bI r hg x) h
  have ma:dj E s g (.mapUpdate t m k x)=[j]:=by simp only[dj,hm,mapKey]
  rw[ma]
  exact bK.wN ⟨w',h1,.dead,_,ok,φ,h2,h3,.dead _,h4⟩
 |insert t m k x=>
  simp only[fu]at h
  split at h
  rotate_left
  ·exact h.elim
  rename_i kt et j kv dY hm hk
  split at h
  rotate_left
  ·exact h.elim
  rename_i ki ei es Re mj hj hc
  split at h
  rotate_left
  ·exact h.elim
  rename_i tt XQ
  have XT:=bI r hg m
  rw[hm]at XT
  have CB:=bI r hg k
  rw[hk]at CB
  have CB:=iV CB
  show bK P (do Instr.mapUpdate t (a.eval m) (a.eval k) (a.eval x);pure .skip) w _
  rw[CB]
  obtain⟨w',h1,iz,h2,h3,h4⟩:=jV (hE.ti dY) rfl (hE.ti Re) r XT hj tt (bI r hg x) h
  have ma:dj E s g (.insert t m k x)=[j]:=by simp only[dj,hm,mapKey]
  rw[ma]
  exact bK.wN ⟨w',h1,.dead,_,ok,φ,h2,h3,.dead _,h4⟩
 |_=>exact(h:False).elim
end Go.Dm
