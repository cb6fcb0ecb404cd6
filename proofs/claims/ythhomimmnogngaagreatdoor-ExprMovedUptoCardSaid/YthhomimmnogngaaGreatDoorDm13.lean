/- A part of the proof: contracts of functions, by a verified generator of conditions; no condition of its own. -/
import Derived.Test.YthhomimmnogngaaGreatDoorDm12
import Derived.MapKept
import Derived.RangeFuncRecord
namespace Go.Dm
variable {P:Program} {E:Env} {C:CallT} {I:Nat→List V→List V→St→(V→St→Prop)→Prop}
variable {B0:Nat} {bx:List Nat} {W0:World} {ok0:Nat→Prop} {Z:Zr} {N:Nat}
variable {ok:Nat→Prop} {φ:Nat→Value} {s:St} {a:Act} {w:World}
theorem Frm.same_hp{T:List Nat}{s':St}(h:s'.hp=s.hp):Frm T φ s w φ s' w:=
 ⟨Nat.le_refl _,fun _ _ _=>rfl,fun k b' g h1 h2 h3 _=>⟨k,b',by rw[←h];exact h1,h2,h3,.inl rfl⟩⟩
def IOk(P:Program)(gl:Nat→Option Obj)(I:Nat→List V→List V→St→(V→St→Prop)→Prop):Prop:=
 ∀(B0:Nat) (bx:List Nat) (W0:World) (ok0:Nat→Prop) (Z:Zr) (N:Nat) (ok:Nat→Prop) (φ:Nat→Value) (s:St) (a:Act) (w:World) (f:Nat) (args caps:List V) (K:V→St→Prop) (vs cs:List Value),
  Z.gl=gl→Rel B0 bx W0 ok0 Z N ok φ s a w→I f args caps s K→vs.length=args.length→(∀(i:Nat) (c:V) (x:Value),args[i]? = some c→vs[i]? = some x→VR ok φ s.hp w c x)→
  cs.length=caps.length→(∀(i:Nat) (c:V) (x:Value),caps[i]? = some c→cs[i]? = some x→VR ok φ s.hp w c x)→
  FnOk P f∧Calls P f (vs++cs).toArray w (fun e w''=>∃v,e = .returned v∧Pst B0 bx W0 ok0 Z N a (Frm (allKeys s.hp) φ s w) K v w'')
theorem ioK_no{gl:Nat→Option Obj}:IOk P gl noI:=by
 intro B0 bx W0 ok0 Z N ok φ s a w f args caps K vs cs _ _ h
 exact h.elim
theorem OpRun.mono{x:Sem Next}{post post':Value→World→Prop}(h:OpRun P x w post)(hp:∀v w',post v w'→post' v w'):OpRun P x w post':=by
 unfold OpRun at *
 generalize x.run P w=r at *
 cases r with
 |ok n w'=>
  cases n<;>simp only at h ⊢
  ·exact hp _ _ h
  ·exact hp _ _ h
  ·exact h.mono fun e w'' ⟨v,he,hq⟩=>⟨v,he,hp _ _ hq⟩
 |halt x w'=>exact h.elim
theorem opRun_val(hE:EnvOk P E)(r:Rel B0 bx W0 ok0 Z N ok φ s a w){g:List (Nat×Bool)}(hg:Holds a g){o:Oper}{K:V→St→Prop}{T:List Nat}(h:aVal E s g o.op fun v=>K v s):
  OpRun P (execOp a.eval o) w (Pst B0 bx W0 ok0 Z N a (Frm T φ s w) K):=by
 obtain⟨v,v',h1,h2,h3⟩:=aVal_sound hE r hg (o:=o) (A:=fun w₂=>w₂=w) (fun _ _ w₂ hw _ _=>by rw[hw]) h
 unfold OpRun
 rw[h1 w rfl]
 exact⟨v,s,ok,φ,h2,r,h3,Frm.same_hp rfl⟩
theorem aPick_sound(r:Rel B0 bx W0 ok0 Z N ok φ s a w){g:List (Nat×Bool)}(hg:Holds a g){c x y:Operand}{K:V→St→Prop}(h:aPick s g c x y K):
  ∃b,a.eval c = .bool b∧∃v s',K v s'∧Rel B0 bx W0 ok0 Z N ok φ s' a w∧VR ok φ s'.hp w v (if b then a.eval x else a.eval y)∧s'.hp=s.hp:=by
 unfold aPick at h
 split at h
 ·rename_i t
  split at h
  ·rename_i hk
   exact⟨true,r.kn t _ hk,_,s,h,r,vr_ev r hg x,rfl⟩
  ·rename_i hk
   exact⟨false,r.kn t _ hk,_,s,h,r,by simpa using vr_ev r hg y,rfl⟩
  ·split at h
   ·rename_i b1 b2 b3 h1 h2 h3
    have e1:a.tmps.getD t undef = .bool b1:=by have:=vr_evT r hg t;rw[h1]at this;exact vr_v this
    refine⟨b1,e1,_,s,h,r,?_,rfl⟩
    have hgT:∀b,b1=b→Holds a ((t,b)::g):=fun b hb u c hm=>by
     rcases List.mem_cons.1 hm with hm|hm
     ·simp at hm;obtain⟨rfl,rfl⟩:=hm;rw[e1,hb]
     ·exact hg u c hm
    cases b1
    ·have:=vr_ev r (hgT false rfl) y;rw[h3]at this;simp only[cond_false,if_false,Bool.false_eq_true];exact this
    ·have:=vr_ev r (hgT true rfl) x;rw[h2]at this;simp only[cond_true,if_true];exact this
   ·rename_i va vb b1 h1 _
    have e1:a.tmps.getD t undef = .bool b1:=by have:=vr_evT r hg t;rw[h1]at this;exact vr_v this
    have hgT:∀b,b1=b→Holds a ((t,b)::g):=fun b hb u c hm=>by
     rcases List.mem_cons.1 hm with hm|hm
     ·simp at hm;obtain⟨rfl,rfl⟩:=hm;rw[e1,hb]
     ·exact hg u c hm
    refine⟨b1,e1,?_⟩
    cases b1
    ·have hr:=r.know e1
     exact⟨_,_,h.2 rfl,hr,by simp only[if_false,Bool.false_eq_true];exact vr_ev r (hgT false rfl) y,rfl⟩
    ·have hr:=r.know e1
     exact⟨_,_,h.1 rfl,hr,by simp only[if_true];exact vr_ev r (hgT true rfl) x,rfl⟩
   ·exact h.elim
 ·exact⟨true,rfl,_,s,h,r,vr_ev r hg x,rfl⟩
 ·exact⟨false,rfl,_,s,h,r,by simpa using vr_ev r hg y,rfl⟩
 ·exact h.elim
theorem evs_two{g:List (Nat×Bool)}{args:Array Operand}{x y:V}(h:evs s g args.toList=[x,y]):∃o1 o2,args = #[o1,o2]∧ev s g o1=x∧ev s g o2=y:=by
 have:=evs_length s g args.toList
 rw[h]at this
 match hl:args.toList,this with
 |[o1,o2],_=>
  rw[hl]at h
  simp[evs]at h
  exact⟨o1,o2,by apply Array.ext';simpa using hl,h.1,h.2⟩
theorem run_append_call{o:Oper}{x y:Operand}{t:TypeId}{v:Value}{w':World}(h:(Builtin.append_ #[t,t] o.type #[a.eval x,a.eval y]).run P w = .ok v w'):
  (do let d←resolve a.eval {callee:=.builtin .append,args:=#[x,y],argTypes:=#[t,t]} o.type;invoke d.target d.args:Sem Next).run P w = .ok (.value v) w':=by
 simp only[resolve,invoke,builtin,Sem.run_bind,Sem.run_pure,Result.andThen_ok,List.map_toArray,List.map_cons,List.map_nil,h]
theorem run_clear_call{o:Oper}{x:Operand}{t:TypeId}{v:Value}{w':World}(h:(Builtin.clear_ #[t] o.type #[a.eval x]).run P w = .ok v w'):
  (do let d←resolve a.eval {callee:=.builtin .clear,args:=#[x],argTypes:=#[t]} o.type;invoke d.target d.args:Sem Next).run P w = .ok (.value v) w':=by
 simp only[resolve,invoke,builtin,Sem.run_bind,Sem.run_pure,Result.andThen_ok,List.map_toArray,List.map_cons,List.map_nil,h]
theorem run_copy_call{o:Oper}{x y:Operand}{t t':TypeId}{v:Value}{w':World}(h:(Builtin.copy_ #[t,t'] o.type #[a.eval x,a.eval y]).run P w = .ok v w'):
  (do let d←resolve a.eval {callee:=.builtin .copy,args:=#[x,y],argTypes:=#[t,t']} o.type;invoke d.target d.args:Sem Next).run P w = .ok (.value v) w':=by
 simp only[resolve,invoke,builtin,Sem.run_bind,Sem.run_pure,Result.andThen_ok,List.map_toArray,List.map_cons,List.map_nil,h]
theorem OpRun.of_run{x:Sem Next}{post:Value→World→Prop}{v:Value}{w':World}(h:x.run P w = .ok (.value v) w')(hp:post v w'):OpRun P x w post:=by
 unfold OpRun;rw[h];exact hp
theorem TIok.map_und{t:Nat}{ti:TI}(h:TIok P t ti){k e:Nat}(hf:ti.td = .map k e):P.underlying t=some (.map k e):=by
 obtain⟨d,hd,ht⟩:=h.und
 unfold tdB at ht
 rw[hf]at ht
 cases d<;>simp_all
theorem keyB_is{kt:Nat}{ki:TI}(hT:TIok P kt ki){k:Value}(h:keyB ki k=true):plain k=true∧∃d,P.underlying kt=some d∧MapKept.IsKey d k:=by
 unfold keyB at h
 split at h
 ·rename_i h1 h2
  exact⟨rfl,_,hT.str_und h1 h2,trivial⟩
 ·rename_i q q' n h1 h2
  have e:=ik_eq h
  subst e
  exact⟨rfl,_,hT.int_und h1 h2,rfl⟩
 ·cases h
theorem aFind_spec{d:TypeDesc}{k:Value}(hk:MapKept.IsKey d k):∀(es:List (Value×V)) (l:List MapEntry) (i:Nat) {Y:V→Prop} {Nn:Prop},l.length=es.length→(∀(j:Nat) x y,es[j]? = some x→l[j]? = some y→y.key=x.1)→aFind k es Y Nn→
  (Instr.findNow d k l i=some none∧Nn)∨∃j x y,Instr.findNow d k l i=some (some (i+j,y.val))∧es[j]? = some x∧l[j]? = some y∧Y x.2
 |[],[],_,_,_,_,_,h=>.inl ⟨rfl,h⟩
 |[],_::_,_,_,_,hl,_,_=>by simp at hl
 |_::_,[],_,_,_,hl,_,_=>by simp at hl
 |(a,v)::es,y::l,i,Y,Nn,hl,hkey,h=>by
  have hy:y.key=a:=hkey 0 (a,v) y rfl rfl
  have core:∃b,Instr.sameNow d k y.key=some b∧(b=true→Y v)∧(b=false→aFind k es Y Nn):=by
    rw[hy]
    unfold aFind at h
    split at h
    ·rename_i u x
     cases d<;>simp only[MapKept.IsKey]at hk
     exact⟨u==x,rfl,h.1,h.2⟩
    ·rename_i q u q' x
     split at h
     ·rename_i he
      have e:=ik_eq he
      subst e
      cases d<;>simp only[MapKept.IsKey]at hk
      subst hk
      exact⟨u==x,by simp[Instr.sameNow],h.1,h.2⟩
     ·exact h.elim
    ·exact h.elim
  obtain⟨b,hb,h1,h2⟩:=core
  cases b with
  |true=>exact .inr ⟨0,(a,v),y,by unfold Instr.findNow;rw[hb];rfl,rfl,rfl,h1 rfl⟩
  |false=>
   have hf:Instr.findNow d k (y::l) i=Instr.findNow d k l (i+1):=by
     conv=>lhs;unfold Instr.findNow
     rw[hb]
   rcases aFind_spec hk es l (i+1) (by simpa using hl) (fun j x y h1 h2=>hkey (j+1) x y h1 h2) (h2 rfl)with⟨e1,e2⟩|⟨j,x,y',e1,e2,e3,e4⟩
   ·exact .inl ⟨by rw[hf];exact e1,e2⟩
   ·exact .inr ⟨j+1,x,y',by rw[hf,e1,Nat.add_assoc,Nat.add_comm 1 j],e2,e3,e4⟩
theorem aPut_spec{d:TypeDesc}{k:Value}(hk:MapKept.IsKey d k)(v:V):∀(es:List (Value×V)) (l:List MapEntry) (i:Nat) (pre:List (Value×V)) {K:List (Value×V)→Prop},l.length=es.length→(∀(j:Nat) x y,es[j]? = some x→l[j]? = some y→y.key=x.1)→aPut k v pre es K→
  (Instr.findNow d k l i=some none∧K (pre++(es++[(k,v)])))∨∃j y,Instr.findNow d k l i=some (some (i+j,y.val))∧l[j]? = some y∧y.key=k∧K (pre++es.set j (k,v))
 |[],[],_,_,_,_,_,h=>.inl ⟨rfl,by simpa only[aPut,app_eq,List.nil_append]using h⟩
 |[],_::_,_,_,_,hl,_,_=>by simp at hl
 |_::_,[],_,_,_,hl,_,_=>by simp at hl
 |(a,x0)::es,y::l,i,pre,K,hl,hkey,h=>by
  have hy:y.key=a:=hkey 0 (a,x0) y rfl rfl
  have core:∃b,Instr.sameNow d k y.key=some b∧(b=true→y.key=k∧K (pre++((k,v)::es)))∧(b=false→aPut k v (pre++[(a,x0)]) es K):=by
    rw[hy]
    unfold aPut at h
    simp only[app_eq]at h
    split at h
    ·rename_i u x
     cases d<;>simp only[MapKept.IsKey]at hk
     exact⟨u==x,rfl,fun hb=>⟨by rw[(MapKept.bytes_beq u x).1 hb],h.1 hb⟩,h.2⟩
    ·rename_i q u q' x
     split at h
     ·rename_i he
      have e:=ik_eq he
      subst e
      cases d<;>simp only[MapKept.IsKey]at hk
      subst hk
      exact⟨u==x,by simp[Instr.sameNow],fun hb=>⟨by rw[eq_of_beq hb],h.1 hb⟩,h.2⟩
     ·exact h.elim
    ·exact h.elim
  obtain⟨b,hb,h1,h2⟩:=core
  cases b with
  |true=>exact .inr ⟨0,y,by unfold Instr.findNow;rw[hb];rfl,rfl,(h1 rfl).1,(h1 rfl).2⟩
  |false=>
   have hf:Instr.findNow d k (y::l) i=Instr.findNow d k l (i+1):=by
     conv=>lhs;unfold Instr.findNow
     rw[hb]
   rcases aPut_spec hk v es l (i+1) (pre++[(a,x0)]) (by simpa using hl) (fun j x y h1 h2=>hkey (j+1) x y h1 h2) (h2 rfl)with⟨e1,e2⟩|⟨j,y',e1,e2,e3,e4⟩
   ·exact .inl ⟨by rw[hf];exact e1,by simpa using e2⟩
   ·exact .inr ⟨j+1,y',by rw[hf,e1,Nat.add_assoc,Nat.add_comm 1 j],e2,e3,by simpa using e4⟩
theorem Rel.writtenM(r:Rel B0 bx W0 ok0 Z N ok φ s a w){k g:Nat}{b b':B}(hb:lk s.hp k=some b)(ha:b.active=true)(ha':b'.active=true)(hg:blockOf (φ k)=some g)(o:Obj)
  (hsim:Sim s.hp (pt s.hp k b') k) (hB:BR B0 ok φ (pt s.hp k b') (w.putObj g o) (φ k) b'):
  Rel B0 bx W0 ok0 Z N ok φ (s.setB k b') a (w.putObj g o):=by
 have hoth:∀i,i≠g→(w.putObj g o).heap[i]? = w.heap[i]?:=fun i hi=>World.putObj_heap_other hi
 have hact:=r.act k b g hb ha hg
 have hsz:(w.putObj g o).heap.size=w.heap.size:=World.putObj_size
 have h2:∀b,ok b→(w.putObj g o).heap[b]? = w.heap[b]?:=fun b hb=>hoth b (by rintro rfl;exact hact.1 hb)
 have h4:∀j,Sim s.hp (pt s.hp k b') j:=by
  intro j
  by_cases h:k=j
  ·subst h;exact hsim
  ·unfold Sim;rw[lk_pt,if_neg h];exact Sim.refl s.hp j
 refine r.step (fun _=>False) (fun _ h=>h.elim) (fun _ h=>h) h2 (fun _ _ _=>rfl) (fun j _=>h4 j) (fun j b1 hb1=>?_) (fun j b1 g1 hb1 ha1 hg1=>?_) (fun j j' b1 b2 g1 hne hb1 hb2 ha1 ha2 hg1 hg2=>?_) r.one (fun b hb=>by rw[hsz];exact r.okl b hb) r.oks ?_
 ·rw[lk_pt]at hb1
  by_cases h:k=j
  ·subst h;rw[if_pos rfl]at hb1;simp only[Option.some.injEq]at hb1;subst hb1;exact hB
  ·rw[if_neg h]at hb1
   refine(r.hp j b1 hb1).keep (fun _=>False) (fun _ _ h=>h.elim) (fun _ h=>h) h2 (fun _ _ _=>rfl) (fun j _=>h4 j) (fun ha1 g1 hg1=>hoth g1 ?_)
   rintro rfl
   exact r.inj k j b b1 g1 h hb hb1 ha ha1 hg hg1
 ·rw[lk_pt]at hb1
  by_cases h:k=j
  ·subst h;exact r.act k b g1 hb ha hg1
  ·rw[if_neg h]at hb1;exact r.act j b1 g1 hb1 ha1 hg1
 ·rw[lk_pt]at hb1 hb2
  by_cases h:k=j
  ·subst h
   rw[if_neg hne]at hb2
   exact r.inj k j' b b2 g1 hne hb hb2 ha ha2 hg1 hg2
  ·rw[if_neg h]at hb1
   by_cases h':k=j'
   ·subst h'
    exact r.inj j k b1 b g1 hne hb1 hb ha1 ha hg1 hg2
   ·rw[if_neg h']at hb2
    exact r.inj j j' b1 b2 g1 hne hb1 hb2 ha1 ha2 hg1 hg2
 ·exact⟨rfl,rfl,rfl,by rw[hsz];exact Nat.le_refl _,fun i hi hbx=>hoth i (by rintro rfl;exact hact.2.elim (fun h=>by omega) (fun h=>hbx h))⟩
theorem Frm.writtenM{s1:St}(hs:ActSub s s1){k g:Nat}{b0:B}(b:B)(o:Obj)(hb:lk s.hp k=some b0)(ha:b0.active=true)(hg:blockOf (φ k)=some g):Frm [k] φ s w φ (s1.setB k b) (w.putObj g o) where
 size:=by rw[World.putObj_size];exact Nat.le_refl _
 same:=fun g' _ hn=>World.putObj_heap_other (by rintro rfl;exact hn k b0 (by simp) hb ha hg)
 own:=fun j b' g' hb' ha' hg' _=>by
  simp only[St.setB]at hb'
  rw[lk_pt]at hb'
  by_cases e:k=j
  ·subst e;exact⟨k,b0,hb,ha,hg',.inl rfl⟩
  ·rw[if_neg e]at hb'
   obtain⟨b1,h1,h2⟩:=hs j b' hb' ha'
   exact⟨j,b1,h1,h2,hg',.inl rfl⟩
theorem aMakeMap_sound{t:Nat}(r:Rel B0 bx W0 ok0 Z N ok φ s a w){key:Nat}(hk:lk s.hp key=none){K:V→St→Prop}(h:K (.mref key) (s.setB key (.mp []))):
  ∃v' w',(Instr.makeMap t none).run P w = .ok v' w'∧Pst B0 bx W0 ok0 Z N a (Frm [] φ s w) K v' w':=by
 have hB:BR B0 ok (updF φ key (.map (some w.heap.size))) (pt s.hp key (.mp [])) (w.alloc (.map #[] 0)) (.map (some w.heap.size)) (.mp []):=
  ⟨w.heap.size,#[],0,rfl,heap_alloc_new w _,rfl,by simp,fun j x y hx=>by simp at hx⟩
 have h2:=r.fresh hk (.map #[] 0) (.map (some w.heap.size)) (.mp []) rfl (fun g hg=>by simp[blockOf]at hg;exact hg.symm) hB
 refine⟨_,_,rfl,.mref key,s.setB key (.mp []),ok,_,h,h2,?_,Frm.fresh (.refl _) _ _ _ _ (fun g hg=>by simp[blockOf]at hg;omega)⟩
 exact .mref (es:=[]) (by simp only[St.setB];rw[lk_pt,if_pos rfl]) (by simp[updF])
theorem map_block{hp:List (Nat×B)}{j:Nat}{v:Value}(h:VR ok φ hp w (.mref j) v):∃g,v = .map (some g)∧φ j = .map (some g):=by
 cases h with
 |mref hb hφ=>exact⟨_,rfl,hφ⟩
theorem run_lookup_some{t kt et g:Nat}{d:TypeDesc}{k v:Value}{ents:Array MapEntry}{clock j:Nat}(ht:P.underlying t=some (.map kt et))(hd:P.underlying kt=some d)(hk:MapKept.IsKey d k)(hb:w.heap[g]? = some (.map ents clock))
  (hf:Instr.findNow d k ents.toList 0=some (some (j,v))) (cok:Bool):(Instr.lookup t (.map (some g)) k cok).run P w = .ok (if cok then .tuple #[v,.bool true]else v) w:=by
 have hc:(Instr.checkKey ents.isEmpty 10000 kt k).run P w = .ok () w:=MapKept.run_checkKey hd hk _ 9999
 simp[Instr.lookup,run_underlying ht,MapKept.run_getObj_map hb,hc,MapKept.run_findKey hd hf,Result.andThen]
theorem run_lookup_none{t kt et g:Nat}{d:TypeDesc}{k z:Value}{ents:Array MapEntry}{clock:Nat}(ht:P.underlying t=some (.map kt et))(hd:P.underlying kt=some d)(hk:MapKept.IsKey d k)(hb:w.heap[g]? = some (.map ents clock))
  (hf:Instr.findNow d k ents.toList 0=some none) (hz:(zeroValue et).run P w = .ok z w) (cok:Bool):(Instr.lookup t (.map (some g)) k cok).run P w = .ok (if cok then .tuple #[z,.bool false]else z) w:=by
 have hc:(Instr.checkKey ents.isEmpty 10000 kt k).run P w = .ok () w:=MapKept.run_checkKey hd hk _ 9999
 simp[Instr.lookup,run_underlying ht,MapKept.run_getObj_map hb,hc,MapKept.run_findKey hd hf,hz,Result.andThen]
theorem aLookup_sound{t kt et:Nat}{ti ki ei:TI}(hT:TIok P t ti)(htd:ti.td = .map kt et)(hK:TIok P kt ki)(hE:TIok P et ei)(r:Rel B0 bx W0 ok0 Z N ok φ s a w){j:Nat}{v k:Value}(hv:VR ok φ s.hp w (.mref j) v)
  {es:List (Value×V)} (hj:lk s.hp j=some (.mp es)) (hkb:keyB ki k=true) (hag:ei.agg=false) {z:V} (hz:zeros ei.ck=[z]) {Y:V→Prop} {Nn:Prop} (h:aFind k es Y Nn):
  ∃c c' b,(∀cok,(Instr.lookup t v k cok).run P w = .ok (if cok then .tuple #[c',.bool b]else c') w)∧VR ok φ s.hp w c c'∧((b=true∧Y c)∨(b=false∧c=z∧Nn)):=by
 obtain⟨g,rfl,hφ⟩:=map_block hv
 obtain⟨g',ents,clock,e1,hb,hs,hp,hr⟩:=r.hp j _ hj
 rw[hφ]at e1;cases e1
 obtain⟨_,d,hd,hk⟩:=keyB_is hK hkb
 rcases aFind_spec hk es ents.toList 0 (by simpa using hs) (fun j x y h1 h2=>(hr j x y h1 (by simpa using h2)).1) h with⟨e1,e2⟩|⟨i,x,y,e1,e2,e3,e4⟩
 ·obtain⟨i,zv,hi,_,_,hzv,hzB,hza⟩:=hE.info
  have hrun:(zeroValue et).run P w = .ok zv w:=by simp[zeroValue,typeInfo,hi,hzv]
  obtain⟨hzl,hzr⟩:=zB_vr (ok:=ok) (φ:=φ) (w:=w) (hp:=s.hp) hzB
  have hcs:zv.cells.toList=[zv]:=by
   cases zv<;>simp_all[Value.cells]
  refine⟨z,zv,false,fun cok=>run_lookup_none (hT.map_und htd) hd hk hb e1 hrun cok,?_,.inr ⟨rfl,rfl,e2⟩⟩
  exact hzr 0 z zv (by rw[hz];rfl) (by rw[hcs];rfl)
 ·exact⟨x.2,y.val,true,fun cok=>run_lookup_some (hT.map_und htd) hd hk hb e1 cok,(hr i x y e2 (by simpa using e3)).2,.inl ⟨rfl,e4⟩⟩
theorem vr_two{c:V}{x:Value}{b:Bool}(h:VR ok φ s.hp w c x):VR ok φ s.hp w (.tup [c,vbool b]) (.tuple #[x,.bool b]):=by
 refine .tup rfl fun i c' x' hc hx=>?_
 match i with
 |0=>simp at hc hx;subst hc;subst hx;exact h
 |1=>simp at hc hx;subst hc;subst hx;exact vr_bool _
 |i+2=>simp at hc
theorem aMapUpdate_sound{t kt et:Nat}{ti ki:TI}(hT:TIok P t ti)(htd:ti.td = .map kt et)(hK:TIok P kt ki)(r:Rel B0 bx W0 ok0 Z N ok φ s a w){j:Nat}{m k x:Value}(hm:VR ok φ s.hp w (.mref j) m)
  {es:List (Value×V)} (hj:lk s.hp j=some (.mp es)) (hkb:keyB ki k=true) {c:V} (hx:VR ok φ s.hp w c x) {K:List (Value×V)→Prop} (h:aPut k c [] es K):
  ∃w',(Instr.mapUpdate t m k x).run P w = .ok () w'∧∃es',K es'∧Rel B0 bx W0 ok0 Z N ok φ (s.setB j (.mp es')) a w'∧Frm [j] φ s w φ (s.setB j (.mp es')) w':=by
 obtain⟨g,rfl,hφ⟩:=map_block hm
 obtain⟨g',ents,clock,e1,hb,hs,hp,hr⟩:=r.hp j _ hj
 rw[hφ]at e1;cases e1
 obtain⟨hpl,d,hd,hk⟩:=keyB_is hK hkb
 have ht:=hT.map_und htd
 have hc:(Instr.checkKey false 10000 kt k).run P w = .ok () w:=MapKept.run_checkKey hd hk _ 9999
 have hg:blockOf (φ j)=some g:=by rw[hφ];rfl
 have hlt:g<w.heap.size:=(Array.getElem?_eq_some_iff.1 hb).1
 have hact:=r.act j _ g hj rfl hg
 have mono:∀{es':List (Value×V)} {o:Obj} {c:V} {x:Value},VR ok φ s.hp w c x→VR ok φ (pt s.hp j (.mp es')) (w.putObj g o) c x:=fun {es' o c x} hv=>
  hv.mono (fun _ h=>h) (fun b hbo=>World.putObj_heap_other (by intro e;subst e;exact hact.1 hbo)) (fun _ _ _=>rfl) (fun i _=>by
   unfold Sim
   rw[lk_pt]
   by_cases e:j=i
   ·subst e;rw[if_pos rfl,hj];exact⟨es',rfl⟩
   ·rw[if_neg e];exact Sim.refl s.hp i)
 have sim:∀es',Sim s.hp (pt s.hp j (.mp es')) j:=fun es'=>by unfold Sim;rw[lk_pt,if_pos rfl,hj];exact⟨es',rfl⟩
 rcases aPut_spec hk c es ents.toList 0 [] (by simpa using hs) (fun j x y h1 h2=>(hr j x y h1 (by simpa using h2)).1) h with⟨e1,e2⟩|⟨i,y,e1,e2,e3,e4⟩
 ·have hrun:(Instr.mapUpdate t (.map (some g)) k x).run P w = .ok () (w.putObj g (.map (ents.push {key:=k,val:=x,born:=clock}) (clock+1))):=by
   simp[Instr.mapUpdate,run_underlying ht,MapKept.run_getObj_map hb,hc,MapKept.run_findKey hd e1,MapKept.run_setObj_map _ hb,Result.andThen,World.putObj]
  refine⟨_,hrun,es++[(k,c)],by simpa using e2,r.writtenM hj rfl rfl hg _ (sim _) ?_,Frm.writtenM (.refl _) _ _ hj rfl hg⟩
  rw[hφ]
  refine⟨g,_,_,rfl,World.putObj_heap_same hlt,by simp[hs],fun u hu=>?_,fun i u y hu hy=>?_⟩
  ·rcases List.mem_append.1 hu with hu|hu
   ·exact hp u hu
   ·rw[List.mem_singleton.1 hu];exact hpl
  ·by_cases hi:i<es.length
   ·rw[List.getElem?_append_left hi]at hu
    rw[Array.getElem?_push_lt (by omega)]at hy
    obtain⟨q1,q2⟩:=hr i u y hu (by rw[Array.getElem?_eq_getElem (by omega)];exact hy)
    exact⟨q1,mono q2⟩
   ·have hil:i=es.length:=by
     have:=(List.getElem?_eq_some_iff.1 hu).1
     simp at this;omega
    subst hil
    rw[List.getElem?_append_right (Nat.le_refl _),Nat.sub_self]at hu
    simp only[List.getElem?_cons_zero,Option.some.injEq]at hu
    subst hu
    rw[←hs,Array.getElem?_push_size]at hy
    simp only[Option.some.injEq]at hy
    subst hy
    exact⟨rfl,mono hx⟩
 ·rw[Nat.zero_add]at e1
  have hy':ents[i]? = some y:=by simpa using e2
  have hrun:(Instr.mapUpdate t (.map (some g)) k x).run P w = .ok () (w.putObj g (.map (ents.modify i fun e=>{e with key:=k,val:=x}) clock)):=by
   simp[Instr.mapUpdate,run_underlying ht,MapKept.run_getObj_map hb,hc,MapKept.run_findKey hd e1,hy',e3,MapKept.run_keyThatStays hk,MapKept.run_setObj_map _ hb,Result.andThen,World.putObj]
  refine⟨_,hrun,es.set i (k,c),by simpa using e4,r.writtenM hj rfl rfl hg _ (sim _) ?_,Frm.writtenM (.refl _) _ _ hj rfl hg⟩
  rw[hφ]
  refine⟨g,_,_,rfl,World.putObj_heap_same hlt,by simp[hs],fun u hu=>?_,fun i2 u y2 hu hy2=>?_⟩
  ·rcases List.mem_or_eq_of_mem_set hu with hu|rfl
   ·exact hp u hu
   ·exact hpl
  ·rw[List.getElem?_set]at hu
   rw[Array.getElem?_modify]at hy2
   by_cases hi:i=i2
   ·subst hi
    rw[if_pos rfl,hy']at hy2
    simp only[Option.map_some,Option.some.injEq]at hy2
    rw[if_pos rfl]at hu
    split at hu
    ·simp only[Option.some.injEq]at hu
     subst hu;subst hy2
     exact⟨rfl,mono hx⟩
    ·cases hu
   ·rw[if_neg hi]at hu hy2
    obtain⟨q1,q2⟩:=hr i2 u y2 hu hy2
    exact⟨q1,mono q2⟩
theorem aHeap_sound(hE:EnvOk P E)(hC:CallsOk P Z.gl C)(hI:IOk P Z.gl I)(r:Rel B0 bx W0 ok0 Z N ok φ s a w){g:List (Nat×Bool)}(hg:Holds a g){o:Oper}{key:Nat}{K:V→St→Prop}(h:aHeap E C I s g key o.op K):
  OpRun P (execOp a.eval o) w (Pst B0 bx W0 ok0 Z N a (Frm (opKeys E s g o.op) φ s w) K):=by
 unfold execOp
 generalize o.op=op at h
 cases op with
 |alloc t=>
  simp only[aHeap]at h
  split at h
  ·rename_i ti hti hk
   exact OpRun.of_value (aAlloc_sound (hE.ti hti) r hk h)
  ·exact h.elim
 |box t x=>
  simp only[aHeap]at h
  split at h
  ·rename_i ti cs hti hk hcs
   split at h
   ·exact OpRun.of_value (aBox_sound r hk (vr_ev r hg x) hcs h)
   ·exact h.elim
  ·exact h.elim
 |store t x y=>
  simp only[aHeap]at h
  split at h
  ·rename_i ti hti
   obtain⟨w',h1,s',ok',φ',h2,h3,h4⟩:=aStore_sound (hE.ti hti) r (vr_ev r hg x) (vr_ev r hg y) h
   exact OpRun.of_unit ⟨w',h1,.dead,s',ok',φ',h2,h3,.dead _,h4⟩
  ·exact h.elim
 |buildSlice t len parts=>
  simp only[aHeap]at h
  split at h
  rotate_left
  ·exact h.elim
  rename_i e hti hk
  split at h
  rotate_left
  ·exact h.elim
  rename_i ei hei
  split at h
  rotate_left
  ·exact h.elim
  rename_i cs hle hfill
  split at h
  rotate_left
  ·exact h.elim
  rename_i ds s1 hds
  split at h
  rotate_left
  ·exact h.elim
  rename_i es hes
  exact OpRun.of_value (aBuildSlice_sound (hE.ti hti) rfl (hE.ti hei) r hg hk (Nat.le_of_ble_eq_true hle) hfill hds hes h)
 |makeSlice t n c=>
  simp only[aHeap]at h
  split at h
  rotate_left
  ·exact h.elim
  rename_i e n' c' hti hk hn hc
  split at h
  rotate_left
  ·exact h.elim
  rename_i ei hei
  obtain⟨h0,hnc,hby,hc1,h⟩:=h
  split at h
  rotate_left
  ·exact h.elim
  rename_i z hz
  have e1:=ev_int r hg hn
  have e2:=ev_int r hg hc
  simp only[e1,e2]
  exact OpRun.of_value (aMakeSlice_sound (hE.ti hti) rfl (hE.ti hei) r hk h0 hnc hby hc1 hz h .i64 .i64)
 |call c=>
  obtain⟨callee,args,tys⟩:=c
  cases callee with
  |invoke x m=>exact(h:False).elim
  |builtin b=>
   cases b<;>first|exact(h:False).elim|skip
   case clear=>
    simp only[aHeap]at h
    split at h
    rotate_left
    ·exact h.elim
    rename_i x t hargs htys
    have ha:args = #[x]:=by apply Array.ext';simpa using hargs
    have ht:tys = #[t]:=by apply Array.ext';simpa using htys
    subst ha;subst ht
    split at h
    rotate_left
    ·exact h.elim
    rename_i e k lo n hti hst
    split at h
    rotate_left
    ·exact h.elim
    rename_i ei e' sz es hei hb
    split at h
    rotate_left
    ·exact h.elim
    rename_i z hz
    obtain⟨hsz,h⟩:=h
    have hopk:opKeys E s g (.call {callee:=.builtin .clear,args:=#[x],argTypes:=#[t]})=ownKey (ev s g x):=by
     simp only[opKeys,evs]
    rw[hopk]
    obtain⟨v',w',h1,h2⟩:=aClear_sound (K:=K) (hE.ti hti) rfl (hE.ti hei) r (vr_ev r hg x) hst hb hz hsz o.type h
    exact OpRun.of_run (run_clear_call h1) h2
   case copy=>
    simp only[aHeap]at h
    split at h
    rotate_left
    ·exact h.elim
    rename_i x y t t' hargs htys
    have ha:args = #[x,y]:=by apply Array.ext';simpa using hargs
    have ht:tys = #[t,t']:=by apply Array.ext';simpa using htys
    subst ha;subst ht
    split at h
    rotate_left
    ·exact h.elim
    rename_i e k lo n hti hst
    split at h
    rotate_left
    ·exact h.elim
    rename_i ei e' sz es hei hb
    obtain⟨new,ad,cap,⟨hsz,hall,hk⟩,hv,hC',hnil,_⟩:=aList_sound r (vr_ev r hg y) h
    have hopk:opKeys E s g (.call {callee:=.builtin .copy,args:=#[x,y],argTypes:=#[t,t']})=ownKey (ev s g x):=by
     simp only[opKeys,evs]
    rw[hopk]
    obtain⟨v',w',h1,h2⟩:=aCopy_sound (K:=K) (t':=t') (hE.ti hti) rfl (hE.ti hei) r (vr_ev r hg x) hst hb hC' (fun e=>by rw[←hv];exact hnil e) hsz hall o.type hk
    refine OpRun.of_run (run_copy_call ?_) h2
    rw[hv];exact h1
   simp only[aHeap]at h
   split at h
   rotate_left
   ·exact h.elim
   rename_i va vb t t' hargs htys
   split at h
   rotate_left
   ·exact h.elim
   rename_i e hti hbeq
   have ht:tys = #[t,t]:=by
    have:t=t':=Nat.eq_of_beq_eq_true hbeq
    subst this
    apply Array.ext';simpa using htys
   subst ht
   split at h
   rotate_left
   ·exact h.elim
   rename_i ei hei
   split at h
   ·exact h.elim
   rename_i hb1
   have hb1':1≤ei.bytes:=Nat.le_of_ble_eq_true hb1
   have hml2:∀n:Nat,n*ei.bytes≤140737488355328→n≤maxLen:=fun n h=>by
    have:n≤n*ei.bytes:=Nat.le_mul_of_pos_right _ hb1'
    unfold maxLen;omega
   obtain⟨o1,o2,rfl,hv1,hv2⟩:=evs_two hargs
   have hvr2:=vr_ev r hg o2
   rw[hv2]at hvr2
   obtain⟨new,ad,cap,⟨hall,hk⟩,hv,hC',hnil,hsp⟩:=aList_sound r hvr2 h
   have hvr1:=vr_ev r hg o1
   rw[hv1]at hvr1
   have hopk:opKeys E s g (.call {callee:=.builtin .append,args:=#[o1,o2],argTypes:=#[t,t]})=ownKey va:=by
    simp only[opKeys,hargs]
   rw[hopk]
   clear hopk h hargs hv1
   have hpos:=(hE.ti hei).pos
   have hml:∀n:Nat,(n:Int)*(ei.bytes:Int)≤140737488355328→n*ei.bytes≤140737488355328:=fun n h=>by
    rw[←Int.natCast_mul]at h
    omega
   generalize hgx:a.eval o1=x1 at hvr1
   split at hk
   ·split at hk
    rotate_left
    ·exact hk.elim
    rename_i hkey
    obtain⟨hby,hk⟩:=hk
    cases hvr1
    obtain⟨v',w',h1,h2⟩:=aAppendNil_sound (K:=K) (hE.ti hti) rfl (hE.ti hei) r hkey hC' (fun e=>by rw[←hv];exact hnil e) hsp hall o.type (hml _ hby) (hml2 _ (hml _ hby)) hk
    refine OpRun.of_run (run_append_call ?_) h2
    rw[hgx,hv];exact h1
   ·rename_i k
    split at hk
    rotate_left
    ·exact hk.elim
    rename_i e' sz es hb
    obtain⟨rfl,rfl,hby,hk⟩:=hk
    cases hvr1
    rename_i sz0 es0 hb0 hφ
    obtain⟨v',w',h1,h2⟩:=aAppendOwn_sound (K:=K) (hE.ti hti) rfl (hE.ti hei) r hb hC' (fun e=>by rw[←hv];exact hnil e) hsp hall o.type (hml _ hby) (hml2 _ (hml _ hby)) hk
    refine OpRun.of_run (run_append_call ?_) h2
    rw[hgx,←hφ,hv];exact h1
   ·exact hk.elim
  |value f=>
   simp only[aHeap]at h
   have hf:=vr_ev r hg f
   generalize hfe':a.eval f=fv at hf
   split at h
   rotate_left
   ·exact h.elim
   rename_i fid caps hfe
   rw[hfe]at hf
   cases hf
   rename_i xs hs hr
   rw[app_eq]at h
   have hl:((args.map a.eval).toList++xs.toList).length=(evs s g args.toList++caps).length:=by simp[evs_length,hs]
   have hvs:∀(i:Nat) (c:V) (x:Value),(evs s g args.toList++caps)[i]? = some c→((args.map a.eval).toList++xs.toList)[i]? = some x→VR ok φ s.hp w c x:=fun i c x h1 h2=>by
    have hel:(evs s g args.toList).length=(args.map a.eval).toList.length:=by rw[evs_length];simp
    rw[List.getElem?_append]at h1 h2
    rw[hel]at h1
    split at h1
    ·rename_i hlt
     rw[if_pos hlt]at h2
     exact vr_evs r hg args.toList i c x h1 (by simpa using h2)
    ·rename_i hge
     rw[if_neg hge]at h2
     exact hr _ c x h1 (by simpa using h2)
   have e0:((args.map a.eval).toList++xs.toList).toArray=args.map a.eval++xs:=by apply Array.ext';simp only[Array.toList_append]
   split at h
   ·rename_i hbw
    have hopk:opKeys E s g (.call {callee:=.value f,args:=args,argTypes:=tys})=[]:=by
     simp only[opKeys,hfe,hbw]
    rw[hopk]
    obtain⟨h1,_,h2⟩:=aCallB_sound hC r h
    have h2:=h2 _ hl hvs
    unfold OpRun
    rw[run_call_value h1 hfe',←e0]
    exact h2.mono fun e w'' ⟨v',he,v,hK,hR,hV,hF⟩=>⟨v',he,v,s,ok,φ,hK,hR,hV,hF⟩
   ·rename_i hbw
    split at h
    ·rename_i hin
     have hopk:opKeys E s g (.call {callee:=.value f,args:=args,argTypes:=tys})=allKeys s.hp:=by
         simp only[opKeys,hfe,hbw,hin]
     rw[hopk]
     obtain⟨h1,h2⟩:=hI B0 bx W0 ok0 Z N ok φ s a w fid (evs s g args.toList) caps K (args.map a.eval).toList xs.toList rfl r h (by rw[evs_length];simp) (fun i c x h1 h2=>vr_evs r hg args.toList i c x h1 (by simpa using h2)) (by simpa using hs) (fun i c x h1 h2=>hr i c x h1 (by simpa using h2))
     unfold OpRun
     rw[run_call_value h1 hfe',←e0]
     exact h2
    ·rename_i hin
     have hopk:opKeys E s g (.call {callee:=.value f,args:=args,argTypes:=tys})=argKeys (evs s g args.toList++caps):=by
         simp only[opKeys,hfe,hbw,hin,app_eq]
     rw[hopk]
     obtain⟨h1,h2⟩:=aCallAny_sound hC r h hl hvs
     unfold OpRun
     rw[run_call_value h1 hfe',←e0]
     exact h2
 |makeMap t reserve=>
  cases reserve with
  |some _=>exact(h:False).elim
  |none=>
   simp only[aHeap]at h
   split at h
   ·rename_i hti hk
    exact OpRun.of_value (aMakeMap_sound r hk h)
   ·exact h.elim
 |lookup t x ix cok=>
  simp only[aHeap]at h
  split at h
  rotate_left
  ·exact h.elim
  rename_i kt et j k hti hx hix
  split at h
  rotate_left
  ·exact h.elim
  rename_i ki ei es hki hei hj
  split at h
  rotate_left
  ·exact h.elim
  rename_i z hkb hag hz
  have hm:=vr_ev r hg x
  rw[hx]at hm
  have hkv:=vr_ev r hg ix
  rw[hix]at hkv
  have hkv:=vr_v hkv
  show OpRun P (do pure (.value (←Instr.lookup t (a.eval x) (a.eval ix) cok))) w _
  rw[hkv]
  cases cok with
  |true=>
   obtain⟨c,c',b,h1,h2,h3⟩:=aLookup_sound (hE.ti hti) rfl (hE.ti hki) (hE.ti hei) r hm hj hkb hag hz (Y:=fun v=>K (.tup [v,vbool true]) s) (Nn:=K (.tup [z,vbool false]) s) h
   refine OpRun.of_value ⟨_,_,h1 true,.tup [c,vbool b],s,ok,φ,?_,r,vr_two h2,Frm.same_hp rfl⟩
   rcases h3 with⟨rfl,h3⟩|⟨rfl,rfl,h3⟩
   ·exact h3
   ·exact h3
  |false=>
   obtain⟨c,c',b,h1,h2,h3⟩:=aLookup_sound (hE.ti hti) rfl (hE.ti hki) (hE.ti hei) r hm hj hkb hag hz (Y:=fun v=>K v s) (Nn:=K z s) h
   refine OpRun.of_value ⟨_,_,h1 false,c,s,ok,φ,?_,r,h2,Frm.same_hp rfl⟩
   rcases h3 with⟨rfl,h3⟩|⟨rfl,rfl,h3⟩
   ·exact h3
   ·exact h3
 |mapUpdate t m k x=>
  simp only[aHeap]at h
  split at h
  rotate_left
  ·exact h.elim
  rename_i kt et j kv hti hm hk
  split at h
  rotate_left
  ·exact h.elim
  rename_i ki ei es hki hei hj hc
  split at h
  rotate_left
  ·exact h.elim
  rename_i hkb hag
  have hmv:=vr_ev r hg m
  rw[hm]at hmv
  have hkv:=vr_ev r hg k
  rw[hk]at hkv
  have hkv:=vr_v hkv
  show OpRun P (do Instr.mapUpdate t (a.eval m) (a.eval k) (a.eval x);pure .skip) w _
  rw[hkv]
  obtain⟨w',h1,es',h2,h3,h4⟩:=aMapUpdate_sound (hE.ti hti) rfl (hE.ti hki) r hmv hj hkb (vr_ev r hg x) h
  have hopk:opKeys E s g (.mapUpdate t m k x)=[j]:=by simp only[opKeys,hm,mapKey]
  rw[hopk]
  exact OpRun.of_unit ⟨w',h1,.dead,_,ok,φ,h2,h3,.dead _,h4⟩
 |insert t m k x=>
  simp only[aHeap]at h
  split at h
  rotate_left
  ·exact h.elim
  rename_i kt et j kv hti hm hk
  split at h
  rotate_left
  ·exact h.elim
  rename_i ki ei es hki hei hj hc
  split at h
  rotate_left
  ·exact h.elim
  rename_i hkb hag
  have hmv:=vr_ev r hg m
  rw[hm]at hmv
  have hkv:=vr_ev r hg k
  rw[hk]at hkv
  have hkv:=vr_v hkv
  show OpRun P (do Instr.mapUpdate t (a.eval m) (a.eval k) (a.eval x);pure .skip) w _
  rw[hkv]
  obtain⟨w',h1,es',h2,h3,h4⟩:=aMapUpdate_sound (hE.ti hti) rfl (hE.ti hki) r hmv hj hkb (vr_ev r hg x) h
  have hopk:opKeys E s g (.insert t m k x)=[j]:=by simp only[opKeys,hm,mapKey]
  rw[hopk]
  exact OpRun.of_unit ⟨w',h1,.dead,_,ok,φ,h2,h3,.dead _,h4⟩
 |_=>exact(h:False).elim
end Go.Dm
