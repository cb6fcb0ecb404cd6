/- Part of the proof: contracts of functions; no condition. -/
import Derived.Test.YtabbmgfeemkkbaaGreatDoorDm1
import Derived.Laws.StructEq
namespace Go.Dm
def zB1:CK→Value→Bool
 | .int k,.int k' 0=>decide (k=k')
 | .bool,.bool false=>true
 | .str,.string s=>decide (s.data.toList=[])
 | .sl,.slice none 0 0=>true
 | .ptr,.pointer none=>true
 | .fn,.nilFunc=>true
 | .iface,.nilIface=>true
 | .map,.map none=>true
 | .other,_=>true
 |_,_=>false
def zB:List CK→List Value→Bool
 |[],[]=>true
 |c::r,v::l=>zB1 c v&&zB r l
 |_,_=>false
def xM(ti:TI)(d:TypeDesc):Bool:=
 match ti.td,d with
 | .plain,.int k=>!ti.agg&&decide (ti.ck=[.int k])
 | .plain,.bool=>!ti.agg&&decide (ti.ck=[.bool])
 | .plain,.string=>!ti.agg&&decide (ti.ck=[.str])
 | .slice e,.slice e'=>!ti.agg&&decide (e=e')&&decide (ti.ck=[.sl])
 | .struct fs,.struct fields=>ti.agg&&decide (fields.toList.map (fun f=>(f.offset,f.type))=fs)
 | .arr n e,.array n' e'=>ti.agg&&decide (n=n')&&decide (e=e')
 | .map k e,.map k' e'=>!ti.agg&&decide (k=k')&&decide (e=e')&&decide (ti.ck=[.map])
 | .ptr e,.pointer e'=>!ti.agg&&decide (e=e')&&decide (ti.ck=[.ptr])
 | .iface,.interface _=>!ti.agg&&decide (ti.ck=[.iface])
 | .other,.struct _=>false
 | .other,.array _ _=>false
 | .other,.int _=>false
 | .other,.bool=>false
 | .other,.string=>false
 | .other,.slice _=>false
 | .other,.map _ _=>false
 | .other,_=>!ti.agg&&decide (ti.ck.length=1)
 |_,_=>false
mutual
def DF(P:Program):Nat→Nat→List CK→Bool
 |0,_,_=>false
 |d+1,t,ck=>
  match P.underlying t,ck with
  |some (.int _),[.int _]=>true
  |some .bool,[.bool]=>true
  |some .string,[.str]=>true
  |some (.struct fs),ck=>!P.stoodInHeld t&&DG P d fs.toList 0 ck
  |_,_=>false
def DG(P:Program):Nat→List Field→Nat→List CK→Bool
 |0,_,_,_=>false
 |_+1,[],_,[]=>true
 |_+1,[],_,_::_=>false
 |d+1,f::r,off,ck=>
  decide (f.name≠ "_")&&decide (f.offset=off) &&
  match P.info? f.type with
  |some i=>decide (i.size≤ck.length)&&DF P d f.type (ck.take i.size)&&DG P d r (off+i.size) (ck.drop i.size)
  |none=>false
end
def tiB(P:Program)(t:Nat)(ti:TI):Bool:=
 match P.info? t,P.underlying t with
 |some i,some d=>
  decide (i.size=ti.ck.length)&&decide (i.bytes=ti.bytes)&&decide (0<ti.ck.length) &&
  (match i.zero with
   |some z=>zB ti.ck z.cells.toList&&(match z with | .agg _=>ti.agg | .tuple _=>false|_=>!ti.agg)
   |none=>false)&&xM ti d&&(!ti.eq||(DF P 12 t ti.ck && !P.eqGuardType P.depth t)) &&
  (match d with | .struct fields=>fields.toList.all (fun f=>(P.info? f.type).isSome)|_=>true)
 |_,_=>false
def teB(P:Program):List (Nat×TI)→Bool
 |[]=>true
 |(t,ti)::r=>tiB P t ti&&teB P r
structure c8 (P:Program) (E:Env):Prop where
 te:∀t ti,E.ti t=some ti→tiB P t ti=true
theorem FH{P:Program}{E:Env}(h:teB P E.te=true):c8 P E:=by
 constructor
 intro t ti ht
 unfold Env.ti at ht
 generalize E.te=l at h ht
 induction l with
 |nil=>simp[lk]at ht
 |cons p r ih=>
  obtain⟨a,x⟩:=p
  simp only[teB,Bool.and_eq_true]at h
  simp only[lk]at ht
  split at ht
  ·rename_i he
   have:a=t:=Nat.eq_of_beq_eq_true he
   subst this
   simp at ht;subst ht;exact h.1
  ·exact ih h.2 ht
structure cF (P:Program) (t:Nat) (ti:TI):Prop where
 info:∃i z,P.info? t=some i∧i.size=ti.ck.length∧i.bytes=ti.bytes∧i.zero=some z∧zB ti.ck z.cells.toList=true∧
  (match z with | .agg _=>ti.agg=true | .tuple _=>False|_=>ti.agg=false)
 pos:0<ti.ck.length
 zw:∃d,P.underlying t=some d∧xM ti d=true
 eq:ti.eq=true→DF P 12 t ti.ck=true∧P.eqGuardType P.depth t=false
 DH:∀fields,P.underlying t=some (.struct fields)→∀f∈fields.toList,(P.info? f.type).isSome=true
theorem NZ{P:Program}{t:Nat}{ti:TI}(h:tiB P t ti=true):cF P t ti:=by
 unfold tiB at h
 cases hi:P.info? t with
 |none=>simp[hi]at h
 |some i=>
  cases hu:P.underlying t with
  |none=>simp[hi,hu]at h
  |some d=>
   simp only[hi,hu,Bool.and_eq_true,decide_eq_true_eq,Bool.or_eq_true,Bool.not_eq_true']at h
   obtain⟨⟨⟨⟨⟨⟨h1,h2⟩,h3⟩,h4⟩,h5⟩,h6⟩,h7⟩:=h
   cases hz:i.zero with
   |none=>simp[hz]at h4
   |some z=>
    simp only[hz,Bool.and_eq_true]at h4
    refine⟨⟨i,z,hi,h1,h2,hz,h4.1,?_⟩,h3,⟨d,hu,h5⟩,fun he=>?_,?_⟩
    ·have:=h4.2
     cases z<;>simp_all
    ·rcases h6 with h6|h6
     ·rw[he]at h6;cases h6
     ·exact h6
    ·intro fields hf f hm
     rw[hu]at hf
     simp only[Option.some.injEq]at hf
     subst hf
     simp only[List.all_eq_true]at h7
     exact h7 f hm
theorem c8.ti{P:Program}{E:Env}(h:c8 P E){t:Nat}{ti:TI}(ht:E.ti t=some ti):cF P t ti:=NZ (h.te t ti ht)
theorem cF.kj{P:Program}{t:Nat}{ti:TI}(h:cF P t ti)(w:World):(isAgg t).run P w = .ok ti.agg w:=by
 obtain⟨d,hd,ht⟩:=h.zw
 unfold isAgg
 simp only[Sem.run_bind,run_underlying hd,Result.andThen_ok]
 unfold xM at ht
 split at ht<;>simp_all
theorem cF.dz{P:Program}{t:Nat}{ti:TI}(h:cF P t ti)(w:World):(sizeOf t).run P w = .ok ti.ck.length w:=by
 obtain⟨i,z,hi,hs,_⟩:=h.info
 simp[Go.sizeOf,typeInfo,hi,hs]
variable {P:Program} {E:Env}
theorem DI{ok:Nat→Prop}{φ:Nat→Value}{hp:List (Nat×B)}{w:World}{x:Value}{c:V}(h:rn x=some c):VR ok φ hp w c x:=by
 unfold rn at h
 split at h<;>first|(simp only[Option.some.injEq]at h;subst h;first|exact .nil|exact .d (.v rfl))|cases h
theorem ua{ok:Nat→Prop}{φ:Nat→Value}{hp:List (Nat×B)}{w:World}:∀{xs:List Value} {l:List V},jL xs=some l→xs.length=l.length∧∀(i:Nat) (c:V) (x:Value),l[i]? = some c→xs[i]? = some x→VR ok φ hp w c x
 |[],l,h=>by simp only[jL,Option.some.injEq]at h;subst h;exact⟨rfl,fun i c x hc=>by simp at hc⟩
 |x::r,l,h=>by
  simp only[jL]at h
  split at h
  ·rename_i v l' h1 h2
   simp only[Option.some.injEq]at h;subst h
   obtain⟨e1,e2⟩:=ua (ok:=ok) (φ:=φ) (hp:=hp) (w:=w) h2
   refine⟨by simp[e1],fun i c y hc hy=>?_⟩
   cases i with
   |zero=>simp at hc hy;subst hc;subst hy;exact DI h1
   |succ i=>exact e2 i c y (by simpa using hc) (by simpa using hy)
  ·cases h
theorem FI{ok:Nat→Prop}{φ:Nat→Value}{hp:List (Nat×B)}{w:World}(x:Value):VR ok φ hp w (ofConst x) x:=by
 unfold ofConst
 split
 ·rename_i xs
  cases h:jL xs.toList with
  |some l=>
   obtain⟨e1,e2⟩:=ua (ok:=ok) (φ:=φ) (hp:=hp) (w:=w) h
   exact .agg (by simpa using e1) (fun i c x hc hx=>e2 i c x hc (by simpa using hx))
  |none=>exact .dead _
 all_goals first|exact .dead _|exact .nil|exact .d (.v rfl)
def Holds(a:Act)(g:List (Nat×Bool)):Prop:=∀t b,(t,b)∈g→a.tmps.getD t undef = .bool b
theorem N0{g:List (Nat×Bool)}{t:Nat}{b:Bool}(h:Wf g t b=true):(t,b)∈g:=by
 induction g with
 |nil=>simp[Wf]at h
 |cons p r ih=>
  obtain⟨u,w⟩:=p
  simp only[Wf]at h
  split at h
  ·rename_i he
   have hu:u=t:=Nat.eq_of_beq_eq_true he
   subst hu
   split at h
   ·simp
   ·simp
   ·exact List.mem_cons_of_mem _ (ih h)
  ·exact List.mem_cons_of_mem _ (ih h)
section
variable {B0:Nat} {bx:List Nat} {W0:World} {aI:Nat→Prop} {Z:Zr} {N:Nat} {ok:Nat→Prop} {φ:Nat→Value} {s:St} {a:Act} {w:World}
theorem zO(r:Rel B0 bx W0 aI Z N ok φ s a w){g:List (Nat×Bool)}(hg:Holds a g)(t:Nat):VR ok φ s.hp w (evT s g t) (a.tmps.getD t undef):=by
 unfold evT
 split
 ·rename_i x h;exact r.tm t x h
 ·split
  ·exact .dead _
  ·rename_i t' w' x h
   split
   ·rename_i hk
    refine r.gd t t' w' x h ?_
    unfold gkn at hk
    split at hk
    ·rename_i b hb
     have:=r.kn t' b hb
     cases b<;>cases w'<;>simp_all
    ·cases hk
   ·split
    ·rename_i hi
     exact r.gd t t' w' x h (hg _ _ (N0 hi))
    ·exact .dead _
theorem bI(r:Rel B0 bx W0 aI Z N ok φ s a w){g:List (Nat×Bool)}(hg:Holds a g)(x:Operand):VR ok φ s.hp w (ev s g x) (a.eval x):=by
 cases x with
 |tmp t=>exact zO r hg t
 |const x=>exact FI x
 |global g=>exact .dead _
 |func f=>exact .fn (by simp) (by simp)
theorem rG(r:Rel B0 bx W0 aI Z N ok φ s a w){g:List (Nat×Bool)}(hg:Holds a g)(l:List Operand):
  ∀(i:Nat) (c:V) (x:Value),(kQ s g l)[i]? = some c→(l.map a.eval)[i]? = some x→VR ok φ s.hp w c x:=by
 induction l with
 |nil=>intro i c x h;simp[kQ]at h
 |cons o rest ih=>
  intro i c x h1 h2
  cases i with
  |zero=>simp[kQ]at h1 h2;subst h1;subst h2;exact bI r hg o
  |succ i=>exact ih i c x (by simpa[kQ]using h1) (by simpa using h2)
theorem dH(s:St)(g:List (Nat×Bool))(l:List Operand):(kQ s g l).length=l.length:=by
 induction l with
 |nil=>rfl
 |cons o r ih=>simp[kQ,ih]
end
theorem jP{α:Type}{o n:Nat}{l c:List α}(h:cut o n l=some c):o+n≤l.length∧c=(l.drop o).take n:=by
 induction o generalizing l n c with
 |zero=>
  induction n generalizing l c with
  |zero=>simp[cut]at h;subst h;simp
  |succ n ih=>
   cases l with
   |nil=>simp[cut]at h
   |cons x r=>
    simp only[cut]at h
    split at h
    ·rename_i l' wy
     have:=ih wy
     simp at h;subst h
     simp at this ⊢
     exact this
    ·cases h
 |succ o ih=>
  cases l with
  |nil=>cases n<;>simp[cut]at h
  |cons x r=>
   have h':cut o n r=some c:=by cases n<;>simpa[cut]using h
   have:=ih h'
   simp
   exact⟨by omega,this.2⟩
theorem jQ{α:Type}{o:Nat}{xs l c:List α}(h:over o xs l=some c):o+xs.length≤l.length∧c=l.take o++xs++l.drop (o+xs.length):=by
 induction o generalizing l xs c with
 |zero=>
  induction xs generalizing l c with
  |nil=>simp[over]at h;subst h;simp
  |cons x xs ih=>
   cases l with
   |nil=>simp[over]at h
   |cons y r=>
    simp only[over]at h
    split at h
    ·rename_i l' wy
     have:=ih wy
     simp at h;subst h
     simp at this ⊢
     exact this
    ·cases h
 |succ o ih=>
  cases l with
  |nil=>cases xs<;>simp[over]at h
  |cons y r=>
   have h':∃l',over o xs r=some l'∧c=y::l':=by
    cases xs<;>simp only[over]at h<;>(split at h<;>first|(rename_i l' wy;simp at h;exact⟨l',wy,h.symm⟩)|cases h)
   obtain⟨l',h1,rfl⟩:=h'
   have:=ih h1
   simp
   refine⟨by omega,?_⟩
   rw[this.2]
   have:o+1+xs.length=(o+xs.length)+1:=by omega
   simp[this]
end Go.Dm
