/- Part of the proof: contracts of functions; no condition. -/
import Derived.Test.YtabbmgfeemkkbaaGreatDoorDm4
import Derived.Laws.Concat
namespace Go.Dm
variable {P:Program} {E:Env}
variable {B0:Nat} {bx:List Nat} {W0:World} {aI:Nat→Prop} {Z:Zr} {N:Nat} {ok:Nat→Prop} {φ:Nat→Value} {s:St} {a:Act} {w:World}
theorem aiK{x:Value}{v:Value}(h:Rd ok w v (.v x)):v=x∧plain x=true:=by cases h;exact⟨rfl,by assumption⟩
theorem iV{hp:List (Nat×B)}{x v:Value}(h:VR ok φ hp w (.d (.v x)) v):v=x:=by cases h;rename_i h;exact(aiK h).1
theorem cj{hp:List (Nat×B)}(b:Bool):VR ok φ hp w (b_ b) (.bool b):=.d (.v rfl)
theorem dX{hp:List (Nat×B)}(k:IntKind)(n:Int):VR ok φ hp w (.d (.v (.int k n))) (.int k n):=.d (.v rfl)
theorem zQ{op:BinOp}{k k':IntKind}{x y:Int}{K:V→Prop}(h:aB op k x y K)(hk:op = .shl∨op = .shr∨k=k')(t:TypeId):
  ∃v v',(∀w,(Go.binOp op t (.int k x) (.int k' y)).run P w = .ok v' w)∧K v∧VR ok φ s.hp w v v':=by
 cases op<;>simp only[aB]at h
 case shl=>exact⟨_,_,fun w=>by simp[Go.binOp,Op.shift,Sem.run,aB.shl,Int.not_lt.2 h.1],h.2,dX _ _⟩
 case shr=>exact⟨_,_,fun w=>by simp[Go.binOp,Op.shift,Sem.run,aB.shr,Int.not_lt.2 h.1],h.2,dX _ _⟩
 all_goals
  obtain rfl:k=k':=by
   rcases hk with hk|hk|hk
   ·cases hk
   ·cases hk
   ·exact hk
 case add=>exact⟨_,_,fun w=>by simp[Go.binOp,Op.intArith,Sem.run],h,dX _ _⟩
 case sub=>exact⟨_,_,fun w=>by simp[Go.binOp,Op.intArith,Sem.run],h,dX _ _⟩
 case mul=>exact⟨_,_,fun w=>by simp[Go.binOp,Op.intArith,Sem.run],h,dX _ _⟩
 case quo=>exact⟨_,_,fun w=>by simp[Go.binOp,Op.intDiv,Sem.run,h.1],h.2,dX _ _⟩
 case rem=>exact⟨_,_,fun w=>by simp[Go.binOp,Op.intDiv,Sem.run,h.1],h.2,dX _ _⟩
 case and=>exact⟨_,_,fun w=>by simp[Go.binOp,Op.intBits,Sem.run,aB.bits],h,dX _ _⟩
 case or=>exact⟨_,_,fun w=>by simp[Go.binOp,Op.intBits,Sem.run,aB.bits],h,dX _ _⟩
 case xor=>exact⟨_,_,fun w=>by simp[Go.binOp,Op.intBits,Sem.run,aB.bits],h,dX _ _⟩
 all_goals exact⟨_,_,fun w=>by simp[Go.binOp,Op.intCmp,Sem.run],h,cj _⟩
theorem yb{hp:List (Nat×B)}{ck:List CK}:∀{cs ds:List V} {b:Bool} {xs ys:List Value},jr ck cs ds=some b→xs.length=cs.length→ys.length=ds.length→
  (∀(i:Nat) (c:V) (x:Value),cs[i]? = some c→xs[i]? = some x→VR ok φ hp w c x)→(∀(i:Nat) (c:V) (x:Value),ds[i]? = some c→ys[i]? = some x→VR ok φ hp w c x)→
  p9 ck xs ys=some b:=by
 induction ck with
 |nil=>
  intro cs ds b xs ys h hx hy _ _
  cases cs<;>cases ds<;>simp[jr]at h
  simp at hx hy;subst hx;subst hy;simp[p9,h]
 |cons c r ih=>
  intro cs ds b xs ys h hx hy h1 h2
  have key:∀(u v:V) (eN Wl:List V) (t:Bool) (b0:Bool) (x y:Value),cs=u::eN→ds=v::Wl→jr r eN Wl=some t→u = .d (.v x)→v = .d (.v y)→
    Ck c x y=some b0→b=(b0&&t)→p9 (c::r) xs ys=some b:=by
   intro u v eN Wl t b0 x y e1 e2 he hu hv NK hb
   subst e1;subst e2
   cases xs with
   |nil=>simp at hx
   |cons x' Wj=>
    cases ys with
    |nil=>simp at hy
    |cons y' E8=>
     have hx0:=h1 0 u x' rfl rfl
     have hy0:=h2 0 v y' rfl rfl
     subst hu;subst hv
     have:=iV hx0;subst this
     have:=iV hy0;subst this
     rw[hb]
     exact FJ NK (ih he (by simpa using hx) (by simpa using hy) (fun i c x a b=>h1 (i+1) c x (by simpa using a) (by simpa using b)) (fun i c x a b=>h2 (i+1) c x (by simpa using a) (by simpa using b)))
  unfold jr at h
  split at h
  ·rename_i heq;cases heq
  ·rename_i heq
   simp only[List.cons.injEq]at heq
   obtain⟨rfl,rfl⟩:=heq
   split at h
   ·rename_i hk hr
    simp only[Option.some.injEq]at h
    exact key _ _ _ _ _ _ _ _ rfl rfl hr rfl rfl (by simp[Ck,hk]) h.symm
   ·cases h
  ·rename_i heq
   simp only[List.cons.injEq]at heq
   obtain⟨rfl,rfl⟩:=heq
   split at h
   ·rename_i hr
    simp only[Option.some.injEq]at h
    exact key _ _ _ _ _ _ _ _ rfl rfl hr rfl rfl (by simp[Ck]) h.symm
   ·cases h
  ·rename_i heq
   simp only[List.cons.injEq]at heq
   obtain⟨rfl,rfl⟩:=heq
   split at h
   ·rename_i hr
    simp only[Option.some.injEq]at h
    exact key _ _ _ _ _ _ _ _ rfl rfl hr rfl rfl (by simp[Ck]) h.symm
   ·cases h
  ·cases h
theorem mD(d t e:Nat)(h:P.underlying t=some (.pointer e))(w:World):(Op.equalIn (d+1) t (.pointer none) (.pointer none)).run P w = .ok true w:=by
 simp[Op.equalIn,run_underlying h]
theorem iW(d t e:Nat)(x:Addr)(h:P.underlying t=some (.pointer e))(w:World):(Op.equalIn (d+1) t (.pointer (some x)) (.pointer none)).run P w = .ok false w:=by
 simp[Op.equalIn,run_underlying h]
theorem jv(d t e:Nat)(a:Option Addr)(n c:Nat)(h:P.underlying t=some (.slice e))(w:World):(Op.equalIn (d+1) t (.slice a n c) (.slice none 0 0)).run P w = .ok a.isNone w:=by
 cases a<;>simp[Op.equalIn,run_underlying h]
theorem nz(d t:Nat)(ms)(u:TypeId)(z:Value)(h:P.underlying t=some (.interface ms))(w:World):(Op.equalIn (d+1) t (.iface u z) .nilIface).run P w = .ok false w:=by
 simp[Op.equalIn,run_underlying h]
theorem nA(d t:Nat)(ms)(h:P.underlying t=some (.interface ms))(w:World):(Op.equalIn (d+1) t .nilIface .nilIface).run P w = .ok true w:=by
 simp[Op.equalIn,run_underlying h]
theorem uc:∀{cs:List V} {k:IntKind} {l:List Int},allI cs=some (k,l)→cs=l.map fun a=>V.d (.v (.int k a))
 |[],_,_,h=>by simp[allI]at h
 |v::r,k,l,h=>by
  unfold allI at h
  split at h
  ·split at h
   ·simp only[Option.some.injEq,Prod.mk.injEq]at h;obtain⟨rfl,rfl⟩:=h;rfl
   ·split at h
    ·rename_i k' l' hr
     split at h
     ·rename_i hk
      simp only[Option.some.injEq,Prod.mk.injEq]at h;obtain⟨rfl,rfl⟩:=h
      have:=ub hk;subst this
      rw[uc hr];rfl
     ·cases h
    ·cases h
  ·cases h
theorem ud:∀{cs:List V} {l:List Bool},FB cs=some l→cs=l.map fun a=>V.d (.v (.bool a))
 |[],_,h=>by simp[FB]at h;subst h;rfl
 |v::r,l,h=>by
  unfold FB at h
  split at h
  ·split at h
   ·rename_i l' hr
    simp only[Option.some.injEq]at h;subst h
    rw[ud hr];rfl
   ·cases h
  ·cases h
theorem ue:∀{cs:List V} {l:List ByteArray},FC cs=some l→cs=l.map fun a=>V.d (.v (.string a))
 |[],_,h=>by simp[FC]at h;subst h;rfl
 |v::r,l,h=>by
  unfold FC at h
  split at h
  ·split at h
   ·rename_i l' hr
    simp only[Option.some.injEq]at h;subst h
    rw[ue hr];rfl
   ·cases h
  ·cases h
theorem Cl:∀{cs:List V} {m:Nat} {x:V},cs[m]? = some x→cut m 1 cs=some [x]
 |[],m,x,h=>by simp at h
 |a::r,0,x,h=>by simp at h;subst h;cases r<;>simp[cut]
 |a::r,m+1,x,h=>by simp only[cut];exact Cl (by simpa using h)
theorem yc{agg:Bool}{sz:Nat}{cs:List V}{n:Int}{K:V→Prop}:∀{f j:Nat},xW agg sz cs n K j f→∀i:Nat,j≤i→i<j+f→n=(i:Int)→
  (match cut (i*sz) sz cs with|some l=>(match fL agg l with|some v=>K v|none=>False)|none=>False)
 |0,j,h,i,h1,h2,_=>by omega
 |f+1,j,h,i,h1,h2,h3=>by
  by_cases e:i=j
  ·subst e;exact h.1 h3
  ·exact yc h.2 i (by simp only[Nat.succ_eq_add_one];omega) (by simp only[Nat.succ_eq_add_one];omega) h3
theorem N3{ei:TI}{cs:List V}{len:Nat}{n:Int}{K:V→Prop}(h:TH ei cs len n K)(h0:0≤n)(h1:n<(len:Int)):
  (match cut (n.toNat*ei.ck.length) ei.ck.length cs with|some l=>(match fL ei.agg l with|some v=>K v|none=>False)|none=>False):=by
 have gen:xW ei.agg ei.ck.length cs n K 0 len→(match cut (n.toNat*ei.ck.length) ei.ck.length cs with|some l=>(match fL ei.agg l with|some v=>K v|none=>False)|none=>False):=
  fun h=>yc h n.toNat (Nat.zero_le _) (by omega) (by omega)
 unfold TH at h
 split at h
 ·rename_i ha hl hlen
  have hl:=Nat.eq_of_beq_eq_true hl
  have hlen:=Nat.eq_of_beq_eq_true hlen
  have one:∀x:V,cs[n.toNat]? = some x→K x→(match cut (n.toNat*ei.ck.length) ei.ck.length cs with|some l=>(match fL ei.agg l with|some v=>K v|none=>False)|none=>False):=by
   intro x hx hk
   rw[hl,Nat.mul_one,Cl hx,ha]
   exact hk
  split at h
  ·rename_i k l hc
   have hc:=uc hc
   subst hc
   simp only[List.length_map]at hlen
   refine one _ ?_ h
   rw[List.getElem?_map,List.getD_eq_getElem?_getD,List.getElem?_eq_getElem (by omega)]
   rfl
  ·split at h
   ·rename_i l hc
    have hc:=ud hc
    subst hc
    simp only[List.length_map]at hlen
    refine one _ ?_ h
    rw[List.getElem?_map,List.getD_eq_getElem?_getD,List.getElem?_eq_getElem (by omega)]
    rfl
   ·split at h
    ·rename_i l hc
     have hc:=ue hc
     subst hc
     simp only[List.length_map]at hlen
     refine one _ ?_ h
     rw[List.getElem?_map,List.getD_eq_getElem?_getD,List.getElem?_eq_getElem (by omega)]
     rfl
    ·exact gen h
 ·exact gen h
def cW(op:BinOp)(t:TypeId)(xo yo:Operand)(x y:Value):Sem Value:=do eqGuard op t xo yo x y;Go.binOp op t x y
theorem zR(hE:c8 P E){op:BinOp}{t:Nat}{xv:V}{x:Value}{K:V→Prop}(h:NU E op t xv K)(xo:Operand)
  (hx:VR ok φ s.hp w xv x):∃v v',(∀w,(cW op t xo (.const .nilIface) x .nilIface).run P w = .ok v' w)∧K v∧VR ok φ s.hp w v v':=by
 unfold NU at h
 split at h
 rotate_left
 ·exact h.elim
 rename_i ti dY
 have hT:=hE.ti dY
 obtain⟨d,hd,ht⟩:=hT.zw
 obtain⟨ms,rfl⟩:∃ms,d = .interface ms:=by
  unfold xM at ht
  cases d<;>simp_all
 have fe:∀(u:TypeId) (z:Value) w,(eqGuard op t xo (.const .nilIface) (.iface u z) .nilIface).run P w = .ok () w:=by
  intro u z w
  unfold eqGuard;cases op<;>simp
 have gn:∀w,(eqGuard op t xo (.const .nilIface) .nilIface .nilIface).run P w = .ok () w:=by
  intro w
  unfold eqGuard;cases op<;>cases xo<;>simp
 have NK:∀(u:TypeId) (z:Value) w,(Op.equal t (.iface u z) .nilIface).run P w = .ok false w:=fun u z w=>nz 9999 t ms u z hd w
 have Wm:∀w,(Op.equal t .nilIface .nilIface).run P w = .ok true w:=fun w=>nA 9999 t ms hd w
 split at h
 ·cases hx with|d hx=>cases hx with|wm=>exact⟨_,_,fun w=>by simp only[cW,Sem.run_bind,fe,Result.andThen_ok,Go.binOp,NK,Sem.run_pure],h,cj _⟩
 ·cases hx with|d hx=>cases hx with|wm=>exact⟨_,_,fun w=>by simp only[cW,Sem.run_bind,fe,Result.andThen_ok,Go.binOp,NK,Sem.run_pure];rfl,h,cj _⟩
 ·have:=iV hx;subst this
  exact⟨_,_,fun w=>by simp only[cW,Sem.run_bind,gn,Result.andThen_ok,Go.binOp,Wm,Sem.run_pure],h,cj _⟩
 ·have:=iV hx;subst this
  exact⟨_,_,fun w=>by simp only[cW,Sem.run_bind,gn,Result.andThen_ok,Go.binOp,Wm,Sem.run_pure];rfl,h,cj _⟩
 ·exact h.elim
theorem zS(hE:c8 P E){op:BinOp}{t:Nat}{xv yv:V}{x y:Value}{K:V→Prop}(h:Fz E op t xv yv K)(xo yo:Operand)
  (hx:VR ok φ s.hp w xv x) (hy:VR ok φ s.hp w yv y):∃v v',(∀w,(cW op t xo yo x y).run P w = .ok v' w)∧K v∧VR ok φ s.hp w v v':=by
 unfold Fz at h
 split at h
 ·
  have:=iV hx;subst this
  have:=iV hy;subst this
  rename_i k n k' m
  have hg:∀w,(eqGuard op t xo yo (.int k n) (.int k' m)).run P w = .ok () w:=by
   intro w
   unfold eqGuard;cases op<;>simp
  have fin:aB op k n m K→(op = .shl∨op = .shr∨k=k')→∃v v',(∀w,(cW op t xo yo (.int k n) (.int k' m)).run P w = .ok v' w)∧K v∧VR ok φ s.hp w v v':=by
   intro h hk
   obtain⟨v,v',h1,h2,h3⟩:=zQ (P:=P) (s:=s) (ok:=ok) (φ:=φ) (w:=w) h hk t
   exact⟨v,v',fun w=>by simp only[cW,Sem.run_bind,hg,Result.andThen_ok,h1],h2,h3⟩
  split at h
  ·exact fin h (.inl rfl)
  ·exact fin h (.inr (.inl rfl))
  ·rename_i hk;exact fin h (.inr (.inr (ub hk)))
  ·exact h.elim
 ·
  have:=iV hx;subst this
  have:=iV hy;subst this
  rename_i b c
  have hg:∀w,(eqGuard op t xo yo (.string b) (.string c)).run P w = .ok () w:=by
   intro w
   unfold eqGuard;cases op<;>simp
  have aiL:IntKind.i64.max=9223372036854775807:=by decide
  split at h
  ·obtain⟨h1,h2⟩:=h
   refine⟨_,.string (b++c),fun w=>?_,h2,.d (.v rfl)⟩
   simp only[cW,Sem.run_bind,hg,Result.andThen_ok,Go.binOp,Op.stringOp,aiL]
   rw[if_neg (by omega)];rfl
  all_goals first|(exact h.elim)|skip
  all_goals
   refine⟨_,_,fun w=>?_,h,cj _⟩
   simp only[cW,Sem.run_bind,hg,Result.andThen_ok,Go.binOp,Op.stringOp,←beq_toListBytes]
   rfl
 ·
  have:=iV hx;subst this
  have:=iV hy;subst this
  rename_i b c
  have hg:∀w,(eqGuard op t xo yo (.bool b) (.bool c)).run P w = .ok () w:=by
   intro w
   unfold eqGuard;cases op<;>simp
  split at h
  rotate_left
  ·exact h.elim
  rename_i ti dY
  have hT:=hE.ti dY
  obtain⟨d,hd,ht⟩:=hT.zw
  have DN:d = .bool:=by
   unfold xM at ht
   cases d<;>simp_all
  subst DN
  have he:∀w,(Op.equal t (.bool b) (.bool c)).run P w = .ok (b==c) w:=fun w=>run_equalIn_bool' w 9999 t b c hd
  split at h
  ·exact⟨_,_,fun w=>by simp only[cW,Sem.run_bind,hg,Result.andThen_ok,Go.binOp,he,Sem.run_pure],h,cj _⟩
  ·exact⟨_,_,fun w=>by simp only[cW,Sem.run_bind,hg,Result.andThen_ok,Go.binOp,he,Sem.run_pure],h,cj _⟩
  ·exact h.elim
 ·
  have:=iV hx;subst this
  have:=iV hy;subst this
  have hg:∀w,(eqGuard op t xo yo (.pointer none) (.pointer none)).run P w = .ok () w:=by
   intro w
   unfold eqGuard;cases op<;>simp
  split at h
  rotate_left
  ·exact h.elim
  rename_i ti e dY
  have hT:=hE.ti dY
  obtain⟨d,hd,ht⟩:=hT.zw
  obtain⟨e',rfl⟩:∃e',d = .pointer e':=by
   unfold xM at ht
   cases d<;>simp_all
  have he:∀w,(Op.equal t (.pointer none) (.pointer none)).run P w = .ok true w:=fun w=>mD 9999 t e' hd w
  split at h
  ·exact⟨_,_,fun w=>by simp only[cW,Sem.run_bind,hg,Result.andThen_ok,Go.binOp,he,Sem.run_pure],h,cj _⟩
  ·exact⟨_,_,fun w=>by simp only[cW,Sem.run_bind,hg,Result.andThen_ok,Go.binOp,he,Sem.run_pure];rfl,h,cj _⟩
  ·exact h.elim
 ·
  have:=iV hy;subst this
  cases hx
  rename_i DM g off x0 ao3 hc0 hr0
  have hg:∀w,(eqGuard op t xo yo (.pointer (some ⟨g,off,none⟩)) (.pointer none)).run P w = .ok () w:=by
   intro w
   unfold eqGuard;cases op<;>simp
  split at h
  rotate_left
  ·exact h.elim
  rename_i ti e dY
  have hT:=hE.ti dY
  obtain⟨d,hd,ht⟩:=hT.zw
  obtain⟨e',rfl⟩:∃e',d = .pointer e':=by
   unfold xM at ht
   cases d<;>simp_all
  have he:∀w,(Op.equal t (.pointer (some ⟨g,off,none⟩)) (.pointer none)).run P w = .ok false w:=fun w=>iW 9999 t e' _ hd w
  split at h
  ·exact⟨_,_,fun w=>by simp only[cW,Sem.run_bind,hg,Result.andThen_ok,Go.binOp,he,Sem.run_pure],h,cj _⟩
  ·exact⟨_,_,fun w=>by simp only[cW,Sem.run_bind,hg,Result.andThen_ok,Go.binOp,he,Sem.run_pure];rfl,h,cj _⟩
  ·exact h.elim
 ·
  have:=iV hy;subst this
  cases hx
  rename_i k off g DM hφ jR
  have hg:∀w,(eqGuard op t xo yo (.pointer (some ⟨g,off,none⟩)) (.pointer none)).run P w = .ok () w:=by
   intro w
   unfold eqGuard;cases op<;>simp
  split at h
  rotate_left
  ·exact h.elim
  rename_i ti e dY
  have hT:=hE.ti dY
  obtain⟨d,hd,ht⟩:=hT.zw
  obtain⟨e',rfl⟩:∃e',d = .pointer e':=by
   unfold xM at ht
   cases d<;>simp_all
  have he:∀w,(Op.equal t (.pointer (some ⟨g,off,none⟩)) (.pointer none)).run P w = .ok false w:=fun w=>iW 9999 t e' _ hd w
  split at h
  ·exact⟨_,_,fun w=>by simp only[cW,Sem.run_bind,hg,Result.andThen_ok,Go.binOp,he,Sem.run_pure],h,cj _⟩
  ·exact⟨_,_,fun w=>by simp only[cW,Sem.run_bind,hg,Result.andThen_ok,Go.binOp,he,Sem.run_pure];rfl,h,cj _⟩
  ·exact h.elim
 ·
  rename_i es
  cases hy
  cases hx
  rename_i hd
  obtain⟨a,n,c,rfl,ha⟩:∃a n c,x = .slice a n c∧(a=none→es=[]):=by
   cases hd with
   |nil=>exact⟨none,0,0,rfl,fun _=>rfl⟩
   |aA=>exact⟨_,_,_,rfl,fun h=>by cases h⟩
   |sl=>exact⟨_,_,_,rfl,fun h=>by cases h⟩
  have hg:∀w,(eqGuard op t xo yo (.slice a n c) (.slice none 0 0)).run P w = .ok () w:=by
   intro w
   unfold eqGuard;cases op<;>simp
  split at h
  rotate_left
  ·exact h.elim
  rename_i ti e dY
  have hT:=hE.ti dY
  obtain⟨d,hd,ht⟩:=hT.zw
  obtain⟨e',rfl⟩:∃e',d = .slice e':=by
   unfold xM at ht
   cases d<;>simp_all
  have he:∀w,(Op.equal t (.slice a n c) (.slice none 0 0)).run P w = .ok a.isNone w:=fun w=>jv 9999 t e' a n c hd w
  have h:=h a.isNone (fun hh=>ha (by simpa using hh))
  split at h
  ·exact⟨_,_,fun w=>by simp only[cW,Sem.run_bind,hg,Result.andThen_ok,Go.binOp,he,Sem.run_pure],h,cj _⟩
  ·exact⟨_,_,fun w=>by simp only[cW,Sem.run_bind,hg,Result.andThen_ok,Go.binOp,he,Sem.run_pure],h,cj _⟩
  ·exact h.elim
 ·
  cases hy
  cases hx
  have hg:∀w,(eqGuard op t xo yo (.slice none 0 0) (.slice none 0 0)).run P w = .ok () w:=by
   intro w
   unfold eqGuard;cases op<;>simp
  split at h
  rotate_left
  ·exact h.elim
  rename_i ti e dY
  have hT:=hE.ti dY
  obtain⟨d,hd,ht⟩:=hT.zw
  obtain⟨e',rfl⟩:∃e',d = .slice e':=by
   unfold xM at ht
   cases d<;>simp_all
  have he:∀w,(Op.equal t (.slice none 0 0) (.slice none 0 0)).run P w = .ok true w:=fun w=>jv 9999 t e' none 0 0 hd w
  split at h
  ·exact⟨_,_,fun w=>by simp only[cW,Sem.run_bind,hg,Result.andThen_ok,Go.binOp,he,Sem.run_pure],h,cj _⟩
  ·exact⟨_,_,fun w=>by simp only[cW,Sem.run_bind,hg,Result.andThen_ok,Go.binOp,he,Sem.run_pure];rfl,h,cj _⟩
  ·exact h.elim
 ·
  cases hx
  rename_i xs nB hxr
  cases hy
  rename_i ys N4 N5
  split at h
  rotate_left
  ·exact h.elim
  rename_i ti dY
  have hT:=hE.ti dY
  split at h
  rotate_left
  ·exact h.elim
  rename_i b aiM aiN hcells
  obtain⟨hq,hgt⟩:=hT.eq aiN
  have hv:=yb (ok:=ok) (φ:=φ) (w:=w) (hp:=s.hp) (xs:=xs.toList) (ys:=ys.toList) hcells (by simpa using nB) (by simpa using N4)
   (fun i c x h1 h2=>hxr i c x h1 (by simpa using h2)) (fun i c x h1 h2=>N5 i c x h1 (by simpa using h2))
  have he:∀w,(Op.equal t (.agg xs) (.agg ys)).run P w = .ok b w:=by
   intro w
   rcases(N2 P 12).1 t ti.ck _ _ b 10000 (by decide) hq hv with⟨hA,x,y,h1,h2,_⟩|⟨hA,h1⟩
   ·have h3:=hT.kj w
    rw[hA w,aiM]at h3
    simp at h3
   ·have h2:=h1 w
    simp only[Array.toArray_toList]at h2
    exact h2
  have hg:∀w,(eqGuard op t xo yo (.agg xs) (.agg ys)).run P w = .ok () w:=by
   intro w
   unfold eqGuard;cases op<;>simp[hgt]
  split at h
  ·exact⟨_,_,fun w=>by simp only[cW,Sem.run_bind,hg,Result.andThen_ok,Go.binOp,he,Sem.run_pure],h,cj _⟩
  ·exact⟨_,_,fun w=>by simp only[cW,Sem.run_bind,hg,Result.andThen_ok,Go.binOp,he,Sem.run_pure],h,cj _⟩
  ·exact h.elim
 ·exact h.elim
end Go.Dm
