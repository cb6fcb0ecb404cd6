/- Part of the proof: contracts of functions; no condition. -/
import Derived.Test.YtabbmgfeemkkbaaGreatDoorDm5
import Derived.Laws.BytesArg
namespace Go.Dm
variable {P:Program} {E:Env}
variable {B0:Nat} {bx:List Nat} {W0:World} {aI:Nat→Prop} {Z:Zr} {N:Nat} {ok:Nat→Prop} {φ:Nat→Value} {s:St} {a:Act} {w:World}
theorem lR{α:Type}(l:List α)(i:Nat):nth l i=l[i]?:=by
 induction l generalizing i with
 |nil=>simp[nth]
 |cons x r ih=>cases i<;>simp[nth,ih]
theorem rL{α:Type}(n:Nat)(l:List α):pr n l=l.drop n:=by
 induction n generalizing l with
 |zero=>simp[pr]
 |succ n ih=>cases l<;>simp[pr,ih]
def Q6(P:Program)(A:World→Prop)(ok:Nat→Prop)(φ:Nat→Value)(s:St)(w:World)(x:Sem Next)(K:V→Prop):Prop:=
 ∃v v',(∀w,A w→x.run P w = .ok (.value v') w)∧K v∧VR ok φ s.hp w v v'
theorem bP{A:World→Prop}{x:Sem Value}{K:V→Prop}(h:∃v v',(∀w,A w→x.run P w = .ok v' w)∧K v∧VR ok φ s.hp w v v'):Q6 P A ok φ s w (do pure (.value (←x))) K:=by
 obtain⟨v,v',h1,h2,h3⟩:=h
 exact⟨v,v',fun w hw=>by simp[Sem.run_bind,h1 w hw],h2,h3⟩
theorem cF.mE{t:Nat}{ti:TI}(h:cF P t ti){fs:List (Nat×Nat)}(hf:ti.td = .struct fs):∃fields,P.underlying t=some (.struct fields)∧fields.toList.map (fun f=>(f.offset,f.type))=fs∧ti.agg=true:=by
 obtain⟨d,hd,ht⟩:=h.zw
 unfold xM at ht
 rw[hf]at ht
 cases d<;>simp_all
theorem cF.dA{t:Nat}{ti:TI}(h:cF P t ti){e:Nat}(hf:ti.td = .slice e):P.underlying t=some (.slice e)∧ti.agg=false:=by
 obtain⟨d,hd,ht⟩:=h.zw
 unfold xM at ht
 rw[hf]at ht
 cases d<;>simp_all
theorem cF.qx{t:Nat}{ti:TI}(h:cF P t ti){n e:Nat}(hf:ti.td = .arr n e):P.underlying t=some (.array n e)∧ti.agg=true:=by
 obtain⟨d,hd,ht⟩:=h.zw
 unfold xM at ht
 rw[hf]at ht
 cases d<;>simp_all
theorem cF.wA{t:Nat}{ti:TI}(h:cF P t ti){k:IntKind}(hf:ti.td = .plain)(hc:ti.ck=[.int k]):P.underlying t=some (.int k):=by
 obtain⟨d,hd,ht⟩:=h.zw
 unfold xM at ht
 rw[hf]at ht
 cases d<;>simp_all
theorem cF.lS{t:Nat}{ti:TI}(h:cF P t ti)(hf:ti.td = .plain)(hc:ti.ck=[.str]):P.underlying t=some .string:=by
 obtain⟨d,hd,ht⟩:=h.zw
 unfold xM at ht
 rw[hf]at ht
 cases d<;>simp_all
theorem rM{fields:Array Field}{fs:List (Nat×Nat)}(h:fields.toList.map (fun f=>(f.offset,f.type))=fs){i o ft:Nat}(hi:nth fs i=some (o,ft)):
  ∃f,fields[i]? = some f∧f.offset=o∧f.type=ft:=by
 rw[lR,←h,List.getElem?_map]at hi
 cases hf:fields.toList[i]? with
 |none=>rw[hf]at hi;cases hi
 |some f=>
  rw[hf]at hi
  simp at hi
  exact⟨f,by simpa using hf,hi.1,hi.2⟩
theorem cF.uf{t:Nat}{ti:TI}(h:cF P t ti)(hf:ti.td = .plain):∃d,P.underlying t=some d∧d≠.unsafePointer:=by
 obtain⟨d,hd,ht⟩:=h.zw
 refine⟨d,hd,?_⟩
 rintro rfl
 unfold xM at ht
 rw[hf]at ht
 simp at ht
theorem run_convert_int{src dst:Nat}{ti si:TI}(hT:cF P dst ti)(hS:cF P src si){k k':IntKind}{n:Int}(hf:ti.td = .plain)(hc:ti.ck=[.int k])(hs:si.td = .plain):
  (Go.convert src dst (.int k' n)).run P w = .ok (.int k (k.wrap n)) w:=by
 obtain⟨d,hd,_⟩:=hS.uf hs
 unfold Go.convert
 simp only[Sem.run_bind,run_underlying hd,run_underlying (hT.wA hf hc),Result.andThen_ok]
 rfl
theorem p_{src dst:Nat}{ti si:TI}(hT:cF P dst ti)(hS:cF P src si){b:ByteArray}(hf:ti.td = .plain)(hc:ti.ck=[.str])(hs:si.td = .plain):
  (Go.convert src dst (.string b)).run P w = .ok (.string b) w:=by
 obtain⟨d,hd,_⟩:=hS.uf hs
 unfold Go.convert
 simp only[Sem.run_bind,run_underlying hd,run_underlying (hT.lS hf hc),Result.andThen_ok]
 rfl
theorem cd(r:Rel B0 bx W0 aI Z N ok φ s a w){g:List (Nat×Bool)}(hg:Holds a g){o:Operand}{x:Value}(h:ev s g o = .d (.v x)):a.eval o=x:=by
 have:=bI r hg o
 rw[h]at this
 exact iV this
def fR(ok:Nat→Prop)(w:World)(ad:Option Addr)(es:List (List D)):Prop:=
 es≠[]→∃b off sz,ad=some ⟨b,off,none⟩∧(∀c∈es,c.length=sz)∧
  ∀i j,i<es.length→j<sz→∃x,w.cell? ⟨b,off+(i*sz+j),none⟩=some x∧Rd ok w x ((es.getD i []).getD j default)
theorem Cm{v:Value}{es:List (List D)}(h:Rd ok w v (.sl es)):∃ad cap,v = .slice ad es.length cap∧fR ok w ad es∧(ad=none→v = .slice none 0 0)∧True:=by
 cases h with
 |nil=>exact⟨none,0,rfl,fun h=>(h rfl).elim,fun _=>rfl,trivial⟩
 | @aA a cap=>exact⟨some a,cap,rfl,fun h=>(h rfl).elim,(fun h=>by cases h),trivial⟩
 | @sl b off cap es sz x dy fQ hsz hc hr=>
   exact⟨some ⟨b,off,none⟩,cap,rfl,fun _=>⟨b,off,sz,rfl,hsz,fun i j hi hj=>⟨x i j,hc i j hi hj,hr i j hi hj⟩⟩,(fun h=>by cases h),trivial⟩
theorem rN{k e sz:Nat}{es:List (List D)}{hp:List (Nat×B)}(hB:BR B0 ok φ hp w (φ k) (.bu e sz es)):
  ∃ad cap,φ k = .slice ad es.length cap∧fR ok w ad es∧(ad=none→φ k = .slice none 0 0)∧True:=by
 obtain⟨ct,bC,xs,cx,hr⟩:=hB
 rcases cx.2 with⟨hn,hz⟩|⟨g,cap,cur,hs,gi,hh,ug,nC,hsz,N6⟩
 ·have:es=[]:=List.eq_nil_of_length_eq_zero hz
  subst this
  exact⟨none,0,hn,fun h=>(h rfl).elim,fun _=>hn,trivial⟩
 ·refine⟨some ⟨g,0,none⟩,cap,hs,fun _=>⟨g,0,sz,rfl,bC,fun i j hi hj=>?_⟩,(fun h=>by cases h),trivial⟩
  have l_:i*sz+j<xs.length:=by
   rw[cx.1]
   calc i*sz+j<i*sz+sz:=by omega
    _=(i+1)*sz:=by rw[Nat.add_mul];omega
    _≤es.length*sz:=Nat.mul_le_mul_right _ hi
  refine⟨xs.getD (i*sz+j) undef,?_,hr i j hi hj⟩
  have hc:=cx.cells (g:=g) (by rw[hs];rfl) (i*sz+j) (xs.getD (i*sz+j) undef) (by
   rw[List.getD_eq_getElem?_getD,List.getElem?_eq_getElem l_];rfl)
  rw[addr_add,Nat.zero_add]at hc
  rw[Nat.zero_add];exact hc
theorem yd{α:Type}(es:List α)(lo n:Nat)(z:α)(i:Nat)(hi:i<n):((es.take (lo+n)).drop lo).getD i z=es.getD (lo+i) z:=by
 rw[List.getD_eq_getElem?_getD,List.getElem?_drop,List.getElem?_take,if_pos (by omega),←List.getD_eq_getElem?_getD]
theorem wB{v:Value}{es:List (List D)}{g m cap off lo n iE sz:Nat}(h:Rd ok w v (.sl es))(hv:v = .slice (some ⟨g,0,none⟩) m cap)(bC:∀c∈es,c.length=sz)(hle:lo+n≤m)(dy:n≤iE)(gZ:0<n→off=lo*sz):
  Rd ok w (.slice (some ⟨g,off,none⟩) n iE) (.sl ((es.take (lo+n)).drop lo)):=by
 subst hv
 by_cases h0:n=0
 ·subst h0
  have:(es.take (lo+0)).drop lo=[]:=List.eq_nil_of_length_eq_zero (by simp)
  rw[this];exact .aA
 rw[gZ (by omega)]
 cases h with
 |aA=>omega
 | @sl b ao5 rO iz g_ x anI fQ hsz hc hr=>
   have hlen:((es.take (lo+n)).drop lo).length=n:=by simp;omega
   have bT:es≠[]:=by rintro rfl;simp at hle;omega
   have hs:g_=sz:=by
    obtain⟨y,hy⟩:=List.exists_mem_of_ne_nil _ bT
    rw[←hsz y hy,bC y hy]
   subst hs
   have gO:=fun i hi=>yd es lo n [] i hi
   have DO:∀c∈(es.take (lo+n)).drop lo,c∈es:=fun c l9=>List.mem_of_mem_take (List.mem_of_mem_drop l9)
   generalize (es.take (lo+n)).drop lo=L at *
   subst hlen
   refine .sl g_ (fun i j=>x (lo+i) j) dy (fun _=>fQ bT) (fun c l9=>hsz c (DO c l9)) (fun i j hi hj=>?_) (fun i j hi hj=>?_)
   ·have:=hc (lo+i) j (by omega) hj
    have e:lo*g_+(i*g_+j)=0+((lo+i)*g_+j):=by rw[Nat.add_mul];omega
    rw[e];exact this
   ·rw[gO i hi];exact hr (lo+i) j (by omega) hj
theorem DP{es:List (List D)}{g off lo n sz:Nat}(h:fR ok w (some ⟨g,0,none⟩) es)(bC:∀c∈es,c.length=sz)(hle:lo+n≤es.length)(gZ:0<n→off=lo*sz):
  fR ok w (some ⟨g,off,none⟩) ((es.take (lo+n)).drop lo):=by
 intro bT
 have hlen:((es.take (lo+n)).drop lo).length=n:=by simp;omega
 have hn:0<n:=by
  rcases Nat.eq_zero_or_pos n with h0|h0
  ·rw[h0]at hlen
   exact(bT (by rw[h0];exact List.eq_nil_of_length_eq_zero hlen)).elim
  ·exact h0
 have qy:es≠[]:=by rintro rfl;simp at hle;omega
 obtain⟨b,o,eC,e,hs,hc⟩:=h qy
 simp only[Option.some.injEq,Addr.mk.injEq,and_true]at e
 obtain⟨rfl,rfl⟩:=e
 have hsz:eC=sz:=by
  obtain⟨y,hy⟩:=List.exists_mem_of_ne_nil _ qy
  rw[←hs y hy,bC y hy]
 subst hsz
 refine⟨g,off,eC,rfl,fun c l9=>hs c (List.mem_of_mem_take (List.mem_of_mem_drop l9)),fun i j hi hj=>?_⟩
 rw[hlen]at hi
 obtain⟨x,h1,h2⟩:=hc (lo+i) j (by omega) hj
 refine⟨x,?_,by rw[yd es lo n [] i hi];exact h2⟩
 rw[gZ hn]
 have e:lo*eC+(i*eC+j)=0+((lo+i)*eC+j):=by rw[Nat.add_mul];omega
 rw[e];exact h1
theorem eW(r:Rel B0 bx W0 aI Z N ok φ s a w){c:V}{v:Value}(hv:VR ok φ s.hp w c v){k lo n:Nat}(h:dG s c=some (k,lo,n)):
  ∃e sz es ad cap,lk s.hp k=some (.bu e sz es)∧lo+n≤es.length∧n≤cap∧v = .slice ad n cap∧(ad=none→v = .slice none 0 0)∧
   (0<n→∃g iE,ad=some ⟨g,lo*sz,none⟩∧φ k = .slice (some ⟨g,0,none⟩) es.length iE)∧fO c=[k]:=by
 cases hv with
 | @own k0 g_ DQ v jR hφ=>
   simp only[dG]at h
   split at h
   ·rename_i e sz es hb
    simp only[Option.some.injEq,Prod.mk.injEq]at h
    obtain⟨rfl,rfl,rfl⟩:=h
    subst hφ
    obtain⟨ct,bC,xs,cx,hr⟩:=r.hp _ _ hb
    rcases cx.2 with⟨hn,hz⟩|⟨g,cap,cur,hs,gi,hh,ug,nC,hsz,N6⟩
    ·refine⟨e,sz,es,none,0,hb,by omega,by omega,by rw[hn,hz],fun _=>hn,fun h=>by omega,rfl⟩
    ·exact⟨e,sz,es,some ⟨g,0,none⟩,cap,hb,by omega,ug,hs,(fun h=>by cases h),fun _=>⟨g,cap,by simp,hs⟩,rfl⟩
   ·cases h
 | @vw k0 lo0 n0 g m cap iE off g_ DQ jR hφ hle dy gZ=>
   simp only[dG]at h
   split at h
   ·rename_i e sz es hb
    simp only[Option.some.injEq,Prod.mk.injEq]at h
    obtain⟨rfl,rfl,rfl⟩:=h
    obtain⟨ct,bC,xs,cx,hr⟩:=r.hp _ _ hb
    rcases cx.2 with⟨hn,hz⟩|⟨g',aiP,cur,hs,gi,hh,ug,nC,hsz,N6⟩
    ·rw[hn]at hφ;cases hφ
    ·rw[hφ]at hs
     simp only[Value.slice.injEq,Option.some.injEq,Addr.mk.injEq,and_true]at hs
     obtain⟨rfl,rfl,rfl⟩:=hs
     have ye:g_=sz:=by
      rcases jR with⟨e',h1⟩|h1
      ·rw[hb]at h1;simp only[Option.some.injEq,B.bu.injEq]at h1;exact h1.2.1.symm
      ·rw[hb]at h1;cases h1
     subst ye
     exact⟨e,g_,es,some ⟨g,off,none⟩,iE,hb,hle,dy,rfl,(fun h=>by cases h),fun h=>⟨g,cap,by rw[gZ h],hφ⟩,rfl⟩
   ·cases h
 |_=>simp[dG]at h
theorem jw(r:Rel B0 bx W0 aI Z N ok φ s a w){c:V}{v:Value}(hv:VR ok φ s.hp w c v){K:List (List D)→Prop}(h:jq c s K):
  ∃es ad cap,K es∧v = .slice ad es.length cap∧fR ok w ad es∧(ad=none→v = .slice none 0 0)∧True:=by
 cases hv with
 |nil=>exact⟨[],none,0,h,rfl,fun h=>(h rfl).elim,fun _=>rfl,trivial⟩
 | @own k g_ DQ v jR hφ=>
   subst hφ
   simp only[jq]at h
   split at h
   ·rename_i e0 sz es hb
    obtain⟨ad,cap,h1,h2,h3,h4⟩:=rN (r.hp k _ hb)
    exact⟨es,ad,cap,h,h1,h2,h3,h4⟩
   ·rename_i sz es hb
    obtain⟨_,_,cK,_⟩:=r.hp k _ hb
    obtain⟨ad,cap,h1,h2,h3,h4⟩:=Cm cK
    exact⟨es,ad,cap,h,h1,h2,h3,h4⟩
   ·exact h.elim
 |d cK=>
  obtain⟨es,rfl,hk⟩:=h
  obtain⟨ad,cap,h1,h2,h3,h4⟩:=Cm cK
  exact⟨es,ad,cap,hk,h1,h2,h3,h4⟩
 | @vw k lo n g m cap iE off g_ DQ jR hφ hle dy gZ=>
   simp only[jq]at h
   split at h
   ·rename_i e sz es hb
    have hst:dG s (.vw k lo n)=some (k,lo,n):=by simp only[dG,hb]
    obtain⟨e',eC,iz,ad,aiP,h1,h2,h3,h4,h5,h6,_⟩:=eW r (.vw jR hφ hle dy gZ) hst
    rw[hb]at h1
    simp only[Option.some.injEq,B.bu.injEq]at h1
    obtain⟨rfl,rfl,rfl⟩:=h1
    obtain⟨ad0,rO,q1,q2,q3,q4⟩:=rN (r.hp k _ hb)
    have hlen:((es.take (lo+n)).drop lo).length=n:=by simp;omega
    rw[hφ]at q1
    simp only[Value.slice.injEq]at q1
    obtain⟨rfl,hm,rfl⟩:=q1
    have bC:=(r.hp k _ hb).2.1
    have ye:0<n→off=lo*sz:=fun hn=>by
       obtain⟨g',_,e1,_⟩:=h6 hn
       simp only[Value.slice.injEq]at h4
       rw[←h4.1]at e1
       simp only[Option.some.injEq,Addr.mk.injEq,and_true]at e1
       exact e1.2
    exact⟨_,some ⟨g,off,none⟩,iE,h,by rw[hlen],DP q2 bC h2 ye,(fun h=>by cases h),trivial⟩
   ·exact h.elim
 |_=>exact(h:False).elim
theorem eE{o:Oper}{b:Builtin}{args:Array Operand}{pv:Array TypeId}{v:Value}(K:V→Prop)
  (h:(builtin b pv o.type (args.map fun | .const _=>true|_=>false) (args.map a.eval)).run P w = .ok (.value v) w):
  (do let d←resolve a.eval {callee:=.builtin b,args:=args,argTypes:=pv} o.type;invoke d.target d.args:Sem Next).run P w = .ok (.value v) w:=by
 simp only[resolve,Sem.run_bind,Sem.run_pure,Result.andThen_ok,invoke]
 exact h
theorem hG{isS:Bool}{len cap l h:Nat}{lo hi:Option Value}(hlo:(lo=none∧l=0)∨∃k,lo=some (.int k l))(Xk:(hi=none∧h=len)∨∃k,hi=some (.int k h))
  (h1:l≤h) (h2:h≤cap):(Instr.sliceBounds isS len cap lo hi none).run P w = .ok (l,h,cap) w:=by
 have sb:∀(k:IntKind) (n y:Nat) (c:BoundsCode),n≤y→(Instr.sliceBound (.int k n) y c).run P w = .ok n w:=by
  intro k n y c hn
  unfold Instr.sliceBound
  simp only[Sem.run_bind,asIntOf,Sem.run_pure,Result.andThen_ok]
  rw[if_pos ⟨by omega,by omega⟩]
  simp
 unfold Instr.sliceBounds
 rcases hlo with⟨rfl,rfl⟩|⟨k,rfl⟩<;>rcases Xk with⟨rfl,rfl⟩|⟨k',rfl⟩<;>
  simp only[Sem.run_bind,Sem.run_pure,Result.andThen_ok,sb _ _ _ _ h2,sb _ _ _ _ h1]
theorem iX(r:Rel B0 bx W0 aI Z N ok φ s a w){g:List (Nat×Bool)}(hg:Holds a g){o:Option Operand}{n d:Nat}
  (h:match o with|some o=>ev s g o = .d (.v (.int .i64 n))|none=>n=d):(o.map a.eval=none∧n=d)∨∃k,o.map a.eval=some (.int k n):=by
 cases o with
 |none=>exact .inl ⟨rfl,h⟩
 |some o=>exact .inr ⟨.i64,by simp only[Option.map_some,cd r hg h]⟩
theorem rP(hE:c8 P E)(r:Rel B0 bx W0 aI Z N ok φ s a w){g:List (Nat×Bool)}(hg:Holds a g){t:Nat}{x:Operand}{lo hi:Option Operand}{K:V→Prop}{k b n e0 sz:Nat}{es:List (List D)}
  (hb:lk s.hp k=some (.bu e0 sz es)) (h:NV E s g t lo hi k sz b n K)
  (hx:∃gb off cap rO,a.eval x = .slice (some ⟨gb,off,none⟩) n cap∧n≤cap∧φ k = .slice (some ⟨gb,0,none⟩) es.length rO∧(0<n→off=b*sz)∧b+n≤es.length):
  ∃v v',(∀w,(Instr.sliceAt t (a.eval x) (lo.map a.eval) (hi.map a.eval) (Option.map a.eval none)).run P w = .ok v' w)∧K v∧VR ok φ s.hp w v v':=by
 obtain⟨gb,off,cap,rO,hx,ug,hφ,gZ,hle⟩:=hx
 unfold NV at h
 split at h
 rotate_left
 ·exact h.elim
 rename_i e dY
 split at h
 rotate_left
 ·exact h.elim
 rename_i ei mj
 obtain⟨hsz,l,hh,h1,h2,h3,h4,hk⟩:=h
 obtain⟨hu,_⟩:=(hE.ti dY).dA rfl
 have hT:=hE.ti mj
 refine⟨_,.slice (some ⟨gb,if cap=l then off else off+l*sz,none⟩) (hh-l) (cap-l),fun w=>?_,hk,?_⟩
 ·rw[hx]
  unfold Instr.sliceAt
  simp only[Sem.run_bind,run_underlying hu,Result.andThen_ok,Option.map_none]
  unfold Instr.slice
  simp only[Sem.run_bind,run_underlying hu,Result.andThen_ok,hG (iX r hg h1) (iX r hg h2) h3 (Nat.le_trans h4 ug),Sem.run_pure,hT.dz,←hsz]
  by_cases hc:cap=l
  ·simp[hc]
  ·simp[hc,addr_add]
 ·refine .vw (.inl ⟨e0,hb⟩) hφ (by omega) (by omega) (fun hn=>?_)
  rw[if_neg (by omega),gZ (by omega),Nat.add_mul]
theorem wC(hE:c8 P E)(r:Rel B0 bx W0 aI Z N ok φ s a w){g:List (Nat×Bool)}(hg:Holds a g){t:Nat}{x:Operand}{lo hi:Option Operand}{K:V→Prop}
  (h:dx E s g (.slice t x lo hi none) K):∃v v',(∀w,(Instr.sliceAt t (a.eval x) (lo.map a.eval) (hi.map a.eval) (Option.map a.eval none)).run P w = .ok v' w)∧K v∧VR ok φ s.hp w v v':=by
 simp only[dx]at h
 have hv:=bI r hg x
 split at h
 ·rename_i b he
  rw[cd r hg he]
  obtain⟨l,hh,h1,h2,h3,h4,uh,hk⟩:=h
  split at uh
  rotate_left
  ·exact uh.elim
  rename_i dY
  have hu:=(hE.ti dY).lS rfl rfl
  refine⟨_,.string (b.extract l hh),fun w=>?_,hk,.d (.v rfl)⟩
  unfold Instr.sliceAt
  simp only[Sem.run_bind,run_underlying hu,Result.andThen_ok,Option.map_none]
  unfold Instr.slice
  simp only[Sem.run_bind,run_underlying hu,Result.andThen_ok,Option.isSome_none,Bool.false_eq_true,if_false,
   hG (iX r hg h1) (iX r hg h2) h3 h4,Sem.run_pure]
 ·rename_i y he
  rw[he]at hv
  obtain⟨es,rfl,l,hh,h1,h2,h3,h4,uh,hk⟩:=h
  split at uh
  rotate_left
  ·exact uh.elim
  rename_i e dY
  split at uh
  rotate_left
  ·exact uh.elim
  rename_i ei mj
  obtain⟨hu,_⟩:=(hE.ti dY).dA rfl
  have hT:=hE.ti mj
  have hlen:((es.take hh).drop l).length=hh-l:=by simp;omega
  revert hv
  generalize a.eval x=v
  intro hv
  cases hv
  rename_i cK
  have run:∀(ad:Option Addr) (cap:Nat),es.length≤cap→∀w,(Instr.sliceAt t (.slice ad es.length cap) (lo.map a.eval) (hi.map a.eval) (Option.map a.eval none)).run P w =
    .ok (.slice (if cap=l then ad else ad.map (·.add (l*ei.ck.length))) (hh-l) (cap-l)) w:=by
   intro ad cap dy w
   unfold Instr.sliceAt
   simp only[Sem.run_bind,run_underlying hu,Result.andThen_ok,Option.map_none]
   unfold Instr.slice
   simp only[Sem.run_bind,run_underlying hu,Result.andThen_ok,hG (iX r hg h1) (iX r hg h2) h3 (Nat.le_trans h4 dy),Sem.run_pure,hT.dz]
  cases cK with
  |nil=>
   refine⟨_,_,run none 0 (Nat.le_refl _),hk,.d ?_⟩
   have:l=0:=by simp at h4;omega
   subst this
   have:hh=0:=by simpa using h4
   subst this
   exact .nil
  | @aA a0 cap=>
    refine⟨_,_,run (some a0) cap (Nat.zero_le _),hk,.d ?_⟩
    have:l=0:=by simp at h4;omega
    subst this
    have:hh=0:=by simpa using h4
    subst this
    by_cases hc0:cap=0
    ·rw[if_pos hc0];exact .aA
    ·rw[if_neg hc0];exact .aA
  | @sl b off cap iz sz xf dy fQ hsz hc hr=>
    refine⟨_,_,run (some ⟨b,off,none⟩) cap dy,hk,.d ?_⟩
    have gO:∀i,((es.take hh).drop l).getD i []=if l+i<hh then es.getD (l+i) []else []:=by
     intro i
     rw[List.getD_eq_getElem?_getD,List.getElem?_drop,List.getElem?_take]
     split<;>simp[List.getD_eq_getElem?_getD]
    by_cases fw:cap=l
    ·rw[if_pos fw]
     have e0:hh-l=0:=by omega
     have e1:(es.take hh).drop l=[]:=List.eq_nil_of_length_eq_zero (by rw[hlen];omega)
     rw[e0,e1]
     exact .sl (es:=[]) 0 (fun _ _=>undef) (Nat.zero_le _) (fun h=>(h rfl).elim) (by simp) (by simp) (by simp)
    ·rw[if_neg fw]
     have key:∀i,i<hh-l→sz=ei.ck.length:=by
        intro i hi
        have hlt:l+i<es.length:=by omega
        rw[←hsz _ (List.getElem_mem hlt),uh _ (List.getElem_mem hlt)]
     have:(some (⟨b,off,none⟩:Addr)).map (·.add (l*ei.ck.length))=some ⟨b,off+l*ei.ck.length,none⟩:=by simp[addr_add]
     rw[this]
     have p':hh-l=((es.take hh).drop l).length:=hlen.symm
     rw[p']
     refine .sl (es:=(es.take hh).drop l) sz (fun i j=>xf (l+i) j) (by rw[hlen];omega) (fun bT=>fQ (by rintro rfl;simp at bT)) (fun c l9=>hsz c (List.mem_of_mem_take (List.mem_of_mem_drop l9))) (fun i j hi hj=>?_) (fun i j hi hj=>?_)
     ·rw[hlen]at hi
      have:=hc (l+i) j (by omega) hj
      rw[←key i hi]
      have e:off+l*sz+(i*sz+j)=off+((l+i)*sz+j):=by rw[Nat.add_mul];omega
      rw[e];exact this
     ·rw[hlen]at hi
      have:=hr (l+i) j (by omega) hj
      rw[gO,if_pos (by omega)]
      exact this
 ·rename_i k hx
  split at h
  rotate_left
  ·exact h.elim
  rename_i dY
  split at h
  rotate_left
  ·exact h.elim
  rename_i ei mj
  rw[hx]at hv
  obtain⟨hu,_⟩:=(hE.ti dY).qx rfl
  revert hv
  generalize a.eval x=y
  intro hv
  cases hv with
  |ref hb hφ=>
   refine⟨_,_,fun w=>?_,h,.rl hb hφ⟩
   simp[Instr.sliceAt,Instr.sureAddr,run_underlying hu,Instr.sliceBounds,(hE.ti mj).dz,Result.andThen]
   intro _;simp[Addr.add]
 ·rename_i k hx
  split at h
  rotate_left
  ·exact h.elim
  rename_i e0 sz es hb
  obtain⟨h0,h⟩:=h
  rw[hx]at hv
  have hst:dG s (.own k)=some (k,0,es.length):=by simp only[dG,hb]
  obtain⟨e',eC,iz,ad,cap,q1,q2,q3,q4,q5,q6,_⟩:=eW r hv hst
  rw[hb]at q1
  simp only[Option.some.injEq,B.bu.injEq]at q1
  obtain⟨rfl,rfl,rfl⟩:=q1
  obtain⟨gb,iE,rfl,q8⟩:=q6 h0
  exact rP hE r hg hb h ⟨gb,_,cap,iE,q4,q3,q8,fun _=>rfl,q2⟩
 ·rename_i k b n hx
  split at h
  rotate_left
  ·exact h.elim
  rename_i e0 sz es hb
  rw[hx]at hv
  have hst:dG s (.vw k b n)=some (k,b,n):=by simp only[dG,hb]
  obtain⟨e',eC,iz,ad,cap,q1,q2,q3,q4,q5,q6,_⟩:=eW r hv hst
  rw[hb]at q1
  simp only[Option.some.injEq,B.bu.injEq]at q1
  obtain⟨rfl,rfl,rfl⟩:=q1
  obtain⟨ad0,rO,p1,_⟩:=rN (r.hp k _ hb)
  refine rP hE r hg hb h ?_
  revert hv q4
  generalize a.eval x=y
  intro hv q4
  cases hv with
  | @vw _ _ _ gb m cp cp' off Xl es1 jR hφ hle dy gZ=>
    have hm:m=es.length:=by rw[hφ]at p1;simp only[Value.slice.injEq]at p1;exact p1.2.1
    have hs:Xl=sz:=by
     rcases jR with⟨e',h1⟩|h1
     ·rw[hb]at h1;simp only[Option.some.injEq,B.bu.injEq]at h1;exact h1.2.1.symm
     ·rw[hb]at h1;cases h1
    subst hs;subst hm
    exact⟨gb,off,cp',cp,rfl,dy,hφ,gZ,hle⟩
 ·exact h.elim
theorem oS{isS:Bool}{len cap l h m:Nat}{lo hi:Option Value}{k0:IntKind}(hlo:(lo=none∧l=0)∨∃k,lo=some (.int k l))(Xk:∃k,hi=some (.int k h))
  (h1:l≤h) (h2:h≤m) (h3:m≤cap):(Instr.sliceBounds isS len cap lo hi (some (.int k0 m))).run P w = .ok (l,h,m) w:=by
 have sb:∀(k:IntKind) (n y:Nat) (c:BoundsCode),n≤y→(Instr.sliceBound (.int k n) y c).run P w = .ok n w:=by
  intro k n y c hn
  unfold Instr.sliceBound
  simp only[Sem.run_bind,asIntOf,Sem.run_pure,Result.andThen_ok]
  rw[if_pos ⟨by omega,by omega⟩]
  simp
 unfold Instr.sliceBounds
 rcases hlo with⟨rfl,rfl⟩|⟨k,rfl⟩<;>obtain⟨k',rfl⟩:=Xk <;>
  simp only[Sem.run_bind,Sem.run_pure,Result.andThen_ok,sb _ _ _ _ h3,sb _ _ _ _ h2,sb _ _ _ _ h1]
theorem tH(hE:c8 P E)(r:Rel B0 bx W0 aI Z N ok φ s a w){g:List (Nat×Bool)}(hg:Holds a g){t:Nat}{x:Operand}{lo hi:Option Operand}{mx:Operand}{K:V→Prop}
  (h:dx E s g (.slice t x lo hi (some mx)) K):∃v v',(∀w,(Instr.sliceAt t (a.eval x) (lo.map a.eval) (hi.map a.eval) (Option.map a.eval (some mx))).run P w = .ok v' w)∧K v∧VR ok φ s.hp w v v':=by
 simp only[dx]at h
 have hv:=bI r hg x
 split at h
 ·rename_i y he
  rw[he]at hv
  obtain⟨es,rfl,l,hh,m,h1,h2,hm,h3,h4a,h4b,uh,hk⟩:=h
  have h4:hh≤es.length:=Nat.le_trans h4a h4b
  have hme:=cd r hg hm
  have Xk:∃k,hi.map a.eval=some (.int k hh):=by
   cases hi with
   |none=>exact h2.elim
   |some o=>exact⟨.i64,by simp only[Option.map_some,cd r hg h2]⟩
  split at uh
  rotate_left
  ·exact uh.elim
  rename_i e dY
  split at uh
  rotate_left
  ·exact uh.elim
  rename_i ei mj
  obtain⟨hu,_⟩:=(hE.ti dY).dA rfl
  have hT:=hE.ti mj
  have hlen:((es.take hh).drop l).length=hh-l:=by simp;omega
  revert hv
  generalize a.eval x=v
  intro hv
  cases hv
  rename_i cK
  have run:∀(ad:Option Addr) (cap:Nat),es.length≤cap→∀w,(Instr.sliceAt t (.slice ad es.length cap) (lo.map a.eval) (hi.map a.eval) (Option.map a.eval (some mx))).run P w =
    .ok (.slice (if m=l then ad else ad.map (·.add (l*ei.ck.length))) (hh-l) (m-l)) w:=by
   intro ad cap dy w
   unfold Instr.sliceAt
   simp only[Sem.run_bind,run_underlying hu,Result.andThen_ok,Option.map_some,hme]
   unfold Instr.slice
   simp only[Sem.run_bind,run_underlying hu,Result.andThen_ok,oS (iX r hg h1) Xk h3 h4a (Nat.le_trans h4b dy),Sem.run_pure,hT.dz]
  cases cK with
  |nil=>
   refine⟨_,_,run none 0 (Nat.le_refl _),hk,.d ?_⟩
   have:l=0:=by simp at h4;omega
   subst this
   have:hh=0:=by simpa using h4
   subst this
   have:m=0:=by simpa using h4b
   subst this
   exact .nil
  | @aA a0 cap=>
    refine⟨_,_,run (some a0) cap (Nat.zero_le _),hk,.d ?_⟩
    have:l=0:=by simp at h4;omega
    subst this
    have:hh=0:=by simpa using h4
    subst this
    have:m=0:=by simpa using h4b
    subst this
    exact .aA
  | @sl b off cap iz sz xf dy fQ hsz hc hr=>
    refine⟨_,_,run (some ⟨b,off,none⟩) cap dy,hk,.d ?_⟩
    have gO:∀i,((es.take hh).drop l).getD i []=if l+i<hh then es.getD (l+i) []else []:=by
     intro i
     rw[List.getD_eq_getElem?_getD,List.getElem?_drop,List.getElem?_take]
     split<;>simp[List.getD_eq_getElem?_getD]
    by_cases fw:m=l
    ·rw[if_pos fw]
     have e0:hh-l=0:=by omega
     have e1:(es.take hh).drop l=[]:=List.eq_nil_of_length_eq_zero (by rw[hlen];omega)
     rw[e0,e1]
     exact .sl (es:=[]) 0 (fun _ _=>undef) (Nat.zero_le _) (fun h=>(h rfl).elim) (by simp) (by simp) (by simp)
    ·rw[if_neg fw]
     have key:∀i,i<hh-l→sz=ei.ck.length:=by
        intro i hi
        have hlt:l+i<es.length:=by omega
        rw[←hsz _ (List.getElem_mem hlt),uh _ (List.getElem_mem hlt)]
     have:(some (⟨b,off,none⟩:Addr)).map (·.add (l*ei.ck.length))=some ⟨b,off+l*ei.ck.length,none⟩:=by simp[addr_add]
     rw[this]
     have p':hh-l=((es.take hh).drop l).length:=hlen.symm
     rw[p']
     refine .sl (es:=(es.take hh).drop l) sz (fun i j=>xf (l+i) j) (by rw[hlen];omega) (fun bT=>fQ (by rintro rfl;simp at bT)) (fun c l9=>hsz c (List.mem_of_mem_take (List.mem_of_mem_drop l9))) (fun i j hi hj=>?_) (fun i j hi hj=>?_)
     ·rw[hlen]at hi
      have:=hc (l+i) j (by omega) hj
      rw[←key i hi]
      have e:off+l*sz+(i*sz+j)=off+((l+i)*sz+j):=by rw[Nat.add_mul];omega
      rw[e];exact this
     ·rw[hlen]at hi
      have:=hr (l+i) j (by omega) hj
      rw[gO,if_pos (by omega)]
      exact this
 ·exact h.elim
theorem ml{hp:List (Nat×B)}{ck:List CK}{xs:List Value}(h:zB ck xs=true):xs.length=ck.length∧∀(i:Nat) (c:V) (x:Value),(fJ ck)[i]? = some c→xs[i]? = some x→VR ok φ hp w c x:=by
 induction ck generalizing xs with
 |nil=>cases xs<;>simp_all[zB,fJ]
 |cons k r ih=>
  cases xs with
  |nil=>simp[zB]at h
  |cons x xs=>
   simp only[zB,Bool.and_eq_true]at h
   obtain⟨h1,h2⟩:=ih h.2
   refine⟨by simp[h1],fun i c y hc hy=>?_⟩
   cases i with
   |zero=>
    simp[fJ]at hc hy
    subst hc;subst hy
    have h0:=h.1
    unfold zB1 at h0
    split at h0<;>first|(cases h0;done)|skip
    ·simp at h0;subst h0;exact .d (.v rfl)
    ·exact .d (.v rfl)
    ·rename_i b
     simp at h0
     have:b=⟨#[]⟩:=by
      cases b;simp_all
     subst this
     exact .d (.v rfl)
    ·exact .nil
    ·exact .d (.v rfl)
    ·exact .d (.v rfl)
    ·exact .d (.v rfl)
    ·exact .d (.v rfl)
    ·exact .dead _
   |succ i=>exact h2 i c y (by simpa[fJ]using hc) (by simpa using hy)
theorem dI(ck:List CK):(fJ ck).length=ck.length:=by
 induction ck with
 |nil=>rfl
 |cons c r ih=>simp[fJ,ih]
theorem jx{hp:List (Nat×B)}{c:V}{v:Value}{cs:List V}(hv:VR ok φ hp w c v)(h:cellsOf c=some cs)(hφ:∀k,(φ k).oneCell'=true):
  v.cells.size=cs.length∧∀(i:Nat) (c:V) (x:Value),cs[i]? = some c→v.cells[i]? = some x→VR ok φ hp w c x:=by
 have single:rp c=true→cs=[c]→v.cells.size=cs.length∧∀(i:Nat) (c:V) (x:Value),cs[i]? = some c→v.cells[i]? = some x→VR ok φ hp w c x:=by
  intro h1 h2
  subst h2
  have h3:=hv.one h1 hφ
  have h4:v.cells = #[v]:=by cases v<;>simp_all[Value.cells,Value.oneCell']
  rw[h4]
  refine⟨rfl,fun i c x hc hx=>?_⟩
  cases i with
  |zero=>simp at hc hx;subst hc;subst hx;exact hv
  |succ i=>simp at hc
 cases hv with
 |agg hs hr=>simp[cellsOf]at h;subst h;exact⟨hs,hr⟩
 |dead=>cases h
 |pq=>cases h
 |_=>exact single rfl (by simp[cellsOf]at h;exact h.symm)
theorem DR(xs:List Value)(cs:Array Value)(off:Nat)(h:off+xs.length≤cs.size):
  (xs.toArray.zipIdx.foldl (fun cs (c,j)=>cs.setIfInBounds (off+j) c) cs).toList=cs.toList.take off++xs++cs.toList.drop (off+xs.length):=by
 rw[←Array.foldl_toList]
 simp only[Array.toList_zipIdx]
 suffices H:∀(xs:List Value) (k:Nat) (cs:Array Value),off+k+xs.length≤cs.size→
   ((xs.zipIdx k).foldl (fun cs (c,j)=>cs.setIfInBounds (off+j) c) cs).toList=cs.toList.take (off+k)++xs++cs.toList.drop (off+k+xs.length) by
  simpa using H xs 0 cs (by simpa using h)
 intro xs
 induction xs with
 |nil=>intro k cs h;simp
 |cons x xs ih=>
  intro k cs h
  simp only[List.length_cons]at h
  simp only[List.zipIdx_cons,List.foldl_cons]
  rw[ih (k+1) _ (by simp;omega)]
  simp only[Array.toList_setIfInBounds,List.length_cons]
  have hlt:off+k<cs.toList.length:=by simp;omega
  rw[show off+(k+1)=(off+k)+1 by omega,List.take_succ_eq_append_getElem (by simpa using hlt)]
  rw[List.getElem_set_self,List.take_set_of_le (by omega),List.drop_set_of_lt (by omega)]
  simp[Nat.add_assoc,Nat.add_comm 1]
theorem wD{hp:List (Nat×B)}{o:Nat}{xs cs eN:List V}{ys zs:List Value}(h:over o xs cs=some eN)(hy:ys.length=xs.length)(hz:zs.length=cs.length)
  (h1:∀(i:Nat) (c:V) (x:Value),xs[i]? = some c→ys[i]? = some x→VR ok φ hp w c x) (h2:∀(i:Nat) (c:V) (x:Value),cs[i]? = some c→zs[i]? = some x→VR ok φ hp w c x):
  eN.length=cs.length∧∀(i:Nat) (c:V) (x:Value),eN[i]? = some c→(zs.take o++ys++zs.drop (o+ys.length))[i]? = some x→VR ok φ hp w c x:=by
 obtain⟨hlen,rfl⟩:=jQ h
 refine⟨by simp;omega,fun i c x hc hx=>?_⟩
 rw[hy]at hx
 have e1:(cs.take o).length=o:=by simp;omega
 have e2:(zs.take o).length=o:=by simp;omega
 by_cases c1:i<o
 ·rw[List.append_assoc,List.getElem?_append_left (by omega),List.getElem?_take,if_pos c1]at hc hx
  exact h2 i c x hc hx
 ·by_cases c2:i<o+xs.length
  ·rw[List.append_assoc,List.getElem?_append_right (by omega),e1,List.getElem?_append_left (by omega)]at hc
   rw[List.append_assoc,List.getElem?_append_right (by omega),e2,List.getElem?_append_left (by omega)]at hx
   exact h1 _ c x hc hx
  ·rw[List.getElem?_append_right (by simp;omega),List.getElem?_drop]at hc hx
   simp only[List.length_append,e1,e2,hy]at hc hx
   have e3:o+xs.length+(i-(o+xs.length))=i:=by omega
   rw[e3]at hc hx
   exact h2 i c x hc hx
theorem ui{place:Nat→Option (Nat×Nat)}{zs:Array Value}{i:Nat}{v:Value}{rest:List (Nat×Value)}{o n:Nat}(hp:place i=some (o,n))(hn:v.cells.size=n)(hle:o+n≤zs.size):
  Instr.fill place zs ((i,v)::rest)=Instr.fill place (zs.toList.take o++v.cells.toList++zs.toList.drop (o+n)).toArray rest:=by
 simp only[Instr.fill,hp]
 rw[if_neg (by simp;omega)]
 congr 1
 apply Array.ext'
 have:=DR v.cells.toList zs o (by simp;omega)
 simp only[Array.toArray_toList]at this
 rw[this]
 simp[hn]
theorem yf(hE:c8 P E)(r:Rel B0 bx W0 aI Z N ok φ s a w){g:List (Nat×Bool)}(hg:Holds a g){fs:List (Nat×Nat)}{place:Nat→Option (Nat×Nat)}
  (Q7:∀i o ft fi,nth fs i=some (o,ft)→E.ti ft=some fi→place i=some (o,fi.ck.length)):
  ∀(parts:List (Nat×Operand)) (cs eN:List V) (zs:Array Value),dx.xX E s g fs cs parts=some eN→zs.size=cs.length→
   (∀(i:Nat) (c:V) (x:Value),cs[i]? = some c→zs[i]? = some x→VR ok φ s.hp w c x)→
   ∃uj,Instr.fill place zs (parts.map fun p=>(p.1,a.eval p.2))=some uj∧uj.size=eN.length∧eN.length=cs.length∧
    ∀(i:Nat) (c:V) (x:Value),eN[i]? = some c→uj[i]? = some x→VR ok φ s.hp w c x:=by
 intro parts
 induction parts with
 |nil=>intro cs eN zs h hs hr;simp[dx.xX]at h;subst h;exact⟨zs,rfl,hs,rfl,hr⟩
 |cons p rest ih=>
  obtain⟨i,x⟩:=p
  intro cs eN zs h hs hr
  simp only[dx.xX]at h
  split at h
  ·cases h
  rename_i o ft hn
  split at h
  rotate_left
  ·cases h
  rename_i fi xs DS nB
  split at h
  rotate_left
  ·cases h
  rename_i zT
  have hlen:xs.length=fi.ck.length:=Nat.eq_of_beq_eq_true zT
  split at h
  rotate_left
  ·cases h
  rename_i Xm NL
  obtain⟨h1,h2⟩:=jx (bI r hg x) nB r.one
  obtain⟨hl,_⟩:=jQ NL
  obtain⟨h3,h4⟩:=wD (ys:=(a.eval x).cells.toList) (zs:=zs.toList) NL (by simpa using h1) (by simpa using hs) (fun i c y hc hy=>h2 i c y hc (by simpa using hy)) (fun i c y hc hy=>hr i c y hc (by simpa using hy))
  have hsz:(a.eval x).cells.size=fi.ck.length:=by rw[h1,hlen]
  simp only[List.map_cons]
  rw[ui (Q7 i o ft fi hn DS) hsz (by omega)]
  obtain⟨uj,e1,e2,e3,e4⟩:=ih Xm eN (zs.toList.take o++(a.eval x).cells.toList++zs.toList.drop (o+fi.ck.length)).toArray h (by simp;omega) (fun i c y hc hy=>h4 i c y hc (by simpa[hsz]using hy))
  exact⟨uj,e1,e2,by omega,e4⟩
theorem pB(r:Rel B0 bx W0 aI Z N ok φ s a w){g:List (Nat×Bool)}(hg:Holds a g){sz:Nat}:
  ∀(parts:List (Nat×Operand)) (cs eN:List V) (zs:Array Value),dx.rr s g sz cs parts=some eN→zs.size=cs.length→
   (∀(i:Nat) (c:V) (x:Value),cs[i]? = some c→zs[i]? = some x→VR ok φ s.hp w c x)→
   ∃uj,Instr.fill (fun i=>some (i*sz,sz)) zs (parts.map fun p=>(p.1,a.eval p.2))=some uj∧uj.size=eN.length∧eN.length=cs.length∧
    ∀(i:Nat) (c:V) (x:Value),eN[i]? = some c→uj[i]? = some x→VR ok φ s.hp w c x:=by
 intro parts
 induction parts with
 |nil=>intro cs eN zs h hs hr;simp[dx.rr]at h;subst h;exact⟨zs,rfl,hs,rfl,hr⟩
 |cons p rest ih=>
  obtain⟨i,x⟩:=p
  intro cs eN zs h hs hr
  simp only[dx.rr]at h
  split at h
  rotate_left
  ·cases h
  rename_i xs nB
  split at h
  rotate_left
  ·cases h
  rename_i zT
  have hlen:xs.length=sz:=Nat.eq_of_beq_eq_true zT
  split at h
  rotate_left
  ·cases h
  rename_i Xm NL
  obtain⟨h1,h2⟩:=jx (bI r hg x) nB r.one
  obtain⟨hl,_⟩:=jQ NL
  obtain⟨h3,h4⟩:=wD (ys:=(a.eval x).cells.toList) (zs:=zs.toList) NL (by simpa using h1) (by simpa using hs) (fun i c y hc hy=>h2 i c y hc (by simpa using hy)) (fun i c y hc hy=>hr i c y hc (by simpa using hy))
  have hsz:(a.eval x).cells.size=sz:=by rw[h1,hlen]
  simp only[List.map_cons]
  rw[ui (place:=fun i=>some (i*sz,sz)) rfl hsz (by omega)]
  obtain⟨uj,e1,e2,e3,e4⟩:=ih Xm eN (zs.toList.take (i*sz)++(a.eval x).cells.toList++zs.toList.drop (i*sz+sz)).toArray h (by simp;omega) (fun i c y hc hy=>h4 i c y hc (by simpa[hsz]using hy))
  exact⟨uj,e1,e2,by omega,e4⟩
theorem zU(P:Program):∀(fs:List Field),(∀f∈fs,(P.info? f.type).isSome=true)→
  ∃places,fs.mapM (fun(f:Field)=>(P.info? f.type).map fun i=>(f.offset,i.size))=some places∧
   ∀(i:Nat) (f:Field),fs[i]? = some f→∀inf,P.info? f.type=some inf→places[i]? = some (f.offset,inf.size):=by
 intro fs
 induction fs with
 |nil=>intro _;exact⟨[],rfl,fun i f h=>by simp at h⟩
 |cons f r ih=>
  intro h
  obtain⟨ps,h1,h2⟩:=ih (fun f hf=>h f (by simp[hf]))
  have hf:=h f (by simp)
  cases hi:P.info? f.type with
  |none=>rw[hi]at hf;cases hf
  |some inf=>
   refine⟨(f.offset,inf.size)::ps,by simp[hi,h1],fun i f' Xn aiU qa=>?_⟩
   cases i with
   |zero=>simp at Xn;subst Xn;rw[hi]at qa;simp at qa;subst qa;rfl
   |succ i=>exact h2 i f' (by simpa using Xn) aiU qa
theorem wE(hE:c8 P E)(r:Rel B0 bx W0 aI Z N ok φ s a w){g:List (Nat×Bool)}(hg:Holds a g){t:Nat}{parts:Array (Nat×Operand)}{K:V→Prop}
  (h:dx E s g (.build t parts) K):∃v v',(∀w,(Instr.build t (parts.map fun(i,x)=>(i,a.eval x))).run P w = .ok v' w)∧K v∧VR ok φ s.hp w v v':=by
 simp only[dx]at h
 split at h
 ·rename_i ck by_ fs eqq dY
  have hT:=hE.ti dY
  obtain⟨fields,hu,Xo,_⟩:=hT.mE rfl
  split at h
  rotate_left
  ·exact h.elim
  rename_i cs rQ
  obtain⟨inf,z,hi,hsz,_,hz,oF,_⟩:=hT.info
  obtain⟨Cn,E_⟩:=ml (ok:=ok) (φ:=φ) (w:=w) (hp:=s.hp) oF
  obtain⟨places,hp1,N7⟩:=zU P fields.toList (hT.DH fields hu)
  have Q7:∀i o ft fi,nth fs i=some (o,ft)→E.ti ft=some fi→places.toArray[i]? = some (o,fi.ck.length):=by
   intro i o ft fi hn DS
   obtain⟨fd,Xp,ho,TN⟩:=rM Xo hn
   subst ho;subst TN
   obtain⟨aiV,_,Xq,aiW,_⟩:=(hE.ti DS).info
   have:=N7 i fd (by simpa using Xp) aiV Xq
   rw[aiW]at this
   simpa using this
  obtain⟨uj,e1,e2,e3,e4⟩:=yf hE r hg Q7 parts.toList (fJ ck) cs z.cells rQ (by rw[dI];simpa using Cn) (fun i c x h1 h2=>E_ i c x h1 (by simpa using h2))
  refine⟨_,.agg uj,fun w=>?_,h,.agg e2 e4⟩
  apply run_build
  unfold Program.built
  simp only[hi,hu,hz,hp1]
  rw[Array.toList_map]
  exact e1
 ·rename_i ck by_ len e eqq dY
  have hT:=hE.ti dY
  obtain⟨hu,_⟩:=hT.qx rfl
  split at h
  rotate_left
  ·exact h.elim
  rename_i ei mj
  split at h
  rotate_left
  ·exact h.elim
  rename_i cs rQ
  obtain⟨inf,z,hi,hsz,_,hz,oF,_⟩:=hT.info
  obtain⟨ao_,_,aiX,aiY,_⟩:=(hE.ti mj).info
  obtain⟨Cn,E_⟩:=ml (ok:=ok) (φ:=φ) (w:=w) (hp:=s.hp) oF
  obtain⟨uj,e1,e2,e3,e4⟩:=pB r hg parts.toList (fJ ck) cs z.cells rQ (by rw[dI];simpa using Cn) (fun i c x h1 h2=>E_ i c x h1 (by simpa using h2))
  refine⟨_,.agg uj,fun w=>?_,h,.agg e2 e4⟩
  apply run_build
  unfold Program.built
  simp only[hi,hu,hz,aiX,aiY]
  rw[Array.toList_map]
  exact e1
 ·exact h.elim
def wF:Op→Option Operand
 | .load _ x=>some x
 | .convert _ _ x=>some x
 |_=>none
def pC:Value→Option Nat
 | .slice (some a) (_+1) _=>some a.block
 | .slice _ _ _=>none
 |v=>aq v
theorem rS{ti:TI}{hp:List (Nat×B)}{c:V}{v:Value}(hv:VR ok φ hp w c v){K:V→Prop}(h:jN ti s c K):pC v=aq v:=by
 cases hv<;>first|rfl|exact(h:False).elim
theorem gH(l:List UInt8):(gX l).length=l.length:=by
 induction l with
 |nil=>rfl
 |cons c r ih=>simp[gX,ih]
theorem rT{l:List UInt8}{i:Nat}(h:i<l.length):(gX l).getD i []=[.v (.int .u8 ((l[i]).toNat:Int))]:=by
 induction l generalizing i with
 |nil=>simp at h
 |cons c r ih=>
  cases i with
  |zero=>rfl
  |succ i=>simp only[gX,List.getD_cons_succ,List.getElem_cons_succ];exact ih (by simpa using h)
theorem tI{t0 t e:TypeId}{ti0 ti ei:TI}(hT0:cF P t0 ti0)(hd0:ti0.td = .slice e)(qz:cF P e ei)(Xr:ei.ck=[.int .u8])(hde:ei.td = .plain)(hT:cF P t ti)(xN:ti.ck=[.str])(hdt:ti.td = .plain)
  {v:Value} {b:ByteArray} {ad:Option Addr} {cap:Nat} (hv:v = .slice ad (gX b.data.toList).length cap) (hC:fR ok w ad (gX b.data.toList)) (hn:ad=none→v = .slice none 0 0) {w₂:World} (hw:∀k,pC v=some k→w₂.heap[k]? = w.heap[k]?):
  (convert t0 t v).run P w₂ = .ok (.string b) w₂:=by
 obtain⟨hu,_⟩:=hT0.dA hd0
 have hue:P.underlying e=some (.int .u8):=qz.wA hde Xr
 have hut:P.underlying t=some .string:=hT.lS hdt xN
 rw[gH]at hv
 by_cases bT:b.data.toList=[]
 ·have hb:b=ByteArray.empty:=by
   have:b.data = #[]:=by simpa using bT
   cases b;simp only at this;subst this;rfl
  cases ad with
  |none=>rw[hv];have:=run_convert_bytes_nil (P:=P) w₂ t0 e hu hue b.data.toList.length cap t hut;rw[this,hb]
  |some x=>
   rw[hv,bT]
   have:=run_convert_bytes_string (P:=P) w₂ t0 t e (some x) 0 cap hu hue hut
   simp only[List.length_nil]
   rw[this,run_bytesToString w₂ x 0 cap [] (by simp[loadCells,loadCellsFrom]),hb]
   rfl
 ·obtain⟨k,off,sz,rfl,bC,hc⟩:=hC (by intro h;apply bT;have:=congrArg List.length h;rw[gH]at this;exact List.eq_nil_of_length_eq_zero this)
  have hlt:0<b.data.toList.length:=List.length_pos_iff.2 bT
  have hsz:sz=1:=by
   have h0:=rT (l:=b.data.toList) hlt
   have hm:(gX b.data.toList).getD 0 []∈gX b.data.toList:=by
    rw[List.getD_eq_getElem?_getD,List.getElem?_eq_getElem (by rw[gH];exact hlt)]
    exact List.getElem_mem _
   have:=bC _ hm
   rw[h0]at this
   exact this.symm
  subst hsz
  rw[hv]
  have:=run_convert_bytes_arg (P:=P) w₂ t0 e hu hue k off b.data.toList.length cap (b.data.toList.map fun c=>(c.toNat:Int)) (by simp) (fun i hi=>by
   obtain⟨u,h1,h2⟩:=hc i 0 (by rw[gH];exact hi) (by decide)
   rw[rT hi]at h2
   have hu:u = .int .u8 ((b.data.toList[i]).toNat:Int):=by cases h2;rfl
   rw[World.cell?_of_block (w:=w) (hw k (by
    rw[hv]
    obtain⟨m,hm⟩:∃m,b.data.toList.length=m+1:=⟨b.data.toList.length-1,by omega⟩
    rw[hm];rfl))]
   simp only[Nat.mul_one,Nat.add_zero]at h1
   rw[h1,hu,List.getD_eq_getElem?_getD,List.getElem?_map,List.getElem?_eq_getElem hi]
   rfl) t hut
  rw[this]
  congr 2
  have e1:strOfNums (b.data.toList.map fun c=>(c.toNat:Int))=⟨(b.data.toList).toArray⟩:=by
   unfold strOfNums
   rw[List.map_map]
   congr 2
   conv=>rhs;rw[←List.map_id b.data.toList]
   apply List.map_congr_left
   intro c _
   simp
  rw[e1]
theorem iY(hE:c8 P E)(r:Rel B0 bx W0 aI Z N ok φ s a w){g:List (Nat×Bool)}(hg:Holds a g){o:Oper}{A:World→Prop}(hA:∀x,wF o.op=some x→∀w₂,A w₂→∀b,pC (a.eval x)=some b→w₂.heap[b]? = w.heap[b]?){K:V→Prop}(h:dx E s g o.op K):
  Q6 P A ok φ s w (execOp a.eval o) K:=by
 unfold execOp
 generalize o.op=op at h hA
 cases op with
 |move x=>exact⟨_,_,fun _ _=>rfl,h,bI r hg x⟩
 |assign x=>exact⟨_,_,fun _ _=>rfl,h,bI r hg x⟩
 |pick c x y=>
  simp only[dx]at h
  split at h
  ·rename_i t b1 b2 h1 h2 h3
   have e1:=cd r hg h1
   have e2:=cd r hg h2
   have e3:=cd r hg h3
   refine⟨_,.bool (cond t b1 b2),fun w _=>?_,h,cj _⟩
   simp only[e1,e2,e3,asBool,Sem.run_bind,Sem.run_pure,Result.andThen_ok]
   cases t<;>rfl
  ·exact h.elim
 |load t x=>
  simp only[dx]at h
  split at h
  ·rename_i ti dY
   obtain⟨v,v',h1,h2,h3⟩:=pA (hE.ti dY) r (bI r hg x) h
   exact bP ⟨v,v',fun w₂ DJ=>h1 w₂ (fun b hb=>hA x rfl w₂ DJ b (by rw[rS (bI r hg x) h];exact hb)),h2,h3⟩
  ·exact h.elim
 |nilCheck x=>
  simp only[dx]at h
  dsimp only
  have hv:=bI r hg x
  revert hv h
  generalize a.eval x=y
  generalize ev s g x=c
  intro h hv
  cases hv with
  |ref hb hφ=>exact⟨_,_,fun _ _=>rfl,h,.ref hb hφ⟩
  |gg hb hφ=>exact⟨_,_,fun _ _=>rfl,h,.gg hb hφ⟩
  |bW x fQ hc hr=>exact⟨_,_,fun _ _=>rfl,h,.bW x fQ hc hr⟩
  |fn hs hr=>exact⟨_,_,fun _ _=>rfl,h,.fn hs hr⟩
  |_=>exact h.elim
 |binOp op t x y t2=>
  simp only[dx]at h
  split at h
  ·rename_i hc
   have hy:y = .const .nilIface:=by
    revert hc
    unfold FA
    split<;>simp
   subst hy
   obtain⟨v,v',h1,h2,h3⟩:=zR hE h x (bI r hg x)
   exact bP ⟨v,v',fun w₂ _=>h1 w₂,h2,h3⟩
  ·obtain⟨v,v',h1,h2,h3⟩:=zS hE h x y (bI r hg x) (bI r hg y)
   exact bP ⟨v,v',fun w₂ _=>h1 w₂,h2,h3⟩
 |unOp op t x=>
  simp only[dx]at h
  split at h
  ·rename_i b he
   have:=cd r hg he
   exact⟨_,.bool (!b),fun w _=>by simp[this,Op.unary,Sem.run_bind],h,cj _⟩
  ·rename_i k n he
   have:=cd r hg he
   exact⟨_,.int k (k.wrap (0-n)),fun w _=>by simp[this,Op.unary,Op.intArith,Sem.run_bind],h,dX _ _⟩
  ·rename_i k n he
   have:=cd r hg he
   exact⟨_,.int k (aB.bits .xor k (if k.signed then -1 else k.max) n),fun w _=>by simp[this,Op.unary,Op.intBits,aB.bits,Sem.run_bind],h,dX _ _⟩
  ·exact h.elim
 |convert t0 t x=>
  simp only[dx]at h
  split at h
  ·rename_i Xs NK Wm
   have:=cd r hg Wm
   refine bP ⟨_,_,fun w _=>?_,h,dX _ _⟩
   rw[this]
   exact run_convert_int (hE.ti NK) (hE.ti Xs) rfl rfl rfl
  ·rename_i Xs NK Wm
   have:=cd r hg Wm
   refine bP ⟨_,_,fun w _=>?_,h,.d (.v rfl)⟩
   rw[this]
   exact p_ (hE.ti NK) (hE.ti Xs) rfl rfl rfl
  ·rename_i Xs NK
   split at h
   ·rename_i hee
    obtain⟨es,ad,cap,⟨b,rfl,hk⟩,h2,h3,h4,_⟩:=jw r (bI r hg x) h
    exact bP ⟨.d (.v (.string b)),_,fun w₂ DJ=>tI (hE.ti Xs) rfl (hE.ti hee) rfl rfl (hE.ti NK) rfl rfl h2 h3 h4 (hA x rfl w₂ DJ),hk,.d (.v rfl)⟩
   ·exact h.elim
  ·exact h.elim
 |extract x i=>
  simp only[dx]at h
  dsimp only
  have hv:=bI r hg x
  revert hv h
  generalize a.eval x=y
  generalize ev s g x=c
  intro h hv
  cases hv with
  | @pq cs xs hs hr=>
    simp only at h
    split at h
    ·rename_i v hn
     rw[lR]at hn
     have hlt:i<xs.size:=by rw[hs];exact(List.getElem?_eq_some_iff.1 hn).1
     refine⟨v,xs[i],fun w _=>?_,h,hr i v _ hn (Array.getElem?_eq_getElem hlt)⟩
     simp[Instr.extract,hlt,Sem.run_bind]
    ·exact h.elim
  |_=>exact h.elim
 |fieldAddr t x f=>
  simp only[dx]at h
  dsimp only
  split at h
  rotate_left
  ·exact h.elim
  rename_i ti fs dY
  obtain⟨fields,hu,Xo,_⟩:=(hE.ti dY).mE rfl
  split at h
  rotate_left
  ·exact h.elim
  rename_i o ft hn
  obtain⟨fd,Xp,Wk,TN⟩:=rM Xo hn
  subst Wk;subst TN
  have hv:=bI r hg x
  revert hv h
  generalize a.eval x=y
  generalize ev s g x=c
  intro h hv
  have zV:∀(w:World) (b off:Nat) (fi:TI),E.ti fd.type=some fi→(Instr.fieldAt t (.pointer (some ⟨b,off,none⟩)) f).run P w = .ok (.pointer (some ⟨b,off+fd.offset,none⟩)) w:=by
   intro w b off fi DS
   have hT:=hE.ti DS
   unfold Instr.fieldAt
   simp only[Sem.run_bind,run_underlying hu,Result.andThen_ok,Xp,Instr.sureAddr,Sem.run_pure,fieldPlace,hT.dz]
   have:=hT.pos
   rw[if_neg (by omega)]
   simp[addr_add]
  split at h
  ·rename_i fi k off DS
   cases hv
   rename_i g' DM jR hφ
   exact bP ⟨_,_,fun w _=>zV w _ _ _ DS,h,.ref jR hφ⟩
  ·rename_i fi k i off DS
   cases hv
   rename_i g' n cap sz es hb hφ
   exact bP ⟨_,_,fun w _=>zV w _ _ _ DS,h,by rw[Nat.add_assoc];exact .gg hb hφ⟩
  ·rename_i fi cs DS
   cases hv
   rename_i b off x fQ hc hr
   refine bP ⟨_,_,fun w _=>zV w _ _ _ DS,h,?_⟩
   rw[rL]
   refine .bW (fun j=>x (fd.offset+j)) (fun bT=>fQ (by rintro rfl;simp at bT)) (fun j hj=>?_) (fun j hj=>?_)
   ·have tp:fd.offset+j<cs.length:=by simp at hj;omega
    rw[Nat.add_assoc];exact hc _ tp
   ·have tp:fd.offset+j<cs.length:=by simp at hj;omega
    have:=hr _ tp
    rw[List.getD_eq_getElem?_getD]at this ⊢
    rw[List.getElem?_drop];exact this
  ·exact h.elim
 |field t x f=>
  simp only[dx]at h
  dsimp only
  split at h
  rotate_left
  ·exact h.elim
  rename_i ti fs dY
  obtain⟨fields,hu,Xo,_⟩:=(hE.ti dY).mE rfl
  split at h
  rotate_left
  ·exact h.elim
  rename_i o ft hn
  obtain⟨fd,Xp,Wk,TN⟩:=rM Xo hn
  subst Wk;subst TN
  have hv:=bI r hg x
  revert hv h
  generalize a.eval x=y
  generalize ev s g x=c
  intro h hv
  split at h
  rotate_left
  ·exact h.elim
  rename_i fi cs DS
  split at h
  rotate_left
  ·exact h.elim
  rename_i l rI
  split at h
  rotate_left
  ·exact h.elim
  rename_i v E7
  cases hv
  rename_i xs hs hr
  have hT:=hE.ti DS
  obtain⟨hlen,rfl⟩:=jP rI
  have FK:∀(i:Nat) (c:V) (y:Value),((cs.drop fd.offset).take fi.ck.length)[i]? = some c→((xs.toList.drop fd.offset).take fi.ck.length)[i]? = some y→VR ok φ s.hp w c y:=by
   intro i c y h1 h2
   rw[List.getElem?_take]at h1 h2
   split at h1
   ·rename_i hi
    rw[if_pos hi]at h2
    rw[List.getElem?_drop]at h1 h2
    exact hr _ c y h1 (by simpa using h2)
   ·cases h1
  refine bP ?_
  have gi:∀w,(Instr.field t (.agg xs) f).run P w=(part fd.type xs fd.offset).run P w:=by
   intro w
   unfold Instr.field
   simp only[Sem.run_bind,run_underlying hu,Result.andThen_ok,Xp,asAgg,Sem.run_pure]
  cases ha:fi.agg
  ·have h1:=hT.ny ha
   have hlt:fd.offset<xs.size:=by omega
   refine⟨v,xs[fd.offset],fun w _=>?_,h,?_⟩
   ·rw[gi]
    have:=gG (P:=P) (t:=fd.type) (w:=w) (by rw[hT.kj,ha]) xs.toList fd.offset xs[fd.offset] (by simp[hlt])
    simpa using this
   ·refine gm (xs:=[xs[fd.offset]]) E7 (by simp;omega) (.inr ⟨ha,rfl⟩) (fun i c y h2 h3=>FK i c y h2 ?_)
    cases i with
    |zero=>
     simp at h3;subst h3
     rw[List.getElem?_take,if_pos (by omega),List.getElem?_drop]
     simp[hlt]
    |succ i=>simp at h3
  ·refine⟨v,.agg ((xs.toList.drop fd.offset).take fi.ck.length).toArray,fun w _=>?_,h,?_⟩
   ·rw[gi]
    have:=iF (P:=P) (t:=fd.type) (w:=w) (n:=fi.ck.length) (by rw[hT.kj,ha]) (hT.dz w) xs.toList fd.offset
    simpa using this
   ·exact gm E7 (by simp;omega) (.inl ⟨ha,rfl⟩) FK
 |indexAddr t x i=>
  simp only[dx]at h
  dsimp only
  split at h
  rotate_left
  ·
   rename_i len e kk n dY hi
   have l_:=cd r hg hi
   obtain⟨hu,_⟩:=(hE.ti dY).qx rfl
   split at h
   rotate_left
   ·exact h.elim
   rename_i ei mj
   have hT:=hE.ti mj
   obtain⟨⟨h0,h1⟩,h⟩:=h
   have hv:=bI r hg x
   revert hv h
   rw[l_]
   generalize a.eval x=y
   generalize ev s g x=c
   intro h hv
   have run:∀(w:World) (b off:Nat) (k:IntKind),
     (Instr.indexAt t (.pointer (some ⟨b,off,none⟩)) (.int k n)).run P w = .ok (.pointer (some ⟨b,off+n.toNat*ei.ck.length,none⟩)) w:=by
    intro w b off k
    unfold Instr.indexAt
    simp only[Sem.run_bind,asIntOf,Sem.run_pure,Result.andThen_ok,run_underlying hu,Instr.sureAddr]
    rw[if_pos ⟨h0,h1⟩]
    simp[hT.dz,addr_add]
   split at h
   ·cases hv
    rename_i g' DM jR hφ
    exact bP ⟨_,_,fun w _=>run w _ _ _,h,.ref jR hφ⟩
   ·cases hv
    rename_i g' n cap sz es hb hφ
    exact bP ⟨_,_,fun w _=>run w _ _ _,h,by rw[Nat.add_assoc];exact .gg hb hφ⟩
   ·rename_i cs
    cases hv
    rename_i b off x fQ hc hr
    refine bP ⟨_,_,fun w _=>run w _ _ _,h,?_⟩
    rw[rL]
    refine .bW (fun j=>x (n.toNat*ei.ck.length+j)) (fun bT=>fQ (by rintro rfl;simp at bT)) (fun j hj=>?_) (fun j hj=>?_)
    ·have tp:n.toNat*ei.ck.length+j<cs.length:=by simp at hj;omega
     rw[Nat.add_assoc];exact hc _ tp
    ·have tp:n.toNat*ei.ck.length+j<cs.length:=by simp at hj;omega
     have:=hr _ tp
     simpa[List.getD_eq_getElem?_getD]using this
   ·exact h.elim
  ·exact h.elim
  rename_i kk n dY hi
  have l_:=cd r hg hi
  obtain⟨hu,_⟩:=(hE.ti dY).dA rfl
  split at h
  rotate_left
  ·exact h.elim
  rename_i ei mj
  have hT:=hE.ti mj
  have hv:=bI r hg x
  revert hv h
  rw[l_]
  generalize a.eval x=y
  generalize ev s g x=c
  intro h hv
  have run:∀(w:World) (b off len cap:Nat) (k:IntKind) (n:Int),0≤n→n<(len:Int)→
    (Instr.indexAt t (.slice (some ⟨b,off,none⟩) len cap) (.int k n)).run P w = .ok (.pointer (some ⟨b,off+n.toNat*ei.ck.length,none⟩)) w:=by
   intro w b off len cap k n h0 h1
   unfold Instr.indexAt
   simp only[Sem.run_bind,asIntOf,Sem.run_pure,Result.andThen_ok,run_underlying hu]
   rw[if_pos ⟨h0,h1⟩]
   simp[hT.dz,addr_add]
  split at h
  ·
   rename_i k
   cases hv
   rename_i jR hφ
   split at h
   ·rename_i e0 sz es hb
    obtain⟨⟨h0,h1⟩,rfl,hk⟩:=h
    obtain⟨ct,bC,xs,cx,hr⟩:=r.hp k _ hb
    rcases cx.2 with⟨hn,hz⟩|⟨gb,cap,cur,hs,_⟩
    ·omega
    ·rw[hs]at hφ
     subst hφ
     refine bP ⟨_,_,fun w _=>run w gb 0 es.length cap _ _ h0 h1,hk,?_⟩
     have:=VR.gg (ok:=ok) (w:=w) (i:=n.toNat) (off:=0) (.inl ⟨e0,hb⟩) hs
     simpa using this
   ·rename_i sz es hb
    obtain⟨⟨h0,h1⟩,rfl,hk⟩:=h
    obtain⟨ct,bC,cK,hs⟩:=r.hp k _ hb
    rcases hs with hs|⟨gb,n',cap,hs⟩
    ·rw[hs]at cK
     cases cK
     simp at h1;omega
    ·rw[hs]at hφ cK
     subst hφ
     cases cK with
     |aA=>simp at h1;omega
     |sl=>
      refine bP ⟨_,_,fun w _=>run w gb 0 es.length cap _ _ h0 h1,hk,?_⟩
      have:=VR.gg (ok:=ok) (w:=w) (i:=n.toNat) (off:=0) (.inr hb) hs
      simpa using this
   ·exact h.elim
  ·
   rename_i d
   obtain⟨es,rfl,⟨h0,h1⟩,cells,hc,fw,hk⟩:=h
   cases hv
   rename_i cK
   cases cK with
   |nil=>simp at h1;omega
   |aA=>simp at h1;omega
   | @sl b off cap iz sz x dy fQ hsz E' hr=>
     have hlt:=(List.getElem?_eq_some_iff.1 hc).1
     have hs:sz=ei.ck.length:=by rw[←hsz _ (List.mem_of_getElem? hc),fw]
     subst hs
     refine bP ⟨_,_,fun w _=>run w b off es.length cap _ _ h0 h1,hk,?_⟩
     refine .bW (x n.toNat) (fun _=>fQ (by rintro rfl;simp at hlt)) (fun j hj=>?_) (fun j hj=>?_)
     ·rw[fw]at hj
      rw[Nat.add_assoc];exact E' _ j hlt hj
     ·rw[fw]at hj
      have:=hr _ j hlt hj
      rw[List.getD_eq_getElem?_getD (l:=es),hc]at this
      exact this
  ·
   rename_i k lo m
   split at h
   rotate_left
   ·exact h.elim
   rename_i e0 sz es hb
   obtain⟨⟨h0,h1⟩,rfl,hk⟩:=h
   cases hv with
   | @vw _ _ _ gb m0 cp cp' off Xl es1 jR hφ hle dy gZ=>
     have hs:Xl=ei.ck.length:=by
      rcases jR with⟨e',h1⟩|h1
      ·rw[hb]at h1;simp only[Option.some.injEq,B.bu.injEq]at h1;exact h1.2.1.symm
      ·rw[hb]at h1;cases h1
     subst hs
     refine bP ⟨_,_,fun w _=>run w gb off m cp' _ _ h0 h1,hk,?_⟩
     have:=VR.gg (ok:=ok) (w:=w) (i:=lo+n.toNat) (off:=0) (.inl ⟨e0,hb⟩) hφ
     rw[gZ (by omega)]
     rw[Nat.add_mul]at this
     simpa using this
  ·exact h.elim
 |makeFunc fn first bY=>
  cases fn with
  |func f=>
   replace h:(match first.toList with|[]=>K (.fn f (kQ s g bY.toList))|_=>False):=h
   dsimp only
   split at h
   ·rename_i TO
    have:first = #[]:=by
     apply Array.ext';simpa using TO
    subst this
    refine bP ⟨_,.func (.func f) #[] (bY.map a.eval),fun w _=>by simp[Instr.makeFunc],h,?_⟩
    refine .fn (by simp[dH]) (fun i c x h1 h2=>?_)
    refine rG r hg bY.toList i c x h1 ?_
    simpa using h2
   ·exact h.elim
  |_=>exact h.elim
 |index t x i=>
  simp only[dx]at h
  dsimp only
  split at h
  ·rename_i b k n hx hi
   rw[cd r hg hx,cd r hg hi]
   obtain⟨h0,hu,c,hc,hk⟩:=h
   split at hu
   rotate_left
   ·exact hu.elim
   rename_i dY
   refine bP ⟨_,.int .u8 c.toNat,fun w _=>?_,hk,dX _ _⟩
   unfold Instr.index
   simp only[Sem.run_bind,asIntOf,Sem.run_pure,Result.andThen_ok,run_underlying ((hE.ti dY).lS rfl rfl),if_pos h0,hc]
  ·rename_i cs k n hx hi
   rw[cd r hg hi]
   have hv:=bI r hg x
   rw[hx]at hv
   revert hv h
   generalize a.eval x=y
   intro h hv
   cases hv
   rename_i xs hs hr
   split at h
   rotate_left
   ·exact h.elim
   rename_i len e eqq dY
   obtain⟨hu,_⟩:=(hE.ti dY).qx rfl
   split at h
   rotate_left
   ·exact h.elim
   rename_i ei mj
   have hT:=hE.ti mj
   obtain⟨⟨h0,h1⟩,h⟩:=h
   have h:=N3 h h0 h1
   split at h
   rotate_left
   ·exact h.elim
   rename_i l rI
   split at h
   rotate_left
   ·exact h.elim
   rename_i v E7
   obtain⟨hlen,rfl⟩:=jP rI
   have FK:∀(i:Nat) (c:V) (y:Value),((cs.drop (n.toNat*ei.ck.length)).take ei.ck.length)[i]? = some c→((xs.toList.drop (n.toNat*ei.ck.length)).take ei.ck.length)[i]? = some y→VR ok φ s.hp w c y:=by
    intro i c y h1 h2
    rw[List.getElem?_take]at h1 h2
    split at h1
    ·rename_i hi
     rw[if_pos hi]at h2
     rw[List.getElem?_drop]at h1 h2
     exact hr _ c y h1 (by simpa using h2)
    ·cases h1
   refine bP ?_
   have gi:∀w,(Instr.index t (.agg xs) (.int k n)).run P w=(part e xs (n.toNat*ei.ck.length)).run P w:=by
    intro w
    unfold Instr.index
    simp only[Sem.run_bind,asIntOf,Sem.run_pure,Result.andThen_ok,run_underlying hu]
    rw[if_pos ⟨h0,h1⟩]
    simp only[Sem.run_bind,hT.dz,Result.andThen_ok]
   cases ha:ei.agg
   ·have h1:=hT.ny ha
    have hlt:n.toNat*ei.ck.length<xs.size:=by omega
    refine⟨v,xs[n.toNat*ei.ck.length],fun w _=>?_,h,?_⟩
    ·rw[gi]
     have:=gG (P:=P) (t:=e) (w:=w) (by rw[hT.kj,ha]) xs.toList (n.toNat*ei.ck.length) xs[n.toNat*ei.ck.length] (by simp[hlt])
     simpa using this
    ·refine gm (xs:=[xs[n.toNat*ei.ck.length]]) E7 (by simp;omega) (.inr ⟨ha,rfl⟩) (fun i c y h2 h3=>FK i c y h2 ?_)
     cases i with
     |zero=>
      simp at h3;subst h3
      rw[List.getElem?_take,if_pos (by omega),List.getElem?_drop]
      simp[hlt]
     |succ i=>simp at h3
   ·refine⟨v,.agg ((xs.toList.drop (n.toNat*ei.ck.length)).take ei.ck.length).toArray,fun w _=>?_,h,?_⟩
    ·rw[gi]
     have:=iF (P:=P) (t:=e) (w:=w) (n:=ei.ck.length) (by rw[hT.kj,ha]) (hT.dz w) xs.toList (n.toNat*ei.ck.length)
     simpa using this
    ·exact gm E7 (by simp;omega) (.inl ⟨ha,rfl⟩) FK
  ·exact h.elim
 |slice t x lo hi mx=>
  cases mx with
  |some m=>
   refine bP ?_
   obtain⟨v,v',h1,h2,h3⟩:=tH hE r hg h
   exact⟨v,v',fun w _=>h1 w,h2,h3⟩
  |none=>
   refine bP ?_
   obtain⟨v,v',h1,h2,h3⟩:=wC hE r hg h
   exact⟨v,v',fun w _=>h1 w,h2,h3⟩
 |build t parts=>
  refine bP ?_
  obtain⟨v,v',h1,h2,h3⟩:=wE hE r hg h
  exact⟨v,v',fun w _=>h1 w,h2,h3⟩
 |call c=>
  obtain⟨callee,args,pv⟩:=c
  cases callee with
  |value f=>exact(h:False).elim
  |invoke x m=>exact(h:False).elim
  |builtin b=>
   cases b<;>first|exact(h:False).elim|skip
   case len=>
    replace h:(match args.toList,pv.toList with
        |[x],[t]=>
         (match ev s g x,E.ti t with
          | .d (.v (.string b)),some {ck:=[.str],td:=.plain,..}=>K (.d (.v (.int .i64 b.size)))
          |v,some {td:=.slice _,..}=>jq v s fun es=>K (.d (.v (.int .i64 es.length)))
          |_,_=>False)
        |_,_=>False):=h
    split at h
    rotate_left
    ·exact h.elim
    rename_i x t jT zW
    have ha:args = #[x]:=by apply Array.ext';simpa using jT
    have ht:pv = #[t]:=by apply Array.ext';simpa using zW
    subst ha;subst ht
    split at h
    ·rename_i b _ _ _ he dY
     have hx:=cd r hg he
     refine⟨_,.int .i64 b.size,fun w _=>?_,h,dX _ _⟩
     refine eE (fun _=>True) ?_
     simp[builtin,Builtin.len_,hx,run_underlying ((hE.ti dY).lS rfl rfl),Sem.run_bind,goInt]
    ·rename_i he dY
     obtain⟨hu,_⟩:=(hE.ti dY).dA rfl
     obtain⟨es,ad,cap,hk,hv,_⟩:=jw r (bI r hg x) h
     refine⟨_,.int .i64 es.length,fun w _=>?_,hk,dX _ _⟩
     refine eE (fun _=>True) ?_
     simp[builtin,Builtin.len_,hv,run_underlying hu,Sem.run_bind,goInt]
    ·exact h.elim
   case min=>
    replace h:(match kQ s g args.toList with
        |[.d (.v (.int k a)),.d (.v (.int _ b))]=>K (.d (.v (.int k (if b<a then b else a))))
        |_=>False):=h
    split at h
    rotate_left
    ·exact h.elim
    rename_i k n k' m he
    obtain⟨x,y,jT⟩:∃x y,args.toList=[x,y]:=by
     have:=dH s g args.toList
     rw[he]at this
     match args.toList,this with
     |[x,y],_=>exact⟨x,y,rfl⟩
    have ha:args = #[x,y]:=by apply Array.ext';simpa using jT
    subst ha
    simp[kQ]at he
    have hx:=cd r hg he.1
    have hy:=cd r hg he.2
    refine⟨_,.int k (if m<n then m else n),fun w _=>?_,h,dX _ _⟩
    refine eE (fun _=>True) ?_
    simp[builtin,Builtin.min_,Builtin.min2,hx,hy,Sem.run_bind]
   case max=>
    replace h:(match kQ s g args.toList with
        |[.d (.v (.int k a)),.d (.v (.int _ b))]=>K (.d (.v (.int k (if b>a then b else a))))
        |_=>False):=h
    split at h
    rotate_left
    ·exact h.elim
    rename_i k n k' m he
    obtain⟨x,y,jT⟩:∃x y,args.toList=[x,y]:=by
     have:=dH s g args.toList
     rw[he]at this
     match args.toList,this with
     |[x,y],_=>exact⟨x,y,rfl⟩
    have ha:args = #[x,y]:=by apply Array.ext';simpa using jT
    subst ha
    simp[kQ]at he
    have hx:=cd r hg he.1
    have hy:=cd r hg he.2
    refine⟨_,.int k (if m>n then m else n),fun w _=>?_,h,dX _ _⟩
    refine eE (fun _=>True) ?_
    simp[builtin,Builtin.max_,Builtin.max2,hx,hy,Sem.run_bind]
 |_=>exact(h:False).elim
end Go.Dm
