/- Part of the proof: contracts of functions; no condition. -/
import Derived.Test.YtabbmgfeemkkbaaGreatDoorB10
import Derived.WalkKit
import Derived.ProofKit
import Derived.OpenShut
import Derived.ShutString
import Derived.ChangeOld
import Derived.Below
import Derived.SizedLaws
import Derived.Deep.Slices
namespace Go.Dm
inductive lz (P:Program):TypeId→List D→Prop
 |bool {t:TypeId} {b:Bool} (h:P.underlying t=some .bool):lz P t [.v (.bool b)]
 |int {t:TypeId} {k:IntKind} {n:Int} (h:P.underlying t=some (.int k)) (hn:k.min≤n∧n≤k.max):lz P t [.v (.int k n)]
 |str {t:TypeId} {s:ByteArray} (h:P.underlying t=some .string) (hs:s.size≤reachBytes):lz P t [.v (.string s)]
 |sl {t e:TypeId} {es:List (List D)} (h:P.underlying t=some (.slice e)) (hs:es.length*P.bytesOf e≤reachBytes) (hx:∀r∈es,lz P e r):lz P t [.sl es]
 |struct {t:TypeId} {fs:Array Field} {ds:List D} (h:P.underlying t=some (.struct fs)) (hl:ds.length=P.cellsOf t)
  (hx:∀x∈fs.toList,lz P x.type ((ds.drop x.offset).take (P.cellsOf x.type))):lz P t ds
 |arr {t e:TypeId} {n:Nat} {ds:List D} (h:P.underlying t=some (.array n e)) (hl:ds.length=P.cellsOf t)
  (hx:∀i,i<n→lz P e ((ds.drop (i*P.cellsOf e)).take (P.cellsOf e))):lz P t ds
theorem lz.IG{P:Program}{t:TypeId}{ds:List D}(h:lz P t ds)(ht:P.underlying t=some .bool):∃b,ds=[.v (.bool b)]:=by
 cases h<;>simp_all
theorem lz.nU{P:Program}{t:TypeId}{ds:List D}{k:IntKind}(h:lz P t ds)(ht:P.underlying t=some (.int k)):∃n,(k.min≤n∧n≤k.max)∧ds=[.v (.int k n)]:=by
 cases h with
 |int h hn=>rw[h]at ht;cases ht;exact⟨_,hn,rfl⟩
 |_=>simp_all
theorem lz.P1{P:Program}{t:TypeId}{ds:List D}(h:lz P t ds)(ht:P.underlying t=some .string):∃s,s.size≤reachBytes∧ds=[.v (.string s)]:=by
 cases h with
 |str h hn=>exact⟨_,hn,rfl⟩
 |_=>simp_all
theorem lz.IH{P:Program}{t e:TypeId}{ds:List D}(h:lz P t ds)(ht:P.underlying t=some (.slice e)):∃es:List (List D),es.length*P.bytesOf e≤reachBytes∧ds=[.sl es]∧∀r∈es,lz P e r:=by
 cases h with
 |sl h hn hx=>rw[h]at ht;cases ht;exact⟨_,hn,rfl,hx⟩
 |_=>simp_all
theorem lz.ku{P:Program}{t:TypeId}{fs:Array Field}{ds:List D}(h:lz P t ds)(ht:P.underlying t=some (.struct fs)):ds.length=P.cellsOf t∧∀x∈fs.toList,lz P x.type ((ds.drop x.offset).take (P.cellsOf x.type)):=by
 cases h with
 |struct h hl hx=>rw[h]at ht;cases ht;exact⟨hl,hx⟩
 |_=>simp_all
theorem lz.DH{P:Program}{t:TypeId}{fs:Array Field}{ds:List D}(h:lz P t ds)(ht:P.underlying t=some (.struct fs))(i:Nat){x:Field}(hx:fs.toList[i]? = some x){n:Nat}(hn:P.cellsOf x.type=n):lz P x.type ((ds.drop x.offset).take n):=by
 rw[←hn]
 exact(h.ku ht).2 x (List.mem_of_getElem? hx)
def pR(P:Program)(Fm:Nat):Nat→List Field→Bool
 |off,[]=>off==Fm
 |off,f::r=>f.offset==off&&pR P Fm (off+P.cellsOf f.type) r
def qI(P:Program)(S:List TypeId):Bool:=S.all fun t=>match P.underlying t with
 |some .bool=>true
 |some (.int _)=>true
 |some .string=>true
 |some (.slice e)=>S.contains e&&P.cellsOf e != 0
 |some (.struct fs)=>pR P (P.cellsOf t) 0 fs.toList&&fs.toList.all fun f=>S.contains f.type
 |some (.array n e)=>S.contains e&&n*P.cellsOf e==P.cellsOf t
 |_=>false
inductive yP (ok:Nat→Prop) (w:World):List Value→List D→Prop
 |nil:yP ok w [] []
 |cons {v:Value} {d:D} {vs:List Value} {ds:List D} (h:Rd ok w v d) (r:yP ok w vs ds):yP ok w (v::vs) (d::ds)
theorem yP.length{ok:Nat→Prop}{w:World}{vs:List Value}{ds:List D}(h:yP ok w vs ds):vs.length=ds.length:=by
 induction h with
 |nil=>rfl
 |cons h r ih=>simp[ih]
theorem yP.append{ok:Nat→Prop}{w:World}{vs Oh:List Value}{ds Wl:List D}(h:yP ok w vs ds)(h':yP ok w Oh Wl):yP ok w (vs++Oh) (ds++Wl):=by
 induction h with
 |nil=>exact h'
 |cons h r ih=>exact .cons h ih
theorem yP.get{ok:Nat→Prop}{w:World}{vs:List Value}{ds:List D}(h:yP ok w vs ds):∀(i:Nat) (x:D) (v:Value),ds[i]? = some x→vs[i]? = some v→Rd ok w v x:=by
 induction h with
 |nil=>intro i x v h;simp at h
 |cons h r ih=>
  intro i x v h1 h2
  cases i with
  |zero=>simp at h1 h2;subst h1;subst h2;exact h
  |succ i=>simp at h1 h2;exact ih i x v h1 h2
section
variable {H:Type} {enc:TypeId×Value→H} {P:Program} {w:World} {base:Nat} {held:Bool}
theorem lA{e:TypeId}{l:List (DataW H)}{d:DataW H}(h:d∈l){x:Nat}(hx:x∈d.weights P e):x∈DataW.weightsAll P e l:=by
 induction l with
 |nil=>cases h
 |cons y r ih=>
  simp only[DataW.weightsAll,List.mem_append]
  cases h with
  |head=>exact .inl hx
  |tail _ h=>exact .inr (ih h)
theorem kM:∀{ts:List TypeId} {l:List (DataW H)} {i:Nat} {t:TypeId} {d:DataW H},ts[i]? = some t→l[i]? = some d→∀{x:Nat},x∈d.weights P t→x∈DataW.weightsEach P ts l
 |[],_,i,_,_,h,_,_,_=>by simp at h
 |_::_,[],i,_,_,_,h,_,_=>by simp at h
 |_::ts,_::l,0,_,_,h1,h2,x,hx=>by
  simp at h1 h2;subst h1;subst h2
  simp only[DataW.weightsEach,List.mem_append];exact .inl hx
 |_::ts,_::l,i+1,_,_,h1,h2,x,hx=>by
  simp at h1 h2
  simp only[DataW.weightsEach,List.mem_append];exact .inr (kM h1 h2 hx)
def Small(P:Program)(t:TypeId)(d:DataW H):Prop:=∀x∈d.weights P t,x≤reachBytes
theorem nV{cs:List Value}{Fm:Nat}(hO:cs.length=Fm){ok:Nat→Prop}:∀(fs:List Field) (off:Nat),pR P Fm off fs=true→off≤Fm→
  (∀f∈fs,∃ds,yP ok w ((cs.drop f.offset).take (P.cellsOf f.type)) ds∧lz P f.type ds)→
  (∀f∈fs,f.offset+P.cellsOf f.type≤Fm)→
  ∃ds,yP ok w (cs.drop off) ds∧∀f∈fs,off≤f.offset∧lz P f.type ((ds.drop (f.offset-off)).take (P.cellsOf f.type))
 |[],off,ht,ho,_,_=>by
  simp only[pR,beq_iff_eq]at ht
  refine⟨[],?_,by simp⟩
  rw[List.drop_eq_nil_of_le (by omega)]
  exact .nil
 |f::r,off,ht,ho,hf,hle=>by
  simp only[pR,Bool.and_eq_true,beq_iff_eq]at ht
  obtain⟨h1,h2⟩:=ht
  have aqc:=hle f (by simp)
  obtain⟨d1,a1,a2⟩:=hf f (by simp)
  obtain⟨d2,b1,b2⟩:=nV hO r (off+P.cellsOf f.type) h2 (by omega) (fun g hg=>hf g (by simp[hg])) (fun g hg=>hle g (by simp[hg]))
  have zy:d1.length=P.cellsOf f.type:=by
   rw[←a1.length,List.length_take,List.length_drop];omega
  refine⟨d1++d2,?_,?_⟩
  ·have:cs.drop off=(cs.drop f.offset).take (P.cellsOf f.type)++cs.drop (off+P.cellsOf f.type):=by
    rw[h1,←List.drop_drop,List.take_append_drop]
   rw[this]
   exact a1.append b1
  ·intro g hg
   cases hg with
   |head=>
    refine⟨by omega,?_⟩
    rw[h1,Nat.sub_self,List.drop_zero,List.take_append_of_le_length (by omega),List.take_of_length_le (by omega)]
    exact a2
   |tail _ hg=>
    obtain⟨c1,c2⟩:=b2 g hg
    refine⟨by omega,?_⟩
    have:(d1++d2).drop (g.offset-off)=d2.drop (g.offset-(off+P.cellsOf f.type)):=by
      rw[List.drop_append,List.drop_eq_nil_of_le (by omega),List.nil_append,zy]
      congr 1
      omega
    rw[this]
    exact c2
theorem pS{cs:List Value}{c n:Nat}(hO:cs.length=n*c){ok:Nat→Prop}{e:TypeId}
  (hx:∀i,i<n→∃ds,yP ok w ((cs.drop (i*c)).take c) ds∧lz P e ds):∀k,k≤n→∃ds,yP ok w (cs.take (k*c)) ds∧∀i,i<k→lz P e ((ds.drop (i*c)).take c)
 |0,_=>⟨[],by simp;exact .nil,fun i h=>by omega⟩
 |k+1,hk=>by
  obtain⟨d1,a1,a2⟩:=pS hO hx k (by omega)
  obtain⟨d2,b1,b2⟩:=hx k (by omega)
  have hmul:(k+1)*c≤n*c:=Nat.mul_le_mul_right _ hk
  have hm:(k+1)*c=k*c+c:=Nat.succ_mul k c
  have zy:d1.length=k*c:=by rw[←a1.length,List.length_take];omega
  have p':d2.length=c:=by rw[←b1.length,List.length_take,List.length_drop];omega
  refine⟨d1++d2,?_,fun i hi=>?_⟩
  ·have:cs.take ((k+1)*c)=cs.take (k*c)++(cs.drop (k*c)).take c:=by rw[hm,List.take_add]
   rw[this]
   exact a1.append b1
  ·by_cases h:i<k
   ·have hi2:(i+1)*c≤k*c:=Nat.mul_le_mul_right _ h
    have hi3:(i+1)*c=i*c+c:=Nat.succ_mul i c
    have:((d1++d2).drop (i*c)).take c=(d1.drop (i*c)).take c:=by
     rw[List.drop_append_of_le_length (by omega),List.take_append_of_le_length (by rw[List.length_drop];omega)]
    rw[this]
    exact a2 i h
   ·have:i=k:=by omega
    subst this
    rw[←zy,List.drop_left,List.take_of_length_le (by omega)]
    exact b2
theorem CW{Fm:Nat}:∀(fs:List Field) (off:Nat),pR P Fm off fs=true→off≤Fm∧∀f∈fs,f.offset+P.cellsOf f.type≤Fm
 |[],off,h=>by simp only[pR,beq_iff_eq]at h;exact⟨by omega,by simp⟩
 |f::r,off,h=>by
  simp only[pR,Bool.and_eq_true,beq_iff_eq]at h
  obtain⟨a,b⟩:=CW r _ h.2
  refine⟨by omega,fun g hg=>?_⟩
  cases hg with
  |head=>omega
  |tail _ hg=>exact b g hg
theorem AF{S:List TypeId}(hS:qI P S=true):∀(n:Nat) (t:TypeId) (cs:List Value) (x:DataW H×List MemPlace),t∈S→
  DataW.trod enc P w base (fun _=>true) held n t cs=some x→Small P t x.1→∃ds,yP (fun b=>b<w.heap.size) w cs ds∧lz P t ds:=by
 intro n
 induction n with
 |zero=>intro t cs x _ h;simp[DataW.trod]at h
 |succ n ih=>
  intro t cs x ht h WG
  have hb:=List.all_eq_true.1 hS t ht
  split at hb
  ·rename_i hu
   obtain⟨b,rfl,_⟩:=DataW.trod_bool hu h
   exact⟨[.v (.bool b)],.cons (.v rfl) .nil,.bool hu⟩
  ·rename_i k hu
   obtain⟨m,rfl,_,hw⟩:=DataW.trod_int hu h
   refine⟨[.v (.int k m)],.cons (.v rfl) .nil,.int hu ?_⟩
   simpa[Lit.wf]using hw
  ·rename_i hu
   obtain⟨s,rfl,hx,hs⟩:=DataW.trod_string hu h
   refine⟨[.v (.string s)],.cons (.v rfl) .nil,.str hu ?_⟩
   subst hx
   exact WG _ (by simp[DataW.weights])
  ·rename_i e hu
   simp only[Bool.and_eq_true,List.contains_iff_mem,bne_iff_ne,ne_eq]at hb
   obtain⟨he,hc0⟩:=hb
   rcases DataW.trod_slice hu h with⟨rfl,_⟩|⟨a,len,cap,elems,rest,m,hm,rfl,rfl,hb,hl,hcm,hlen,FK,_,_⟩
   ·exact⟨[.sl []],.cons .nil .nil,.sl hu (by simp) (by simp)⟩
   ·cases hm
    have hw:∀y∈DataW.weightsAll P e (elems.map (·.1)),y≤reachBytes:=fun y hy=>WG y (by
     show y∈DataW.weights P t (.slice (elems.map (·.1)) (rest.map (·.1)))
     unfold DataW.weights
     rw[hu]
     simp[hy])
    have hwl:elems.length*P.bytesOf e≤reachBytes:=by
     have:=WG ((elems.length+rest.length)*P.bytesOf e) (by
      show _∈DataW.weights P t (.slice (elems.map (·.1)) (rest.map (·.1)))
      unfold DataW.weights
      rw[hu]
      simp)
     exact Nat.le_trans (Nat.mul_le_mul_right _ (by omega)) this
    have each:∀i,i<len→∃eN ds,w.cells? base (a.add (i*P.cellsOf e)) (P.cellsOf e)=some eN∧yP (fun b=>b<w.heap.size) w eN ds∧lz P e ds:=by
     intro i hi
     have h1:=FK i hi
     rw[List.getElem?_eq_getElem (by omega),Option.bind_eq_some_iff]at h1
     obtain⟨eN,h2,h3⟩:=h1
     obtain⟨ds,h4,h5⟩:=ih e eN _ he h3 (fun y hy=>hw y (lA (List.mem_map.2 ⟨elems[i]'(by omega),List.getElem_mem _,rfl⟩) hy))
     exact⟨eN,ds,h2,h4,h5⟩
    by_cases hl0:len=0
    ·subst hl0
     exact⟨[.sl []],.cons .aA .nil,.sl hu (by simp) (by simp)⟩
    ·let es:List (List D):=(List.range len).map fun i=>if hi:i<len then(each i hi).choose_spec.choose else []
     have qy:es.length=len:=by simp[es]
     have heg:∀i (hi:i<len),es.getD i []=(each i hi).choose_spec.choose:=by
      intro i hi
      simp[es,List.getD_eq_getElem?_getD,hi]
     have CZ:∀(eN:List Value) (ad:Addr),w.cells? base ad (P.cellsOf e)=some eN→eN.length=P.cellsOf e:=by
      intro eN ad h1
      unfold World.cells? at h1
      split at h1
      ·have:=mapM_some_length h1;simpa using this
      ·cases h1
     have jS:∀(eN:List Value) (ad:Addr),w.cells? base ad (P.cellsOf e)=some eN→∀j,j<P.cellsOf e→w.cell? (ad.add j)=eN[j]?:=by
      intro eN ad h1 j hj
      unfold World.cells? at h1
      split at h1
      ·exact mapM_some_get h1 j j (by simp[hj])
      ·cases h1
     obtain⟨ac2,hblk⟩:a.spot=none∧a.block<w.heap.size:=by
      obtain⟨h1,h2,_⟩:=(each 0 (by omega)).choose_spec.choose_spec
      have h3:=jS _ _ h1 0 (by omega)
      rw[List.getElem?_eq_getElem (by rw[CZ _ _ h1];omega)]at h3
      have e0:(a.add (0*P.cellsOf e)).add 0=a:=by simp[Addr.add]
      rw[e0]at h3
      unfold World.cell? at h3
      constructor
      ·split at h3
       ·split at h3
        ·cases h3
        ·rename_i hs;simpa using hs
       ·cases h3
      ·split at h3
       ·rename_i c E';exact(Array.getElem?_eq_some_iff.1 E').1
       ·cases h3
     obtain⟨b,off,sp⟩:=a
     subst ac2
     have ac3:∀i j:Nat,((⟨b,off,none⟩:Addr).add i).add j=⟨b,off+(i+j),none⟩:=by
      intro i j
      rw[addr_add,addr_add,Nat.add_assoc]
     refine⟨[.sl es],.cons ?_ .nil,.sl hu (by rw[qy,←hlen];exact hwl) ?_⟩
     ·have:=Rd.sl (ok:=fun b=>b<w.heap.size) (w:=w) (b:=b) (off:=off) (cap:=cap) (es:=es) (P.cellsOf e) (fun i j=>(w.cell? ⟨b,off+(i*P.cellsOf e+j),none⟩).getD default) (by rw[qy];exact hl) (fun _=>hblk) ?_ ?_ ?_
      ·rw[qy]at this;exact this
      ·intro c hc
       obtain⟨i,hi,rfl⟩:=List.getElem_of_mem hc
       rw[qy]at hi
       have h0:=heg i hi
       rw[List.getD_eq_getElem?_getD,List.getElem?_eq_getElem (by rw[qy];exact hi)]at h0
       simp only[Option.getD_some]at h0
       rw[h0]
       obtain⟨h1,h2,h3⟩:=(each i hi).choose_spec.choose_spec
       rw[←h2.length]
       exact CZ _ _ h1
      ·intro i j hi hj
       rw[qy]at hi
       obtain⟨h1,h2,h3⟩:=(each i hi).choose_spec.choose_spec
       have h4:=jS _ _ h1 j hj
       rw[ac3]at h4
       rw[h4,List.getElem?_eq_getElem (by rw[CZ _ _ h1];exact hj)]
       rfl
      ·intro i j hi hj
       rw[qy]at hi
       rw[heg i hi]
       obtain⟨h1,h2,h3⟩:=(each i hi).choose_spec.choose_spec
       have h4:=jS _ _ h1 j hj
       rw[ac3]at h4
       have wy:=CZ _ _ h1
       refine h2.get j _ ((w.cell? ⟨b,off+(i*P.cellsOf e+j),none⟩).getD default) ?_ ?_
       ·have hlt:j<(each i hi).choose_spec.choose.length:=by rw[←h2.length,wy];exact hj
        rw[List.getD_eq_getElem?_getD,List.getElem?_eq_getElem hlt];rfl
       ·rw[h4,List.getElem?_eq_getElem (by rw[wy];exact hj)];rfl
     ·intro r hr
      obtain⟨i,hi,rfl⟩:=List.getElem_of_mem hr
      rw[qy]at hi
      have h0:=heg i hi
      rw[List.getD_eq_getElem?_getD,List.getElem?_eq_getElem (by rw[qy];exact hi)]at h0
      simp only[Option.getD_some]at h0
      rw[h0]
      exact(each i hi).choose_spec.choose_spec.2.2
  ·rename_i fs hu
   simp only[Bool.and_eq_true,List.all_eq_true,List.contains_iff_mem]at hb
   obtain⟨SX,DO⟩:=hb
   obtain⟨xs,m,hm,rfl,hl,Wi,hx⟩:=DataW.trod_struct hu h
   cases hm
   have hle:=CW _ _ SX
   obtain⟨ds,h1,h2⟩:=nV (w:=w) (P:=P) hl (ok:=fun b=>b<w.heap.size) fs.toList 0 SX (Nat.zero_le _) (by
    intro f hf
    obtain⟨i,hi,rfl⟩:=List.getElem_of_mem hf
    have qa:i<fs.size:=by simpa using hi
    have h1:=hx i (fs.toList[i]) (by simp[qa])
    rw[List.getElem?_eq_getElem (by omega)]at h1
    refine ih _ _ _ (DO _ hf) h1 (fun y hy=>WG y ?_)
    show y∈DataW.weights P t (.agg (xs.map (·.1)))
    unfold DataW.weights
    rw[hu]
    exact kM (i:=i) (t:=fs.toList[i].type) (d:=xs[i].1) (by simp[qa]) (by simp[Wi,qa]) hy) hle.2
   rw[List.drop_zero]at h1
   refine⟨ds,h1,.struct hu (by rw[←h1.length];exact hl) fun f hf=>?_⟩
   have:=(h2 f hf).2
   rwa[Nat.sub_zero]at this
  ·rename_i k e hu
   simp only[Bool.and_eq_true,List.contains_iff_mem,beq_iff_eq]at hb
   obtain⟨he,hc⟩:=hb
   obtain⟨xs,m,hm,rfl,hl,Wi,hx⟩:=DataW.trod_array hu h
   cases hm
   obtain⟨ds,h1,h2⟩:=pS (w:=w) (P:=P) (cs:=cs) (c:=P.cellsOf e) (n:=k) (by rw[hl,hc]) (ok:=fun b=>b<w.heap.size) (e:=e) (by
    intro i hi
    have h1:=hx i hi
    rw[List.getElem?_eq_getElem (by omega)]at h1
    refine ih _ _ _ he h1 (fun y hy=>WG y ?_)
    show y∈DataW.weights P t (.agg (xs.map (·.1)))
    unfold DataW.weights
    rw[hu]
    exact lA (List.mem_map.2 ⟨xs[i]'(by omega),List.getElem_mem _,rfl⟩) hy) k (Nat.le_refl _)
   rw[List.take_of_length_le (by omega)]at h1
   exact⟨ds,h1,.arr hu (by rw[←h1.length];exact hl) h2⟩
  ·cases hb
def WH(P:Program)(t:TypeId)(ds:List D)(r:R):Prop:=match P.underlying t with
 |some (.struct _)|some (.array _ _)=>r = .agg ds
 |_=>∃d,ds=[d]∧r = .d d
inductive lB (P:Program):List TypeId→List R→Prop
 |nil:lB P [] []
 |cons {t:TypeId} {ts:List TypeId} {ds:List D} {r:R} {rs:List R} (h:lz P t ds) (hr:WH P t ds r) (k:lB P ts rs):lB P (t::ts) (r::rs)
theorem ny{v:Value}(h:∀cs,v≠.agg cs)(h2:∀cs,v≠.tuple cs):v.cells.toList=[v]:=by
 cases v<;>simp_all[Value.cells]
theorem sB{S:List TypeId}(hS:qI P S=true):∀{ts:List TypeId} {vs:List Value} {ds:List (DataW H)} {ps:List MemPlace},(∀t∈ts,t∈S)→
  (∀(j:Nat) t v,ts[j]? = some t→vs[j]? = some v→Value.okWide P w .any base t v)→
  DataW.TrodAll enc P w 0 (fun _=>true) held ts vs ds ps→(∀x∈DataW.weightsEach P ts ds,x≤reachBytes)→
  ∃rs,cC (fun b=>b<w.heap.size) w [] rs vs∧lB P ts rs
 |[],[],[],_,_,_,_,_=>⟨[],.nil,.nil⟩
 |t::ts,v::vs,d::ds,ps,hm,hv,h,hw=>by
  obtain⟨p,q,h1,h2,_⟩:=h
  obtain⟨rs,a1,a2⟩:=sB hS (fun t' zI=>hm t' (by simp[zI])) (fun j t' v' e1 e2=>hv (j+1) t' v' (by simpa using e1) (by simpa using e2)) h2
   (fun x hx=>hw x (by simp only[DataW.weightsEach,List.mem_append];exact .inr hx))
  obtain⟨n,hn⟩:=h1
  obtain⟨es,b1,b2⟩:=AF hS n t v.cells.toList (d,p) (hm t (by simp)) hn (fun x hx=>hw x (by simp only[DataW.weightsEach,List.mem_append];exact .inl hx))
  have kA:=hv 0 t v rfl rfl
  have hb:=List.all_eq_true.1 hS t (hm t (by simp))
  have lW:(∀fs,P.underlying t≠some (.struct fs))→(∀k e,P.underlying t≠some (.array k e))→∃rs,cC (fun b=>b<w.heap.size) w [] rs (v::vs)∧lB P (t::ts) rs:=by
   intro n1 n2
   obtain⟨d',rfl⟩:∃d',es=[d']:=by
    cases b2 with
    |struct h=>exact(n1 _ h).elim
    |arr h=>exact(n2 _ _ h).elim
    |_=>exact⟨_,rfl⟩
   have hO:v.cells.toList=[v]:=by
    have hl:=b1.length
    generalize E':v.cells.toList=cc at b1 hl
    cases v<;>first|(simp[Value.cells]at E';exact E'.symm)|skip
    all_goals
     exfalso
     unfold Value.okWide at kA
     cases b2 with
     |struct h=>exact(n1 _ h).elim
     |arr h=>exact(n2 _ _ h).elim
     |bool h=>rw[h]at kA;simp[Cell.okWide,Cell.ok,h]at kA
     |int h=>rw[h]at kA;simp[Cell.okWide,Cell.ok,h]at kA
     |str h=>rw[h]at kA;simp[Cell.okWide,Cell.ok,h]at kA
     |sl h=>rw[h]at kA;simp[Cell.okWide,Cell.ok,h]at kA
   rw[hO]at b1
   cases b1 with
   |cons hr _=>
    refine⟨.d d'::rs,.d hr a1,.cons b2 ?_ a2⟩
    unfold WH
    split
    ·rename_i h;exact(n1 _ h).elim
    ·rename_i h;exact(n2 _ _ h).elim
    ·exact⟨d',rfl,rfl⟩
  have C0:(∃cs,v = .agg cs)→WH P t es (.agg es)→∃rs,cC (fun b=>b<w.heap.size) w [] rs (v::vs)∧lB P (t::ts) rs:=by
   rintro⟨cs,rfl⟩ ha
   simp only[Value.cells]at b1
   refine⟨.agg es::rs,.agg (by simpa using b1.length) (fun i x v h1 h2=>b1.get i x v h1 (by simpa using h2)) a1,.cons b2 ha a2⟩
  split at hb
  ·exact lW (by simp_all) (by simp_all)
  ·exact lW (by simp_all) (by simp_all)
  ·exact lW (by simp_all) (by simp_all)
  ·exact lW (by simp_all) (by simp_all)
  ·rename_i fs hu
   refine C0 ?_ (by unfold WH;rw[hu])
   unfold Value.okWide at kA
   rw[hu]at kA
   obtain⟨cs,h,_⟩:=kA
   exact⟨cs,h⟩
  ·rename_i k e hu
   refine C0 ?_ (by unfold WH;rw[hu])
   unfold Value.okWide at kA
   rw[hu]at kA
   obtain⟨cs,h,_⟩:=kA
   exact⟨cs,h⟩
  ·cases hb
 |[],_::_,_,_,_,_,h,_=>by cases ‹List (DataW H)›<;>exact h.elim
 |[],[],_::_,_,_,_,h,_=>h.elim
 |_::_,[],_,_,_,_,h,_=>by cases ‹List (DataW H)›<;>exact h.elim
 |_::_,_::_,[],_,_,_,h,_=>h.elim
end
section
open Go.ChangeShapes Go.WideShapes Go.ChangeAt Go.RowKit
variable {H:Type} {enc:TypeId×Value→H} {P:Program}
theorem mw(hl:laidOutB P=true){W W':World}(hb:Below W.heap.size W W'):∀{ts:List TypeId} {vs:List Value} {ds:List (DataW H)} {ps:List MemPlace},ts.all (fun t=>P.readableRec t&&decide (t<P.types.size))=true→
  DataW.TrodAll enc P W 0 (fun _=>true) true ts vs ds ps→DataW.TrodAll enc P W' 0 (fun b=>decide (b<W.heap.size)) true ts vs ds ps
 |[],[],[],_,_,h=>h
 |[],[],_::_,_,_,h=>h.elim
 |[],_::_,[],_,_,h=>h.elim
 |[],_::_,_::_,_,_,h=>h.elim
 |_::_,[],[],_,_,h=>h.elim
 |_::_,[],_::_,_,_,h=>h.elim
 |_::_,_::_,[],_,_,h=>h.elim
 |t::ts,v::vs,d::ds,ps,ht,h=>by
  simp only[List.all_cons,Bool.and_eq_true,decide_eq_true_eq]at ht
  obtain⟨p,q,h1,h2,rfl⟩:=h
  refine⟨p,q,Below.trod hl ht.1.1 ht.1.2 h1 hb (fun x hx=>?_),mw hl hb (by simpa using ht.2) h2,rfl⟩
  obtain⟨m,hm⟩:=h1
  exact DataW.trod_lt m _ _ _ hm x hx
theorem tO{f:Nat}{fn:Func}{s:ChangeSpec}{S:List TypeId}{tb:TypeId}(hS:qI P S=true)(hl:laidOutB P=true)
  (hps:fn.params.toList.all (fun t=>S.contains t)=true) (cK:fn.params.toList.all (fun t=>P.readableRec t&&decide (t<P.types.size))=true)
  (qd:fn.resultTypes = #[tb]) (ac4:P.underlying tb=some .bool) (II:s.vars=[])
  (nJ:∀ds:List (DataW H),ds.length=fn.params.size→s.fn H (ds++[])={results:=[.lit (.bool true)],args:=ds})
  {gl:Nat→Option Obj} (xN:∀rs,lB P fn.params.toList rs→Ct P gl f rs (gives [.d (.v (.bool true))]))
  (W:World) (mK:∀b o,gl b=some o→W.heap[b]? = some o) (base:Nat) (args:Array Value) (ds gs:List (DataW H)) (before:List MemPlace)
  (kA:∀(j:Nat) t v,fn.params[j]? = some t→args[j]? = some v→Value.okWide P W .any base t v)
  (hW:DataW.Whole enc P fn.params.toList s.vars false W args.toList ds gs before)
  (hsz:(DataW.weightsEach P (fn.params.toList++s.plain.varTypes P) (ds++gs)).all (·≤reachBytes)=true):
  Calls P f args W fun e W'=>∃v,e = .returned v∧s.post enc P fn false true false false W args v W':=by
 have hW':=hW
 obtain⟨p,q,hA,hV,rfl,hfz,Q_⟩:=hW
 rw[II]at hV
 have hgs:gs=[]∧q=[]:=by
  cases gs with
  |nil=>exact⟨rfl,hV⟩
  |cons=>exact hV.elim
 obtain⟨rfl,rfl⟩:=hgs
 have hlen:ds.length=fn.params.size:=by
  have:∀{ts:List TypeId} {vs:List Value} {ds:List (DataW H)} {ps:List MemPlace},DataW.TrodAll enc P W 0 (fun _=>true) true ts vs ds ps→ds.length=ts.length:=by
   intro ts
   induction ts with
   |nil=>intro vs ds ps h;cases vs<;>cases ds<;>first|rfl|exact h.elim
   |cons t ts ih=>
    intro vs ds ps h
    cases vs with
    |nil=>cases ds<;>exact h.elim
    |cons v vs=>
     cases ds with
     |nil=>exact h.elim
     |cons d ds=>obtain⟨p,q,_,h2,_⟩:=h;simp[ih h2]
  simpa using this hA
 have hvt:s.plain.varTypes P=[]:=by
  unfold DataSpec.varTypes ChangeSpec.plain
  rw[II];rfl
 rw[hvt,List.append_nil,List.append_nil]at hsz
 simp only[List.all_eq_true,decide_eq_true_eq,List.contains_iff_mem]at hsz hps
 obtain⟨rs,hR,hT⟩:=sB (base:=base) hS hps (fun j t v h1 h2=>kA j t v (by simpa using h1) (by simpa using h2)) hA hsz
 have pL:=(xN rs hT).run W (fun b=>b<W.heap.size) args.toList [] (fun b o hb=>⟨by have:=mK b o hb;rcases Array.getElem?_eq_some_iff.1 this with⟨h,_⟩;exact h,mK b o hb⟩) (fun _ h=>h) (by simp) (by simp) hR
 rw[Array.toArray_toList]at pL
 refine pL.mono ?_
 rintro e W' ⟨res,fin,vs,ok',bn,rfl,⟨rfl,rfl⟩,_,_,_,hU,hAR,_,_,_⟩
 have oY:vs=[.bool true]:=by
  cases hAR with
  |d h r=>
   cases r
   cases h
   rfl
 subst oY
 have bel:Below W.heap.size W W':=⟨hU.os,hU.tape,hU.output,hU.size,fun k hk=>hU.block k hk (by simp)⟩
 refine⟨.bool true,rfl,ds,[],p++[],[],p,[],hW',?_,?_,?_,bel.frame _,fun h=>by cases h⟩
 ·rw[nJ ds hlen,qd]
  exact trodAll_mk1 (shut_bool ac4 _)
 ·rw[nJ ds hlen]
  exact mw hl bel cK hA
 ·rw[nJ ds hlen,II]
  rfl
end
end Go.Dm
namespace Go.Proofs.Tryz
open Go Go.Dm Go.Ex
set_option maxRecDepth 100000
theorem own:ownKnob Tryz.prog.godebug=none:=by kernel_rfl
theorem laidOut:laidOutB Tryz.prog=true:=by kernel_rfl
theorem nW{n:Int}(h:IntKind.i64.min≤n∧n≤IntKind.i64.max):ar n:=by
 have h1:IntKind.i64.min = -9223372036854775808:=rfl
 have h2:IntKind.i64.max=9223372036854775807:=rfl
 rw[h1,h2]at h
 exact⟨h.1,by omega⟩
theorem sC{ds:List D}(h:lz Tryz.prog 23 ds):∃t:Ty,ds=t.cs∧ar t.k∧ar t.sc:=by
 obtain⟨hl,_⟩:=h.ku Tryz.underlying23
 have hl:ds.length=2:=hl.trans (by kernel_rfl)
 match ds,hl with
 |[d0,d1],_=>
  obtain⟨k,hk,e0⟩:=(h.DH Tryz.underlying23 0 rfl (n:=1) (by kernel_rfl)).nU Tryz.underlying3
  obtain⟨sc,hs,e1⟩:=(h.DH Tryz.underlying23 1 rfl (n:=1) (by kernel_rfl)).nU Tryz.underlying3
  simp at e0 e1
  subst e0;subst e1
  exact⟨⟨k,sc⟩,rfl,nW hk,nW hs⟩
theorem IJ{ds:List D}(h:lz Tryz.prog 25 ds):∃v:Go.Ex.AV,ds=v.cs∧ar v.t.k∧ar v.t.sc∧ar v.n∧v.s.size≤reachBytes:=by
 obtain⟨hl,_⟩:=h.ku Tryz.underlying25
 have hl:ds.length=5:=hl.trans (by kernel_rfl)
 match ds,hl with
 |[d0,d1,d2,d3,d4],_=>
  obtain⟨t,e0,h1,h2⟩:=sC (h.DH Tryz.underlying25 0 rfl (n:=2) (by kernel_rfl))
  obtain⟨b,e2⟩:=(h.DH Tryz.underlying25 1 rfl (n:=1) (by kernel_rfl)).IG Tryz.underlying4
  obtain⟨n,hn,e3⟩:=(h.DH Tryz.underlying25 2 rfl (n:=1) (by kernel_rfl)).nU Tryz.underlying2
  obtain⟨s,hs,e4⟩:=(h.DH Tryz.underlying25 3 rfl (n:=1) (by kernel_rfl)).P1 Tryz.underlying9
  simp at e0 e2 e3 e4
  obtain⟨rfl,rfl⟩:=e0
  subst e2;subst e3;subst e4
  exact⟨⟨t,b,n,s⟩,rfl,h1,h2,nW hn,hs⟩
theorem yQ:∀{es:List (List D)},(∀r∈es,∃e:EX,r=cells e∧fits e)→∃l:List EX,es=aa l∧eY l
 |[],_=>⟨[],by simp only[aa],by simp only[eY]⟩
 |r::es,h=>by
  obtain⟨e,rfl,h1⟩:=h r (by simp)
  obtain⟨l,rfl,h2⟩:=yQ (es:=es) (fun r hr=>h r (List.mem_cons_of_mem _ hr))
  exact⟨e::l,by simp only[aa],by simp only[eY];exact⟨h1,h2⟩⟩
theorem uF:∀(n:Nat) (ds:List D),SizeOf.sizeOf ds<n→lz Tryz.prog 28 ds→∃e:EX,ds=cells e∧fits e
 |0,_,h,_=>absurd h (Nat.not_lt_zero _)
 |n+1,ds,hs,h=>by
  obtain⟨hl,_⟩:=h.ku Tryz.underlying28
  have hl:ds.length=10:=hl.trans (by kernel_rfl)
  match ds,hl,hs with
  |[d0,d1,d2,d3,d4,d5,d6,d7,d8,d9],_,hs=>
   obtain⟨op,oG,e0⟩:=(h.DH Tryz.underlying28 0 rfl (n:=1) (by kernel_rfl)).nU Tryz.underlying3
   obtain⟨sub,iI,e1⟩:=(h.DH Tryz.underlying28 1 rfl (n:=1) (by kernel_rfl)).nU Tryz.underlying3
   obtain⟨t,e2,h1,h2⟩:=sC (h.DH Tryz.underlying28 2 rfl (n:=2) (by kernel_rfl))
   obtain⟨v,e3,h3,h4,h5,h6⟩:=IJ (h.DH Tryz.underlying28 3 rfl (n:=5) (by kernel_rfl))
   obtain⟨es,qy,e4,hx⟩:=(h.DH Tryz.underlying28 4 rfl (n:=1) (by kernel_rfl)).IH Tryz.underlying26
   simp at e0 e1 e2 e3 e4
   obtain⟨rfl,rfl⟩:=e2
   obtain⟨rfl,rfl,rfl,rfl,rfl⟩:=e3
   subst e0;subst e1;subst e4
   obtain⟨l,rfl,hll⟩:=yQ (es:=es) fun r hr=>uF n r (by
    have:=List.sizeOf_lt_of_mem hr
    simp only[List.cons.sizeOf_spec,D.sl.sizeOf_spec]at hs
    omega) (hx r hr)
   refine⟨.mk op sub t v l,by simp only[cells],?_⟩
   simp only[fits]
   have b28:Tryz.prog.bytesOf 28=104:=by kernel_rfl
   have rb:reachBytes=140737488351232:=rfl
   rw[b28,rb,ag]at qy
   exact⟨⟨nW oG,nW iI,h1,h2,h3,h4,h5⟩,by omega,hll⟩
end Go.Proofs.Tryz
namespace Go.Ex
open Go Go.Dm
abbrev gJ:Int:=4294967296
abbrev ba:Int:=18446744073709551616
theorem aP(n:Int):IntKind.u64.wrap n=n % ba:=by
 simp[IntKind.wrap,IntKind.signed,IntKind.bits,ba]
theorem fW(n:Int):IntKind.i64.wrap n=if n % ba<9223372036854775808 then n % ba else n % ba-ba:=by
 simp[IntKind.wrap,IntKind.signed,IntKind.bits,ba]
 split<;>split<;>omega
theorem nX{x:Int}(h0:0≤x)(h1:x<ba):aB.bits .and .u64 x 4294967295=x % gJ:=by
 obtain⟨n,rfl⟩:=Int.eq_ofNat_of_zero_le h0
 have h1:n<18446744073709551616:=by have:(n:Int)<18446744073709551616:=h1;omega
 have hb:aB.bits .and .u64 (n:Int) 4294967295=IntKind.u64.wrap (((BitVec.ofInt 64 (n:Int) &&& BitVec.ofInt 64 4294967295).toNat:Nat):Int):=rfl
 rw[hb,aP]
 have e:(BitVec.ofInt 64 (n:Int) &&& BitVec.ofInt 64 4294967295).toNat=n % 4294967296:=by
  rw[BitVec.toNat_and,BitVec.toNat_ofInt,BitVec.toNat_ofInt]
  have e1:((n:Int) % ((2^64:Nat):Int)).toNat=n:=by
   rw[Int.emod_eq_of_lt (by omega) (by simpa using(show(n:Int)<18446744073709551616 by omega))];omega
  have e2:((4294967295:Int) % ((2^64:Nat):Int)).toNat=2^32-1:=by decide
  rw[e1,e2,Nat.and_two_pow_sub_one_eq_mod]
 rw[e]
 have h2:n % 4294967296<4294967296:=Nat.mod_lt _ (by decide)
 rw[Int.emod_eq_of_lt (by omega) (by simp only[ba];omega)]
 simp only[gJ];omega
theorem lC{x:Int}(h0:0≤x):aB.shr .u64 x 32=x/gJ:=by
 have hb:aB.shr .u64 x 32=x.fdiv 4294967296:=rfl
 rw[hb,Int.fdiv_eq_ediv_of_nonneg _ (by decide)]
theorem P2{x y:Int}(h0:0≤x)(h1:x<gJ)(h2:0≤y)(h3:y<gJ):aB.bits .or .u64 (x*gJ) y=x*gJ+y:=by
 obtain⟨n,rfl⟩:=Int.eq_ofNat_of_zero_le h0
 obtain⟨m,rfl⟩:=Int.eq_ofNat_of_zero_le h2
 have h1:n<4294967296:=by have:(n:Int)<4294967296:=h1;omega
 have h3:m<4294967296:=by have:(m:Int)<4294967296:=h3;omega
 have hb:aB.bits .or .u64 ((n:Int)*gJ) (m:Int)=IntKind.u64.wrap (((BitVec.ofInt 64 ((n:Int)*gJ) ||| BitVec.ofInt 64 (m:Int)).toNat:Nat):Int):=rfl
 rw[hb,aP]
 have e:(BitVec.ofInt 64 ((n:Int)*gJ) ||| BitVec.ofInt 64 (m:Int)).toNat=n*4294967296+m:=by
  rw[BitVec.toNat_or,BitVec.toNat_ofInt,BitVec.toNat_ofInt]
  have e1:(((n:Int)*gJ) % ((2^64:Nat):Int)).toNat=2^32*n:=by
   rw[Int.emod_eq_of_lt (by simp only[gJ];omega) (by simp only[gJ];have:((2^64:Nat):Int)=18446744073709551616:=rfl;omega)]
   simp only[gJ];omega
  have e2:((m:Int) % ((2^64:Nat):Int)).toNat=m:=by
   rw[Int.emod_eq_of_lt (by omega) (by have:((2^64:Nat):Int)=18446744073709551616:=rfl;omega)];omega
  rw[e1,e2,←Nat.two_pow_add_eq_or_of_lt (by simpa using h3)]
  omega
 rw[e,Int.emod_eq_of_lt (by omega) (by simp only[ba];omega)]
 simp only[gJ];omega
def NR(x:Int):Int:=aB.bits .and .u64 x 4294967295
def Fo(x:Int):Int:=aB.shr .u64 x 32
def mP(x y:Int):Int:=IntKind.u64.wrap (NR x*NR y)
def mQ(x y:Int):Int:=IntKind.u64.wrap (IntKind.u64.wrap (Fo x*NR y)+Fo (mP x y))
def mR(x y:Int):Int:=IntKind.u64.wrap (IntKind.u64.wrap (NR x*Fo y)+NR (mQ x y))
def mH(x y:Int):Int:=IntKind.u64.wrap (IntKind.u64.wrap (IntKind.u64.wrap (Fo x*Fo y)+Fo (mQ x y))+Fo (mR x y))
def mL(x y:Int):Int:=aB.bits .or .u64 (aB.shl .u64 (mR x y) 32) (NR (mP x y))
def cN(a b:Int):Int:=mL (IntKind.u64.wrap a) (IntKind.u64.wrap b)
def cA(a b:Int):Int:=
 let h:=IntKind.i64.wrap (mH (IntKind.u64.wrap a) (IntKind.u64.wrap b))
 let h:=bif decide (a<0)then IntKind.i64.wrap (h-b)else h
 bif decide (b<0)then IntKind.i64.wrap (h-a)else h
def gK(h l:Int):Int×Int:=bif h != aB.shr .i64 (IntKind.i64.wrap l) 63 then(0,10)else(IntKind.i64.wrap l,0)
def fX(a b:Int):Int×Int:=gK (cA a b) (cN a b)
theorem qJ{a b:Int}(ha:0≤a)(DT:a≤4294967295)(hb:0≤b)(cJ:b≤4294967295):0≤a*b∧a*b≤18446744065119617025:=by
 refine⟨Int.mul_nonneg ha hb,?_⟩
 have h1:=Int.mul_le_mul DT cJ hb (by decide:(0:Int)≤4294967295)
 exact h1
theorem words{x y:Int}(hx:0≤x)(ya:x<ba)(hy:0≤y)(E9:y<ba):mH x y*ba+mL x y=x*y∧0≤mL x y∧mL x y<ba∧0≤mH x y∧mH x y<ba:=by
 simp only[ba]at ya E9
 have xl:NR x=x % gJ:=nX hx ya
 have yl:NR y=y % gJ:=nX hy E9
 have xh:Fo x=x/gJ:=lC hx
 have yh:Fo y=y/gJ:=lC hy
 generalize Wi:x % gJ=a at xl
 generalize z7:y % gJ=c at yl
 generalize hxh:x/gJ=b at xh
 generalize hyh:y/gJ=d at yh
 simp only[gJ]at Wi z7 hxh hyh
 have ex:x=b*4294967296+a:=by omega
 have ey:y=d*4294967296+c:=by omega
 have p1:=qJ (a:=a) (b:=c) (by omega) (by omega) (by omega) (by omega)
 have p2:=qJ (a:=b) (b:=c) (by omega) (by omega) (by omega) (by omega)
 have p3:=qJ (a:=a) (b:=d) (by omega) (by omega) (by omega) (by omega)
 have p4:=qJ (a:=b) (b:=d) (by omega) (by omega) (by omega) (by omega)
 have e:x*y=b*d*18446744073709551616+(b*c+a*d)*4294967296+a*c:=by
  rw[ex,ey];grind
 have eP:mP x y=a*c:=by
  unfold mP;rw[xl,yl,aP,Int.emod_eq_of_lt p1.1 (by simp only[ba];omega)]
 have lP:NR (mP x y)=a*c % gJ:=by rw[eP];exact nX p1.1 (by simp only[ba];omega)
 have hP:Fo (mP x y)=a*c/gJ:=by rw[eP];exact lC p1.1
 have eQ:mQ x y=b*c+a*c/gJ:=by
  unfold mQ;rw[hP,xh,yl,aP,aP,Int.emod_eq_of_lt p2.1 (by simp only[ba];omega),Int.emod_eq_of_lt (by simp only[gJ];omega) (by simp only[ba,gJ];omega)]
 have bQ:0≤mQ x y∧mQ x y<ba:=by rw[eQ];simp only[ba,gJ];omega
 have lQ:NR (mQ x y)=mQ x y % gJ:=nX bQ.1 bQ.2
 have hQ:Fo (mQ x y)=mQ x y/gJ:=lC bQ.1
 have eR:mR x y=a*d+mQ x y % gJ:=by
  unfold mR;rw[lQ,xl,yh,aP,aP,Int.emod_eq_of_lt p3.1 (by simp only[ba];omega),Int.emod_eq_of_lt (by simp only[gJ];omega) (by simp only[ba,gJ];omega)]
 have bR:0≤mR x y∧mR x y<ba:=by rw[eR];simp only[ba,gJ];omega
 have hR:Fo (mR x y)=mR x y/gJ:=lC bR.1
 have eH:mH x y=b*d+mQ x y/gJ+mR x y/gJ:=by
  unfold mH;rw[hQ,hR,xh,yh,aP,aP,aP,Int.emod_eq_of_lt p4.1 (by simp only[ba];omega),Int.emod_eq_of_lt (a:=b*d+_) (by simp only[gJ];omega) (by simp only[ba,gJ]at *;omega),Int.emod_eq_of_lt (by simp only[gJ];omega) (by simp only[ba,gJ]at *;omega)]
 have eL:mL x y=mR x y % gJ*gJ+a*c % gJ:=by
  unfold mL
  have hs:aB.shl .u64 (mR x y) 32=IntKind.u64.wrap (mR x y*4294967296):=rfl
  rw[hs,lP,aP,show mR x y*4294967296 % ba=mR x y % gJ*gJ by simp only[ba,gJ];omega]
  exact P2 (by simp only[gJ];omega) (by simp only[gJ];omega) (by simp only[gJ];omega) (by simp only[gJ];omega)
 rw[eH,eL]
 generalize a*c=ac at *
 generalize b*c=bc at *
 generalize a*d=ad at *
 generalize b*d=bd at *
 simp only[ba,gJ]at *
 refine⟨?_,?_,?_,?_,?_⟩<;>omega
theorem lX{a b:Int}(ha:ar a)(hb:ar b):-85070591730234615865843651857942052864≤a*b∧a*b≤85070591730234615865843651857942052864:=by
 have h1:a.natAbs≤9223372036854775808:=by have:=ha.1;have:=ha.2;omega
 have h2:b.natAbs≤9223372036854775808:=by have:=hb.1;have:=hb.2;omega
 have h:=Nat.mul_le_mul h1 h2
 rw[←Int.natAbs_mul]at h
 generalize a*b=p at h
 omega
open Classical in
theorem P3{a b:Int}(ha:ar a)(hb:ar b):fX a b=if ar (a*b)then(a*b,0)else(0,10):=by
 have hp:=lX ha hb
 obtain⟨gp,jJ⟩:=ha
 obtain⟨hb1,du⟩:=hb
 have wa:IntKind.u64.wrap a=if a<0 then a+ba else a:=by rw[aP];simp only[ba];split<;>omega
 have wb:IntKind.u64.wrap b=if b<0 then b+ba else b:=by rw[aP];simp only[ba];split<;>omega
 have hx:0≤IntKind.u64.wrap a∧IntKind.u64.wrap a<ba:=by rw[aP];simp only[ba];omega
 have hy:0≤IntKind.u64.wrap b∧IntKind.u64.wrap b<ba:=by rw[aP];simp only[ba];omega
 obtain⟨e,l0,l1,h0,h1⟩:=words hx.1 hx.2 hy.1 hy.2
 have exy:IntKind.u64.wrap a*IntKind.u64.wrap b=a*b+ba*((if a<0 then b else 0)+(if b<0 then a else 0))+(if a<0∧b<0 then ba*ba else 0):=by
  rw[wa,wb]
  by_cases h1:a<0<;>by_cases h2:b<0<;>simp only[h1,h2,if_true,if_false,and_true,and_false]<;>grind
 rw[exy]at e
 have key:cA a b*ba+mL (IntKind.u64.wrap a) (IntKind.u64.wrap b)=a*b:=by
  unfold cA
  generalize mH (IntKind.u64.wrap a) (IntKind.u64.wrap b)=H at *
  generalize mL (IntKind.u64.wrap a) (IntKind.u64.wrap b)=L at *
  generalize a*b=p at *
  simp only[fW,ba]at *
  by_cases g1:a<0<;>by_cases g2:b<0<;>simp only[g1,g2,if_true,if_false,and_true,and_false,decide_true,decide_false,cond_true,cond_false]at e ⊢<;>(repeat' split)<;>omega
 unfold fX gK cN
 have hs:aB.shr .i64 (IntKind.i64.wrap (mL (IntKind.u64.wrap a) (IntKind.u64.wrap b))) 63=(IntKind.i64.wrap (mL (IntKind.u64.wrap a) (IntKind.u64.wrap b))).fdiv 9223372036854775808:=rfl
 rw[hs,Int.fdiv_eq_ediv_of_nonneg _ (by decide)]
 generalize mL (IntKind.u64.wrap a) (IntKind.u64.wrap b)=L at *
 generalize cA a b=h at *
 generalize a*b=p at *
 simp only[fW,ba]at *
 by_cases g:ar p
 ·rw[if_pos g]
  obtain⟨g1,g2⟩:=g
  have:(h != (if L % 18446744073709551616<9223372036854775808 then L % 18446744073709551616 else L % 18446744073709551616-18446744073709551616)/9223372036854775808)=false:=by
   simp only[bne_eq_false_iff_eq]
   split<;>omega
  rw[this,cond_false,Prod.mk.injEq]
  refine⟨?_,rfl⟩
  split<;>omega
 ·rw[if_neg g]
  have:(h != (if L % 18446744073709551616<9223372036854775808 then L % 18446744073709551616 else L % 18446744073709551616-18446744073709551616)/9223372036854775808)=true:=by
   simp only[bne_iff_ne,ne_eq]
   intro hh
   apply g
   unfold ar
   split at hh<;>omega
  rw[this,cond_true]
end Go.Ex
namespace Go.Proofs.Tryz
open Go Go.Dm Go.Ex
set_option maxRecDepth 100000
variable {gl:Nat→Option Obj}
abbrev eB:ByteArray:={data:={toList:=[]:Array UInt8}:ByteArray}
def IK(a:List R)(K:KT):Prop:=match a with
 |[.d (.v (.int .i64 k)),.d (.v (.int .i64 sc)),.d (.v (.int .i64 n)),.d (.v (.string s))]=>K [.agg [.v (.int .i64 k),.v (.int .i64 sc),.v (.bool false),.v (.int .i64 n),.v (.string s)]] []
 |_=>False
theorem ac5(k sc n:Int)(s:ByteArray)(Q:KT):vc bl AE bf Rs (f107.body.getD .skip) f107.results.toList [.d (.v (.int .i64 k)),.d (.v (.int .i64 sc)),.d (.v (.int .i64 n)),.d (.v (.string s))] Q=(Q [.agg [.i k,.i sc,.v (.bool false),.i n,.v (.string s)]] []):=by kernel_rfl
theorem ac6(k sc n:Int)(s:ByteArray):Ct prog gl 107 [.d (.v (.int .i64 k)),.d (.v (.int .i64 sc)),.d (.v (.int .i64 n)),.d (.v (.string s))] (gives [.agg [.v (.int .i64 k),.v (.int .i64 sc),.v (.bool false),.v (.int .i64 n),.v (.string s)]]):=
 cz lV f107 Rs ⟨_,_,rfl,rfl⟩ (by
  rw[ac5];exact⟨rfl,rfl⟩)
theorem IL:CK gl IK 107:=fun a K h=>by
 unfold IK at h
 split at h
 ·exact(ac6 _ _ _ _).gives h
 ·exact h.elim
def IM:aj:=au AE 107 IK
theorem qK:ah prog gl IM:=af lV IL
def pT(b:Bool):Go.Ex.AV:=⟨⟨1,0⟩,false,bif b then 1 else 0,eB⟩
def jW(t:Ty):Go.Ex.AV:=⟨t,true,0,eB⟩
def nY(s:ByteArray):Go.Ex.AV:=⟨⟨4,0⟩,false,0,s⟩
theorem ac7(b:Bool)(Q:KT):vc bl IM bf Y2 (f78.body.getD .skip) f78.results.toList [.d (.v (.bool b))] Q=(Zg5 b Q):=by kernel_rfl
theorem ac8(b:Bool):Ct prog gl 78 [.d (.v (.bool b))] (gives [.agg (pT b).cs]):=
 cz qK f78 Y2 ⟨_,_,rfl,rfl⟩ (by
  rw[ac7];dsimp -eta -iota -proj only[Zg5,Zgc,Zf2,Z8]
  refine⟨fun h=>?_,fun h=>?_⟩<;>(subst h;exact⟨rfl,rfl⟩))
def C1(a:List R)(K:KT):Prop:=match a with
 |[.d (.v (.bool b))]=>K [.agg (pT b).cs] []
 |_=>False
theorem yR:CK gl C1 78:=fun a K h=>by
 unfold C1 at h
 split at h
 ·exact(ac8 _).gives h
 ·exact h.elim
theorem ac9(s:ByteArray)(Q:KT):vc bl IM bf RJ (f126.body.getD .skip) f126.results.toList [.d (.v (.string s))] Q=(Q [.agg [.i 4,.i 0,.v (.bool false),.i 0,.v (.string s)]] []):=by kernel_rfl
theorem ac_(s:ByteArray):Ct prog gl 126 [.d (.v (.string s))] (gives [.agg (nY s).cs]):=
 cz qK f126 RJ ⟨_,_,rfl,rfl⟩ (by
  rw[ac9];exact⟨rfl,rfl⟩)
def IN(a:List R)(K:KT):Prop:=match a with
 |[.d (.v (.string s))]=>K [.agg (nY s).cs] []
 |_=>False
theorem IP:CK gl IN 126:=fun a K h=>by
 unfold IN at h
 split at h
 ·exact(ac_ _).gives h
 ·exact h.elim
theorem ac'(n:Int)(Q:KT):vc bl IM bf RL (f127.body.getD .skip) f127.results.toList [.d (.v (.int .i64 n))] Q=(Q (Zja n) []):=by kernel_rfl
theorem ada(n:Int):Ct prog gl 127 [.d (.v (.int .i64 n))] (gives [.agg (zG n).cs]):=
 cz qK f127 RL ⟨_,_,rfl,rfl⟩ (by
  rw[ac'];dsimp -eta -iota -proj only[Zja];exact⟨rfl,rfl⟩)
def IQ(a:List R)(K:KT):Prop:=match a with
 |[.d (.v (.int .i64 n))]=>K [.agg (zG n).cs] []
 |_=>False
theorem IS:CK gl IQ 127:=fun a K h=>by
 unfold IQ at h
 split at h
 ·exact(ada _).gives h
 ·exact h.elim
def U0:aj:=au (au (au IM 78 C1) 126 IN) 127 IQ
theorem C2:ah prog gl U0:=af (af (af qK yR) IP) IS
def bS(n:Int):Go.Ex.AV:=bif n==2 then jW ⟨1,0⟩else pT (n==1)
theorem adb(n:Int)(Q:KT):vc bl U0 bf Rn (f102.body.getD .skip) f102.results.toList [.d (.v (.int .i64 n))] Q=((Zj4 n Q)∧((n==2)=false→Q [.agg [.i 1,.i 0,.v (.bool false),.i (bif n==1 then(1:Int)else(0:Int)),.v (.string eB)]] [])):=by kernel_rfl
theorem ade(n:Int):Ct prog gl 102 [.d (.v (.int .i64 n))] (gives [.agg (bS n).cs]):=
 cz C2 f102 Rn ⟨_,_,rfl,rfl⟩ (by
  rw[adb];dsimp -eta -iota -proj only[Zj4,Zi2]
  refine⟨fun h=>?_,fun h=>?_⟩<;>(unfold bS;rw[h];exact⟨rfl,rfl⟩))
def IT(a:List R)(K:KT):Prop:=match a with
 |[.d (.v (.int .i64 n))]=>K [.agg (bS n).cs] []
 |_=>False
theorem IU:CK gl IT 102:=fun a K h=>by
 unfold IT at h
 split at h
 ·exact(ade _).gives h
 ·exact h.elim
def nc(a b:Int):Int×Int:=bif b==0 then(0,11)else bif b == -1 then(0,0)else(a.tmod b,0)
theorem adf(a b:Int)(Q:KT):vc bl AE bf RQ (f132.body.getD .skip) f132.results.toList [.d (.v (.int .i64 a)),.d (.v (.int .i64 b))] Q=((Gn b Q (11:Int))∧((b==0)=false→((b==(-1:Int))=true→dK Q (0:Int) (0:Int))∧((b==(-1:Int))=false→b≠(0:Int)∧Q [.d (.i (a.tmod b)),.d (.i 0)] []))):=by kernel_rfl
theorem adg(a b:Int):Ct prog gl 132 [.d (.v (.int .i64 a)),.d (.v (.int .i64 b))] (gives [.d (.v (.int .i64 (nc a b).1)),.d (.v (.int .i64 (nc a b).2))]):=
 cz lV f132 RQ ⟨_,_,rfl,rfl⟩ (by
  rw[adf];dsimp -eta -iota -proj only[Gn,dK]
  refine⟨fun h=>?_,fun h=>⟨fun h2=>?_,fun h2=>⟨by simpa using h,?_⟩⟩⟩<;>(simp only[nc, *,cond_true,cond_false];exact⟨rfl,rfl⟩))
def IV(a:List R)(K:KT):Prop:=match a with
 |[.d (.v (.int .i64 a)),.d (.v (.int .i64 b))]=>K [.d (.v (.int .i64 (nc a b).1)),.d (.v (.int .i64 (nc a b).2))] []
 |_=>False
theorem IW:CK gl IV 132:=fun a K h=>by
 unfold IV at h
 split at h
 ·exact(adg _ _).gives h
 ·exact h.elim
theorem adh(a b:Int)(Q:KT):vc bl AE bf R8 (f152.body.getD .skip) f152.results.toList [.d (.v (.int .i64 a)),.d (.v (.int .i64 b))] Q=((0:Int)≤32∧(0:Int)≤32∧(0:Int)≤32∧(0:Int)≤32∧(0:Int)≤32∧(0:Int)≤32∧(0:Int)≤32∧(0:Int)≤32∧(decide (a<0)=true→(decide (b<0)=true→Q [.agg [.i (IntKind.i64.wrap (IntKind.i64.wrap (IntKind.i64.wrap (IntKind.u64.wrap (IntKind.u64.wrap (IntKind.u64.wrap (aB.shr IntKind.u64 (IntKind.u64.wrap a) (32:Int)*aB.shr IntKind.u64 (IntKind.u64.wrap b) (32:Int))+aB.shr IntKind.u64 (IntKind.u64.wrap (IntKind.u64.wrap (aB.shr IntKind.u64 (IntKind.u64.wrap a) (32:Int)*aB.bits BinOp.and IntKind.u64 (IntKind.u64.wrap b) (4294967295:Int))+aB.shr IntKind.u64 (IntKind.u64.wrap (aB.bits BinOp.and IntKind.u64 (IntKind.u64.wrap a) (4294967295:Int)*aB.bits BinOp.and IntKind.u64 (IntKind.u64.wrap b) (4294967295:Int))) (32:Int))) (32:Int))+aB.shr IntKind.u64 (IntKind.u64.wrap (IntKind.u64.wrap (aB.bits BinOp.and IntKind.u64 (IntKind.u64.wrap a) (4294967295:Int)*aB.shr IntKind.u64 (IntKind.u64.wrap b) (32:Int))+aB.bits BinOp.and IntKind.u64 (IntKind.u64.wrap (IntKind.u64.wrap (aB.shr IntKind.u64 (IntKind.u64.wrap a) (32:Int)*aB.bits BinOp.and IntKind.u64 (IntKind.u64.wrap b) (4294967295:Int))+aB.shr IntKind.u64 (IntKind.u64.wrap (aB.bits BinOp.and IntKind.u64 (IntKind.u64.wrap a) (4294967295:Int)*aB.bits BinOp.and IntKind.u64 (IntKind.u64.wrap b) (4294967295:Int))) (32:Int))) (4294967295:Int))) (32:Int)))-b)-a)),.v (.int .u64 (aB.bits BinOp.or IntKind.u64 (aB.shl IntKind.u64 (IntKind.u64.wrap (IntKind.u64.wrap (aB.bits BinOp.and IntKind.u64 (IntKind.u64.wrap a) (4294967295:Int)*aB.shr IntKind.u64 (IntKind.u64.wrap b) (32:Int))+aB.bits BinOp.and IntKind.u64 (IntKind.u64.wrap (IntKind.u64.wrap (aB.shr IntKind.u64 (IntKind.u64.wrap a) (32:Int)*aB.bits BinOp.and IntKind.u64 (IntKind.u64.wrap b) (4294967295:Int))+aB.shr IntKind.u64 (IntKind.u64.wrap (aB.bits BinOp.and IntKind.u64 (IntKind.u64.wrap a) (4294967295:Int)*aB.bits BinOp.and IntKind.u64 (IntKind.u64.wrap b) (4294967295:Int))) (32:Int))) (4294967295:Int))) (32:Int)) (aB.bits BinOp.and IntKind.u64 (IntKind.u64.wrap (aB.bits BinOp.and IntKind.u64 (IntKind.u64.wrap a) (4294967295:Int)*aB.bits BinOp.and IntKind.u64 (IntKind.u64.wrap b) (4294967295:Int))) (4294967295:Int))))]] [])∧(decide (b<0)=false→Q [.agg [.i (IntKind.i64.wrap (IntKind.i64.wrap (IntKind.u64.wrap (IntKind.u64.wrap (IntKind.u64.wrap (aB.shr IntKind.u64 (IntKind.u64.wrap a) (32:Int)*aB.shr IntKind.u64 (IntKind.u64.wrap b) (32:Int))+aB.shr IntKind.u64 (IntKind.u64.wrap (IntKind.u64.wrap (aB.shr IntKind.u64 (IntKind.u64.wrap a) (32:Int)*aB.bits BinOp.and IntKind.u64 (IntKind.u64.wrap b) (4294967295:Int))+aB.shr IntKind.u64 (IntKind.u64.wrap (aB.bits BinOp.and IntKind.u64 (IntKind.u64.wrap a) (4294967295:Int)*aB.bits BinOp.and IntKind.u64 (IntKind.u64.wrap b) (4294967295:Int))) (32:Int))) (32:Int))+aB.shr IntKind.u64 (IntKind.u64.wrap (IntKind.u64.wrap (aB.bits BinOp.and IntKind.u64 (IntKind.u64.wrap a) (4294967295:Int)*aB.shr IntKind.u64 (IntKind.u64.wrap b) (32:Int))+aB.bits BinOp.and IntKind.u64 (IntKind.u64.wrap (IntKind.u64.wrap (aB.shr IntKind.u64 (IntKind.u64.wrap a) (32:Int)*aB.bits BinOp.and IntKind.u64 (IntKind.u64.wrap b) (4294967295:Int))+aB.shr IntKind.u64 (IntKind.u64.wrap (aB.bits BinOp.and IntKind.u64 (IntKind.u64.wrap a) (4294967295:Int)*aB.bits BinOp.and IntKind.u64 (IntKind.u64.wrap b) (4294967295:Int))) (32:Int))) (4294967295:Int))) (32:Int)))-b)),.v (.int .u64 (aB.bits BinOp.or IntKind.u64 (aB.shl IntKind.u64 (IntKind.u64.wrap (IntKind.u64.wrap (aB.bits BinOp.and IntKind.u64 (IntKind.u64.wrap a) (4294967295:Int)*aB.shr IntKind.u64 (IntKind.u64.wrap b) (32:Int))+aB.bits BinOp.and IntKind.u64 (IntKind.u64.wrap (IntKind.u64.wrap (aB.shr IntKind.u64 (IntKind.u64.wrap a) (32:Int)*aB.bits BinOp.and IntKind.u64 (IntKind.u64.wrap b) (4294967295:Int))+aB.shr IntKind.u64 (IntKind.u64.wrap (aB.bits BinOp.and IntKind.u64 (IntKind.u64.wrap a) (4294967295:Int)*aB.bits BinOp.and IntKind.u64 (IntKind.u64.wrap b) (4294967295:Int))) (32:Int))) (4294967295:Int))) (32:Int)) (aB.bits BinOp.and IntKind.u64 (IntKind.u64.wrap (aB.bits BinOp.and IntKind.u64 (IntKind.u64.wrap a) (4294967295:Int)*aB.bits BinOp.and IntKind.u64 (IntKind.u64.wrap b) (4294967295:Int))) (4294967295:Int))))]] []))∧(decide (a<0)=false→(decide (b<0)=true→Q [.agg [.i (IntKind.i64.wrap (IntKind.i64.wrap (IntKind.u64.wrap (IntKind.u64.wrap (IntKind.u64.wrap (aB.shr IntKind.u64 (IntKind.u64.wrap a) (32:Int)*aB.shr IntKind.u64 (IntKind.u64.wrap b) (32:Int))+aB.shr IntKind.u64 (IntKind.u64.wrap (IntKind.u64.wrap (aB.shr IntKind.u64 (IntKind.u64.wrap a) (32:Int)*aB.bits BinOp.and IntKind.u64 (IntKind.u64.wrap b) (4294967295:Int))+aB.shr IntKind.u64 (IntKind.u64.wrap (aB.bits BinOp.and IntKind.u64 (IntKind.u64.wrap a) (4294967295:Int)*aB.bits BinOp.and IntKind.u64 (IntKind.u64.wrap b) (4294967295:Int))) (32:Int))) (32:Int))+aB.shr IntKind.u64 (IntKind.u64.wrap (IntKind.u64.wrap (aB.bits BinOp.and IntKind.u64 (IntKind.u64.wrap a) (4294967295:Int)*aB.shr IntKind.u64 (IntKind.u64.wrap b) (32:Int))+aB.bits BinOp.and IntKind.u64 (IntKind.u64.wrap (IntKind.u64.wrap (aB.shr IntKind.u64 (IntKind.u64.wrap a) (32:Int)*aB.bits BinOp.and IntKind.u64 (IntKind.u64.wrap b) (4294967295:Int))+aB.shr IntKind.u64 (IntKind.u64.wrap (aB.bits BinOp.and IntKind.u64 (IntKind.u64.wrap a) (4294967295:Int)*aB.bits BinOp.and IntKind.u64 (IntKind.u64.wrap b) (4294967295:Int))) (32:Int))) (4294967295:Int))) (32:Int)))-a)),.v (.int .u64 (aB.bits BinOp.or IntKind.u64 (aB.shl IntKind.u64 (IntKind.u64.wrap (IntKind.u64.wrap (aB.bits BinOp.and IntKind.u64 (IntKind.u64.wrap a) (4294967295:Int)*aB.shr IntKind.u64 (IntKind.u64.wrap b) (32:Int))+aB.bits BinOp.and IntKind.u64 (IntKind.u64.wrap (IntKind.u64.wrap (aB.shr IntKind.u64 (IntKind.u64.wrap a) (32:Int)*aB.bits BinOp.and IntKind.u64 (IntKind.u64.wrap b) (4294967295:Int))+aB.shr IntKind.u64 (IntKind.u64.wrap (aB.bits BinOp.and IntKind.u64 (IntKind.u64.wrap a) (4294967295:Int)*aB.bits BinOp.and IntKind.u64 (IntKind.u64.wrap b) (4294967295:Int))) (32:Int))) (4294967295:Int))) (32:Int)) (aB.bits BinOp.and IntKind.u64 (IntKind.u64.wrap (aB.bits BinOp.and IntKind.u64 (IntKind.u64.wrap a) (4294967295:Int)*aB.bits BinOp.and IntKind.u64 (IntKind.u64.wrap b) (4294967295:Int))) (4294967295:Int))))]] [])∧(decide (b<0)=false→Q [.agg [.i (IntKind.i64.wrap (IntKind.u64.wrap (IntKind.u64.wrap (IntKind.u64.wrap (aB.shr IntKind.u64 (IntKind.u64.wrap a) (32:Int)*aB.shr IntKind.u64 (IntKind.u64.wrap b) (32:Int))+aB.shr IntKind.u64 (IntKind.u64.wrap (IntKind.u64.wrap (aB.shr IntKind.u64 (IntKind.u64.wrap a) (32:Int)*aB.bits BinOp.and IntKind.u64 (IntKind.u64.wrap b) (4294967295:Int))+aB.shr IntKind.u64 (IntKind.u64.wrap (aB.bits BinOp.and IntKind.u64 (IntKind.u64.wrap a) (4294967295:Int)*aB.bits BinOp.and IntKind.u64 (IntKind.u64.wrap b) (4294967295:Int))) (32:Int))) (32:Int))+aB.shr IntKind.u64 (IntKind.u64.wrap (IntKind.u64.wrap (aB.bits BinOp.and IntKind.u64 (IntKind.u64.wrap a) (4294967295:Int)*aB.shr IntKind.u64 (IntKind.u64.wrap b) (32:Int))+aB.bits BinOp.and IntKind.u64 (IntKind.u64.wrap (IntKind.u64.wrap (aB.shr IntKind.u64 (IntKind.u64.wrap a) (32:Int)*aB.bits BinOp.and IntKind.u64 (IntKind.u64.wrap b) (4294967295:Int))+aB.shr IntKind.u64 (IntKind.u64.wrap (aB.bits BinOp.and IntKind.u64 (IntKind.u64.wrap a) (4294967295:Int)*aB.bits BinOp.and IntKind.u64 (IntKind.u64.wrap b) (4294967295:Int))) (32:Int))) (4294967295:Int))) (32:Int)))),.v (.int .u64 (aB.bits BinOp.or IntKind.u64 (aB.shl IntKind.u64 (IntKind.u64.wrap (IntKind.u64.wrap (aB.bits BinOp.and IntKind.u64 (IntKind.u64.wrap a) (4294967295:Int)*aB.shr IntKind.u64 (IntKind.u64.wrap b) (32:Int))+aB.bits BinOp.and IntKind.u64 (IntKind.u64.wrap (IntKind.u64.wrap (aB.shr IntKind.u64 (IntKind.u64.wrap a) (32:Int)*aB.bits BinOp.and IntKind.u64 (IntKind.u64.wrap b) (4294967295:Int))+aB.shr IntKind.u64 (IntKind.u64.wrap (aB.bits BinOp.and IntKind.u64 (IntKind.u64.wrap a) (4294967295:Int)*aB.bits BinOp.and IntKind.u64 (IntKind.u64.wrap b) (4294967295:Int))) (32:Int))) (4294967295:Int))) (32:Int)) (aB.bits BinOp.and IntKind.u64 (IntKind.u64.wrap (aB.bits BinOp.and IntKind.u64 (IntKind.u64.wrap a) (4294967295:Int)*aB.bits BinOp.and IntKind.u64 (IntKind.u64.wrap b) (4294967295:Int))) (4294967295:Int))))]] []))):=by kernel_rfl
theorem adi(a b:Int):Ct prog gl 152 [.d (.v (.int .i64 a)),.d (.v (.int .i64 b))] (gives [.agg [.v (.int .i64 (cA a b)),.v (.int .u64 (cN a b))]]):=
 cz lV f152 R8 ⟨_,_,rfl,rfl⟩ (by
  rw[adh]
  refine⟨by decide,by decide,by decide,by decide,by decide,by decide,by decide,by decide,fun h=>⟨fun h2=>?_,fun h2=>?_⟩,fun h=>⟨fun h2=>?_,fun h2=>?_⟩⟩<;>(unfold cA;rw[h,h2];exact⟨rfl,rfl⟩))
def IX(a:List R)(K:KT):Prop:=match a with
 |[.d (.v (.int .i64 a)),.d (.v (.int .i64 b))]=>K [.agg [.v (.int .i64 (cA a b)),.v (.int .u64 (cN a b))]] []
 |_=>False
theorem IY:CK gl IX 152:=fun a K h=>by
 unfold IX at h
 split at h
 ·exact(adi _ _).gives h
 ·exact h.elim
theorem adj(h l:Int)(Q:KT):vc bl AE bf R7 (f151.body.getD .skip) f151.results.toList [.agg [.v (.int .i64 h),.v (.int .u64 l)]] Q=((0:Int)≤63∧((h != aB.shr IntKind.i64 (IntKind.i64.wrap l) (63:Int))=true→dK Q (0:Int) (10:Int))∧((h != aB.shr IntKind.i64 (IntKind.i64.wrap l) (63:Int))=false→Q [.d (.i (IntKind.i64.wrap l)),.d (.i 0)] [])):=by kernel_rfl
theorem adk(h l:Int):Ct prog gl 151 [.agg [.v (.int .i64 h),.v (.int .u64 l)]] (gives [.d (.v (.int .i64 (gK h l).1)),.d (.v (.int .i64 (gK h l).2))]):=
 cz lV f151 R7 ⟨_,_,rfl,rfl⟩ (by
  rw[adj];dsimp -eta -iota -proj only[dK]
  refine⟨by decide,fun h=>?_,fun h=>?_⟩<;>(unfold gK;rw[h];exact⟨rfl,rfl⟩))
def IZ(a:List R)(K:KT):Prop:=match a with
 |[.agg [.v (.int .i64 h),.v (.int .u64 l)]]=>K [.d (.v (.int .i64 (gK h l).1)),.d (.v (.int .i64 (gK h l).2))] []
 |_=>False
theorem I0:CK gl IZ 151:=fun a K h=>by
 unfold IZ at h
 split at h
 ·exact(adk _ _).gives h
 ·exact h.elim
def U1(n:Int)(x:Nat):St:={tm:=[(2,.d (.v (.int .i64 0))),(3,.d (.v (.int .i64 0))),(4,.d (.v (.int .i64 ((10^x:Nat):Int)))),(8,.d (.v (.int .i64 n))),(9,.d (.v (.int .i64 (x:Int))))],hp:=[],kn:=[],gd:=[]}
def qL(n:Int)(m:Nat)(x:Nat):Prop:=(x:Int)≤n∧n≤18∧m=n.toNat-x
def I1(n:Int):Fi:={ZM with lx:=[(5,{X:=Nat,sh:=U1 n,P:=fun _=>qL n})]}
def Zim(a0:Nat)(a1:Int):St:={tm:=[(2,.i 0),(3,.i 0),(4,.i (↑((10:Nat)^a0):Int)),(8,.i a1),(9,.i (↑a0:Int))],hp:=[],kn:=[],gd:=[]:St}
theorem adl(n:Int)(Q:KT):vc bl AE bf (I1 n) (f163.body.getD .skip) f163.results.toList [.d (.v (.int .i64 n))] Q=(((!b7 n)=true→dK Q (0:Int) (1:Int))∧((!b7 n)=false→∃(x0:Nat),({tm:=[(2,.i 0),(3,.i 0),(4,.i 1),(8,.i n),(9,.i 0)],hp:=[],kn:=[],gd:=[]:St}=(Zim x0 n)∧∃(aN:Nat),qL n aN x0)∧∀(aN:Nat) (x:Nat),qL n aN x→(decide ((↑x:Int)<n)=true→fG aN fun m x'=>{tm:=[(2,.i 0),(3,.i 0),(4,.i (IntKind.i64.wrap ((↑((10:Nat)^x):Int)*(10:Int)))),(8,.i n),(9,.i (IntKind.i64.wrap ((↑x:Int)+1)))],hp:=[],kn:=[],gd:=[]:St}=(Zim x' n)∧qL n m x')∧(decide ((↑x:Int)<n)=false→Q [.d (.i (↑((10:Nat)^x):Int)),.d (.i 0)] []))):=by kernel_rfl
def aK(n:Int):Int×Int:=bif !b7 n then(0,1)else(((10^n.toNat:Nat):Int),0)
theorem AG{x:Nat}(h:x≤18):10^x≤1000000000000000000:=Nat.pow_le_pow_right (by decide) h
theorem adm(n:Int):Ct prog gl 163 [.d (.v (.int .i64 n))] (gives [.d (.v (.int .i64 (aK n).1)),.d (.v (.int .i64 (aK n).2))]):=
 aw bN lV aF bD mixed (fn:=f163) (body:=f163.body.getD .skip) (by kernel_rfl) (by kernel_rfl) (by kernel_rfl) (fi:=I1 n) (by kernel_rfl) (by kernel_rfl) ⟨_,_,rfl,rfl⟩ (by
  rw[adl];dsimp -eta -iota -proj only[dK,Zim,fG,fb]
  refine⟨fun h=>?_,fun h=>?_⟩
  ·unfold aK;rw[h];exact⟨rfl,rfl⟩
  ·have hn:0≤n∧n≤18:=by
    revert h
    unfold b7
    by_cases h1:n≥0<;>by_cases h2:n≤18<;>simp[h1,h2]
   refine⟨(0:Nat),⟨rfl,n.toNat,hn.1,hn.2,by omega⟩,fun m (x:Nat) hx=>⟨fun hi=>?_,fun hi=>?_⟩⟩
   ·obtain⟨h1,h2,h3⟩:=hx
    have hi:=of_decide_eq_true hi
    refine⟨n.toNat-(x+1),x+1,by omega,?_,by omega,h2,by omega⟩
    have:=AG (x:=x+1) (by omega)
    have e:(((10^(x+1):Nat)):Int)=((10^x:Nat):Int)*10:=by rw[Nat.pow_succ];rfl
    have hp:0≤((10^x:Nat):Int):=Int.natCast_nonneg _
    have hq:(((10^(x+1):Nat)):Int)≤1000000000000000000:=Int.ofNat_le.2 this
    rw[e]at hq ⊢
    rw[aL (by omega)]
    generalize ((10^x:Nat):Int)=p at *
    rw[ai (by omega) (by omega)]
   ·obtain⟨h1,h2,h3⟩:=hx
    have hi:=of_decide_eq_false hi
    unfold aK
    rw[h,show n.toNat=x by omega]
    exact⟨rfl,rfl⟩)
def I3(a:List R)(K:KT):Prop:=match a with
 |[.d (.v (.int .i64 n))]=>K [.d (.v (.int .i64 (aK n).1)),.d (.v (.int .i64 (aK n).2))] []
 |_=>False
theorem I4:CK gl I3 163:=fun a K h=>by
 unfold I3 at h
 split at h
 ·exact(adm _).gives h
 ·exact h.elim
def U2:aj:=au (au (au (au (au U0 102 IT) 132 IV) 152 IX) 151 IZ) 163 I3
theorem C3:ah prog gl U2:=af (af (af (af (af C2 IU) IW) IY) I0) I4
theorem adn(a b:Int)(Q:KT):vc bl U2 bf RO (f130.body.getD .skip) f130.results.toList [.d (.v (.int .i64 a)),.d (.v (.int .i64 b))] Q=(Q [.d (.v (.int .i64 (gK (cA a b) (cN a b)).1)),.d (.v (.int .i64 (gK (cA a b) (cN a b)).2))] []):=by kernel_rfl
theorem ado(a b:Int):Ct prog gl 130 [.d (.v (.int .i64 a)),.d (.v (.int .i64 b))] (gives [.d (.v (.int .i64 (fX a b).1)),.d (.v (.int .i64 (fX a b).2))]):=
 cz C3 f130 RO ⟨_,_,rfl,rfl⟩ (by
  rw[adn];exact⟨rfl,rfl⟩)
def I5(a:List R)(K:KT):Prop:=match a with
 |[.d (.v (.int .i64 a)),.d (.v (.int .i64 b))]=>K [.d (.v (.int .i64 (fX a b).1)),.d (.v (.int .i64 (fX a b).2))] []
 |_=>False
theorem I6:CK gl I5 130:=fun a K h=>by
 unfold I5 at h
 split at h
 ·exact(ado _ _).gives h
 ·exact h.elim
def I7:aj:=au U2 130 I5
theorem qM:ah prog gl I7:=af C3 I6
def bo(v f t:Int):Int×Int:=
 bif (bif !b7 f then true else !b7 t)then(0,1)else bif !bZ v then(0,10)else
 bif decide (t≥f)then(bif (bif (fX v (aK (IntKind.i64.wrap (t-f))).1).2 != 0 then true else !bZ (fX v (aK (IntKind.i64.wrap (t-f))).1).1)then(0,10)else((fX v (aK (IntKind.i64.wrap (t-f))).1).1,0))
 else bif decide (v.tmod (aK (IntKind.i64.wrap (f-t))).1≥IntKind.i64.wrap ((aK (IntKind.i64.wrap (f-t))).1-v.tmod (aK (IntKind.i64.wrap (f-t))).1))then(IntKind.i64.wrap (IntKind.i64.wrap (v.tdiv (aK (IntKind.i64.wrap (f-t))).1)+1),0)
 else bif decide (IntKind.i64.wrap (0-v.tmod (aK (IntKind.i64.wrap (f-t))).1)≥IntKind.i64.wrap ((aK (IntKind.i64.wrap (f-t))).1+v.tmod (aK (IntKind.i64.wrap (f-t))).1))then(IntKind.i64.wrap (IntKind.i64.wrap (v.tdiv (aK (IntKind.i64.wrap (f-t))).1)-1),0)
 else(IntKind.i64.wrap (v.tdiv (aK (IntKind.i64.wrap (f-t))).1),0)
theorem fY{n:Int}:b7 n=true↔0≤n∧n≤18:=by
 unfold b7
 by_cases h1:n≥0<;>by_cases h2:n≤18<;>simp[h1,h2]<;>omega
theorem xd{n:Int}(h:0≤n∧n≤18):(aK n).1=((10^n.toNat:Nat):Int):=by
 unfold aK
 rw[fY.2 h]
 rfl
theorem adp(v f t:Int)(Q:KT):vc bl I7 bf R4 (f148.body.getD .skip) f148.results.toList [.d (.v (.int .i64 v)),.d (.v (.int .i64 f)),.d (.v (.int .i64 t))] Q=(((bif !b7 f then true else !b7 t)=true→dK Q (0:Int) (1:Int))∧((bif !b7 f then true else !b7 t)=false→((!bZ v)=true→dK Q (0:Int) (10:Int))∧((!bZ v)=false→(decide (t≥f)=true→((bif (fX v (aK (IntKind.i64.wrap (t-f))).1).2 != (0:Int)then true else !bZ (fX v (aK (IntKind.i64.wrap (t-f))).1).1)=true→dK Q (0:Int) (10:Int))∧((bif (fX v (aK (IntKind.i64.wrap (t-f))).1).2 != (0:Int)then true else !bZ (fX v (aK (IntKind.i64.wrap (t-f))).1).1)=false→Q [.d (.v (.int .i64 (fX v (aK (IntKind.i64.wrap (t-f))).1).1)),.d (.i 0)] []))∧(decide (t≥f)=false→(aK (IntKind.i64.wrap (f-t))).1≠(0:Int)∧(aK (IntKind.i64.wrap (f-t))).1≠(0:Int)∧(decide (v.tmod (aK (IntKind.i64.wrap (f-t))).1≥IntKind.i64.wrap ((aK (IntKind.i64.wrap (f-t))).1-v.tmod (aK (IntKind.i64.wrap (f-t))).1))=true→Q [.d (.i (IntKind.i64.wrap (IntKind.i64.wrap (v.tdiv (aK (IntKind.i64.wrap (f-t))).1)+(1:Int)))),.d (.i 0)] [])∧(decide (v.tmod (aK (IntKind.i64.wrap (f-t))).1≥IntKind.i64.wrap ((aK (IntKind.i64.wrap (f-t))).1-v.tmod (aK (IntKind.i64.wrap (f-t))).1))=false→(decide (IntKind.i64.wrap ((0:Int)-v.tmod (aK (IntKind.i64.wrap (f-t))).1)≥IntKind.i64.wrap ((aK (IntKind.i64.wrap (f-t))).1+v.tmod (aK (IntKind.i64.wrap (f-t))).1))=true→Q [.d (.i (IntKind.i64.wrap (IntKind.i64.wrap (v.tdiv (aK (IntKind.i64.wrap (f-t))).1)-(1:Int)))),.d (.i 0)] [])∧(decide (IntKind.i64.wrap ((0:Int)-v.tmod (aK (IntKind.i64.wrap (f-t))).1)≥IntKind.i64.wrap ((aK (IntKind.i64.wrap (f-t))).1+v.tmod (aK (IntKind.i64.wrap (f-t))).1))=false→Q [.d (.i (IntKind.i64.wrap (v.tdiv (aK (IntKind.i64.wrap (f-t))).1))),.d (.i 0)] [])))))):=by kernel_rfl
theorem adq(v f t:Int):Ct prog gl 148 [.d (.v (.int .i64 v)),.d (.v (.int .i64 f)),.d (.v (.int .i64 t))] (gives [.d (.v (.int .i64 (bo v f t).1)),.d (.v (.int .i64 (bo v f t).2))]):=
 cz qM f148 R4 ⟨_,_,rfl,rfl⟩ (by
  rw[adp];dsimp -eta -iota -proj only[dK]
  refine⟨fun h=>?_,fun h1=>⟨fun h=>?_,fun h2=>⟨fun h3=>⟨fun h=>?_,fun h=>?_⟩,fun h3=>?_⟩⟩⟩
  ·unfold bo;rw[h];exact⟨rfl,rfl⟩
  ·unfold bo;rw[h1,h];exact⟨rfl,rfl⟩
  ·unfold bo;rw[h1,h2,h3,cond_false,cond_false,cond_true,h];exact⟨rfl,rfl⟩
  ·unfold bo;rw[h1,h2,h3,cond_false,cond_false,cond_true,h];exact⟨rfl,rfl⟩
  ·have bT:(aK (IntKind.i64.wrap (f-t))).1≠0:=by
    have TN:(0≤f∧f≤18)∧(0≤t∧t≤18):=by
     rw[←fY,←fY]
     revert h1
     cases b7 f<;>cases b7 t<;>simp
    have:=of_decide_eq_false h3
    rw[ai (by omega) (by omega),xd (by omega)]
    have:0<10^(f-t).toNat:=Nat.pow_pos (by decide)
    generalize 10^(f-t).toNat=p at *
    omega
   refine⟨bT,bT,fun h=>?_,fun h=>⟨fun h4=>?_,fun h4=>?_⟩⟩
   ·unfold bo;rw[h1,h2,h3,cond_false,cond_false,cond_false,h];exact⟨rfl,rfl⟩
   ·unfold bo;rw[h1,h2,h3,cond_false,cond_false,cond_false,h,cond_false,h4];exact⟨rfl,rfl⟩
   ·unfold bo;rw[h1,h2,h3,cond_false,cond_false,cond_false,h,cond_false,h4];exact⟨rfl,rfl⟩)
def I8(a:List R)(K:KT):Prop:=match a with
 |[.d (.v (.int .i64 v)),.d (.v (.int .i64 f)),.d (.v (.int .i64 t))]=>K [.d (.v (.int .i64 (bo v f t).1)),.d (.v (.int .i64 (bo v f t).2))] []
 |_=>False
theorem I9:CK gl I8 148:=fun a K h=>by
 unfold I8 at h
 split at h
 ·exact(adq _ _ _).gives h
 ·exact h.elim
def kN(v:Go.Ex.AV)(n:Int):Int×Int:=(cA v.n (aK (IntKind.i64.wrap (n-bU v.t.k v.t.sc v.aA v.n v.s))).1,cN v.n (aK (IntKind.i64.wrap (n-bU v.t.k v.t.sc v.aA v.n v.s))).1)
theorem adr(v:Go.Ex.AV)(n:Int)(Q:KT):vc bl I7 bf Sg (f166.body.getD .skip) f166.results.toList [.agg v.cs,.d (.v (.int .i64 n))] Q=(Q [.agg [.i (cA v.3 (aK (IntKind.i64.wrap (n-bU v.1.1 v.1.2 v.2 v.3 v.4))).1),.v (.int .u64 (cN v.3 (aK (IntKind.i64.wrap (n-bU v.1.1 v.1.2 v.2 v.3 v.4))).1))]] []):=by kernel_rfl
theorem ads(v:Go.Ex.AV)(n:Int):Ct prog gl 166 [.agg v.cs,.d (.v (.int .i64 n))] (gives [.agg [.v (.int .i64 (kN v n).1),.v (.int .u64 (kN v n).2)]]):=
 cz qM f166 Sg ⟨_,_,rfl,rfl⟩ (by
  rw[adr];exact⟨rfl,rfl⟩)
def I_(a:List R)(K:KT):Prop:=match a with
 |[.agg [.v (.int .i64 k),.v (.int .i64 sc),.v (.bool b),.v (.int .i64 m),.v (.string s)],.d (.v (.int .i64 n))]=>K [.agg [.v (.int .i64 (kN ⟨⟨k,sc⟩,b,m,s⟩ n).1),.v (.int .u64 (kN ⟨⟨k,sc⟩,b,m,s⟩ n).2)]] []
 |_=>False
theorem I':CK gl I_ 166:=fun a K h=>by
 unfold I_ at h
 split at h
 ·exact(ads _ _).gives h
 ·exact h.elim
theorem adt(a b:ByteArray)(Q:KT):vc bl I7 bf Se (f164.body.getD .skip) f164.results.toList [.d (.v (.string a)),.d (.v (.string b))] Q=((Op.bytesLess a.toList b.toList=true→qD Q)∧(Op.bytesLess a.toList b.toList=false→((!(Op.bytesLess a.toList b.toList||a==b))=true→Q [.d (.i 1)] [])∧((!(Op.bytesLess a.toList b.toList||a==b))=false→Q [.d (.i 0)] []))):=by kernel_rfl
def nd(a b:ByteArray):Int:=bif Op.bytesLess a.toList b.toList then -1 else bif !(Op.bytesLess a.toList b.toList||a==b)then 1 else 0
theorem adu(a b:ByteArray):Ct prog gl 164 [.d (.v (.string a)),.d (.v (.string b))] (gives [.d (.v (.int .i64 (nd a b)))]):=
 cz qM f164 Se ⟨_,_,rfl,rfl⟩ (by
  rw[adt];dsimp -eta -iota -proj only[qD,Fg]
  refine⟨fun h=>?_,fun h=>⟨fun h2=>?_,fun h2=>?_⟩⟩
  ·unfold nd;rw[h];exact⟨rfl,rfl⟩
  ·unfold nd;rw[h2,h];exact⟨rfl,rfl⟩
  ·unfold nd;rw[h2,h];exact⟨rfl,rfl⟩)
def Ja(a:List R)(K:KT):Prop:=match a with
 |[.d (.v (.string a)),.d (.v (.string b))]=>K [.d (.v (.int .i64 (nd a b)))] []
 |_=>False
theorem Jb:CK gl Ja 164:=fun a K h=>by
 unfold Ja at h
 split at h
 ·exact(adu _ _).gives h
 ·exact h.elim
def U3:aj:=au (au (au I7 148 I8) 166 I_) 164 Ja
theorem C4:ah prog gl U3:=af (af (af qM I9) I') Jb
end Go.Proofs.Tryz
