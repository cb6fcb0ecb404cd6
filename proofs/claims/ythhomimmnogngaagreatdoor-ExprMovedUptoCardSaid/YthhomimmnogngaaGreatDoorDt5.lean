/- A part of the proof: contracts of functions, by a verified generator of conditions; no condition of its own. -/
import Derived.Test.YthhomimmnogngaaGreatDoorN3
import Derived.Test.YthhomimmnogngaaGreatDoorDm21
import Derived.WalkKit
import Derived.ProofKit
import Derived.OpenShut
import Derived.ShutString
import Derived.ChangeOld
import Derived.Below
import Derived.SizedLaws
import Derived.Deep.Slices
namespace Go.Dm
inductive TyD (P:Program):TypeId→List D→Prop
 |bool {t:TypeId} {b:Bool} (h:P.underlying t=some .bool):TyD P t [.v (.bool b)]
 |int {t:TypeId} {k:IntKind} {n:Int} (h:P.underlying t=some (.int k)) (hn:k.min≤n∧n≤k.max):TyD P t [.v (.int k n)]
 |str {t:TypeId} {s:ByteArray} (h:P.underlying t=some .string) (hs:s.size≤reachBytes):TyD P t [.v (.string s)]
 |sl {t e:TypeId} {es:List (List D)} (h:P.underlying t=some (.slice e)) (hs:es.length*P.bytesOf e≤reachBytes) (hx:∀r∈es,TyD P e r):TyD P t [.sl es]
 |struct {t:TypeId} {fs:Array Field} {ds:List D} (h:P.underlying t=some (.struct fs)) (hl:ds.length=P.cellsOf t)
  (hx:∀x∈fs.toList,TyD P x.type ((ds.drop x.offset).take (P.cellsOf x.type))):TyD P t ds
 |arr {t e:TypeId} {n:Nat} {ds:List D} (h:P.underlying t=some (.array n e)) (hl:ds.length=P.cellsOf t)
  (hx:∀i,i<n→TyD P e ((ds.drop (i*P.cellsOf e)).take (P.cellsOf e))):TyD P t ds
theorem TyD.bool_inv{P:Program}{t:TypeId}{ds:List D}(h:TyD P t ds)(ht:P.underlying t=some .bool):∃b,ds=[.v (.bool b)]:=by
 cases h<;>simp_all
theorem TyD.int_inv{P:Program}{t:TypeId}{ds:List D}{k:IntKind}(h:TyD P t ds)(ht:P.underlying t=some (.int k)):∃n,(k.min≤n∧n≤k.max)∧ds=[.v (.int k n)]:=by
 cases h with
 |int h hn=>rw[h]at ht;cases ht;exact⟨_,hn,rfl⟩
 |_=>simp_all
theorem TyD.str_inv{P:Program}{t:TypeId}{ds:List D}(h:TyD P t ds)(ht:P.underlying t=some .string):∃s,s.size≤reachBytes∧ds=[.v (.string s)]:=by
 cases h with
 |str h hn=>exact⟨_,hn,rfl⟩
 |_=>simp_all
theorem TyD.sl_inv{P:Program}{t e:TypeId}{ds:List D}(h:TyD P t ds)(ht:P.underlying t=some (.slice e)):∃es:List (List D),es.length*P.bytesOf e≤reachBytes∧ds=[.sl es]∧∀r∈es,TyD P e r:=by
 cases h with
 |sl h hn hx=>rw[h]at ht;cases ht;exact⟨_,hn,rfl,hx⟩
 |_=>simp_all
theorem TyD.struct_inv{P:Program}{t:TypeId}{fs:Array Field}{ds:List D}(h:TyD P t ds)(ht:P.underlying t=some (.struct fs)):ds.length=P.cellsOf t∧∀x∈fs.toList,TyD P x.type ((ds.drop x.offset).take (P.cellsOf x.type)):=by
 cases h with
 |struct h hl hx=>rw[h]at ht;cases ht;exact⟨hl,hx⟩
 |_=>simp_all
theorem TyD.fld{P:Program}{t:TypeId}{fs:Array Field}{ds:List D}(h:TyD P t ds)(ht:P.underlying t=some (.struct fs))(i:Nat){x:Field}(hx:fs.toList[i]? = some x){n:Nat}(hn:P.cellsOf x.type=n):TyD P x.type ((ds.drop x.offset).take n):=by
 rw[←hn]
 exact(h.struct_inv ht).2 x (List.mem_of_getElem? hx)
def tileB(P:Program)(tot:Nat):Nat→List Field→Bool
 |off,[]=>off==tot
 |off,f::r=>f.offset==off&&tileB P tot (off+P.cellsOf f.type) r
def dataTyB(P:Program)(S:List TypeId):Bool:=S.all fun t=>match P.underlying t with
 |some .bool=>true
 |some (.int _)=>true
 |some .string=>true
 |some (.slice e)=>S.contains e&&P.cellsOf e != 0
 |some (.struct fs)=>tileB P (P.cellsOf t) 0 fs.toList&&fs.toList.all fun f=>S.contains f.type
 |some (.array n e)=>S.contains e&&n*P.cellsOf e==P.cellsOf t
 |_=>false
inductive RdL (ok:Nat→Prop) (w:World):List Value→List D→Prop
 |nil:RdL ok w [] []
 |cons {v:Value} {d:D} {vs:List Value} {ds:List D} (h:Rd ok w v d) (r:RdL ok w vs ds):RdL ok w (v::vs) (d::ds)
theorem RdL.length{ok:Nat→Prop}{w:World}{vs:List Value}{ds:List D}(h:RdL ok w vs ds):vs.length=ds.length:=by
 induction h with
 |nil=>rfl
 |cons h r ih=>simp[ih]
theorem RdL.append{ok:Nat→Prop}{w:World}{vs vs':List Value}{ds ds':List D}(h:RdL ok w vs ds)(h':RdL ok w vs' ds'):RdL ok w (vs++vs') (ds++ds'):=by
 induction h with
 |nil=>exact h'
 |cons h r ih=>exact .cons h ih
theorem RdL.get{ok:Nat→Prop}{w:World}{vs:List Value}{ds:List D}(h:RdL ok w vs ds):∀(i:Nat) (x:D) (v:Value),ds[i]? = some x→vs[i]? = some v→Rd ok w v x:=by
 induction h with
 |nil=>intro i x v h;simp at h
 |cons h r ih=>
  intro i x v h1 h2
  cases i with
  |zero=>simp at h1 h2;subst h1;subst h2;exact h
  |succ i=>simp at h1 h2;exact ih i x v h1 h2
section
variable {H:Type} {enc:TypeId×Value→H} {P:Program} {w:World} {base:Nat} {held:Bool}
theorem weightsAll_mem{e:TypeId}{l:List (DataW H)}{d:DataW H}(h:d∈l){x:Nat}(hx:x∈d.weights P e):x∈DataW.weightsAll P e l:=by
 induction l with
 |nil=>cases h
 |cons y r ih=>
  simp only[DataW.weightsAll,List.mem_append]
  cases h with
  |head=>exact .inl hx
  |tail _ h=>exact .inr (ih h)
theorem weightsEach_mem:∀{ts:List TypeId} {l:List (DataW H)} {i:Nat} {t:TypeId} {d:DataW H},ts[i]? = some t→l[i]? = some d→∀{x:Nat},x∈d.weights P t→x∈DataW.weightsEach P ts l
 |[],_,i,_,_,h,_,_,_=>by simp at h
 |_::_,[],i,_,_,_,h,_,_=>by simp at h
 |_::ts,_::l,0,_,_,h1,h2,x,hx=>by
  simp at h1 h2;subst h1;subst h2
  simp only[DataW.weightsEach,List.mem_append];exact .inl hx
 |_::ts,_::l,i+1,_,_,h1,h2,x,hx=>by
  simp at h1 h2
  simp only[DataW.weightsEach,List.mem_append];exact .inr (weightsEach_mem h1 h2 hx)
def Small(P:Program)(t:TypeId)(d:DataW H):Prop:=∀x∈d.weights P t,x≤reachBytes
theorem tile_le{tot:Nat}:∀(fs:List Field) (off:Nat),tileB P tot off fs=true→off≤tot∧∀f∈fs,f.offset+P.cellsOf f.type≤tot
 |[],off,h=>by simp only[tileB,beq_iff_eq]at h;exact⟨by omega,by simp⟩
 |f::r,off,h=>by
  simp only[tileB,Bool.and_eq_true,beq_iff_eq]at h
  obtain⟨a,b⟩:=tile_le r _ h.2
  refine⟨by omega,fun g hg=>?_⟩
  cases hg with
  |head=>omega
  |tail _ hg=>exact b g hg
def asR(P:Program)(t:TypeId)(ds:List D)(r:R):Prop:=match P.underlying t with
 |some (.struct _)|some (.array _ _)=>r = .agg ds
 |_=>∃d,ds=[d]∧r = .d d
end
section
open Go.ChangeShapes Go.WideShapes Go.ChangeAt Go.RowKit
variable {H:Type} {enc:TypeId×Value→H} {P:Program}
theorem trodAll_below(hl:laidOutB P=true){W W':World}(hb:Below W.heap.size W W'):∀{ts:List TypeId} {vs:List Value} {ds:List (DataW H)} {ps:List MemPlace},ts.all (fun t=>P.readableRec t&&decide (t<P.types.size))=true→
  DataW.TrodAll enc P W 0 (fun _=>true) true ts vs ds ps→DataW.TrodAll enc P W' 0 (fun b=>decide (b<W.heap.size)) true ts vs ds ps
 |[],[],[],_,_,h=>h
 |[],[],_::_,_,_,h=>h.elim
 |[],_::_,[],_,_,h=>h.elim
 |[],_::_,_::_,_,_,h=>h.elim
 |_::_,[],[],_,_,h=>h.elim
 |_::_,[],_::_,_,_,h=>h.elim
 |_::_,_::_,[],_,_,h=>h.elim
 |t::ts,v::vs,d::ds,ps,ht,h=>by
  simp only[List.all_cons,Bool.and_eq_true,decide_eq_true_eq]at ht
  obtain⟨p,q,h1,h2,rfl⟩:=h
  refine⟨p,q,Below.trod hl ht.1.1 ht.1.2 h1 hb (fun x hx=>?_),trodAll_below hl hb (by simpa using ht.2) h2,rfl⟩
  obtain⟨m,hm⟩:=h1
  exact DataW.trod_lt m _ _ _ hm x hx
end
end Go.Dm
namespace Go.Dm
mutual
def dsz:D→Nat
 | .v _=>1
 | .opq=>1
 | .sl es=>dszLL es+1
def dszL:List D→Nat
 |[]=>0
 |d::r=>dsz d+dszL r
def dszLL:List (List D)→Nat
 |[]=>0
 |l::r=>dszL l+dszLL r
end
theorem dszL_append:∀(a b:List D),dszL (a++b)=dszL a+dszL b
 |[],b=>by simp[dszL]
 |x::a,b=>by simp only[List.cons_append,dszL,dszL_append a b];omega
structure BulkOk {H:Type} (bk:DataW H→Nat) (bkA:List (DataW H)→Nat):Prop where
 one:∀d,1≤bk d
 agg:∀ps,bkA ps≤bk (.agg ps)
 sl:∀es sp,bkA es+1≤bk (.slice es sp)
 nil:bkA []=0
 cons:∀d r,bkA (d::r)=bk d+bkA r
theorem bkA_sum{H:Type}{bk:DataW H→Nat}{bkA:List (DataW H)→Nat}(hB:BulkOk bk bkA):∀l:List (DataW H),bkA l=(l.map bk).sum
 |[]=>by rw[hB.nil];rfl
 |d::r=>by rw[hB.cons,bkA_sum hB r];rfl
theorem sum_bulk{H:Type}{bk:DataW H→Nat}{bkA:List (DataW H)→Nat}(hB:BulkOk bk bkA):∀{es:List (List D)} {xs:List (DataW H)},es.length=xs.length→(∀i (h1:i<es.length) (h2:i<xs.length),dszL es[i]≤bk xs[i])→dszLL es≤bkA xs
 |[],[],_,_=>by rw[hB.nil];simp[dszLL]
 |[],_::_,h,_=>by simp at h
 |_::_,[],h,_=>by simp at h
 |l::es,x::xs,h,hx=>by
  have h1:=sum_bulk hB (es:=es) (xs:=xs) (by simpa using h) (fun i a b=>hx (i+1) (Nat.succ_lt_succ a) (Nat.succ_lt_succ b))
  have h2:=hx 0 (by simp) (by simp)
  rw[hB.cons]
  simp only[dszLL]
  simp only[List.getElem_cons_zero]at h2
  omega
def noArrB(P:Program)(S:List TypeId):Bool:=S.all fun t=>match P.underlying t with
 |some (.array _ _)=>false
 |_=>true
section
variable {H:Type} {enc:TypeId×Value→H} {P:Program} {w:World} {base:Nat} {held:Bool} {bk:DataW H→Nat} {bkA:List (DataW H)→Nat}
theorem fields_sized{cs:List Value}{tot:Nat}(hcs:cs.length=tot){ok:Nat→Prop}:∀(fs:List Field) (bs:List Nat),fs.length=bs.length→∀(off:Nat),tileB P tot off fs=true→off≤tot→
  (∀i (h1:i<fs.length) (h2:i<bs.length),∃ds,RdL ok w ((cs.drop fs[i].offset).take (P.cellsOf fs[i].type)) ds∧TyD P fs[i].type ds∧dszL ds≤bs[i])→
  (∀f∈fs,f.offset+P.cellsOf f.type≤tot)→
  ∃ds,RdL ok w (cs.drop off) ds∧(∀f∈fs,off≤f.offset∧TyD P f.type ((ds.drop (f.offset-off)).take (P.cellsOf f.type)))∧dszL ds≤bs.sum
 |[],[],_,off,ht,ho,_,_=>by
  simp only[tileB,beq_iff_eq]at ht
  refine⟨[],?_,by simp,by simp[dszL]⟩
  rw[List.drop_eq_nil_of_le (by omega)]
  exact .nil
 |[],_::_,h,_,_,_,_,_=>by simp at h
 |_::_,[],h,_,_,_,_,_=>by simp at h
 |f::r,b::bs,hlen,off,ht,ho,hf,hle=>by
  simp only[tileB,Bool.and_eq_true,beq_iff_eq]at ht
  obtain⟨h1,h2⟩:=ht
  have hle1:=hle f (by simp)
  obtain⟨d1,a1,a2,a3⟩:=hf 0 (by simp) (by simp)
  simp only[List.getElem_cons_zero]at a1 a2 a3
  obtain⟨d2,b1,b2,b3⟩:=fields_sized hcs r bs (by simpa using hlen) (off+P.cellsOf f.type) h2 (by omega) (fun i x y=>hf (i+1) (Nat.succ_lt_succ x) (Nat.succ_lt_succ y)) (fun g hg=>hle g (by simp[hg]))
  have hl1:d1.length=P.cellsOf f.type:=by
   rw[←a1.length,List.length_take,List.length_drop];omega
  refine⟨d1++d2,?_,?_,?_⟩
  ·have:cs.drop off=(cs.drop f.offset).take (P.cellsOf f.type)++cs.drop (off+P.cellsOf f.type):=by
    rw[h1,←List.drop_drop,List.take_append_drop]
   rw[this]
   exact a1.append b1
  ·intro g hg
   cases hg with
   |head=>
    refine⟨by omega,?_⟩
    rw[h1,Nat.sub_self,List.drop_zero,List.take_append_of_le_length (by omega),List.take_of_length_le (by omega)]
    exact a2
   |tail _ hg=>
    obtain⟨c1,c2⟩:=b2 g hg
    refine⟨by omega,?_⟩
    have:(d1++d2).drop (g.offset-off)=d2.drop (g.offset-(off+P.cellsOf f.type)):=by
      rw[List.drop_append,List.drop_eq_nil_of_le (by omega),List.nil_append,hl1]
      congr 1
      omega
    rw[this]
    exact c2
  ·rw[dszL_append,List.sum_cons];omega
theorem trod_sized(hB:BulkOk bk bkA){S:List TypeId}(hS:dataTyB P S=true)(hN:noArrB P S=true):∀(n:Nat) (t:TypeId) (cs:List Value) (x:DataW H×List MemPlace),t∈S→
  DataW.trod enc P w base (fun _=>true) held n t cs=some x→Small P t x.1→∃ds,RdL (fun b=>b<w.heap.size) w cs ds∧TyD P t ds∧dszL ds≤bk x.1:=by
 intro n
 induction n with
 |zero=>intro t cs x _ h;simp[DataW.trod]at h
 |succ n ih=>
  intro t cs x ht h hsm
  have hb:=List.all_eq_true.1 hS t ht
  split at hb
  ·rename_i hu
   obtain⟨b,rfl,_⟩:=DataW.trod_bool hu h
   exact⟨[.v (.bool b)],.cons (.v rfl) .nil,.bool hu,by simp only[dszL,dsz];exact hB.one _⟩
  ·rename_i k hu
   obtain⟨m,rfl,_,hw⟩:=DataW.trod_int hu h
   refine⟨[.v (.int k m)],.cons (.v rfl) .nil,.int hu ?_,by simp only[dszL,dsz];exact hB.one _⟩
   simpa[Lit.wf]using hw
  ·rename_i hu
   obtain⟨s,rfl,hx,hs⟩:=DataW.trod_string hu h
   refine⟨[.v (.string s)],.cons (.v rfl) .nil,.str hu ?_,by simp only[dszL,dsz];exact hB.one _⟩
   subst hx
   exact hsm _ (by simp[DataW.weights])
  ·rename_i e hu
   simp only[Bool.and_eq_true,List.contains_iff_mem,bne_iff_ne,ne_eq]at hb
   obtain⟨he,hc0⟩:=hb
   rcases DataW.trod_slice hu h with⟨rfl,_⟩|⟨a,len,cap,elems,rest,m,hm,rfl,rfl,hb,hl,hcm,hlen,hel,_,_⟩
   ·exact⟨[.sl []],.cons .nil .nil,.sl hu (by simp) (by simp),by simp only[dszL,dszLL,dsz];exact hB.one _⟩
   ·cases hm
    have hw:∀y∈DataW.weightsAll P e (elems.map (·.1)),y≤reachBytes:=fun y hy=>hsm y (by
     show y∈DataW.weights P t (.slice (elems.map (·.1)) (rest.map (·.1)))
     unfold DataW.weights
     rw[hu]
     simp[hy])
    have hwl:elems.length*P.bytesOf e≤reachBytes:=by
     have:=hsm ((elems.length+rest.length)*P.bytesOf e) (by
      show _∈DataW.weights P t (.slice (elems.map (·.1)) (rest.map (·.1)))
      unfold DataW.weights
      rw[hu]
      simp)
     exact Nat.le_trans (Nat.mul_le_mul_right _ (by omega)) this
    have each:∀i,i<len→∃cs' ds,w.cells? base (a.add (i*P.cellsOf e)) (P.cellsOf e)=some cs'∧RdL (fun b=>b<w.heap.size) w cs' ds∧TyD P e ds∧(∀y,(elems.map (·.1))[i]? = some y→dszL ds≤bk y):=by
     intro i hi
     have h1:=hel i hi
     rw[List.getElem?_eq_getElem (by omega),Option.bind_eq_some_iff]at h1
     obtain⟨cs',h2,h3⟩:=h1
     obtain⟨ds,h4,h5,h6⟩:=ih e cs' _ he h3 (fun y hy=>hw y (weightsAll_mem (List.mem_map.2 ⟨elems[i]'(by omega),List.getElem_mem _,rfl⟩) hy))
     exact⟨cs',ds,h2,h4,h5,fun y hy=>by rw[List.getElem?_map,List.getElem?_eq_getElem (by omega)]at hy;cases hy;exact h6⟩
    by_cases hl0:len=0
    ·subst hl0
     exact⟨[.sl []],.cons .nul .nil,.sl hu (by simp) (by simp),by simp only[dszL,dszLL,dsz];exact hB.one _⟩
    ·let es:List (List D):=(List.range len).map fun i=>if hi:i<len then(each i hi).choose_spec.choose else []
     have hes:es.length=len:=by simp[es]
     have heg:∀i (hi:i<len),es.getD i []=(each i hi).choose_spec.choose:=by
      intro i hi
      simp[es,List.getD_eq_getElem?_getD,hi]
     have hlenc:∀(cs':List Value) (ad:Addr),w.cells? base ad (P.cellsOf e)=some cs'→cs'.length=P.cellsOf e:=by
      intro cs' ad h1
      unfold World.cells? at h1
      split at h1
      ·have:=mapM_some_length h1;simpa using this
      ·cases h1
     have hcell:∀(cs':List Value) (ad:Addr),w.cells? base ad (P.cellsOf e)=some cs'→∀j,j<P.cellsOf e→w.cell? (ad.add j)=cs'[j]?:=by
      intro cs' ad h1 j hj
      unfold World.cells? at h1
      split at h1
      ·exact mapM_some_get h1 j j (by simp[hj])
      ·cases h1
     obtain⟨spot0,hblk⟩:a.spot=none∧a.block<w.heap.size:=by
      obtain⟨h1,h2,_⟩:=(each 0 (by omega)).choose_spec.choose_spec
      have h3:=hcell _ _ h1 0 (by omega)
      rw[List.getElem?_eq_getElem (by rw[hlenc _ _ h1];omega)]at h3
      have e0:(a.add (0*P.cellsOf e)).add 0=a:=by simp[Addr.add]
      rw[e0]at h3
      unfold World.cell? at h3
      constructor
      ·split at h3
       ·split at h3
        ·cases h3
        ·rename_i hs;simpa using hs
       ·cases h3
      ·split at h3
       ·rename_i c hcc;exact(Array.getElem?_eq_some_iff.1 hcc).1
       ·cases h3
     obtain⟨b,off,sp⟩:=a
     subst spot0
     have hadd:∀i j:Nat,((⟨b,off,none⟩:Addr).add i).add j=⟨b,off+(i+j),none⟩:=by
      intro i j
      rw[addr_add,addr_add,Nat.add_assoc]
     refine⟨[.sl es],.cons ?_ .nil,.sl hu (by rw[hes,←hlen];exact hwl) ?_,?_⟩
     ·have:=Rd.sl (ok:=fun b=>b<w.heap.size) (w:=w) (b:=b) (off:=off) (cap:=cap) (es:=es) (P.cellsOf e) (fun i j=>(w.cell? ⟨b,off+(i*P.cellsOf e+j),none⟩).getD default) (by rw[hes];exact hl) (fun _=>hblk) ?_ ?_ ?_
      ·rw[hes]at this;exact this
      ·intro c hc
       obtain⟨i,hi,rfl⟩:=List.getElem_of_mem hc
       rw[hes]at hi
       have h0:=heg i hi
       rw[List.getD_eq_getElem?_getD,List.getElem?_eq_getElem (by rw[hes];exact hi)]at h0
       simp only[Option.getD_some]at h0
       rw[h0]
       obtain⟨h1,h2,h3,_⟩:=(each i hi).choose_spec.choose_spec
       rw[←h2.length]
       exact hlenc _ _ h1
      ·intro i j hi hj
       rw[hes]at hi
       obtain⟨h1,h2,h3,_⟩:=(each i hi).choose_spec.choose_spec
       have h4:=hcell _ _ h1 j hj
       rw[hadd]at h4
       rw[h4,List.getElem?_eq_getElem (by rw[hlenc _ _ h1];exact hj)]
       rfl
      ·intro i j hi hj
       rw[hes]at hi
       rw[heg i hi]
       obtain⟨h1,h2,h3,_⟩:=(each i hi).choose_spec.choose_spec
       have h4:=hcell _ _ h1 j hj
       rw[hadd]at h4
       have hl':=hlenc _ _ h1
       refine h2.get j _ ((w.cell? ⟨b,off+(i*P.cellsOf e+j),none⟩).getD default) ?_ ?_
       ·have hlt:j<(each i hi).choose_spec.choose.length:=by rw[←h2.length,hl'];exact hj
        rw[List.getD_eq_getElem?_getD,List.getElem?_eq_getElem hlt];rfl
       ·rw[h4,List.getElem?_eq_getElem (by rw[hl'];exact hj)];rfl
     ·intro r hr
      obtain⟨i,hi,rfl⟩:=List.getElem_of_mem hr
      rw[hes]at hi
      have h0:=heg i hi
      rw[List.getD_eq_getElem?_getD,List.getElem?_eq_getElem (by rw[hes];exact hi)]at h0
      simp only[Option.getD_some]at h0
      rw[h0]
      exact(each i hi).choose_spec.choose_spec.2.2.1
     ·have hsum:dszLL es≤bkA (elems.map (·.1)):=sum_bulk hB (by rw[hes,List.length_map];omega) (fun i h1 h2=>by
         have hi:i<len:=by rw[hes]at h1;exact h1
         have h0:=heg i hi
         rw[List.getD_eq_getElem?_getD,List.getElem?_eq_getElem h1]at h0
         simp only[Option.getD_some]at h0
         rw[h0]
         exact(each i hi).choose_spec.choose_spec.2.2.2 _ (List.getElem?_eq_getElem h2))
      have:=hB.sl (elems.map (·.1)) (rest.map (·.1))
      simp only[dszL,dsz]
      show dszLL es+1+0≤bk (.slice (elems.map (·.1)) (rest.map (·.1)))
      omega
  ·rename_i fs hu
   simp only[Bool.and_eq_true,List.all_eq_true,List.contains_iff_mem]at hb
   obtain⟨htile,hmem⟩:=hb
   obtain⟨xs,m,hm,rfl,hl,hxl,hx⟩:=DataW.trod_struct hu h
   cases hm
   have hle:=tile_le _ _ htile
   obtain⟨ds,h1,h2,h3⟩:=fields_sized (w:=w) (P:=P) hl (ok:=fun b=>b<w.heap.size) fs.toList (xs.map fun x=>bk x.1) (by simp[hxl]) 0 htile (Nat.zero_le _) (by
    intro i hi hi2
    have hi':i<fs.size:=by simpa using hi
    have hf:fs.toList[i]∈fs.toList:=List.getElem_mem _
    have h1:=hx i (fs.toList[i]) (by simp[hi'])
    rw[List.getElem?_eq_getElem (by omega)]at h1
    obtain⟨d1,k1,k2,k3⟩:=ih _ _ _ (hmem _ hf) h1 (fun y hy=>hsm y (by
     show y∈DataW.weights P t (.agg (xs.map (·.1)))
     unfold DataW.weights
     rw[hu]
     exact weightsEach_mem (i:=i) (t:=fs.toList[i].type) (d:=xs[i].1) (by simp[hi']) (by simp[hxl,hi']) hy))
    exact⟨d1,k1,k2,by rw[List.getElem_map];exact k3⟩) hle.2
   rw[List.drop_zero]at h1
   refine⟨ds,h1,.struct hu (by rw[←h1.length];exact hl) fun f hf=>?_,?_⟩
   ·have:=(h2 f hf).2
    rwa[Nat.sub_zero]at this
   ·have e1:(xs.map fun x=>bk x.1).sum=bkA (xs.map (·.1)):=by
     rw[bkA_sum hB,List.map_map];rfl
    have:=hB.agg (xs.map (·.1))
    show dszL ds≤bk (.agg (xs.map (·.1)))
    omega
  ·rename_i k e hu
   exfalso
   have hn:=List.all_eq_true.1 hN t ht
   rw[hu]at hn
   cases hn
  ·cases hb
inductive TyArgsN (P:Program):List TypeId→List R→Nat→Prop
 |nil:TyArgsN P [] [] 0
 |cons {t:TypeId} {ts:List TypeId} {ds:List D} {r:R} {rs:List R} {n m:Nat} (h:TyD P t ds) (hr:asR P t ds r) (hn:dszL ds≤n) (k:TyArgsN P ts rs m):TyArgsN P (t::ts) (r::rs) (n+m)
theorem args_sized(hB:BulkOk bk bkA){S:List TypeId}(hS:dataTyB P S=true)(hN:noArrB P S=true):∀{ts:List TypeId} {vs:List Value} {ds:List (DataW H)} {ps:List MemPlace},(∀t∈ts,t∈S)→
  (∀(j:Nat) t v,ts[j]? = some t→vs[j]? = some v→Value.okWide P w .any base t v)→
  DataW.TrodAll enc P w 0 (fun _=>true) held ts vs ds ps→(∀x∈DataW.weightsEach P ts ds,x≤reachBytes)→
  ∃rs,ArgsR (fun b=>b<w.heap.size) w [] rs vs∧TyArgsN P ts rs (bkA ds)
 |[],[],[],_,_,_,_,_=>⟨[],.nil,by rw[hB.nil];exact .nil⟩
 |t::ts,v::vs,d::ds,ps,hm,hv,h,hw=>by
  obtain⟨p,q,h1,h2,_⟩:=h
  obtain⟨rs,a1,a2⟩:=args_sized hB hS hN (fun t' ht'=>hm t' (by simp[ht'])) (fun j t' v' e1 e2=>hv (j+1) t' v' (by simpa using e1) (by simpa using e2)) h2
   (fun x hx=>hw x (by simp only[DataW.weightsEach,List.mem_append];exact .inr hx))
  obtain⟨n,hn⟩:=h1
  obtain⟨es,b1,b2,b3⟩:=trod_sized hB hS hN n t v.cells.toList (d,p) (hm t (by simp)) hn (fun x hx=>hw x (by simp only[DataW.weightsEach,List.mem_append];exact .inl hx))
  have hval:=hv 0 t v rfl rfl
  have hb:=List.all_eq_true.1 hS t (hm t (by simp))
  have plainCase:(∀fs,P.underlying t≠some (.struct fs))→(∀k e,P.underlying t≠some (.array k e))→∃rs,ArgsR (fun b=>b<w.heap.size) w [] rs (v::vs)∧TyArgsN P (t::ts) rs (bkA (d::ds)):=by
   intro n1 n2
   obtain⟨d',rfl⟩:∃d',es=[d']:=by
    cases b2 with
    |struct h=>exact(n1 _ h).elim
    |arr h=>exact(n2 _ _ h).elim
    |_=>exact⟨_,rfl⟩
   have hcs:v.cells.toList=[v]:=by
    have hl:=b1.length
    generalize hcc:v.cells.toList=cc at b1 hl
    cases v<;>first|(simp[Value.cells]at hcc;exact hcc.symm)|skip
    all_goals
     exfalso
     unfold Value.okWide at hval
     cases b2 with
     |struct h=>exact(n1 _ h).elim
     |arr h=>exact(n2 _ _ h).elim
     |bool h=>rw[h]at hval;simp[Cell.okWide,Cell.ok,h]at hval
     |int h=>rw[h]at hval;simp[Cell.okWide,Cell.ok,h]at hval
     |str h=>rw[h]at hval;simp[Cell.okWide,Cell.ok,h]at hval
     |sl h=>rw[h]at hval;simp[Cell.okWide,Cell.ok,h]at hval
   rw[hcs]at b1
   cases b1 with
   |cons hr _=>
    refine⟨.d d'::rs,.d hr a1,?_⟩
    rw[hB.cons]
    refine .cons b2 ?_ b3 a2
    unfold asR
    split
    ·rename_i h;exact(n1 _ h).elim
    ·rename_i h;exact(n2 _ _ h).elim
    ·exact⟨d',rfl,rfl⟩
  have aggCase:(∃cs,v = .agg cs)→asR P t es (.agg es)→∃rs,ArgsR (fun b=>b<w.heap.size) w [] rs (v::vs)∧TyArgsN P (t::ts) rs (bkA (d::ds)):=by
   rintro⟨cs,rfl⟩ ha
   simp only[Value.cells]at b1
   refine⟨.agg es::rs,.agg (by simpa using b1.length) (fun i x v h1 h2=>b1.get i x v h1 (by simpa using h2)) a1,by rw[hB.cons];exact .cons b2 ha b3 a2⟩
  split at hb
  ·exact plainCase (by simp_all) (by simp_all)
  ·exact plainCase (by simp_all) (by simp_all)
  ·exact plainCase (by simp_all) (by simp_all)
  ·exact plainCase (by simp_all) (by simp_all)
  ·rename_i fs hu
   refine aggCase ?_ (by unfold asR;rw[hu])
   unfold Value.okWide at hval
   rw[hu]at hval
   obtain⟨cs,h,_⟩:=hval
   exact⟨cs,h⟩
  ·rename_i k e hu
   refine aggCase ?_ (by unfold asR;rw[hu])
   unfold Value.okWide at hval
   rw[hu]at hval
   obtain⟨cs,h,_⟩:=hval
   exact⟨cs,h⟩
  ·cases hb
 |[],_::_,_,_,_,_,h,_=>by cases ‹List (DataW H)›<;>exact h.elim
 |[],[],_::_,_,_,_,h,_=>h.elim
 |_::_,[],_,_,_,_,h,_=>by cases ‹List (DataW H)›<;>exact h.elim
 |_::_,_::_,[],_,_,_,h,_=>h.elim
end
section
open Go.ChangeShapes Go.WideShapes Go.ChangeAt Go.RowKit
variable {H:Type} {enc:TypeId×Value→H} {P:Program}
theorem upto_contract{bk:DataW H→Nat}{bkA:List (DataW H)→Nat}(hB:BulkOk bk bkA){f:Nat}{fn:Func}{s:ChangeSpec}{S:List TypeId}{tb:TypeId}(hS:dataTyB P S=true)(hN:noArrB P S=true)(hl:laidOutB P=true)
  (hps:fn.params.toList.all (fun t=>S.contains t)=true) (hrd:fn.params.toList.all (fun t=>P.readableRec t&&decide (t<P.types.size))=true)
  (hres:fn.resultTypes = #[tb]) (hbool:P.underlying tb=some .bool) (hvars:s.vars=[])
  (hspec:∀ds:List (DataW H),ds.length=fn.params.size→s.fn H (ds++[])={results:=[.lit (.bool true)],args:=ds})
  {gl:Nat→Option Obj} (hct:∀rs n,n≤1048576→TyArgsN P fn.params.toList rs n→Ct P gl f rs (gives [.d (.v (.bool true))]))
  (W:World) (hgl:∀b o,gl b=some o→W.heap[b]? = some o) (base:Nat) (args:Array Value) (ds gs:List (DataW H)) (before:List MemPlace)
  (hval:∀(j:Nat) t v,fn.params[j]? = some t→args[j]? = some v→Value.okWide P W .any base t v)
  (hW:DataW.Whole enc P fn.params.toList s.vars false W args.toList ds gs before)
  (hsz:(DataW.weightsEach P (fn.params.toList++s.plain.varTypes P) (ds++gs)).all (·≤reachBytes)=true) (hsmall:bkA (ds++gs)≤1048576):
  Calls P f args W fun e W'=>∃v,e = .returned v∧s.post enc P fn false true false false W args v W':=by
 have hW':=hW
 obtain⟨p,q,hA,hV,rfl,hfz,hnd⟩:=hW
 rw[hvars]at hV
 have hgs:gs=[]∧q=[]:=by
  cases gs with
  |nil=>exact⟨rfl,hV⟩
  |cons=>exact hV.elim
 obtain⟨rfl,rfl⟩:=hgs
 have hlen:ds.length=fn.params.size:=by
  have:∀{ts:List TypeId} {vs:List Value} {ds:List (DataW H)} {ps:List MemPlace},DataW.TrodAll enc P W 0 (fun _=>true) true ts vs ds ps→ds.length=ts.length:=by
   intro ts
   induction ts with
   |nil=>intro vs ds ps h;cases vs<;>cases ds<;>first|rfl|exact h.elim
   |cons t ts ih=>
    intro vs ds ps h
    cases vs with
    |nil=>cases ds<;>exact h.elim
    |cons v vs=>
     cases ds with
     |nil=>exact h.elim
     |cons d ds=>obtain⟨p,q,_,h2,_⟩:=h;simp[ih h2]
  simpa using this hA
 have hvt:s.plain.varTypes P=[]:=by
  unfold DataSpec.varTypes ChangeSpec.plain
  rw[hvars];rfl
 rw[hvt,List.append_nil,List.append_nil]at hsz
 rw[List.append_nil]at hsmall
 simp only[List.all_eq_true,decide_eq_true_eq,List.contains_iff_mem]at hsz hps
 obtain⟨rs,hR,hT⟩:=args_sized (base:=base) hB hS hN hps (fun j t v h1 h2=>hval j t v (by simpa using h1) (by simpa using h2)) hA hsz
 have hcall:=(hct rs _ hsmall hT).run W (fun b=>b<W.heap.size) args.toList [] (fun b o hb=>⟨by have:=hgl b o hb;rcases Array.getElem?_eq_some_iff.1 this with⟨h,_⟩;exact h,hgl b o hb⟩) (fun _ h=>h) (by simp) (by simp) hR
 rw[Array.toArray_toList]at hcall
 refine hcall.mono ?_
 rintro e W' ⟨res,fin,vs,ok',bn,rfl,⟨rfl,rfl⟩,_,_,_,hU,hAR,_,_,_⟩
 have hvs:vs=[.bool true]:=by
  cases hAR with
  |d h r=>
   cases r
   cases h
   rfl
 subst hvs
 have bel:Below W.heap.size W W':=⟨hU.os,hU.tape,hU.output,hU.size,fun k hk=>hU.block k hk (by simp)⟩
 refine⟨.bool true,rfl,ds,[],p++[],[],p,[],hW',?_,?_,?_,bel.frame _,fun h=>by cases h⟩
 ·rw[hspec ds hlen,hres]
  exact trodAll_mk1 (shut_bool hbool _)
 ·rw[hspec ds hlen]
  exact trodAll_below hl bel hrd hA
 ·rw[hspec ds hlen,hvars]
  rfl
end
end Go.Dm
namespace Go.Proofs.Tryz
open Go Go.Dm Go.Ex
set_option maxRecDepth 100000
theorem own:ownKnob Tryz.prog.godebug=none:=by kernel_rfl
theorem laidOut:laidOutB Tryz.prog=true:=by kernel_rfl
theorem in64_of{n:Int}(h:IntKind.i64.min≤n∧n≤IntKind.i64.max):in64 n:=by
 have h1:IntKind.i64.min = -9223372036854775808:=rfl
 have h2:IntKind.i64.max=9223372036854775807:=rfl
 rw[h1,h2]at h
 exact⟨h.1,by omega⟩
theorem typ_data{ds:List D}(h:TyD Tryz.prog 23 ds):∃t:Ty,ds=t.cs∧in64 t.k∧in64 t.sc:=by
 obtain⟨hl,_⟩:=h.struct_inv Tryz.underlying23
 have hl:ds.length=2:=hl.trans (by kernel_rfl)
 match ds,hl with
 |[d0,d1],_=>
  obtain⟨k,hk,e0⟩:=(h.fld Tryz.underlying23 0 rfl (n:=1) (by kernel_rfl)).int_inv Tryz.underlying3
  obtain⟨sc,hs,e1⟩:=(h.fld Tryz.underlying23 1 rfl (n:=1) (by kernel_rfl)).int_inv Tryz.underlying3
  simp at e0 e1
  subst e0;subst e1
  exact⟨⟨k,sc⟩,rfl,in64_of hk,in64_of hs⟩
theorem val_data{ds:List D}(h:TyD Tryz.prog 25 ds):∃v:Go.Ex.AV,ds=v.cs∧in64 v.t.k∧in64 v.t.sc∧in64 v.n∧v.s.size≤reachBytes:=by
 obtain⟨hl,_⟩:=h.struct_inv Tryz.underlying25
 have hl:ds.length=5:=hl.trans (by kernel_rfl)
 match ds,hl with
 |[d0,d1,d2,d3,d4],_=>
  obtain⟨t,e0,h1,h2⟩:=typ_data (h.fld Tryz.underlying25 0 rfl (n:=2) (by kernel_rfl))
  obtain⟨b,e2⟩:=(h.fld Tryz.underlying25 1 rfl (n:=1) (by kernel_rfl)).bool_inv Tryz.underlying4
  obtain⟨n,hn,e3⟩:=(h.fld Tryz.underlying25 2 rfl (n:=1) (by kernel_rfl)).int_inv Tryz.underlying2
  obtain⟨s,hs,e4⟩:=(h.fld Tryz.underlying25 3 rfl (n:=1) (by kernel_rfl)).str_inv Tryz.underlying9
  simp at e0 e2 e3 e4
  obtain⟨rfl,rfl⟩:=e0
  subst e2;subst e3;subst e4
  exact⟨⟨t,b,n,s⟩,rfl,h1,h2,in64_of hn,hs⟩
theorem exprs_of:∀{es:List (List D)},(∀r∈es,∃e:EX,r=cells e∧fits e)→∃l:List EX,es=cellsL l∧fitsL l
 |[],_=>⟨[],by simp only[cellsL],by simp only[fitsL]⟩
 |r::es,h=>by
  obtain⟨e,rfl,h1⟩:=h r (by simp)
  obtain⟨l,rfl,h2⟩:=exprs_of (es:=es) (fun r hr=>h r (List.mem_cons_of_mem _ hr))
  exact⟨e::l,by simp only[cellsL],by simp only[fitsL];exact⟨h1,h2⟩⟩
theorem expr_data:∀(n:Nat) (ds:List D),SizeOf.sizeOf ds<n→TyD Tryz.prog 28 ds→∃e:EX,ds=cells e∧fits e
 |0,_,h,_=>absurd h (Nat.not_lt_zero _)
 |n+1,ds,hs,h=>by
  obtain⟨hl,_⟩:=h.struct_inv Tryz.underlying28
  have hl:ds.length=10:=hl.trans (by kernel_rfl)
  match ds,hl,hs with
  |[d0,d1,d2,d3,d4,d5,d6,d7,d8,d9],_,hs=>
   obtain⟨op,hop,e0⟩:=(h.fld Tryz.underlying28 0 rfl (n:=1) (by kernel_rfl)).int_inv Tryz.underlying3
   obtain⟨sub,hsub,e1⟩:=(h.fld Tryz.underlying28 1 rfl (n:=1) (by kernel_rfl)).int_inv Tryz.underlying3
   obtain⟨t,e2,h1,h2⟩:=typ_data (h.fld Tryz.underlying28 2 rfl (n:=2) (by kernel_rfl))
   obtain⟨v,e3,h3,h4,h5,h6⟩:=val_data (h.fld Tryz.underlying28 3 rfl (n:=5) (by kernel_rfl))
   obtain⟨es,hes,e4,hx⟩:=(h.fld Tryz.underlying28 4 rfl (n:=1) (by kernel_rfl)).sl_inv Tryz.underlying26
   simp at e0 e1 e2 e3 e4
   obtain⟨rfl,rfl⟩:=e2
   obtain⟨rfl,rfl,rfl,rfl,rfl⟩:=e3
   subst e0;subst e1;subst e4
   obtain⟨l,rfl,hll⟩:=exprs_of (es:=es) fun r hr=>expr_data n r (by
    have:=List.sizeOf_lt_of_mem hr
    simp only[List.cons.sizeOf_spec,D.sl.sizeOf_spec]at hs
    omega) (hx r hr)
   refine⟨.mk op sub t v l,by simp only[cells],?_⟩
   simp only[fits]
   have b28:Tryz.prog.bytesOf 28=104:=by kernel_rfl
   have rb:reachBytes=140737488351232:=rfl
   rw[b28,rb,cellsL_len]at hes
   exact⟨⟨in64_of hop,in64_of hsub,h1,h2,h3,h4,h5⟩,by omega,hll⟩
theorem vals_data:∀{es:List (List D)},(∀r∈es,TyD Tryz.prog 25 r)→∃l:List Go.Ex.AV,es=l.map Go.Ex.AV.cs∧∀v∈l,in64 v.n
 |[],_=>⟨[],rfl,by simp⟩
 |r::es,h=>by
  obtain⟨v,rfl,_,_,hn,_⟩:=val_data (h r (by simp))
  obtain⟨l,rfl,hl⟩:=vals_data (es:=es) (fun r hr=>h r (List.mem_cons_of_mem _ hr))
  refine⟨v::l,rfl,fun x hx=>?_⟩
  cases hx with
  |head=>exact hn
  |tail _ hx=>exact hl x hx
theorem len_vals:∀l:List Go.Ex.AV,l.length≤dszLL (l.map Go.Ex.AV.cs)
 |[]=>by simp
 |t::r=>by
  have:=len_vals r
  simp only[List.map_cons,List.length_cons,dszLL,Go.Ex.AV.cs,dszL,dsz]
  omega
end Go.Proofs.Tryz
