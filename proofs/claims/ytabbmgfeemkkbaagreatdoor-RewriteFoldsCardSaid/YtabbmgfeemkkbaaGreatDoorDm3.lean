/- Part of the proof: contracts of functions; no condition. -/
import Derived.Test.YtabbmgfeemkkbaaGreatDoorDm2
import Derived.Laws.Slices
import Derived.Laws.Strings
import Derived.Laws.Unary
namespace Go.Dm
variable {P:Program} {E:Env}
theorem cF.ny{t:Nat}{ti:TI}(h:cF P t ti)(ha:ti.agg=false):ti.ck.length=1:=by
 obtain⟨d,hd,ht⟩:=h.zw
 unfold xM at ht
 split at ht<;>simp_all
theorem addr_add(b o n:Nat):(⟨b,o,none⟩:Addr).add n=⟨b,o+n,none⟩:=by
 unfold Addr.add;split<;>simp_all
theorem ju{t:Nat}{ti:TI}(h:cF P t ti){b off:Nat}(xs:List Value)(hl:xs.length=ti.ck.length):
  ∃v',(∀w:World,(∀(j:Nat) (x:Value),xs[j]? = some x→w.cell? ⟨b,off+j,none⟩=some x)→(loadVar t ⟨b,off,none⟩).run P w = .ok v' w)∧((ti.agg=true∧v' = .agg xs.toArray)∨(ti.agg=false∧xs=[v'])):=by
 unfold loadVar
 cases ha:ti.agg
 ·have h1:=h.ny ha
  obtain⟨x,rfl⟩:∃x,xs=[x]:=by
   match xs,hl.trans h1 with
   |[x],_=>exact⟨x,rfl⟩
  refine⟨x,fun w hc=>?_,.inr ⟨rfl,rfl⟩⟩
  have:=hc 0 x rfl
  simp only[Nat.add_zero]at this
  simp[load,Sem.run,Sem.run_bind,h.kj,ha,this]
 ·refine⟨.agg xs.toArray,fun w hc=>?_,.inl ⟨rfl,rfl⟩⟩
  have:=run_loadCells_list (P:=P) w ⟨b,off,none⟩ xs (fun j v hv=>by rw[addr_add];exact hc j v hv)
  rw[hl]at this
  simp only[h.dz,h.kj,ha,Sem.run_bind,Result.andThen_ok,if_true,this,Sem.run_pure]
section
variable {B0:Nat} {bx:List Nat} {W0:World} {aI:Nat→Prop} {Z:Zr} {N:Nat} {ok:Nat→Prop} {φ:Nat→Value} {s:St} {a:Act} {w:World}
theorem gm{agg:Bool}{l:List V}{v:V}{xs:List Value}{v':Value}(h:fL agg l=some v)(hl:xs.length=l.length)
  (hv:(agg=true∧v' = .agg xs.toArray)∨(agg=false∧xs=[v'])) (hr:∀(i:Nat) (c:V) (x:Value),l[i]? = some c→xs[i]? = some x→VR ok φ s.hp w c x):
  VR ok φ s.hp w v v':=by
 unfold fL at h
 rcases hv with⟨rfl,rfl⟩|⟨rfl,rfl⟩
 ·simp at h;subst h
  refine .agg (by simpa using hl) (fun i c x h1 h2=>hr i c x h1 (by simpa using h2))
 ·simp only at h
  split at h
  ·simp at h;subst h
   exact hr 0 _ _ rfl rfl
  ·cases h
theorem rH{ck:List CK}{F:List D→Prop}(h:Q4 ck F):∃l,l.length=ck.length∧F l:=by
 induction ck generalizing F with
 |nil=>exact⟨[],rfl,h⟩
 |cons c r ih=>
  cases c<;>(simp only[Q4]at h;obtain⟨n,h⟩:=h;obtain⟨l,hl,hf⟩:=ih h;exact⟨_::l,by simp[hl],hf⟩)
theorem oQ(l:List D)(i:Nat):(vd l)[i]? = (l[i]?).map V.d:=by
 induction l generalizing i with
 |nil=>simp[vd]
 |cons x r ih=>cases i<;>simp[vd,ih]
theorem iM(l:List D):(vd l).length=l.length:=by
 induction l with
 |nil=>rfl
 |cons x r ih=>simp[vd,ih]
theorem kW{t:Nat}{ti:TI}(hT:cF P t ti){cells:List D}{off b o:Nat}{K:V→Prop}(h:xV ti cells off K)
  (hc:∀(j:Nat) (d:D),cells[j]? = some d→∃x,w.cell? ⟨b,o+j,none⟩=some x∧Rd ok w x d):
  ∃v v',(∀w₂:World,w₂.heap[b]? = w.heap[b]?→(loadVar t ⟨b,o+off,none⟩).run P w₂ = .ok v' w₂)∧K v∧VR ok φ s.hp w v v':=by
 obtain⟨l,hl,rI,hk⟩:=rH h
 obtain⟨hlen,rfl⟩:=jP rI
 split at hk
 rotate_left
 ·exact hk.elim
 rename_i v hv
 have hx:∀j,j<ti.ck.length→∃x,w.cell? ⟨b,o+off+j,none⟩=some x∧Rd ok w x (((cells.drop off).take ti.ck.length).getD j default):=by
  intro j hj
  have hlt:off+j<cells.length:=by omega
  obtain⟨x,h1,h2⟩:=hc (off+j) cells[off+j] (List.getElem?_eq_getElem hlt)
  refine⟨x,by rw[Nat.add_assoc];exact h1,?_⟩
  have:((cells.drop off).take ti.ck.length).getD j default=cells[off+j]:=by
   rw[List.getD_eq_getElem?_getD,List.getElem?_take_of_lt hj,List.getElem?_drop,List.getElem?_eq_getElem hlt];rfl
  rw[this];exact h2
 have Wh:∃f:Nat→Value,∀j,j<ti.ck.length→w.cell? ⟨b,o+off+j,none⟩=some (f j)∧Rd ok w (f j) (((cells.drop off).take ti.ck.length).getD j default):=by
  refine⟨fun j=>if hj:j<ti.ck.length then(hx j hj).choose else default,fun j hj=>?_⟩
  simp only[hj,dif_pos]
  exact(hx j hj).choose_spec
 obtain⟨f,hf⟩:=Wh
 obtain⟨v',dE,N1⟩:=ju hT (b:=b) (off:=o+off) ((List.range ti.ck.length).map f) (by simp)
 refine⟨v,v',fun w₂ DJ=>dE w₂ (fun j x hjx=>by
  have hj:j<ti.ck.length:=by
   have:=(List.getElem?_eq_some_iff.1 hjx).1;simpa using this
  rw[World.cell?_of_block (w:=w) DJ,(hf j hj).1]
  simp[hj]at hjx;rw[hjx]),hk,gm hv (by simp[iM];omega) N1 (fun i c x h1 h2=>?_)⟩
 have hi:i<ti.ck.length:=by
  have:=(List.getElem?_eq_some_iff.1 h2).1;simpa using this
 rw[oQ]at h1
 simp[hi]at h2;subst h2
 have:=(hf i hi).2
 rw[List.getD_eq_getElem?_getD]at this
 cases l9:((cells.drop off).take ti.ck.length)[i]? with
 |none=>rw[l9]at h1;cases h1
 |some d=>rw[l9]at h1 this;simp at h1;subst h1;exact .d this
theorem DK{k e sz:Nat}{es:List (List D)}{g n cap:Nat}(hB:BR B0 ok φ s.hp w (φ k) (.bu e sz es))(hv:φ k = .slice (some ⟨g,0,none⟩) n cap){i:Nat}{cells:List D}
  (hi:es[i]? = some cells) (j:Nat) (d:D) (hj:cells[j]? = some d):∃x,w.cell? ⟨g,i*sz+j,none⟩=some x∧Rd ok w x d:=by
 obtain⟨ct,bC,xs,cx,hr⟩:=hB
 have hlt:i<es.length:=(List.getElem?_eq_some_iff.1 hi).1
 have fw:cells.length=sz:=bC _ (List.mem_of_getElem? hi)
 have hjl:j<sz:=by have:=(List.getElem?_eq_some_iff.1 hj).1;omega
 have:=hr i j hlt hjl
 have Wi:=cx.1
 have l_:i*sz+j<xs.length:=by
  rw[Wi]
  calc i*sz+j<i*sz+sz:=by omega
   _=(i+1)*sz:=by rw[Nat.add_mul];omega
   _≤es.length*sz:=Nat.mul_le_mul_right _ hlt
 refine⟨xs.getD (i*sz+j) undef,?_,?_⟩
 ·have hc:=cx.cells (g:=g) (by rw[hv];rfl) (i*sz+j) (xs.getD (i*sz+j) undef) (by
   rw[List.getD_eq_getElem?_getD,List.getElem?_eq_getElem l_];rfl)
  rw[addr_add,Nat.zero_add]at hc
  exact hc
 ·have he:(es.getD i []).getD j default=d:=by
   rw[List.getD_eq_getElem?_getD (l:=es),hi];simp[List.getD_eq_getElem?_getD,hj]
  rw[he]at this;exact this
theorem DL{k sz:Nat}{es:List (List D)}{g n cap:Nat}(hB:BR B0 ok φ s.hp w (φ k) (.j9 sz es))(hv:φ k = .slice (some ⟨g,0,none⟩) n cap){i:Nat}{cells:List D}
  (hi:es[i]? = some cells) (j:Nat) (d:D) (hj:cells[j]? = some d):∃x,w.cell? ⟨g,i*sz+j,none⟩=some x∧Rd ok w x d:=by
 obtain⟨ct,bC,cK,_⟩:=hB
 have hlt:i<es.length:=(List.getElem?_eq_some_iff.1 hi).1
 have fw:cells.length=sz:=bC _ (List.mem_of_getElem? hi)
 have hjl:j<sz:=by have:=(List.getElem?_eq_some_iff.1 hj).1;omega
 rw[hv]at cK
 cases cK with
 |aA=>simp at hi
 | @sl b off iE iz eC x dy fQ hsz hc hr=>
   have hs:eC=sz:=by rw[←hsz _ (List.mem_of_getElem? hi),fw]
   subst hs
   have he:(es.getD i []).getD j default=d:=by
    rw[List.getD_eq_getElem?_getD (l:=es),hi];simp[List.getD_eq_getElem?_getD,hj]
   refine⟨x i j,?_,?_⟩
   ·have:=hc i j hlt hjl;rwa[Nat.zero_add]at this
   ·have:=hr i j hlt hjl;rw[he]at this;exact this
theorem pA{t:Nat}{ti:TI}(hT:cF P t ti)(r:Rel B0 bx W0 aI Z N ok φ s a w){av:V}{x:Value}(hv:VR ok φ s.hp w av x){K:V→Prop}(h:jN ti s av K):
  ∃v v',(∀w₂:World,(∀g,aq x=some g→w₂.heap[g]? = w.heap[g]?)→(Instr.loadAt t x).run P w₂ = .ok v' w₂)∧K v∧VR ok φ s.hp w v v':=by
 unfold Instr.loadAt
 cases hv with
 | @ref k off g DM jR hφ=>
   simp only[jN]at h
   split at h
   rotate_left
   ·exact h.elim
   rename_i cs hb
   split at h
   rotate_left
   ·exact h.elim
   rename_i l rI
   split at h
   rotate_left
   ·exact h.elim
   rename_i v E7
   obtain⟨hlen,rfl⟩:=jP rI
   obtain⟨g',arr,T,hp,hh,hs,hr⟩:=r.hp k _ hb
   rw[hφ]at hp;simp at hp;subst hp
   have jS:∀j x,((arr.toList.drop off).take ti.ck.length)[j]? = some x→w.cell? ⟨g,off+j,none⟩=some x:=by
    intro j x hx
    rw[List.getElem?_take]at hx
    split at hx
    ·rw[List.getElem?_drop]at hx
     simp[World.cell?,hh];simpa using hx
    ·cases hx
   obtain⟨v',dE,N1⟩:=ju hT (b:=g) (off:=off) ((arr.toList.drop off).take ti.ck.length) (by simp;omega)
   refine⟨v,v',fun w₂ DJ=>?_,h,gm E7 (by simp;omega) N1 (fun i c x h1 h2=>?_)⟩
   ·have:=dE w₂ (fun j x hx=>by rw[World.cell?_of_block (w:=w) (DJ g rfl)];exact jS j x hx)
    simp[Instr.sureAddr,this]
   ·rw[List.getElem?_take]at h1 h2
    split at h1
    ·rename_i hi
     rw[if_pos hi]at h2
     rw[List.getElem?_drop]at h1 h2
     exact hr _ c x h1 (by simpa using h2)
    ·cases h1
 | @gg k i off g n cap sz es hb hφ=>
   simp only[jN]at h
   rcases hb with⟨e0,hb⟩|hb
   ·rw[hb]at h
    obtain⟨cells,hi,hl⟩:=h
    obtain⟨v,v',dE,hk,rJ⟩:=kW (s:=s) (φ:=φ) (ok:=ok) hT (b:=g) (o:=i*sz) hl (fun j d hj=>DK (r.hp k _ hb) hφ hi j d hj)
    exact⟨v,v',fun w₂ DJ=>by simp[Instr.sureAddr,dE w₂ (DJ g rfl)],hk,rJ⟩
   ·rw[hb]at h
    obtain⟨cells,hi,hl⟩:=h
    obtain⟨v,v',dE,hk,rJ⟩:=kW (s:=s) (φ:=φ) (ok:=ok) hT (b:=g) (o:=i*sz) hl (fun j d hj=>DL (r.hp k _ hb) hφ hi j d hj)
    exact⟨v,v',fun w₂ DJ=>by simp[Instr.sureAddr,dE w₂ (DJ g rfl)],hk,rJ⟩
 | @bW b off cs x fQ hc hr=>
   simp only[jN]at h
   obtain⟨v,v',dE,hk,rJ⟩:=kW (s:=s) (φ:=φ) (ok:=ok) hT (b:=b) (o:=off) h (fun j d hj=>by
    have hlt:=(List.getElem?_eq_some_iff.1 hj).1
    refine⟨x j,hc j hlt,?_⟩
    have:=hr j hlt
    rw[List.getD_eq_getElem?_getD,hj]at this;exact this)
   exact⟨v,v',fun w₂ DJ=>by simpa[Instr.sureAddr]using dE w₂ (DJ b rfl),hk,rJ⟩
 |_=>simp[jN]at h
end
end Go.Dm
