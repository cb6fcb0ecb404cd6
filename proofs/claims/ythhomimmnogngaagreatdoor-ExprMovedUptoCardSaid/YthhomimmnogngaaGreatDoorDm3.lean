/- A part of the proof: contracts of functions, by a verified generator of conditions; no condition of its own. -/
import Derived.Test.YthhomimmnogngaaGreatDoorDm2
import Derived.Laws.Slices
import Derived.Laws.Strings
import Derived.Laws.Unary
namespace Go.Dm
variable {P:Program} {E:Env}
theorem TIok.one_cell{t:Nat}{ti:TI}(h:TIok P t ti)(ha:ti.agg=false):ti.ck.length=1:=by
 obtain⟨d,hd,ht⟩:=h.und
 unfold tdB at ht
 split at ht<;>simp_all
theorem addr_add(b o n:Nat):(⟨b,o,none⟩:Addr).add n=⟨b,o+n,none⟩:=by
 unfold Addr.add;split<;>simp_all
theorem run_loadVar_cells{t:Nat}{ti:TI}(h:TIok P t ti){b off:Nat}(xs:List Value)(hl:xs.length=ti.ck.length):
  ∃v',(∀w:World,(∀(j:Nat) (x:Value),xs[j]? = some x→w.cell? ⟨b,off+j,none⟩=some x)→(loadVar t ⟨b,off,none⟩).run P w = .ok v' w)∧((ti.agg=true∧v' = .agg xs.toArray)∨(ti.agg=false∧xs=[v'])):=by
 unfold loadVar
 cases ha:ti.agg
 ·have h1:=h.one_cell ha
  obtain⟨x,rfl⟩:∃x,xs=[x]:=by
   match xs,hl.trans h1 with
   |[x],_=>exact⟨x,rfl⟩
  refine⟨x,fun w hc=>?_,.inr ⟨rfl,rfl⟩⟩
  have:=hc 0 x rfl
  simp only[Nat.add_zero]at this
  simp[load,Sem.run,Sem.run_bind,h.agg_run,ha,this]
 ·refine⟨.agg xs.toArray,fun w hc=>?_,.inl ⟨rfl,rfl⟩⟩
  have:=run_loadCells_list (P:=P) w ⟨b,off,none⟩ xs (fun j v hv=>by rw[addr_add];exact hc j v hv)
  rw[hl]at this
  simp only[h.size_run,h.agg_run,ha,Sem.run_bind,Result.andThen_ok,if_true,this,Sem.run_pure]
section
variable {B0:Nat} {bx:List Nat} {W0:World} {ok0:Nat→Prop} {Z:Zr} {N:Nat} {ok:Nat→Prop} {φ:Nat→Value} {s:St} {a:Act} {w:World}
theorem vr_ofCells{agg:Bool}{l:List V}{v:V}{xs:List Value}{v':Value}(h:ofCells agg l=some v)(hl:xs.length=l.length)
  (hv:(agg=true∧v' = .agg xs.toArray)∨(agg=false∧xs=[v'])) (hr:∀(i:Nat) (c:V) (x:Value),l[i]? = some c→xs[i]? = some x→VR ok φ s.hp w c x):
  VR ok φ s.hp w v v':=by
 unfold ofCells at h
 rcases hv with⟨rfl,rfl⟩|⟨rfl,rfl⟩
 ·simp at h;subst h
  refine .agg (by simpa using hl) (fun i c x h1 h2=>hr i c x h1 (by simpa using h2))
 ·simp only at h
  split at h
  ·simp at h;subst h
   exact hr 0 _ _ rfl rfl
  ·cases h
theorem exK_some{ck:List CK}{F:List D→Prop}(h:exK ck F):∃l,l.length=ck.length∧F l:=by
 induction ck generalizing F with
 |nil=>exact⟨[],rfl,h⟩
 |cons c r ih=>
  cases c<;>(simp only[exK]at h;obtain⟨n,h⟩:=h;obtain⟨l,hl,hf⟩:=ih h;exact⟨_::l,by simp[hl],hf⟩)
theorem vd_get(l:List D)(i:Nat):(vd l)[i]? = (l[i]?).map V.d:=by
 induction l generalizing i with
 |nil=>simp[vd]
 |cons x r ih=>cases i<;>simp[vd,ih]
theorem vd_length(l:List D):(vd l).length=l.length:=by
 induction l with
 |nil=>rfl
 |cons x r ih=>simp[vd,ih]
theorem loadC_sound{t:Nat}{ti:TI}(hT:TIok P t ti){cells:List D}{off b o:Nat}{K:V→Prop}(h:loadC ti cells off K)
  (hc:∀(j:Nat) (d:D),cells[j]? = some d→∃x,w.cell? ⟨b,o+j,none⟩=some x∧Rd ok w x d):
  ∃v v',(∀w₂:World,w₂.heap[b]? = w.heap[b]?→(loadVar t ⟨b,o+off,none⟩).run P w₂ = .ok v' w₂)∧K v∧VR ok φ s.hp w v v':=by
 obtain⟨l,hl,hcut,hk⟩:=exK_some h
 obtain⟨hlen,rfl⟩:=cut_some hcut
 split at hk
 rotate_left
 ·exact hk.elim
 rename_i v hv
 have hx:∀j,j<ti.ck.length→∃x,w.cell? ⟨b,o+off+j,none⟩=some x∧Rd ok w x (((cells.drop off).take ti.ck.length).getD j default):=by
  intro j hj
  have hlt:off+j<cells.length:=by omega
  obtain⟨x,h1,h2⟩:=hc (off+j) cells[off+j] (List.getElem?_eq_getElem hlt)
  refine⟨x,by rw[Nat.add_assoc];exact h1,?_⟩
  have:((cells.drop off).take ti.ck.length).getD j default=cells[off+j]:=by
   rw[List.getD_eq_getElem?_getD,List.getElem?_take_of_lt hj,List.getElem?_drop,List.getElem?_eq_getElem hlt];rfl
  rw[this];exact h2
 have hch:∃f:Nat→Value,∀j,j<ti.ck.length→w.cell? ⟨b,o+off+j,none⟩=some (f j)∧Rd ok w (f j) (((cells.drop off).take ti.ck.length).getD j default):=by
  refine⟨fun j=>if hj:j<ti.ck.length then(hx j hj).choose else default,fun j hj=>?_⟩
  simp only[hj,dif_pos]
  exact(hx j hj).choose_spec
 obtain⟨f,hf⟩:=hch
 obtain⟨v',hrun,hv'⟩:=run_loadVar_cells hT (b:=b) (off:=o+off) ((List.range ti.ck.length).map f) (by simp)
 refine⟨v,v',fun w₂ hw₂=>hrun w₂ (fun j x hjx=>by
  have hj:j<ti.ck.length:=by
   have:=(List.getElem?_eq_some_iff.1 hjx).1;simpa using this
  rw[World.cell?_of_block (w:=w) hw₂,(hf j hj).1]
  simp[hj]at hjx;rw[hjx]),hk,vr_ofCells hv (by simp[vd_length];omega) hv' (fun i c x h1 h2=>?_)⟩
 have hi:i<ti.ck.length:=by
  have:=(List.getElem?_eq_some_iff.1 h2).1;simpa using this
 rw[vd_get]at h1
 simp[hi]at h2;subst h2
 have:=(hf i hi).2
 rw[List.getD_eq_getElem?_getD]at this
 cases hc':((cells.drop off).take ti.ck.length)[i]? with
 |none=>rw[hc']at h1;cases h1
 |some d=>rw[hc']at h1 this;simp at h1;subst h1;exact .d this
theorem lst_cells{k e sz:Nat}{es:List (List D)}{g n cap:Nat}(hB:BR B0 ok φ s.hp w (φ k) (.lst e sz es))(hv:φ k = .slice (some ⟨g,0,none⟩) n cap){i:Nat}{cells:List D}
  (hi:es[i]? = some cells) (j:Nat) (d:D) (hj:cells[j]? = some d):∃x,w.cell? ⟨g,i*sz+j,none⟩=some x∧Rd ok w x d:=by
 obtain⟨hpos,hall,xs,hown,hr⟩:=hB
 have hlt:i<es.length:=(List.getElem?_eq_some_iff.1 hi).1
 have hcl:cells.length=sz:=hall _ (List.mem_of_getElem? hi)
 have hjl:j<sz:=by have:=(List.getElem?_eq_some_iff.1 hj).1;omega
 have:=hr i j hlt hjl
 have hxl:=hown.1
 have hidx:i*sz+j<xs.length:=by
  rw[hxl]
  calc i*sz+j<i*sz+sz:=by omega
   _=(i+1)*sz:=by rw[Nat.add_mul];omega
   _≤es.length*sz:=Nat.mul_le_mul_right _ hlt
 refine⟨xs.getD (i*sz+j) undef,?_,?_⟩
 ·have hc:=hown.cells (g:=g) (by rw[hv];rfl) (i*sz+j) (xs.getD (i*sz+j) undef) (by
   rw[List.getD_eq_getElem?_getD,List.getElem?_eq_getElem hidx];rfl)
  rw[addr_add,Nat.zero_add]at hc
  exact hc
 ·have he:(es.getD i []).getD j default=d:=by
   rw[List.getD_eq_getElem?_getD (l:=es),hi];simp[List.getD_eq_getElem?_getD,hj]
  rw[he]at this;exact this
theorem fro_cells{k sz:Nat}{es:List (List D)}{g n cap:Nat}(hB:BR B0 ok φ s.hp w (φ k) (.fro sz es))(hv:φ k = .slice (some ⟨g,0,none⟩) n cap){i:Nat}{cells:List D}
  (hi:es[i]? = some cells) (j:Nat) (d:D) (hj:cells[j]? = some d):∃x,w.cell? ⟨g,i*sz+j,none⟩=some x∧Rd ok w x d:=by
 obtain⟨hpos,hall,hrd,_⟩:=hB
 have hlt:i<es.length:=(List.getElem?_eq_some_iff.1 hi).1
 have hcl:cells.length=sz:=hall _ (List.mem_of_getElem? hi)
 have hjl:j<sz:=by have:=(List.getElem?_eq_some_iff.1 hj).1;omega
 rw[hv]at hrd
 cases hrd with
 |nul=>simp at hi
 | @sl b off cap' es' sz' x hcap hok hsz hc hr=>
   have hs:sz'=sz:=by rw[←hsz _ (List.mem_of_getElem? hi),hcl]
   subst hs
   have he:(es.getD i []).getD j default=d:=by
    rw[List.getD_eq_getElem?_getD (l:=es),hi];simp[List.getD_eq_getElem?_getD,hj]
   refine⟨x i j,?_,?_⟩
   ·have:=hc i j hlt hjl;rwa[Nat.zero_add]at this
   ·have:=hr i j hlt hjl;rw[he]at this;exact this
theorem aLoad_sound{t:Nat}{ti:TI}(hT:TIok P t ti)(r:Rel B0 bx W0 ok0 Z N ok φ s a w){av:V}{x:Value}(hv:VR ok φ s.hp w av x){K:V→Prop}(h:aLoad ti s av K):
  ∃v v',(∀w₂:World,(∀g,blockOf x=some g→w₂.heap[g]? = w.heap[g]?)→(Instr.loadAt t x).run P w₂ = .ok v' w₂)∧K v∧VR ok φ s.hp w v v':=by
 unfold Instr.loadAt
 cases hv with
 | @ref k off g cs0 hb0 hφ=>
   simp only[aLoad]at h
   split at h
   rotate_left
   ·exact h.elim
   rename_i cs hb
   split at h
   rotate_left
   ·exact h.elim
   rename_i l hcut
   split at h
   rotate_left
   ·exact h.elim
   rename_i v hof
   obtain⟨hlen,rfl⟩:=cut_some hcut
   obtain⟨g',arr,T,hp,hh,hs,hr⟩:=r.hp k _ hb
   rw[hφ]at hp;simp at hp;subst hp
   have hcell:∀j x,((arr.toList.drop off).take ti.ck.length)[j]? = some x→w.cell? ⟨g,off+j,none⟩=some x:=by
    intro j x hx
    rw[List.getElem?_take]at hx
    split at hx
    ·rw[List.getElem?_drop]at hx
     simp[World.cell?,hh];simpa using hx
    ·cases hx
   obtain⟨v',hrun,hv'⟩:=run_loadVar_cells hT (b:=g) (off:=off) ((arr.toList.drop off).take ti.ck.length) (by simp;omega)
   refine⟨v,v',fun w₂ hw₂=>?_,h,vr_ofCells hof (by simp;omega) hv' (fun i c x h1 h2=>?_)⟩
   ·have:=hrun w₂ (fun j x hx=>by rw[World.cell?_of_block (w:=w) (hw₂ g rfl)];exact hcell j x hx)
    simp[Instr.sureAddr,this]
   ·rw[List.getElem?_take]at h1 h2
    split at h1
    ·rename_i hi
     rw[if_pos hi]at h2
     rw[List.getElem?_drop]at h1 h2
     exact hr _ c x h1 (by simpa using h2)
    ·cases h1
 | @optr k i off g n cap sz es hb hφ=>
   simp only[aLoad]at h
   rcases hb with⟨e0,hb⟩|hb
   ·rw[hb]at h
    obtain⟨cells,hi,hl⟩:=h
    obtain⟨v,v',hrun,hk,hvr⟩:=loadC_sound (s:=s) (φ:=φ) (ok:=ok) hT (b:=g) (o:=i*sz) hl (fun j d hj=>lst_cells (r.hp k _ hb) hφ hi j d hj)
    exact⟨v,v',fun w₂ hw₂=>by simp[Instr.sureAddr,hrun w₂ (hw₂ g rfl)],hk,hvr⟩
   ·rw[hb]at h
    obtain⟨cells,hi,hl⟩:=h
    obtain⟨v,v',hrun,hk,hvr⟩:=loadC_sound (s:=s) (φ:=φ) (ok:=ok) hT (b:=g) (o:=i*sz) hl (fun j d hj=>fro_cells (r.hp k _ hb) hφ hi j d hj)
    exact⟨v,v',fun w₂ hw₂=>by simp[Instr.sureAddr,hrun w₂ (hw₂ g rfl)],hk,hvr⟩
 | @dptr b off cs x hok hc hr=>
   simp only[aLoad]at h
   obtain⟨v,v',hrun,hk,hvr⟩:=loadC_sound (s:=s) (φ:=φ) (ok:=ok) hT (b:=b) (o:=off) h (fun j d hj=>by
    have hlt:=(List.getElem?_eq_some_iff.1 hj).1
    refine⟨x j,hc j hlt,?_⟩
    have:=hr j hlt
    rw[List.getD_eq_getElem?_getD,hj]at this;exact this)
   exact⟨v,v',fun w₂ hw₂=>by simpa[Instr.sureAddr]using hrun w₂ (hw₂ b rfl),hk,hvr⟩
 |_=>simp[aLoad]at h
end
end Go.Dm
