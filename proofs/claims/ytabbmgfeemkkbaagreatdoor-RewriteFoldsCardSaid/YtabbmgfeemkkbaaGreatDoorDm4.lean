/- Part of the proof: contracts of functions; no condition. -/
import Derived.Test.YtabbmgfeemkkbaaGreatDoorDm3
import Derived.Laws.Cover1
namespace Go.Dm
variable {P:Program} {E:Env}
def p9:List CK→List Value→List Value→Option Bool
 |[],[],[]=>some true
 | .int _::r,.int k a::xs,.int k' b::ys=>match Nat.beq (fM k) (fM k'),p9 r xs ys with|true,some t=>some ((a==b)&&t)|_,_=>none
 | .bool::r,.bool a::xs,.bool b::ys=>match p9 r xs ys with|some t=>some ((a==b)&&t)|none=>none
 | .str::r,.string a::xs,.string b::ys=>match p9 r xs ys with|some t=>some ((a==b)&&t)|none=>none
 |_,_,_=>none
theorem ub{k k':IntKind}(h:Nat.beq (fM k) (fM k')=true):k=k':=by
 cases k<;>cases k'<;>first|rfl|(simp[fM,Nat.beq]at h)
def Ck:CK→Value→Value→Option Bool
 | .int _,.int k a,.int k' b=>match Nat.beq (fM k) (fM k')with|true=>some (a==b)|false=>none
 | .bool,.bool a,.bool b=>some (a==b)
 | .str,.string a,.string b=>some (a==b)
 |_,_,_=>none
theorem rK{c:CK}{r:List CK}{xs ys:List Value}{b:Bool}(h:p9 (c::r) xs ys=some b):
  ∃x Wj y E8 b0 t,xs=x::Wj∧ys=y::E8∧Ck c x y=some b0∧p9 r Wj E8=some t∧b=(b0&&t):=by
 unfold p9 at h
 split at h
 ·rename_i heq;cases heq
 ·rename_i heq
  simp only[List.cons.injEq]at heq
  obtain⟨rfl,rfl⟩:=heq
  split at h
  ·rename_i hk hr
   simp only[Option.some.injEq]at h
   exact⟨_,_,_,_,_,_,rfl,rfl,by simp[Ck,hk],hr,h.symm⟩
  ·cases h
 ·rename_i heq
  simp only[List.cons.injEq]at heq
  obtain⟨rfl,rfl⟩:=heq
  split at h
  ·rename_i hr
   simp only[Option.some.injEq]at h
   exact⟨_,_,_,_,_,_,rfl,rfl,by simp[Ck],hr,h.symm⟩
  ·cases h
 ·rename_i heq
  simp only[List.cons.injEq]at heq
  obtain⟨rfl,rfl⟩:=heq
  split at h
  ·rename_i hr
   simp only[Option.some.injEq]at h
   exact⟨_,_,_,_,_,_,rfl,rfl,by simp[Ck],hr,h.symm⟩
  ·cases h
 ·cases h
theorem FJ{c:CK}{r:List CK}{x y:Value}{xs ys:List Value}{b0 t:Bool}(h1:Ck c x y=some b0)(h2:p9 r xs ys=some t):
  p9 (c::r) (x::xs) (y::ys)=some (b0&&t):=by
 unfold Ck at h1
 split at h1
 ·split at h1
  ·rename_i hk
   simp only[Option.some.injEq]at h1
   simp[p9,hk,h2,h1]
  ·cases h1
 ·simp only[Option.some.injEq]at h1
  simp[p9,h2,h1]
 ·simp only[Option.some.injEq]at h1
  simp[p9,h2,h1]
 ·cases h1
theorem mC{ck:List CK}{xs ys:List Value}{b:Bool}(h:p9 ck xs ys=some b):xs.length=ck.length∧ys.length=ck.length:=by
 induction ck generalizing xs ys b with
 |nil=>cases xs<;>cases ys<;>simp[p9]at h ⊢
 |cons c r ih=>
  obtain⟨x,Wj,y,E8,b0,t,rfl,rfl,_,h2,_⟩:=rK h
  have:=ih h2
  simp[this]
theorem zP{c1 c2:List CK}{xs ys:List Value}{b:Bool}(h:p9 (c1++c2) xs ys=some b):
  ∃b1 b2,p9 c1 (xs.take c1.length) (ys.take c1.length)=some b1∧p9 c2 (xs.drop c1.length) (ys.drop c1.length)=some b2∧b=(b1&&b2):=by
 induction c1 generalizing xs ys b with
 |nil=>exact⟨true,b,by simp[p9],by simpa using h,by simp⟩
 |cons c r ih=>
  obtain⟨x,Wj,y,E8,b0,t,rfl,rfl,h1,h2,hb⟩:=rK h
  obtain⟨b1,b2,h3,h4,du⟩:=ih h2
  exact⟨b0&&b1,b2,FJ h1 h3,h4,by rw[hb,du,Bool.and_assoc]⟩
theorem wz{c:CK}{xs ys:List Value}{b:Bool}(h:p9 [c] xs ys=some b):∃x y,xs=[x]∧ys=[y]∧Ck c x y=some b:=by
 obtain⟨x,Wj,y,E8,b0,t,rfl,rfl,h1,h2,hb⟩:=rK h
 have:=mC h2
 simp at this
 obtain⟨rfl,rfl⟩:=this
 simp[p9]at h2;subst h2
 exact⟨x,y,rfl,rfl,by rw[h1,hb];simp⟩
theorem iF{t:Nat}{w:World}{n:Nat}(hA:(isAgg t).run P w = .ok true w)(hs:(sizeOf t).run P w = .ok n w)(xs:List Value)(off:Nat):
  (part t xs.toArray off).run P w = .ok (.agg ((xs.drop off).take n).toArray) w:=by
 unfold part
 simp only[Sem.run_bind,hA,Result.andThen_ok,if_true,hs,Sem.run_pure]
 congr 2
 apply Array.ext'
 simp[List.take_drop]
theorem gG{t:Nat}{w:World}(hA:(isAgg t).run P w = .ok false w)(xs:List Value)(off:Nat)(x:Value)(h:xs[off]? = some x):
  (part t xs.toArray off).run P w = .ok x w:=by
 unfold part
 simp[Sem.run_bind,hA,h]
theorem N2(P:Program):∀(d:Nat),
  (∀(t:Nat) (ck:List CK) (xs ys:List Value) (b:Bool) (D:Nat),d≤D→DF P d t ck=true→p9 ck xs ys=some b→
   ((∀w,(isAgg t).run P w = .ok false w)∧∃x y,xs=[x]∧ys=[y]∧∀w,(Op.equalIn D t x y).run P w = .ok b w)∨
   ((∀w,(isAgg t).run P w = .ok true w)∧∀w,(Op.equalIn D t (.agg xs.toArray) (.agg ys.toArray)).run P w = .ok b w))∧
  (∀(fs:List Field) (off:Nat) (ck:List CK) (xs ys:List Value) (b:Bool) (D:Nat),d≤D→DG P d fs off ck=true→p9 ck (xs.drop off) (ys.drop off)=some b→
   ∀w,(Op.eqFields D xs.toArray ys.toArray fs).run P w = .ok b w):=by
 intro d
 induction d with
 |zero=>exact⟨fun _ _ _ _ _ _ _ h=>by simp[DF]at h,fun _ _ _ _ _ _ _ _ h=>by simp[DG]at h⟩
 |succ d ih=>
  obtain⟨ihT,ihF⟩:=ih
  constructor
  ·intro t ck xs ys b D hD h hv
   obtain⟨D,rfl⟩:∃D',D=D'+1:=⟨D-1,by omega⟩
   unfold DF at h
   split at h
   ·rename_i k k' hu
    obtain⟨x,y,rfl,rfl,h1⟩:=wz hv
    refine .inl ⟨fun w=>by unfold isAgg;simp[run_underlying hu],x,y,rfl,rfl,fun w=>?_⟩
    unfold Ck at h1
    split at h1<;>first|(split at h1<;>first|(cases h1;done)|skip)|(cases h1;done)|skip
    ·rename_i hk
     have:=ub hk;subst this
     simp at h1;subst h1
     exact run_equalIn_int w D t _ _ _ _ hu
    all_goals(rename_i heq;cases heq)
   ·rename_i hu
    obtain⟨x,y,rfl,rfl,h1⟩:=wz hv
    refine .inl ⟨fun w=>by unfold isAgg;simp[run_underlying hu],x,y,rfl,rfl,fun w=>?_⟩
    unfold Ck at h1
    split at h1<;>first|(contradiction)|(cases h1;done)|skip
    simp at h1;subst h1
    exact run_equalIn_bool' w D t _ _ hu
   ·rename_i hu
    obtain⟨x,y,rfl,rfl,h1⟩:=wz hv
    refine .inl ⟨fun w=>by unfold isAgg;simp[run_underlying hu],x,y,rfl,rfl,fun w=>?_⟩
    unfold Ck at h1
    split at h1<;>first|(contradiction)|(cases h1;done)|skip
    simp at h1;subst h1
    rw[run_equalIn_string w D t _ _ hu,beq_toListBytes]
   ·rename_i fs hu
    simp only[Bool.and_eq_true,Bool.not_eq_true']at h
    refine .inr ⟨fun w=>by unfold isAgg;simp[run_underlying hu],fun w=>?_⟩
    have Wk:P.fieldsOf t=fs:=by simp[Program.fieldsOf,hu]
    rw[run_equalIn_struct w D t _ _ (by rw[Wk];exact hu) h.1,Wk]
    exact ihF fs.toList 0 _ xs ys b D (by omega) h.2 (by simpa using hv) w
   ·cases h
  ·intro fs off ck xs ys b D hD h hv w
   cases fs with
   |nil=>
    cases ck with
    |nil=>
     have:=mC hv
     have N1:b=true:=by
       have h1:xs.drop off=[]:=List.eq_nil_of_length_eq_zero this.1
       have h2:ys.drop off=[]:=List.eq_nil_of_length_eq_zero this.2
       rw[h1,h2]at hv;simpa[p9]using hv.symm
     subst N1
     simp[Op.eqFields]
    |cons c r=>simp[DG]at h
   |cons f r=>
    simp only[DG,Bool.and_eq_true,decide_eq_true_eq]at h
    obtain⟨⟨x_,gZ⟩,h⟩:=h
    split at h
    rotate_left
    ·cases h
    rename_i i hi
    simp only[Bool.and_eq_true,decide_eq_true_eq]at h
    obtain⟨⟨hle,hT⟩,hF⟩:=h
    have hlen:=mC hv
    rw[←List.take_append_drop i.size ck]at hv
    obtain⟨b1,b2,h1,h2,rfl⟩:=zP hv
    have ht:(ck.take i.size).length=i.size:=by simp;omega
    rw[ht]at h1 h2
    simp only[List.drop_drop]at h2
    have Q5:=ihF r (off+i.size) _ xs ys b2 D (by omega) hF h2 w
    have hs:∀w,(sizeOf f.type).run P w = .ok i.size w:=fun w=>by simp[sizeOf,typeInfo,hi]
    simp only[Op.eqFields,if_pos x_,Sem.run_bind,gZ]
    rcases ihT f.type _ _ _ b1 D (by omega) hT h1 with⟨hA,x,y,hx,hy,he⟩|⟨hA,he⟩
    ·have ya:xs[off]? = some x:=by
         have:(List.take i.size (xs.drop off))[0]? = some x:=by rw[hx];rfl
         rw[List.getElem?_take]at this
         split at this
         ·simpa using this
         ·cases this
     have E9:ys[off]? = some y:=by
         have:(List.take i.size (ys.drop off))[0]? = some y:=by rw[hy];rfl
         rw[List.getElem?_take]at this
         split at this
         ·simpa using this
         ·cases this
     rw[gG (hA w) xs off x ya,Result.andThen_ok,gG (hA w) ys off y E9,Result.andThen_ok,he w,Result.andThen_ok]
     cases b1
     ·simp
     ·simp[Q5]
    ·rw[iF (hA w) (hs w) xs off,Result.andThen_ok,iF (hA w) (hs w) ys off,Result.andThen_ok,he w,Result.andThen_ok]
     cases b1
     ·simp
     ·simp[Q5]
end Go.Dm
