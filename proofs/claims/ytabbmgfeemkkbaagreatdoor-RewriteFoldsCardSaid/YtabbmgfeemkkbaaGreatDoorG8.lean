/- Part of the proof: contracts of functions; no condition. -/
import Derived.Test.YtabbmgfeemkkbaaGreatDoorG4
namespace Go.Proofs.Tryz
open Go Go.Dm Go.Ex
set_option maxRecDepth 100000
variable {gl:Nat→Option Obj}
def Ni(f:Nat)(nx:List Cp)(K:List R→Prop):Prop:=match Nat.beq f 108,nx with
 |true,[.ptr [.sl es],.ptr [.v (.int .i64 n)]]=>∃nn:Nat,n=Int.ofNat nn∧1≤nn∧es.length+nn≤9223372036854775807∧(∀c∈es,c.length=10)∧K (ik es nn)
 |_,_=>False
def QW:Env:={bl with inl:=[79],it:=Ni}
theorem DC:c8 prog QW:=⟨bN.te⟩
theorem Nj(f:Nat)(nx:List Cp)(K:List R→Prop)(h:Ni f nx K):∃xs,Its prog f nx xs∧K xs:=by
 unfold Ni at h
 split at h
 ·rename_i es n hf
  obtain⟨nn,rfl,h1,h2,h3,h4⟩:=h
  have:=Nat.eq_of_beq_eq_true hf
  subst this
  exact⟨_,amT es nn h1 h2 h3,h4⟩
 ·exact h.elim
theorem TA:Aj prog QW:=fun f nx K h=>Nj f nx K h
noncomputable def Nk:Ya:=[(79,(2000,f79.ntmps,f79.body.getD .skip,f79.results.toList,akg))]
theorem E4:so prog Nk:=so.cons Eb (fn:=f79) (by kernel_rfl) (by kernel_rfl) (by kernel_rfl) (by kernel_rfl)
def V6:aj:=au d_ 36 DA
theorem DD:ah prog gl V6:=af bh zu
noncomputable def agC:Nat→List V→List V→St→(V→St→Prop)→Prop:=inl QW V6 bf Nk
theorem QX:Cz prog gl agC:=OC DC DD aF TA mixed E4
def lN(op sub:Int)(t:Ty)(v:Go.Ex.AV)(args:List EX)(kP dW:Int)(lt:Ty)(lv:Go.Ex.AV)(la:List EX)(x:List EX):St:={tm:=[(1,.ref 1 0),(2,.ref 2 0),(3,.ref 3 0),(4,.ref 4 0)],hp:=[(1,.box [.d (.v (.int .i64 op)),.d (.v (.int .i64 sub)),.d (.v (.int .i64 t.k)),.d (.v (.int .i64 t.sc)),.d (.v (.int .i64 v.t.k)),.d (.v (.int .i64 v.t.sc)),.d (.v (.bool v.aA)),.d (.v (.int .i64 v.n)),.d (.v (.string v.s)),.d (.sl (aa args))]),(2,.box [.d (.v (.int .i64 0)),.d (.v (.int .i64 0)),.d (.v (.int .i64 0)),.d (.v (.int .i64 0)),.d (.v (.int .i64 0)),.d (.v (.int .i64 0)),.d (.v (.bool false)),.d (.v (.int .i64 0)),.d (.v (.string {data:={toList:=[]:Array UInt8}:ByteArray})),.nil]),(3,.box [.d (.v (.int .i64 kP)),.d (.v (.int .i64 dW)),.d (.v (.int .i64 lt.k)),.d (.v (.int .i64 lt.sc)),.d (.v (.int .i64 lv.t.k)),.d (.v (.int .i64 lv.t.sc)),.d (.v (.bool lv.aA)),.d (.v (.int .i64 lv.n)),.d (.v (.string lv.s)),.d (.sl (aa la))]),(4,.box [.own 50004]),(50004,.bu 28 10 (aa x))],kn:=[],gd:=[]}
def eK(args:List EX)(i:Nat)(x:List EX):Prop:=2*i<args.length∧x.length≤2*i∧cm args=(x++(cm (args.drop (2*i))).1,(cm (args.drop (2*i))).2)
def Nl(op sub:Int)(t:Ty)(v:Go.Ex.AV)(args:List EX)(kP dW:Int)(lt:Ty)(lv:Go.Ex.AV)(la:List EX):Fi:={aj8 with cv:=[(4,[⟨some 4,0,50004,28,10⟩])],lx:=[(4,{X:=List EX,sh:=lN op sub t v args kP dW lt lv la,P:=fun _=>eK args,Y:=List EX,el:=fun z=>.d (.sl (aa z))})]}
def Zbu(a0 a1:Int)(a2:Ty)(a3:Go.Ex.AV)(a4:List EX)(a5 a6:Int)(a7:Ty)(a8:Go.Ex.AV)(a9:List EX)(eV:(List EX)):St:={tm:=[(1,.ref 1 0),(2,.ref 2 0),(3,.ref 3 0),(4,.ref 4 0)],hp:=[(1,.box [.i a0,.i a1,.i a2.1,.i a2.2,.i a3.1.1,.i a3.1.2,.d (.v (.bool a3.2)),.i a3.3,.d (.v (.string a3.4)),.d (.sl (aa a4))]),(2,.box [.i 0,.i 0,.i 0,.i 0,.i 0,.i 0,.d (.v (.bool false)),.i 0,.d (.v (.string ⟨⟨[]⟩⟩)),.nil]),(3,.box [.i a5,.i a6,.i a7.1,.i a7.2,.i a8.1.1,.i a8.1.2,.d (.v (.bool a8.2)),.i a8.3,.d (.v (.string a8.4)),.d (.sl (aa a9))]),(4,.box [.own 50004]),(50004,.bu 28 10 (aa eV))],kn:=[],gd:=[]:St}
theorem agE(op sub:Int)(t:Ty)(v:Go.Ex.AV)(args:List EX)(kP dW:Int)(lt:Ty)(lv:Go.Ex.AV)(la:List EX)(Q:KT):vc QW V6 agC (Nl op sub t v args kP dW lt lv la) (f37.body.getD .skip) f37.results.toList [.agg (aT op sub t v (aa args))] Q=(Ze7 args fun es n aN aW bO dv c_ b fS cD es=>gS args fun s_=>gS args fun w8=>fb fun l h=>l=(0:Nat)∧V.i (IntKind.i64.wrap ((↑s_.length:Int)-1))=V.i (↑h:Int)∧l≤h∧h≤w8.length∧(∀(c:List D),c∈w8→c.length=10)∧(decide ((2:Int)<1)=true→False)∧(decide ((2:Int)<1)=false→∃(nn:Nat),(2:Int)=Int.ofNat nn∧(1:Nat)≤nn∧(List.drop l (List.take h w8)).length.add nn≤(9223372036854775807:Nat)∧(∀(c:List D),c∈List.drop l (List.take h w8)→c.length=10)∧∃(x0:(List EX)),({tm:=[(1,.ref 1 0),(2,.ref 2 0),(3,.ref 3 0),(4,.ref 4 0)],hp:=[(1,.box [.i op,.i sub,.i t.1,.i t.2,.i v.1.1,.i v.1.2,.d (.v (.bool v.2)),.i v.3,.d (.v (.string v.4)),.d (.sl (aa args))]),(2,.box [.i 0,.i 0,.i 0,.i 0,.i 0,.i 0,.d (.v (.bool false)),.i 0,.d (.v (.string ⟨⟨[]⟩⟩)),.nil]),(3,.box [.i n,.i aN,.i aW,.i bO,.i dv,.i c_,.d (.v (.bool b)),.i fS,.d (.v (.string cD)),.d (.sl es)]),(4,.box [.own 50004]),(50004,.bu 28 10 [])],kn:=[],gd:=[]:St}=(Zbu op sub t v args kP dW lt lv la x0)∧eK args (0:Nat) x0)∧(∀(i:Nat) (y:R),(ik (List.drop l (List.take h w8)) nn)[i]? = some y→∃(z:{X:=List EX,sh:=lN op sub t v args kP dW lt lv la,P:=fun(x:List EX)=>eK args,Y:=List EX,el:=fun(z:List EX)=>R.d (D.sl (aa z)):LX}.Y),y=R.d (D.sl (aa z)))∧(∀(i:Nat) (z:{X:=List EX,sh:=lN op sub t v args kP dW lt lv la,P:=fun(x:List EX)=>eK args,Y:=List EX,el:=fun(z:List EX)=>R.d (D.sl (aa z)):LX}.Y) (x:(List EX)),(ik (List.drop l (List.take h w8)) nn)[i]? = some (R.d (D.sl (aa z)))→eK args i x→fy fun es=>D.sl (aa z)=D.sl es∧uD (0:Int) es fun cells=>Fb cells fun n _ _ _ _ _ b _ _ es e=>(pj e true=true→fy fun es=>D.sl (aa z)=D.sl es∧Tv (1:Int) es fun n mf mg mh oA oB b oC jn es=>(((↑(aa x).length:Int)==0)=true→Dy Q n mf mg mh oA oB b oC jn es)∧(((↑(aa x).length:Int)==0)=false→(∀(c:List D),c∈[(Z2 n mf mg mh oA oB b oC jn es)]→c.length=10)∧(28:Nat)=(28:Nat)∧(10:Nat)=(10:Nat)∧(↑(aa x).length.succ:Int)*(↑(104:Nat):Int)≤140737488355328∧Q [.agg [.i op,.i sub,.i t.1,.i t.2,.i v.1.1,.i v.1.2,.v (.bool v.2),.i v.3,.v (.string v.4),.sl (aa x++[(Z2 n mf mg mh oA oB b oC jn es)])]] []))∧(pj e true=false→fy fun es=>D.sl (aa z)=D.sl es∧uD (0:Int) es fun cells=>cells.length=10∧∃(n:Int),cut 0 1 cells=some [D.i n]∧((n != (2:Int))=true→fy fun es=>D.sl (aa z)=D.sl es∧(∀(c:List D),c∈es→c.length=10)∧(28:Nat)=(28:Nat)∧(10:Nat)=(10:Nat)∧(↑((aa x).length.add es.length):Int)*(↑(104:Nat):Int)≤140737488355328∧∃(x':(List EX)),{tm:=[(1,.ref 1 0),(2,.ref 2 0),(3,.ref 3 0),(4,.ref 4 0)],hp:=[(1,.box [.i op,.i sub,.i t.1,.i t.2,.i v.1.1,.i v.1.2,.d (.v (.bool v.2)),.i v.3,.d (.v (.string v.4)),.d (.sl (aa args))]),(2,.box [.i 0,.i 0,.i 0,.i 0,.i 0,.i 0,.d (.v (.bool false)),.i 0,.d (.v (.string ⟨⟨[]⟩⟩)),.nil]),(3,.box [.i kP,.i dW,.i lt.1,.i lt.2,.i lv.1.1,.i lv.1.2,.d (.v (.bool lv.2)),.i lv.3,.d (.v (.string lv.4)),.d (.sl (aa la))]),(4,.box [.own 50004]),(50004,.bu 28 10 (aa x++es))],kn:=[],gd:=[]:St}=(Zbu op sub t v args kP dW lt lv la x')∧eK args i.succ x')∧((n != (2:Int))=false→∃(x':(List EX)),(Zbu op sub t v args kP dW lt lv la x)=(Zbu op sub t v args kP dW lt lv la x')∧eK args i.succ x')))∧∀(x:(List EX)),eK args (ik (List.drop l (List.take h w8)) nn).length x→(((↑(aa x).length:Int)==0)=true→QP Q kP dW lt lv la)∧(((↑(aa x).length:Int)==0)=false→(Zjj kP dW lt lv la)∧(28:Nat)=(28:Nat)∧(10:Nat)=(10:Nat)∧(↑(aa x).length.succ:Int)*(↑(104:Nat):Int)≤140737488355328∧Q [.agg [.i op,.i sub,.i t.1,.i t.2,.i v.1.1,.i v.1.2,.v (.bool v.2),.i v.3,.v (.string v.4),.sl (aa x++[(Z1 kP dW lt lv la)])]] []))):=by kernel_rfl
theorem dJ:∀l:List EX,aa l=l.map cells
 |[]=>by simp only[aa,List.map_nil]
 |e::r=>by simp only[aa,dJ r,List.map_cons]
theorem Cc{args:List EX}(ho:args.length % 2=1):(ik (((aa args).take (args.length-1)).drop 0) 2).length=(args.length-1)/2∧
  ∀k,k<(args.length-1)/2→(ik (((aa args).take (args.length-1)).drop 0) 2)[k]? = some (R.d (.sl (aa ((args.drop (2*k)).take 2)))):=by
 have hl:(((aa args).take (args.length-1)).drop 0).length=args.length-1:=by
  rw[List.drop_zero,List.length_take,ag];omega
 unfold ik
 rw[hl]
 have hn:(args.length-1+2-1)/2=(args.length-1)/2:=by omega
 refine⟨by rw[List.length_map,List.length_range];exact hn,fun k hk=>?_⟩
 rw[List.getElem?_map,List.getElem?_range (by omega)]
 simp only[Option.map_some]
 congr 3
 rw[List.drop_zero,dJ,dJ,List.map_take,List.map_drop,Nat.mul_comm k 2,List.drop_take,List.take_take]
 congr 1
 omega
theorem agF(c:Int)(sub:Int)(t:Ty)(v:Go.Ex.AV)(args:List EX)(hP:Pe c (.mk 14 sub t v args)):
  Ct prog gl 37 [.agg (aT 14 sub t v (aa args))] (gives [.agg (cells (dF sub t v args))]):=by
 obtain⟨h1,h2,h3⟩:=ef.1 hP
 have hm:=lH h2
 rw[Int.tmod_eq_emod_of_nonneg (by omega)]at hm
 have ho:args.length % 2=1:=by omega
 have hB:=h1.2
 obtain⟨fw,Wh⟩:=Cc ho
 obtain⟨lo,ls,lt,lv,la,el,gl'⟩:=cq (l:=args) (i:=args.length-1) (by omega)
 refine aw DC DD QX TA mixed (fn:=f37) (body:=f37.body.getD .skip) (by kernel_rfl) (by kernel_rfl) (by kernel_rfl) (fi:=Nl 14 sub t v args lo ls lt lv la) (by kernel_rfl) (by kernel_rfl) ⟨_,_,rfl,rfl⟩ ?_
 rw[agE];dsimp -eta -iota -proj only[Ze7,Zer,gS,fy,Ib,Zs,Zr,Z2,fb,Zbu,uD,Fb,Zy,lU,Tv,Dy,QP,Zc3,Z1,Zjj]
 have wl:IntKind.i64.wrap ((args.length:Int)-1)=((args.length-1:Nat):Int):=by rw[ai (by omega) (by omega)];omega
 have Fu:∀d∈aa args,d.length=10:=by
  intro d hd
  rw[dJ]at hd
  obtain⟨⟨o,s,u,w,l⟩,_,rfl⟩:=List.mem_map.1 hd
  rw[ab];rfl
 have yp:∀(acc:List EX) (lo ls:Int) (lt:Ty) (lv:Go.Ex.AV) (la:List EX),acc.length≤args.length→cm args=(acc,.mk lo ls lt lv la)→
   ((((aa acc).length:Int)==0)=true→gives [.agg (cells (dF sub t v args))] [.agg (aT lo ls lt lv (aa la))] [])∧
   ((((aa acc).length:Int)==0)=false→(∀d∈[aT lo ls lt lv (aa la)],d.length=10)∧28=28∧10=10∧(((aa acc).length.succ:Nat):Int)*((104:Nat):Int)≤140737488355328∧gives [.agg (cells (dF sub t v args))] [.agg (aT 14 sub t v (aa acc++[aT lo ls lt lv (aa la)]))] []):=by
  intro acc lo ls lt lv la hal xI
  have hy:dF sub t v args=if acc=[]then .mk lo ls lt lv la else .mk 14 sub t v (acc++[.mk lo ls lt lv la]):=by
   unfold dF
   rw[xI]
  rw[ag]
  refine⟨fun hz=>?_,fun hz=>⟨by intro d hd;simp at hd;subst hd;rfl,rfl,rfl,by omega,?_⟩⟩
  ·have hz:acc=[]:=by
    have:(acc.length:Int)=0:=eq_of_beq hz
    exact List.eq_nil_of_length_eq_zero (by omega)
   rw[if_pos hz]at hy
   rw[hy,ab];exact⟨rfl,rfl⟩
  ·have hz:acc≠[]:=by
    intro e;subst e;cases hz
   rw[if_neg hz]at hy
   rw[hy,ab,cw]
   simp only[aa,ab]
   exact⟨rfl,rfl⟩
 refine⟨aa args,rfl,aa args,rfl,?_⟩
 rw[ag,wl,Int.toNat_natCast]
 refine⟨⟨by omega,by omega⟩,_,gl',rfl,lo,ls,lt.k,lt.sc,lv.t.k,lv.t.sc,lv.aA,lv.n,lv.s,aa la,rfl,aa args,rfl,aa args,rfl,0,args.length-1,rfl,by rw[ag,wl],Nat.zero_le _,by rw[ag];omega,Fu,(fun h=>(by cases h)),fun _=>⟨2,rfl,by decide,?_,?_,([]:List EX),⟨rfl,by show 2*0<_;omega,Nat.le_refl _,by simp⟩,fun i y hy=>?_,fun i z x hz hx=>?_,fun x hx=>?_⟩⟩
 ·rw[List.drop_zero,List.length_take,ag]
  show _+2≤_
  omega
 ·intro d hd
  rw[List.drop_zero]at hd
  exact Fu d (List.mem_of_mem_take hd)
 ·have hi:i<(args.length-1)/2:=by
   rw[←fw]
   exact(List.getElem?_eq_some_iff.1 hy).1
  rw[Wh i hi]at hy
  exact⟨(args.drop (2*i)).take 2,(Option.some.inj hy).symm⟩
 ·obtain⟨x1,x3,x4⟩:=hx
  have hi:i<(args.length-1)/2:=by
   rw[←fw]
   exact(List.getElem?_eq_some_iff.1 hz).1
  have Qu:2*i+1<args.length:=by omega
  obtain⟨o0,s0,t0,v0,a0,e0,g0⟩:=cq x1
  obtain⟨o1,s1,t1,v1,a1,e1,g1⟩:=cq Qu
  have hd:args.drop (2*i)=EX.mk o0 s0 t0 v0 a0::EX.mk o1 s1 t1 v1 a1::args.drop (2*i+2):=by
   rw[List.drop_eq_getElem_cons x1,List.drop_eq_getElem_cons Qu,e0,e1]
  have xI:=tc hd (by intro e;have:=congrArg List.length e;rw[List.length_drop]at this;simp at this;omega)
  rw[Wh i hi]at hz
  have hzc:aa z=[aT o0 s0 t0 v0 (aa a0),aT o1 s1 t1 v1 (aa a1)]:=by
   have:aa ((args.drop (2*i)).take 2)=aa z:=by
    have:=Option.some.inj hz
    injection this with this
    injection this
   rw[←this,hd]
   simp only[List.take_succ_cons,List.take_zero,aa,ab]
  rw[hzc]
  refine⟨_,rfl,⟨by decide,by show(0:Int)<2;decide⟩,_,rfl,rfl,o0,s0,t0.k,t0.sc,v0.t.k,v0.t.sc,v0.aA,v0.n,v0.s,aa a0,rfl,.mk o0 s0 t0 v0 a0,by rw[ab];rfl,fun hb=>?_,fun hb=>⟨_,rfl,⟨by decide,by show(0:Int)<2;decide⟩,_,rfl,rfl,o0,rfl,fun du=>?_,fun du=>?_⟩⟩
  ·rw[hb,cond_true]at xI
   rw[xI,List.append_nil]at x4
   exact⟨_,rfl,⟨by decide,by show(1:Int)<2;decide⟩,_,rfl,rfl,o1,s1,t1.k,t1.sc,v1.t.k,v1.t.sc,v1.aA,v1.n,v1.s,aa a1,rfl,yp x o1 s1 t1 v1 a1 (by omega) x4⟩
  ·rw[hb,cond_false]at xI
   have oG:(EX.op (.mk o0 s0 t0 v0 a0)==2)=false:=by
    show(o0==2)=false
    simpa[bne]using du
   rw[oG,cond_false]at xI
   rw[xI]at x4
   refine⟨_,rfl,by intro d hd;simp at hd;rcases hd with rfl|rfl<;>rfl,rfl,rfl,?_,x++[.mk o0 s0 t0 v0 a0,.mk o1 s1 t1 v1 a1],?_,by show 2*(i+1)<_;omega,by simp;omega,?_⟩
   ·rw[ag]
    show(((x.length+2:Nat)):Int)*_≤_
    omega
   ·have Xr:aa (x++[EX.mk o0 s0 t0 v0 a0,EX.mk o1 s1 t1 v1 a1])=aa x++[aT o0 s0 t0 v0 (aa a0),aT o1 s1 t1 v1 (aa a1)]:=by
      rw[cw]
      simp only[aa,ab]
    rw[Xr]
   ·rw[x4,List.append_assoc]
    rfl
  ·rw[hb,cond_false]at xI
   have oG:(EX.op (.mk o0 s0 t0 v0 a0)==2)=true:=by
    show(o0==2)=true
    simpa[bne]using du
   rw[oG,cond_true]at xI
   rw[xI]at x4
   exact⟨x,rfl,by show 2*(i+1)<_;omega,by show x.length≤2*(i+1);omega,x4⟩
 ·obtain⟨x1,x3,x4⟩:=hx
  rw[fw]at x1 x3 x4
  have hdv:2*((args.length-1)/2)=args.length-1:=by omega
  rw[hdv]at x4
  have hd:args.drop (args.length-1)=[.mk lo ls lt lv la]:=by
   rw[List.drop_eq_getElem_cons (by omega),List.drop_eq_nil_of_le (by omega),el]
  rw[hd]at x4
  have x4:cm args=(x,EX.mk lo ls lt lv la):=by rw[x4];simp[cm]
  exact yp x lo ls lt lv la (by omega) x4
def No(a:List R)(K:KT):Prop:=match a with
 |[.agg x]=>∃(c sub:Int) (t:Ty) (v:Go.Ex.AV) (args:List EX),x=aT 14 sub t v (aa args)∧Pe c (.mk 14 sub t v args)∧kG (dF sub t v args) K
 |_=>False
theorem Np:CK gl No 37:=fun a K h=>by
 unfold No at h
 split at h
 ·obtain⟨c,sub,t,v,args,rfl,h1,h2⟩:=h
  exact jB (agF c sub t v args h1) h2
 ·exact h.elim
def agG(n:Nat)(a:List R)(K:KT):Prop:=match a with
 |[.agg x,.d (.sl y)]=>∃(c:Int) (e:EX) (ae:List Ty),x=cells e∧y=ae.map Ty.cs∧size e<n∧Pe c e∧ae.length≤8796093022208∧kG (tR ae e) K
 |_=>False
def Nq(n:Nat):aj:=au d_ 13 (agG n)
def Cd(y:List (List D))(l out:List EX)(j:Nat):St:={tm:=[(1,.d (.sl y)),(4,.nil),(5,.own 50005),(8,.d (.sl (aa l))),(9,.d (.v (.int .i64 ((aa l).length:Int)))),(10,.d (.v (.int .i64 (j:Int))))],hp:=[(50005,.bu 28 10 (aa (out.take j)))],kn:=[],gd:=[]}
def rk(l:List EX)(m:Nat)(j:Nat):Prop:=j≤l.length∧m=l.length-j
def Nr(y:List (List D))(l out:List EX):Fi:={aj7 with cv:=[(3,[⟨none,5,50005,28,10⟩])],lx:=[(3,{X:=Nat,sh:=Cd y l out,P:=fun _=>rk l})]}
def Zh4(a0:List (List D))(a1:List EX)(a2:Nat)(a3:List EX):St:={tm:=[(1,.d (.sl a0)),(4,.nil),(5,.own 50005),(8,.d (.sl (aa a1))),(9,.i (↑(aa a1).length:Int)),(10,.i (↑a2:Int))],hp:=[(50005,.bu 28 10 (aa (List.take a2 a3)))],kn:=[],gd:=[]:St}
theorem agH(n:Nat)(l:List EX)(y:List (List D))(out:List EX)(Q:KT):vc bl (Nq n) bf (Nr y l out) (f32.body.getD .skip) f32.results.toList [.d (.sl (aa l)),.d (.sl y)] Q=(zz l fun es x0=>({tm:=[(1,.d (.sl y)),(4,.nil),(5,.own 50005),(8,.d (.sl (aa l))),(9,.i (↑es.length:Int)),(10,.i 0)],hp:=[(50005,.bu 28 10 [])],kn:=[],gd:=[]:St}=(Zh4 y l x0 out)∧∃(n:Nat),rk l n x0)∧∀(aN:Nat) (x:Nat),rk l aN x→(Gm x l (Zcx l x y n out aN fun cL aU t' v' l' m x'=>{tm:=[(1,.d (.sl y)),(4,.nil),(5,.own 50005),(8,.d (.sl (aa l))),(9,.i (↑(aa l).length:Int)),(10,.i (IntKind.i64.wrap ((↑x:Int)+1)))],hp:=[(50005,.bu 28 10 (aa (List.take x out)++[(xQ cL aU t' v' l')]))],kn:=[],gd:=[]:St}=(Zh4 y l x' out)∧rk l m x'))∧(Fc x l (Q [.d (.sl (aa (List.take x out)))] []))):=by kernel_rfl
theorem agI(n:Nat)(hC:ah prog gl (Nq n))(c:Int)(l:List EX)(ae:List Ty)(hs:ir l<n)(hl:l.length≤1353245080300)(hP:∀a∈l,Pe c a)(fw:ae.length≤8796093022208):
  Ct prog gl 32 [.d (.sl (aa l)),.d (.sl (ae.map Ty.cs))] (gives [.d (.sl (aa (pn ae l)))]):=by
 refine aw bN hC aF bD mixed (fn:=f32) (body:=f32.body.getD .skip) (by kernel_rfl) (by kernel_rfl) (by kernel_rfl) (fi:=Nr (ae.map Ty.cs) l (pn ae l)) (by kernel_rfl) (by kernel_rfl) ⟨_,_,rfl,rfl⟩ ?_
 rw[agH];dsimp -eta -iota -proj only[zz,gS,fy,Zh4,Gm,Zcx,Zcw,Zcv,bz,yM,Zbx,Zs,Zr,Z2,lU,xQ,fb,Fc]
 have hlen:=rj ae l
 have gO:∀(j:Nat) (hj:j<l.length),(pn ae l)[j]'(by rw[hlen];exact hj)=tR ae l[j]:=fun j hj=>by
  simp only[ri,List.getElem_map]
 generalize pn ae l=out at *
 refine⟨aa l,rfl,(0:Nat),⟨rfl,l.length,Nat.zero_le _,rfl⟩,fun m (x:Nat) hx=>⟨fun hi=>?_,fun hi=>?_⟩⟩
 ·obtain⟨x1,x2⟩:=hx
  have hi:=of_decide_eq_true hi
  rw[ag]at hi
  have hi:x<l.length:=by omega
  obtain⟨o0,s0,t0,v0,a0,e0,g0⟩:=cq hi
  have hsz:=ja (List.getElem_mem hi)
  refine⟨aa l,rfl,⟨by omega,by rw[ag];omega⟩,_,by rw[Int.toNat_natCast];exact g0,rfl,o0,s0,t0.k,t0.sc,v0.t.k,v0.t.sc,v0.aA,v0.n,v0.s,aa a0,rfl,c,l[x],ae,by rw[e0,ab];rfl,rfl,by omega,hP _ (List.getElem_mem hi),fw,fun cL aU t' v' l' he=>⟨by intro d hd;simp at hd;subst hd;rfl,rfl,rfl,?_,l.length-(x+1),x+1,by omega,?_,hi,rfl⟩⟩
  ·rw[ag,List.length_take]
   omega
  ·have hox:x<out.length:=by omega
   have ht:out.take (x+1)=out.take x++[.mk cL aU t' v' l']:=by
    rw[List.take_add_one,List.getElem?_eq_getElem hox,Option.toList_some,gO x hi,he]
   have T3:aa (out.take (x+1))=aa (out.take x)++[aT cL aU t' v' (aa l')]:=by
    rw[ht,cw]
    simp only[aa,ab]
   show _=Cd (ae.map Ty.cs) l out (x+1)
   unfold Cd
   rw[T3,aL (by omega)]
   rfl
 ·obtain⟨x1,x2⟩:=hx
  have hi:=of_decide_eq_false hi
  rw[ag]at hi
  rw[List.take_of_length_le (by omega)]
  exact⟨rfl,rfl⟩
def TB(n:Nat)(a:List R)(K:KT):Prop:=match a with
 |[.d (.sl x),.d (.sl y)]=>∃(c:Int) (l:List EX) (ae:List Ty),x=aa l∧y=ae.map Ty.cs∧ir l<n∧l.length≤1353245080300∧(∀a∈l,Pe c a)∧ae.length≤8796093022208∧K [.d (.sl (aa (pn ae l)))] []
 |_=>False
def agJ(n:Nat):aj:=au (au (au (au (au (au d_ 33 Cb) 36 DA) 37 No) 35 LZ) 12 IC) 32 (TB n)
noncomputable def Zcp(a0 a1:Int)(a2:Ty)(a3:Go.Ex.AV)(a4:List Ty)(a5:List EX):List D:=[D.v (Value.int IntKind.i64 a0),D.v (Value.int IntKind.i64 a1),D.v (Value.int IntKind.i64 a2.1),D.v (Value.int IntKind.i64 a2.2),D.v (Value.int IntKind.i64 a3.1.1),D.v (Value.int IntKind.i64 a3.1.2),D.v (Value.bool a3.2),D.v (Value.int IntKind.i64 a3.3),D.v (Value.string a3.4),D.sl (aa (pn a4 a5))]
def Zcm(a0:List Ty)(a1:List EX)(a2:Int)(k:Int→Int→Int→Int→Int→Int→Bool→Int→ByteArray→(List (List D))→Prop):Prop:=fy fun es=>D.sl (aa (pn a0 a1))=D.sl es∧Tv a2 es fun n aN aW bO dv c_ b fS cD es=>k n aN aW bO dv c_ b fS cD es
noncomputable def Zew(a0 a1:Int)(a2:Ty)(a3:Go.Ex.AV)(a4:List Ty)(a5:List EX):List R:=[R.agg (Zcp a0 a1 a2 a3 a4 a5)]
def Xg(a0:KT)(a1 a2:Int)(a3:Ty)(a4:Go.Ex.AV)(a5:List Ty)(a6:List EX):Prop:=a0 (Zew a1 a2 a3 a4 a5 a6) []
def Zdh(a0 a1 a2 a3 a4 a5:Int)(a6:Bool)(a7:Int)(a8:ByteArray)(a9:List (List D))(eV:Int)(fI:KT)(a12 cl W_ Xa Xb a17:Int)(Xc:Bool)(Xd:Int)(a20:ByteArray)(a21:List (List D))(a22:Int)(a23:Ty)(a24:Go.Ex.AV)(a25:List Ty)(a26:List EX):Prop:=Zju a0 a1 a2 a3 a4 a5 a6 a7 a8 a9 eV fI a12 cl W_ Xa Xb a17 Xc Xd a20 a21 fun e=>(pj e (eV==10)=false→∃(e:EX),lU a0 a1 a2 a3 a4 a5 a6 a7 a8 a9 e (((pj e !eV==10)=true→Dy fI a0 a1 a2 a3 a4 a5 a6 a7 a8 a9)∧((pj e !eV==10)=false→Zju a12 cl W_ Xa Xb a17 Xc Xd a20 a21 eV fI a0 a1 a2 a3 a4 a5 a6 a7 a8 a9 fun e=>(pj e (eV==10)=false→Xg fI eV a22 a23 a24 a25 a26))))
def Zbj(a0:List Ty)(a1:List EX)(a2:Int)(a3:KT)(a4:Int)(a5:Ty)(a6:Go.Ex.AV):Prop:=Zcm a0 a1 (0:Int) fun n aN aW bO dv c_ b fS cD es=>Zcm a0 a1 (1:Int) fun gI mr zA mb mc me kU mf jn s_=>(Zdh n aN aW bO dv c_ b fS cD es a2 a3 gI mr zA mb mc me kU mf jn s_ a4 a5 a6 a0 a1)∧Zdh n aN aW bO dv c_ b fS cD es a2 a3 gI mr zA mb mc me kU mf jn s_ a4 a5 a6 a0 a1
def Zbk(a0 a1:Int)(a2:List Ty)(a3:List EX)(a4:KT)(a5:Int)(a6:Ty)(a7:Go.Ex.AV):Prop:=(a0==a1)=true→Zbj a2 a3 a0 a4 a5 a6 a7
def Zht(a0 a1:Int)(a2:Ty)(a3:AV)(a4:List EX)(a5:EX)(k:Prop):Prop:=(xQ a0 a1 a2 a3 a4)=cells a5∧k
def Zd(a0:Int)(a1:List Ty)(a2:List EX)(a3:KT)(a4:Int)(a5:Ty)(a6:Go.Ex.AV)(a7:List (List D)):Prop:=(Zbk a0 (10:Int) a1 a2 a3 a4 a5 a6)∧((a0==10)=false→(Zbk a0 (11:Int) a1 a2 a3 a4 a5 a6)∧((a0==11)=false→((a0==12)=true→Zcm a1 a2 (0:Int) fun n aN aW bO dv c_ b fS cD es=>Zen n es a3 (((n==12)=false→((n==9)=true→(0≤aN∧aN<(↑(7:Nat):Int))∧a3 [.agg [.i n,.i ([(0:Int),(2:Int),(1:Int),(6:Int),(5:Int),(4:Int),(3:Int)].getD aN.toNat (0:Int)),.i aW,.i bO,.i dv,.i c_,.v (.bool b),.i fS,.v (.string cD),.sl es]] [])∧((n==9)=false→Xg a3 a0 a4 a5 a6 a1 a2))))∧((a0==12)=false→((a0==14)=true→∃(e:EX),∃(ea:List Ty),(Zcp a0 a4 a5 a6 a1 a2)=cells e∧QQ a7 ea e fun dn f=>zE fun c cr oH mv args=>(Zcp a0 a4 a5 a6 a1 a2)=(Zj8 cr oH mv args)∧Pe c (EX.mk (14:Int) cr oH mv args)∧∀(cL aU:Int) (t':Ty) (v':AV) (l':List EX),dF cr oH mv args=EX.mk cL aU t' v' l'→∃(e:EX),∃(V7:List Ty),Zht cL aU t' v' l' e (QQ a7 V7 e fun t_3 f=>((bif f==0 then t_3.1==dn.1&&(t_3.2==dn.2&&true)else false)=true→Xf a3 cL aU t' v' l')∧((bif f==0 then t_3.1==dn.1&&(t_3.2==dn.2&&true)else false)=false→Xg a3 a0 a4 a5 a6 a1 a2)))∧((a0==14)=false→((a0==16)=true→fy fun es=>D.sl (aa (pn a1 a2))=D.sl es∧uD (0:Int) es fun cells=>Q9 cells fun e ea=>QQ a7 ea e fun dn _=>((dn.1==a5.1&&(dn.2==a5.2&&true))=true→Zcm a1 a2 (0:Int) fun n gI mr zA mb mc b me kU es=>Dy a3 n gI mr zA mb mc b me kU es)∧((dn.1==a5.1&&(dn.2==a5.2&&true))=false→Xg a3 a0 a4 a5 a6 a1 a2))∧((a0==16)=false→Xg a3 a0 a4 a5 a6 a1 a2)))))
def Zv(a0 a1:Int)(a2:Ty)(a3:Go.Ex.AV)(a4:List Ty)(a5:List EX)(a6:KT)(a7:List (List D)):Prop:=∃(e:EX),∃(row:List AV),(Zcp a0 a1 a2 a3 a4 a5)=cells e∧Zia row e a6 fun f=>((f==0)=false→Zd a0 a4 a5 a6 a1 a2 a3 a7)
theorem ani(n:Nat)(op sub:Int)(t:Ty)(v:Go.Ex.AV)(args:List EX)(y:List (List D))(Q:KT):vc bl (agJ n) bf Yo (f13.body.getD .skip) f13.results.toList [.agg (aT op sub t v (aa args)),.d (.sl y)] Q=(∃(c:Int),∃(l:List EX),∃(ae:List Ty),aa args=aa l∧y=List.map Ty.cs ae∧ir l<n∧l.length≤1353245080300∧(∀(a:EX),a∈l→Pe c a)∧ae.length≤8796093022208∧fy fun es=>D.sl (aa (pn ae l))=D.sl es∧(decide ((↑es.length:Int)>0)=true→∃(gh:List EX),aa (pn ae l)=aa gh∧gh.length≤1353245080300∧((!gh.any fun(e:EX)=>e.op != (2:Int))=true→Zv op sub t v ae l Q y)∧((!gh.any fun(e:EX)=>e.op != (2:Int))=false→Zd op ae l Q sub t v y))∧(decide ((↑es.length:Int)>0) = !true→(false=true→Zv op sub t v ae l Q y)∧(false=false→Zd op ae l Q sub t v y))):=by kernel_rfl
theorem nr{s:Int}(h1:1≤s)(h2:s≤6):([0,2,1,6,5,4,3]:List Int).getD s.toNat 0=jd s:=by
 have:s=1∨s=2∨s=3∨s=4∨s=5∨s=6:=by omega
 rcases this with rfl|rfl|rfl|rfl|rfl|rfl<;>rfl
theorem ns{ae:List Ty}{x y:EX}{t1 t2:Ty}{B_ tT:Int}(h1:aV ae x=(t1,B_))(h2:aV ae y=(t2,tT)):kF ae x y=bif (bif tT==0 then t2.k==t1.k&&(t2.sc==t1.sc&&true)else false)then y else x:=by
 unfold kF iw
 rw[h1,h2]
 dsimp only
 cases h:tT==0
 ·rfl
 ·simp only[cond_true]
theorem agN(G:aZ gl):∀(n:Nat) (c:Int) (e:EX) (ae:List Ty),size e<n→Pe c e→ae.length≤8796093022208→Ct prog gl 13 [.agg (cells e),.d (.sl (ae.map Ty.cs))] (gives [.agg (cells (tR ae e))])
 |0,c,e,ae,h,_,_=>absurd h (Nat.not_lt_zero _)
 |n+1,c,.mk op sub t v args,ae,hsz,hP,fw=>by
  have hC0:ah prog gl (Nq n):=af bh (fun a K hk=>by
   unfold agG at hk
   split at hk
   ·obtain⟨c,e,ae,rfl,rfl,h1,h2,h3,h4⟩:=hk
    exact jB (agN G n c e ae h1 h2 h3) h4
   ·exact hk.elim)
  have hC:ah prog gl (agJ n):=af (af (af (af (af (af bh E3) zu) Np) (L0 G)) xc) (fun a K hk=>by
   unfold TB at hk
   split at hk
   ·obtain⟨c,l,ae,rfl,rfl,h1,h2,h3,h4,h5⟩:=hk
    exact(agI n hC0 c l ae h1 h2 h3 h4).gives h5
   ·exact hk.elim)
  obtain⟨p1,p2,p3⟩:=ef.1 hP
  have hlen:=rj ae args
  have zJ:Pe c (.mk op sub t v (pn ae args)):=ef.2 ⟨⟨p1.1,by rw[hlen];exact p1.2⟩,by rw[hlen];exact p2,xG p3⟩
  have hE0:tR ae (.mk op sub t v args)=VQ ae op sub t v (pn ae args):=by simp only[tR]
  simp only[size]at hsz
  rw[ab]
  refine cz hC f13 Yo ⟨_,_,rfl,rfl⟩ ?_
  rw[ani];dsimp -eta -iota -proj only[fy,Zv,Zcp,Zia,Zd,Zbk,Zbj,Zcm,Tv,uD,Zs,Zr,Z2,Zdh,Zju,Zde,lU,Dy,Xg,Zew,Zen,Zef,zF,QQ,zE,Zj8,Zht,xQ,Xf,Zfo,Q9,Zy]
  refine⟨c,args,ae,rfl,rfl,by omega,p1.2,p3,fw,?_⟩
  generalize TS:pn ae args=out at *
  obtain⟨_,h2,tf⟩:=ef.1 zJ
  have hE:=hE0
  unfold VQ at hE
  have B5:out.any (fun e=>e.op != 2) = !(out.all fun e=>e.op==2):=by
   rw[List.not_all_eq_any_not];rfl
  refine⟨aa out,rfl,fun hz=>⟨out,rfl,by have:=p1.2;omega,fun hA=>⟨.mk op sub t v out,[],(ab _ _ _ _ _).symm,rfl,zJ.1,(fun v hv=>(by cases hv)),(by decide),fun w f0' hw=>⟨fun hz2=>?_,fun hz2=>?_⟩⟩,fun hA=>?_⟩,fun hz=>⟨fun h=>(by cases h),fun _=>?_⟩⟩
  ·have hz:=of_decide_eq_true hz
   rw[ag]at hz
   have Ce:qu out=true:=by
    unfold qu
    rw[B5,Bool.not_not]at hA
    rw[hA]
    cases out with
    |nil=>simp at hz
    |cons a r=>rfl
   rw[Ce,cond_true,hw]at hE
   dsimp only at hE
   rw[hz2,cond_true]at hE
   have:cells (aY w)=aT 2 0 ⟨0,0⟩ w []:=ab _ _ _ _ _
   rw[hE,this]
   exact⟨rfl,rfl⟩
  ·have hz:=of_decide_eq_true hz
   rw[ag]at hz
   have Ce:qu out=true:=by
    unfold qu
    rw[B5,Bool.not_not]at hA
    rw[hA]
    cases out with
    |nil=>simp at hz
    |cons a r=>rfl
   rw[Ce,cond_true,hw]at hE
   dsimp only at hE
   rw[hz2,cond_false]at hE
   (
    refine⟨fun o=>?_,fun n10=>⟨fun o=>?_,fun n11=>⟨fun o=>?_,fun n12=>⟨fun o=>?_,fun n14=>⟨fun o=>?_,fun n16=>?_⟩⟩⟩⟩⟩
    ·have o:op=10:=eq_of_beq o
     have hm:=dQ h2 (.inl o)
     rw[if_pos (.inl o)]at hE
     (
       obtain⟨o0,s0,t0,v0,a0,e0,g0⟩:=aX (l:=out) (i:=0) (by omega)
       obtain⟨o1,s1,t1,v1,a1,e1,g1⟩:=aX (l:=out) (i:=1) (by omega)
       have d0:out.getD 0 (aY zeroV) = .mk o0 s0 t0 v0 a0:=by rw[List.getD_eq_getElem?_getD,List.getElem?_eq_getElem (by omega),e0];rfl
       have d1:out.getD 1 (aY zeroV) = .mk o1 s1 t1 v1 a1:=by rw[List.getD_eq_getElem?_getD,List.getElem?_eq_getElem (by omega),e1];rfl
       rw[d0,d1]at hE
       refine⟨aa out,rfl,⟨by decide,by rw[ag];omega⟩,_,g0,rfl,o0,s0,t0.k,t0.sc,v0.t.k,v0.t.sc,v0.aA,v0.n,v0.s,aa a0,rfl,aa out,rfl,⟨by decide,by rw[ag];omega⟩,_,g1,rfl,o1,s1,t1.k,t1.sc,v1.t.k,v1.t.sc,v1.aA,v1.n,v1.s,aa a1,rfl,?_⟩
       refine(and_self_iff).2 ?_
       refine⟨.mk o0 s0 t0 v0 a0,by rw[ab];rfl,fun h1=>?_,fun h1=>⟨.mk o0 s0 t0 v0 a0,by rw[ab];rfl,fun h2=>?_,fun h2=>⟨.mk o1 s1 t1 v1 a1,by rw[ab];rfl,fun h3=>?_,fun h3=>?_⟩⟩⟩<;>unfold fq at hE<;>rw[h1]at hE
       ·rw[cond_true]at hE;rw[hE,ab];exact⟨rfl,rfl⟩
       ·rw[cond_false,h2,cond_true]at hE;rw[hE,ab];exact⟨rfl,rfl⟩
       ·rw[cond_false,h2,cond_false,h3,cond_true]at hE;rw[hE,ab];exact⟨rfl,rfl⟩
       ·rw[cond_false,h2,cond_false,h3,cond_false]at hE;rw[hE,ab];exact⟨rfl,rfl⟩)
    ·have o:op=11:=eq_of_beq o
     have hm:=dQ h2 (.inr o)
     rw[if_pos (.inr o)]at hE
     (
       obtain⟨o0,s0,t0,v0,a0,e0,g0⟩:=aX (l:=out) (i:=0) (by omega)
       obtain⟨o1,s1,t1,v1,a1,e1,g1⟩:=aX (l:=out) (i:=1) (by omega)
       have d0:out.getD 0 (aY zeroV) = .mk o0 s0 t0 v0 a0:=by rw[List.getD_eq_getElem?_getD,List.getElem?_eq_getElem (by omega),e0];rfl
       have d1:out.getD 1 (aY zeroV) = .mk o1 s1 t1 v1 a1:=by rw[List.getD_eq_getElem?_getD,List.getElem?_eq_getElem (by omega),e1];rfl
       rw[d0,d1]at hE
       refine⟨aa out,rfl,⟨by decide,by rw[ag];omega⟩,_,g0,rfl,o0,s0,t0.k,t0.sc,v0.t.k,v0.t.sc,v0.aA,v0.n,v0.s,aa a0,rfl,aa out,rfl,⟨by decide,by rw[ag];omega⟩,_,g1,rfl,o1,s1,t1.k,t1.sc,v1.t.k,v1.t.sc,v1.aA,v1.n,v1.s,aa a1,rfl,?_⟩
       refine(and_self_iff).2 ?_
       refine⟨.mk o0 s0 t0 v0 a0,by rw[ab];rfl,fun h1=>?_,fun h1=>⟨.mk o0 s0 t0 v0 a0,by rw[ab];rfl,fun h2=>?_,fun h2=>⟨.mk o1 s1 t1 v1 a1,by rw[ab];rfl,fun h3=>?_,fun h3=>?_⟩⟩⟩<;>unfold fq at hE<;>rw[h1]at hE
       ·rw[cond_true]at hE;rw[hE,ab];exact⟨rfl,rfl⟩
       ·rw[cond_false,h2,cond_true]at hE;rw[hE,ab];exact⟨rfl,rfl⟩
       ·rw[cond_false,h2,cond_false,h3,cond_true]at hE;rw[hE,ab];exact⟨rfl,rfl⟩
       ·rw[cond_false,h2,cond_false,h3,cond_false]at hE;rw[hE,ab];exact⟨rfl,rfl⟩)
    ·have o:op=12:=eq_of_beq o
     have hp:=b8 h2 (by omega) (by omega)
     have hp:0<out.length:=by omega
     obtain⟨o0,s0,t0,v0,a0,e0,g0⟩:=aX (l:=out) (i:=0) hp
     have d0:out.getD 0 (aY zeroV) = .mk o0 s0 t0 v0 a0:=by rw[List.getD_eq_getElem?_getD,List.getElem?_eq_getElem (by omega),e0];rfl
     have TC:Pe c (.mk o0 s0 t0 v0 a0):=by rw[←e0];exact tf _ (List.getElem_mem hp)
     rw[if_neg (by omega),if_pos o,d0]at hE
     unfold pk at hE
     dsimp only at hE
     refine⟨aa out,rfl,⟨by decide,by rw[ag];omega⟩,_,g0,rfl,o0,s0,t0.k,t0.sc,v0.t.k,v0.t.sc,v0.aA,v0.n,v0.s,aa a0,rfl,fun mA=>?_,fun mA=>⟨fun k9=>?_,fun k9=>?_⟩⟩
     ·have mA:o0=12:=eq_of_beq mA
      have hl:=b8 (ef.1 TC).2.1 (by omega) (by omega)
      obtain⟨o1,s1,t1,v1,a1,e1,g1⟩:=aX (l:=a0) (i:=0) (by omega)
      rw[if_pos mA]at hE
      have hd:a0.headD (.mk op sub t v out) = .mk o1 s1 t1 v1 a1:=by
          rw[←e1]
          cases a0 with
          |nil=>simp at hl
          |cons b r=>rfl
      rw[hd]at hE
      refine⟨aa a0,rfl,⟨by decide,by rw[ag];omega⟩,_,g1,rfl,o1,s1,t1.k,t1.sc,v1.t.k,v1.t.sc,v1.aA,v1.n,v1.s,aa a1,rfl,?_⟩
      rw[hE,ab];exact⟨rfl,rfl⟩
     ·have mA:o0≠12:=by simpa using mA
      have k9:o0=9:=eq_of_beq k9
      have hs:=oy (by have:=(ef.1 TC).2.1;rw[k9]at this;exact this)
      rw[if_neg mA,if_pos k9]at hE
      refine⟨⟨by omega,by show s0<7;omega⟩,?_⟩
      rw[nr hs.2.1 hs.2.2,hE,ab];exact⟨rfl,rfl⟩
     ·have mA:o0≠12:=by simpa using mA
      have k9:o0≠9:=by simpa using k9
      rw[if_neg mA,if_neg k9]at hE
      rw[hE,ab];exact⟨rfl,rfl⟩
    ·have o:op=14:=eq_of_beq o
     subst o
     rw[if_neg (by omega),if_neg (by omega),if_pos rfl]at hE
     refine⟨.mk 14 sub t v out,ae,by rw[ab];rfl,rfl,zJ.1,by omega,fun u1 B_ k1=>⟨c,sub,t,v,out,rfl,zJ,fun cL aU t' v' l' he=>⟨.mk cL aU t' v' l',ae,by rw[ab];rfl,rfl,by rw[←he];exact(jA zJ).1,by omega,fun u2 tT k2=>?_⟩⟩⟩
     have zr:aV ae (dF sub t v out)=(u2,tT):=(congrArg (aV ae) he).trans k2
     rw[ns k1 zr]at hE
     refine⟨fun hb=>?_,fun hb=>?_⟩
     ·rw[hb,cond_true,he]at hE
      rw[hE,ab];exact⟨rfl,rfl⟩
     ·rw[hb,cond_false]at hE
      rw[hE,ab];exact⟨rfl,rfl⟩
    ·have o:op=16:=eq_of_beq o
     have hp:=b8 h2 (by omega) (by omega)
     have hp:0<out.length:=by omega
     obtain⟨o0,s0,t0,v0,a0,e0,g0⟩:=aX (l:=out) (i:=0) hp
     have d0:out.getD 0 (aY zeroV) = .mk o0 s0 t0 v0 a0:=by rw[List.getD_eq_getElem?_getD,List.getElem?_eq_getElem hp,e0];rfl
     rw[if_neg (by omega),if_neg (by omega),if_neg (by omega),if_pos o,d0]at hE
     have QR:fits (.mk o0 s0 t0 v0 a0):=by rw[←e0];exact(tf _ (List.getElem_mem hp)).1
     refine⟨aa out,rfl,⟨by decide,by rw[ag];omega⟩,_,g0,rfl,o0,s0,t0.k,t0.sc,v0.t.k,v0.t.sc,v0.aA,v0.n,v0.s,aa a0,rfl,.mk o0 s0 t0 v0 a0,ae,by rw[ab];rfl,rfl,QR,by omega,fun u1 B_ k1=>?_⟩
     rw[k1]at hE
     refine⟨fun hs=>⟨aa out,rfl,⟨by decide,by rw[ag];omega⟩,_,g0,rfl,o0,s0,t0.k,t0.sc,v0.t.k,v0.t.sc,v0.aA,v0.n,v0.s,aa a0,rfl,?_⟩,fun hs=>?_⟩
     ·have hs:iw u1 t=true:=hs
      dsimp only at hE
      rw[hs,cond_true]at hE
      rw[hE,ab];exact⟨rfl,rfl⟩
     ·have hs:iw u1 t=false:=hs
      dsimp only at hE
      rw[hs,cond_false]at hE
      rw[hE,ab];exact⟨rfl,rfl⟩
    ·have n10:op≠10:=by simpa using n10
     have n11:op≠11:=by simpa using n11
     have n12:op≠12:=by simpa using n12
     have n14:op≠14:=by simpa using n14
     have n16:op≠16:=by simpa using n16
     rw[if_neg (by omega),if_neg n12,if_neg n14,if_neg n16]at hE
     rw[hE,ab];exact⟨rfl,rfl⟩)
  ·have Ce:qu out=false:=by
    unfold qu
    rw[B5,Bool.not_not]at hA
    rw[hA,Bool.and_false]
   rw[Ce,cond_false,cond_false]at hE
   (
    refine⟨fun o=>?_,fun n10=>⟨fun o=>?_,fun n11=>⟨fun o=>?_,fun n12=>⟨fun o=>?_,fun n14=>⟨fun o=>?_,fun n16=>?_⟩⟩⟩⟩⟩
    ·have o:op=10:=eq_of_beq o
     have hm:=dQ h2 (.inl o)
     rw[if_pos (.inl o)]at hE
     (
       obtain⟨o0,s0,t0,v0,a0,e0,g0⟩:=aX (l:=out) (i:=0) (by omega)
       obtain⟨o1,s1,t1,v1,a1,e1,g1⟩:=aX (l:=out) (i:=1) (by omega)
       have d0:out.getD 0 (aY zeroV) = .mk o0 s0 t0 v0 a0:=by rw[List.getD_eq_getElem?_getD,List.getElem?_eq_getElem (by omega),e0];rfl
       have d1:out.getD 1 (aY zeroV) = .mk o1 s1 t1 v1 a1:=by rw[List.getD_eq_getElem?_getD,List.getElem?_eq_getElem (by omega),e1];rfl
       rw[d0,d1]at hE
       refine⟨aa out,rfl,⟨by decide,by rw[ag];omega⟩,_,g0,rfl,o0,s0,t0.k,t0.sc,v0.t.k,v0.t.sc,v0.aA,v0.n,v0.s,aa a0,rfl,aa out,rfl,⟨by decide,by rw[ag];omega⟩,_,g1,rfl,o1,s1,t1.k,t1.sc,v1.t.k,v1.t.sc,v1.aA,v1.n,v1.s,aa a1,rfl,?_⟩
       refine(and_self_iff).2 ?_
       refine⟨.mk o0 s0 t0 v0 a0,by rw[ab];rfl,fun h1=>?_,fun h1=>⟨.mk o0 s0 t0 v0 a0,by rw[ab];rfl,fun h2=>?_,fun h2=>⟨.mk o1 s1 t1 v1 a1,by rw[ab];rfl,fun h3=>?_,fun h3=>?_⟩⟩⟩<;>unfold fq at hE<;>rw[h1]at hE
       ·rw[cond_true]at hE;rw[hE,ab];exact⟨rfl,rfl⟩
       ·rw[cond_false,h2,cond_true]at hE;rw[hE,ab];exact⟨rfl,rfl⟩
       ·rw[cond_false,h2,cond_false,h3,cond_true]at hE;rw[hE,ab];exact⟨rfl,rfl⟩
       ·rw[cond_false,h2,cond_false,h3,cond_false]at hE;rw[hE,ab];exact⟨rfl,rfl⟩)
    ·have o:op=11:=eq_of_beq o
     have hm:=dQ h2 (.inr o)
     rw[if_pos (.inr o)]at hE
     (
       obtain⟨o0,s0,t0,v0,a0,e0,g0⟩:=aX (l:=out) (i:=0) (by omega)
       obtain⟨o1,s1,t1,v1,a1,e1,g1⟩:=aX (l:=out) (i:=1) (by omega)
       have d0:out.getD 0 (aY zeroV) = .mk o0 s0 t0 v0 a0:=by rw[List.getD_eq_getElem?_getD,List.getElem?_eq_getElem (by omega),e0];rfl
       have d1:out.getD 1 (aY zeroV) = .mk o1 s1 t1 v1 a1:=by rw[List.getD_eq_getElem?_getD,List.getElem?_eq_getElem (by omega),e1];rfl
       rw[d0,d1]at hE
       refine⟨aa out,rfl,⟨by decide,by rw[ag];omega⟩,_,g0,rfl,o0,s0,t0.k,t0.sc,v0.t.k,v0.t.sc,v0.aA,v0.n,v0.s,aa a0,rfl,aa out,rfl,⟨by decide,by rw[ag];omega⟩,_,g1,rfl,o1,s1,t1.k,t1.sc,v1.t.k,v1.t.sc,v1.aA,v1.n,v1.s,aa a1,rfl,?_⟩
       refine(and_self_iff).2 ?_
       refine⟨.mk o0 s0 t0 v0 a0,by rw[ab];rfl,fun h1=>?_,fun h1=>⟨.mk o0 s0 t0 v0 a0,by rw[ab];rfl,fun h2=>?_,fun h2=>⟨.mk o1 s1 t1 v1 a1,by rw[ab];rfl,fun h3=>?_,fun h3=>?_⟩⟩⟩<;>unfold fq at hE<;>rw[h1]at hE
       ·rw[cond_true]at hE;rw[hE,ab];exact⟨rfl,rfl⟩
       ·rw[cond_false,h2,cond_true]at hE;rw[hE,ab];exact⟨rfl,rfl⟩
       ·rw[cond_false,h2,cond_false,h3,cond_true]at hE;rw[hE,ab];exact⟨rfl,rfl⟩
       ·rw[cond_false,h2,cond_false,h3,cond_false]at hE;rw[hE,ab];exact⟨rfl,rfl⟩)
    ·have o:op=12:=eq_of_beq o
     have hp:=b8 h2 (by omega) (by omega)
     have hp:0<out.length:=by omega
     obtain⟨o0,s0,t0,v0,a0,e0,g0⟩:=aX (l:=out) (i:=0) hp
     have d0:out.getD 0 (aY zeroV) = .mk o0 s0 t0 v0 a0:=by rw[List.getD_eq_getElem?_getD,List.getElem?_eq_getElem (by omega),e0];rfl
     have TC:Pe c (.mk o0 s0 t0 v0 a0):=by rw[←e0];exact tf _ (List.getElem_mem hp)
     rw[if_neg (by omega),if_pos o,d0]at hE
     unfold pk at hE
     dsimp only at hE
     refine⟨aa out,rfl,⟨by decide,by rw[ag];omega⟩,_,g0,rfl,o0,s0,t0.k,t0.sc,v0.t.k,v0.t.sc,v0.aA,v0.n,v0.s,aa a0,rfl,fun mA=>?_,fun mA=>⟨fun k9=>?_,fun k9=>?_⟩⟩
     ·have mA:o0=12:=eq_of_beq mA
      have hl:=b8 (ef.1 TC).2.1 (by omega) (by omega)
      obtain⟨o1,s1,t1,v1,a1,e1,g1⟩:=aX (l:=a0) (i:=0) (by omega)
      rw[if_pos mA]at hE
      have hd:a0.headD (.mk op sub t v out) = .mk o1 s1 t1 v1 a1:=by
        rw[←e1]
        cases a0 with
        |nil=>simp at hl
        |cons b r=>rfl
      rw[hd]at hE
      refine⟨aa a0,rfl,⟨by decide,by rw[ag];omega⟩,_,g1,rfl,o1,s1,t1.k,t1.sc,v1.t.k,v1.t.sc,v1.aA,v1.n,v1.s,aa a1,rfl,?_⟩
      rw[hE,ab];exact⟨rfl,rfl⟩
     ·have mA:o0≠12:=by simpa using mA
      have k9:o0=9:=eq_of_beq k9
      have hs:=oy (by have:=(ef.1 TC).2.1;rw[k9]at this;exact this)
      rw[if_neg mA,if_pos k9]at hE
      refine⟨⟨by omega,by show s0<7;omega⟩,?_⟩
      rw[nr hs.2.1 hs.2.2,hE,ab];exact⟨rfl,rfl⟩
     ·have mA:o0≠12:=by simpa using mA
      have k9:o0≠9:=by simpa using k9
      rw[if_neg mA,if_neg k9]at hE
      rw[hE,ab];exact⟨rfl,rfl⟩
    ·have o:op=14:=eq_of_beq o
     subst o
     rw[if_neg (by omega),if_neg (by omega),if_pos rfl]at hE
     refine⟨.mk 14 sub t v out,ae,by rw[ab];rfl,rfl,zJ.1,by omega,fun u1 B_ k1=>⟨c,sub,t,v,out,rfl,zJ,fun cL aU t' v' l' he=>⟨.mk cL aU t' v' l',ae,by rw[ab];rfl,rfl,by rw[←he];exact(jA zJ).1,by omega,fun u2 tT k2=>?_⟩⟩⟩
     have zr:aV ae (dF sub t v out)=(u2,tT):=(congrArg (aV ae) he).trans k2
     rw[ns k1 zr]at hE
     refine⟨fun hb=>?_,fun hb=>?_⟩
     ·rw[hb,cond_true,he]at hE
      rw[hE,ab];exact⟨rfl,rfl⟩
     ·rw[hb,cond_false]at hE
      rw[hE,ab];exact⟨rfl,rfl⟩
    ·have o:op=16:=eq_of_beq o
     have hp:=b8 h2 (by omega) (by omega)
     have hp:0<out.length:=by omega
     obtain⟨o0,s0,t0,v0,a0,e0,g0⟩:=aX (l:=out) (i:=0) hp
     have d0:out.getD 0 (aY zeroV) = .mk o0 s0 t0 v0 a0:=by rw[List.getD_eq_getElem?_getD,List.getElem?_eq_getElem hp,e0];rfl
     rw[if_neg (by omega),if_neg (by omega),if_neg (by omega),if_pos o,d0]at hE
     have QR:fits (.mk o0 s0 t0 v0 a0):=by rw[←e0];exact(tf _ (List.getElem_mem hp)).1
     refine⟨aa out,rfl,⟨by decide,by rw[ag];omega⟩,_,g0,rfl,o0,s0,t0.k,t0.sc,v0.t.k,v0.t.sc,v0.aA,v0.n,v0.s,aa a0,rfl,.mk o0 s0 t0 v0 a0,ae,by rw[ab];rfl,rfl,QR,by omega,fun u1 B_ k1=>?_⟩
     rw[k1]at hE
     refine⟨fun hs=>⟨aa out,rfl,⟨by decide,by rw[ag];omega⟩,_,g0,rfl,o0,s0,t0.k,t0.sc,v0.t.k,v0.t.sc,v0.aA,v0.n,v0.s,aa a0,rfl,?_⟩,fun hs=>?_⟩
     ·have hs:iw u1 t=true:=hs
      dsimp only at hE
      rw[hs,cond_true]at hE
      rw[hE,ab];exact⟨rfl,rfl⟩
     ·have hs:iw u1 t=false:=hs
      dsimp only at hE
      rw[hs,cond_false]at hE
      rw[hE,ab];exact⟨rfl,rfl⟩
    ·have n10:op≠10:=by simpa using n10
     have n11:op≠11:=by simpa using n11
     have n12:op≠12:=by simpa using n12
     have n14:op≠14:=by simpa using n14
     have n16:op≠16:=by simpa using n16
     rw[if_neg (by omega),if_neg n12,if_neg n14,if_neg n16]at hE
     rw[hE,ab];exact⟨rfl,rfl⟩)
  ·have hz:=of_decide_eq_false hz
   rw[ag]at hz
   have Ce:qu out=false:=by
    have:out=[]:=List.eq_nil_of_length_eq_zero (by omega)
    subst this;rfl
   rw[Ce,cond_false,cond_false]at hE
   (
    refine⟨fun o=>?_,fun n10=>⟨fun o=>?_,fun n11=>⟨fun o=>?_,fun n12=>⟨fun o=>?_,fun n14=>⟨fun o=>?_,fun n16=>?_⟩⟩⟩⟩⟩
    ·have o:op=10:=eq_of_beq o
     have hm:=dQ h2 (.inl o)
     rw[if_pos (.inl o)]at hE
     (
       obtain⟨o0,s0,t0,v0,a0,e0,g0⟩:=aX (l:=out) (i:=0) (by omega)
       obtain⟨o1,s1,t1,v1,a1,e1,g1⟩:=aX (l:=out) (i:=1) (by omega)
       have d0:out.getD 0 (aY zeroV) = .mk o0 s0 t0 v0 a0:=by rw[List.getD_eq_getElem?_getD,List.getElem?_eq_getElem (by omega),e0];rfl
       have d1:out.getD 1 (aY zeroV) = .mk o1 s1 t1 v1 a1:=by rw[List.getD_eq_getElem?_getD,List.getElem?_eq_getElem (by omega),e1];rfl
       rw[d0,d1]at hE
       refine⟨aa out,rfl,⟨by decide,by rw[ag];omega⟩,_,g0,rfl,o0,s0,t0.k,t0.sc,v0.t.k,v0.t.sc,v0.aA,v0.n,v0.s,aa a0,rfl,aa out,rfl,⟨by decide,by rw[ag];omega⟩,_,g1,rfl,o1,s1,t1.k,t1.sc,v1.t.k,v1.t.sc,v1.aA,v1.n,v1.s,aa a1,rfl,?_⟩
       refine(and_self_iff).2 ?_
       refine⟨.mk o0 s0 t0 v0 a0,by rw[ab];rfl,fun h1=>?_,fun h1=>⟨.mk o0 s0 t0 v0 a0,by rw[ab];rfl,fun h2=>?_,fun h2=>⟨.mk o1 s1 t1 v1 a1,by rw[ab];rfl,fun h3=>?_,fun h3=>?_⟩⟩⟩<;>unfold fq at hE<;>rw[h1]at hE
       ·rw[cond_true]at hE;rw[hE,ab];exact⟨rfl,rfl⟩
       ·rw[cond_false,h2,cond_true]at hE;rw[hE,ab];exact⟨rfl,rfl⟩
       ·rw[cond_false,h2,cond_false,h3,cond_true]at hE;rw[hE,ab];exact⟨rfl,rfl⟩
       ·rw[cond_false,h2,cond_false,h3,cond_false]at hE;rw[hE,ab];exact⟨rfl,rfl⟩)
    ·have o:op=11:=eq_of_beq o
     have hm:=dQ h2 (.inr o)
     rw[if_pos (.inr o)]at hE
     (
       obtain⟨o0,s0,t0,v0,a0,e0,g0⟩:=aX (l:=out) (i:=0) (by omega)
       obtain⟨o1,s1,t1,v1,a1,e1,g1⟩:=aX (l:=out) (i:=1) (by omega)
       have d0:out.getD 0 (aY zeroV) = .mk o0 s0 t0 v0 a0:=by rw[List.getD_eq_getElem?_getD,List.getElem?_eq_getElem (by omega),e0];rfl
       have d1:out.getD 1 (aY zeroV) = .mk o1 s1 t1 v1 a1:=by rw[List.getD_eq_getElem?_getD,List.getElem?_eq_getElem (by omega),e1];rfl
       rw[d0,d1]at hE
       refine⟨aa out,rfl,⟨by decide,by rw[ag];omega⟩,_,g0,rfl,o0,s0,t0.k,t0.sc,v0.t.k,v0.t.sc,v0.aA,v0.n,v0.s,aa a0,rfl,aa out,rfl,⟨by decide,by rw[ag];omega⟩,_,g1,rfl,o1,s1,t1.k,t1.sc,v1.t.k,v1.t.sc,v1.aA,v1.n,v1.s,aa a1,rfl,?_⟩
       refine(and_self_iff).2 ?_
       refine⟨.mk o0 s0 t0 v0 a0,by rw[ab];rfl,fun h1=>?_,fun h1=>⟨.mk o0 s0 t0 v0 a0,by rw[ab];rfl,fun h2=>?_,fun h2=>⟨.mk o1 s1 t1 v1 a1,by rw[ab];rfl,fun h3=>?_,fun h3=>?_⟩⟩⟩<;>unfold fq at hE<;>rw[h1]at hE
       ·rw[cond_true]at hE;rw[hE,ab];exact⟨rfl,rfl⟩
       ·rw[cond_false,h2,cond_true]at hE;rw[hE,ab];exact⟨rfl,rfl⟩
       ·rw[cond_false,h2,cond_false,h3,cond_true]at hE;rw[hE,ab];exact⟨rfl,rfl⟩
       ·rw[cond_false,h2,cond_false,h3,cond_false]at hE;rw[hE,ab];exact⟨rfl,rfl⟩)
    ·have o:op=12:=eq_of_beq o
     have hp:=b8 h2 (by omega) (by omega)
     have hp:0<out.length:=by omega
     obtain⟨o0,s0,t0,v0,a0,e0,g0⟩:=aX (l:=out) (i:=0) hp
     have d0:out.getD 0 (aY zeroV) = .mk o0 s0 t0 v0 a0:=by rw[List.getD_eq_getElem?_getD,List.getElem?_eq_getElem (by omega),e0];rfl
     have TC:Pe c (.mk o0 s0 t0 v0 a0):=by rw[←e0];exact tf _ (List.getElem_mem hp)
     rw[if_neg (by omega),if_pos o,d0]at hE
     unfold pk at hE
     dsimp only at hE
     refine⟨aa out,rfl,⟨by decide,by rw[ag];omega⟩,_,g0,rfl,o0,s0,t0.k,t0.sc,v0.t.k,v0.t.sc,v0.aA,v0.n,v0.s,aa a0,rfl,fun mA=>?_,fun mA=>⟨fun k9=>?_,fun k9=>?_⟩⟩
     ·have mA:o0=12:=eq_of_beq mA
      have hl:=b8 (ef.1 TC).2.1 (by omega) (by omega)
      obtain⟨o1,s1,t1,v1,a1,e1,g1⟩:=aX (l:=a0) (i:=0) (by omega)
      rw[if_pos mA]at hE
      have hd:a0.headD (.mk op sub t v out) = .mk o1 s1 t1 v1 a1:=by
          rw[←e1]
          cases a0 with
          |nil=>simp at hl
          |cons b r=>rfl
      rw[hd]at hE
      refine⟨aa a0,rfl,⟨by decide,by rw[ag];omega⟩,_,g1,rfl,o1,s1,t1.k,t1.sc,v1.t.k,v1.t.sc,v1.aA,v1.n,v1.s,aa a1,rfl,?_⟩
      rw[hE,ab];exact⟨rfl,rfl⟩
     ·have mA:o0≠12:=by simpa using mA
      have k9:o0=9:=eq_of_beq k9
      have hs:=oy (by have:=(ef.1 TC).2.1;rw[k9]at this;exact this)
      rw[if_neg mA,if_pos k9]at hE
      refine⟨⟨by omega,by show s0<7;omega⟩,?_⟩
      rw[nr hs.2.1 hs.2.2,hE,ab];exact⟨rfl,rfl⟩
     ·have mA:o0≠12:=by simpa using mA
      have k9:o0≠9:=by simpa using k9
      rw[if_neg mA,if_neg k9]at hE
      rw[hE,ab];exact⟨rfl,rfl⟩
    ·have o:op=14:=eq_of_beq o
     subst o
     rw[if_neg (by omega),if_neg (by omega),if_pos rfl]at hE
     refine⟨.mk 14 sub t v out,ae,by rw[ab];rfl,rfl,zJ.1,by omega,fun u1 B_ k1=>⟨c,sub,t,v,out,rfl,zJ,fun cL aU t' v' l' he=>⟨.mk cL aU t' v' l',ae,by rw[ab];rfl,rfl,by rw[←he];exact(jA zJ).1,by omega,fun u2 tT k2=>?_⟩⟩⟩
     have zr:aV ae (dF sub t v out)=(u2,tT):=(congrArg (aV ae) he).trans k2
     rw[ns k1 zr]at hE
     refine⟨fun hb=>?_,fun hb=>?_⟩
     ·rw[hb,cond_true,he]at hE
      rw[hE,ab];exact⟨rfl,rfl⟩
     ·rw[hb,cond_false]at hE
      rw[hE,ab];exact⟨rfl,rfl⟩
    ·have o:op=16:=eq_of_beq o
     have hp:=b8 h2 (by omega) (by omega)
     have hp:0<out.length:=by omega
     obtain⟨o0,s0,t0,v0,a0,e0,g0⟩:=aX (l:=out) (i:=0) hp
     have d0:out.getD 0 (aY zeroV) = .mk o0 s0 t0 v0 a0:=by rw[List.getD_eq_getElem?_getD,List.getElem?_eq_getElem hp,e0];rfl
     rw[if_neg (by omega),if_neg (by omega),if_neg (by omega),if_pos o,d0]at hE
     have QR:fits (.mk o0 s0 t0 v0 a0):=by rw[←e0];exact(tf _ (List.getElem_mem hp)).1
     refine⟨aa out,rfl,⟨by decide,by rw[ag];omega⟩,_,g0,rfl,o0,s0,t0.k,t0.sc,v0.t.k,v0.t.sc,v0.aA,v0.n,v0.s,aa a0,rfl,.mk o0 s0 t0 v0 a0,ae,by rw[ab];rfl,rfl,QR,by omega,fun u1 B_ k1=>?_⟩
     rw[k1]at hE
     refine⟨fun hs=>⟨aa out,rfl,⟨by decide,by rw[ag];omega⟩,_,g0,rfl,o0,s0,t0.k,t0.sc,v0.t.k,v0.t.sc,v0.aA,v0.n,v0.s,aa a0,rfl,?_⟩,fun hs=>?_⟩
     ·have hs:iw u1 t=true:=hs
      dsimp only at hE
      rw[hs,cond_true]at hE
      rw[hE,ab];exact⟨rfl,rfl⟩
     ·have hs:iw u1 t=false:=hs
      dsimp only at hE
      rw[hs,cond_false]at hE
      rw[hE,ab];exact⟨rfl,rfl⟩
    ·have n10:op≠10:=by simpa using n10
     have n11:op≠11:=by simpa using n11
     have n12:op≠12:=by simpa using n12
     have n14:op≠14:=by simpa using n14
     have n16:op≠16:=by simpa using n16
     rw[if_neg (by omega),if_neg n12,if_neg n14,if_neg n16]at hE
     rw[hE,ab];exact⟨rfl,rfl⟩)
def Ns(a:List R)(K:KT):Prop:=match a with
 |[.agg x,.d (.sl y)]=>∃(c:Int) (e:EX) (ae:List Ty),x=cells e∧y=ae.map Ty.cs∧Pe c e∧ae.length≤8796093022208∧kG (tR ae e) K
 |_=>False
theorem Nt(G:aZ gl):CK gl Ns 13:=fun a K h=>by
 unfold Ns at h
 split at h
 ·obtain⟨c,e,ae,rfl,rfl,h1,h2,h3⟩:=h
  exact jB (agN G _ c e ae (Nat.lt_succ_self _) h1 h2) h3
 ·exact h.elim
def TE:aj:=au (au d_ 12 IC) 13 Ns
theorem Nu(G:aZ gl):ah prog gl TE:=af (af bh xc) (Nt G)
theorem ank(op sub:Int)(t:Ty)(v:Go.Ex.AV)(args:List EX)(y:List (List D))(Q:KT):vc bl TE bf fi5 (f5.body.getD .skip) f5.results.toList [.agg (aT op sub t v (aa args)),.d (.sl y)] Q=(Zcy op sub t v args y Q):=by kernel_rfl
theorem anl(G:aZ gl):∀(e:EX) (ae:List Ty),fits e→ae.length≤8796093022208→Ct prog gl 5 [.agg (cells e),.d (.sl (ae.map Ty.cs))] (gives [.agg (cells (wj ae e).1),.d (.v (.int .i64 (wj ae e).2))])
 | .mk op sub t v args,ae,hf,fw=>by
   have hc:aT op sub t v (aa args)=cells (.mk op sub t v args):=(ab _ _ _ _ _).symm
   rw[ab]
   refine aw bN (Nu G) aF bD mixed (fn:=f5) (body:=f5.body.getD .skip) (by kernel_rfl) (by kernel_rfl) (by kernel_rfl) (fi:=fi5) (by kernel_rfl) (by kernel_rfl) ⟨_,_,rfl,rfl⟩ ?_
   rw[ank];dsimp -eta -iota -proj only[Zcy,Zgd,SW,SV,Fl,zC,Z1,xQ]
   refine⟨.mk op sub t v args,ae,hc,rfl,hf,by omega,fun t1 ff hk=>⟨fun h=>?_,fun h=>?_⟩⟩
   ·have:wj ae (.mk op sub t v args)=(tg,ff):=by
       unfold wj
       rw[hk]
       dsimp only
       rw[h];rfl
    rw[this]
    have hz:cells tg=aT 0 0 ⟨0,0⟩ zeroV []:=ab _ _ _ _ _
    dsimp only
    rw[hz]
    exact⟨rfl,rfl⟩
   ·have:wj ae (.mk op sub t v args)=(tR ae (.mk op sub t v args),0):=by
       unfold wj
       rw[hk]
       dsimp only
       rw[h];rfl
    rw[this]
    have hm:=iN (ae:=ae) (e:=.mk op sub t v args) (by rw[hk];simpa using h)
    refine⟨(ae.length:Int),.mk op sub t v args,ae,hc,rfl,⟨hf,hm.1⟩,fw,fun cL aU t' v' l' he=>?_⟩
    rw[he,ab]
    exact⟨rfl,rfl⟩
def tU(n:Int):EX:=.mk 2 0 ⟨0,0⟩ (zG n) []
def V8(b:Bool):Go.Ex.AV:=⟨⟨1,0⟩,false,bif b then 1 else 0,{data:={toList:=[]:Array UInt8}:ByteArray}⟩
def xK:EX:=.mk 1 0 ⟨0,0⟩ zeroV []
def bgX:EX:=.mk 10 0 ⟨0,0⟩ zeroV [.mk 9 5 ⟨0,0⟩ zeroV [xK,.mk 3 0 ⟨0,0⟩ zeroV [tU 1,tU 1]],.mk 2 0 ⟨0,0⟩ (V8 true) []]
def bgY:EX:=.mk 9 5 ⟨0,0⟩ zeroV [xK,tU 2]
theorem QY:wj [⟨2,0⟩] bgX=(bgY,0):=by kernel_rfl
def E5:aj:=au (au (au d_ 42 OM) 43 Db) 44 Dl
theorem anm(n:Int)(Q:KT):vc bl E5 bf Yp (f15.body.getD .skip) f15.results.toList [.d (.v (.int .i64 n))] Q=(Q [.agg [.i 2,.i 0,.i 0,.i 0,.i 2,.i 0,.v (.bool false),.i n,.v (.string ⟨⟨[]⟩⟩),.sl []]] []):=by kernel_rfl
theorem agQ(y:List (List D))(Q:KT):vc bl E5 bf YC (f45.body.getD .skip) f45.results.toList [.agg (aT 9 5 ⟨0,0⟩ zeroV y)] Q=((((9:Int)==9)=true→(((5:Int)==1)=true→Q [.d (.v (.string {data:={toList:=[(61:UInt8)]:Array UInt8}:ByteArray}))] [])∧(((5:Int)==1)=false→(((5:Int)==2)=true→Q [.d (.v (.string {data:={toList:=[(60:UInt8),(62:UInt8)]:Array UInt8}:ByteArray}))] [])∧(((5:Int)==2)=false→(((5:Int)==3)=true→Q [.d (.v (.string {data:={toList:=[(60:UInt8)]:Array UInt8}:ByteArray}))] [])∧(((5:Int)==3)=false→(((5:Int)==4)=true→Q [.d (.v (.string {data:={toList:=[(60:UInt8),(61:UInt8)]:Array UInt8}:ByteArray}))] [])∧(((5:Int)==4)=false→(((5:Int)==5)=true→Q [.d (.v (.string {data:={toList:=[(62:UInt8)]:Array UInt8}:ByteArray}))] [])∧(((5:Int)==5)=false→(((5:Int)==6)=true→Q [.d (.v (.string {data:={toList:=[(62:UInt8),(61:UInt8)]:Array UInt8}:ByteArray}))] [])∧(((5:Int)==6)=false→Vf Q)))))))∧(((9:Int)==9)=false→(((9:Int)==16)=true→ar (0:Int)∧{data:={toList:=[(99:UInt8),(97:UInt8),(115:UInt8),(116:UInt8),(58:UInt8)]:Array UInt8}:ByteArray}.size.succ≤(9223372036854775807:Nat)∧(((0:Int)==3)=true→ar (0:Int)∧{data:={toList:=[(46:UInt8)]:Array UInt8}:ByteArray}.size.succ≤(9223372036854775807:Nat)∧({data:={toList:=[(99:UInt8),(97:UInt8),(115:UInt8),(116:UInt8),(58:UInt8)]:Array UInt8}:ByteArray}++tx (Lib.itoa (0:Int))).size.succ.succ≤(9223372036854775807:Nat)∧Q [.d (.v (.string ({data:={toList:=[(99:UInt8),(97:UInt8),(115:UInt8),(116:UInt8),(58:UInt8)]:Array UInt8}:ByteArray}++tx (Lib.itoa (0:Int))++({data:={toList:=[(46:UInt8)]:Array UInt8}:ByteArray}++tx (Lib.itoa (0:Int))))))] [])∧(((0:Int)==3)=false→Q [.d (.v (.string ({data:={toList:=[(99:UInt8),(97:UInt8),(115:UInt8),(116:UInt8),(58:UInt8)]:Array UInt8}:ByteArray}++tx (Lib.itoa (0:Int)))))] []))∧(((9:Int)==16)=false→((bif decide ((9:Int)<3)then true else decide ((9:Int)>18))=true→Vf Q)∧((bif decide ((9:Int)<3)then true else decide ((9:Int)>18))=false→((0:Int)≤IntKind.i64.wrap ((9:Int)-3)∧IntKind.i64.wrap ((9:Int)-3)<(↑(16:Nat):Int))∧(1:Nat)=(1:Nat)∧∃(cells:List D),[[D.v (.string {data:={toList:=[(43:UInt8)]:Array UInt8}:ByteArray})],[D.v (.string {data:={toList:=[(45:UInt8)]:Array UInt8}:ByteArray})],[D.v (.string {data:={toList:=[(42:UInt8)]:Array UInt8}:ByteArray})],[D.v (.string {data:={toList:=[(47:UInt8)]:Array UInt8}:ByteArray})],[D.v (.string {data:={toList:=[(37:UInt8)]:Array UInt8}:ByteArray})],[D.v (.string {data:={toList:=[(110:UInt8),(101:UInt8),(103:UInt8)]:Array UInt8}:ByteArray})],[D.v (.string ⟨⟨[]⟩⟩)],[D.v (.string {data:={toList:=[(97:UInt8),(110:UInt8),(100:UInt8)]:Array UInt8}:ByteArray})],[D.v (.string {data:={toList:=[(111:UInt8),(114:UInt8)]:Array UInt8}:ByteArray})],[D.v (.string {data:={toList:=[(110:UInt8),(111:UInt8),(116:UInt8)]:Array UInt8}:ByteArray})],[D.v (.string {data:={toList:=[(105:UInt8),(115:UInt8),(110:UInt8),(117:UInt8),(108:UInt8),(108:UInt8)]:Array UInt8}:ByteArray})],[D.v (.string {data:={toList:=[(99:UInt8),(97:UInt8),(115:UInt8),(101:UInt8)]:Array UInt8}:ByteArray})],[D.v (.string {data:={toList:=[(99:UInt8),(111:UInt8),(97:UInt8),(108:UInt8),(101:UInt8),(115:UInt8),(99:UInt8),(101:UInt8)]:Array UInt8}:ByteArray})],[D.v (.string ⟨⟨[]⟩⟩)],[D.v (.string {data:={toList:=[(124:UInt8),(124:UInt8)]:Array UInt8}:ByteArray})],[D.v (.string {data:={toList:=[(108:UInt8),(101:UInt8),(110:UInt8),(103:UInt8),(116:UInt8),(104:UInt8)]:Array UInt8}:ByteArray})]][(IntKind.i64.wrap ((9:Int)-3)).toNat]? = some cells∧∃(b:ByteArray),cut 0 1 cells=some [D.v (.string b)]∧Q [.d (.v (.string b))] [])))):=by kernel_rfl
theorem agR(y:List (List D))(Q:KT):vc bl E5 bf {Gl with lp:=[]} (f17.body.getD .skip) f17.results.toList [.agg (aT 1 0 ⟨0,0⟩ zeroV y)] Q=((((1:Int)==1)=true→ar (0:Int)∧{data:={toList:=[(36:UInt8)]:Array UInt8}:ByteArray}.size.succ≤(9223372036854775807:Nat)∧Q [.d (.v (.string ({data:={toList:=[(36:UInt8)]:Array UInt8}:ByteArray}++tx (Lib.itoa (0:Int)))))] [])∧(((1:Int)==1)=false→(((1:Int)==2)=true→jj {t:={k:=(0:Int),sc:=(0:Int):Ty},aA:=false,n:=(0:Int),s:={data:={toList:=[]:Array UInt8}:ByteArray}:AV}∧(0:Int)≠(4:Int)∧Q [.d (.v (.string (tx (ez {t:={k:=(0:Int),sc:=(0:Int):Ty},aA:=false,n:=(0:Int),s:={data:={toList:=[]:Array UInt8}:ByteArray}:AV}))))] [])∧(((1:Int)==2)=false→False))):=by kernel_rfl
theorem agS(y:List (List D))(Q:KT):vc bl E5 bf {Gl with lp:=[]} (f17.body.getD .skip) f17.results.toList [.agg (aT 2 0 ⟨0,0⟩ (zG 2) y)] Q=((((2:Int)==1)=true→ar (0:Int)∧{data:={toList:=[(36:UInt8)]:Array UInt8}:ByteArray}.size.succ≤(9223372036854775807:Nat)∧Q [.d (.v (.string ({data:={toList:=[(36:UInt8)]:Array UInt8}:ByteArray}++tx (Lib.itoa (0:Int)))))] [])∧(((2:Int)==1)=false→(((2:Int)==2)=true→jj {t:={k:=(2:Int),sc:=(0:Int):Ty},aA:=false,n:=(2:Int),s:={data:={toList:=[]:Array UInt8}:ByteArray}:AV}∧(2:Int)≠(4:Int)∧Q [.d (.v (.string (tx (ez {t:={k:=(2:Int),sc:=(0:Int):Ty},aA:=false,n:=(2:Int),s:={data:={toList:=[]:Array UInt8}:ByteArray}:AV}))))] [])∧(((2:Int)==2)=false→False))):=by kernel_rfl
theorem oE:ah prog gl E5:=af (af (af bh CJ) yY) zg
def tB(l:List UInt8):ByteArray:=⟨l.toArray⟩
theorem agT:tx (Lib.itoa 0)=tB [48]:=by
 rw[show Lib.itoa 0=[48]from by unfold Lib.itoa;simp[Lib.decDigits]];rfl
theorem agU:tx (ez (zG 2))=tB [50]:=by
 rw[show ez (zG 2)=Lib.itoa 2 from rfl,show Lib.itoa 2=[50]from by unfold Lib.itoa;simp[Lib.decDigits]];rfl
theorem ann(n:Int):Ct prog gl 15 [.d (.v (.int .i64 n))] (gives [.agg (aT 2 0 ⟨0,0⟩ (zG n) [])]):=by
 refine cz oE f15 Yp ⟨_,_,rfl,rfl⟩ ?_
 rw[anm];exact⟨rfl,rfl⟩
theorem agV(y:List (List D)):Ct prog gl 45 [.agg (aT 9 5 ⟨0,0⟩ zeroV y)] (gives [.d (.v (.string (tB [62])))]):=by
 refine cz oE f45 YC ⟨_,_,rfl,rfl⟩ ?_
 rw[agQ];dsimp -eta -iota -proj only[Vf,Zg1]
 exact⟨fun _=>⟨fun h=>absurd h (by decide),fun _=>⟨fun h=>absurd h (by decide),fun _=>⟨fun h=>absurd h (by decide),fun _=>⟨fun h=>absurd h (by decide),fun _=>⟨fun _=>⟨rfl,rfl⟩,fun h=>absurd h (by decide)⟩⟩⟩⟩⟩,fun h=>absurd h (by decide)⟩
theorem agW(y:List (List D)):Ct prog gl 17 [.agg (aT 1 0 ⟨0,0⟩ zeroV y)] (gives [.d (.v (.string (tB [36,48])))]):=by
 refine cz oE f17 {Gl with lp:=[]} ⟨_,_,rfl,rfl⟩ ?_
 rw[agR,agT]
 exact⟨fun _=>⟨⟨by decide,by decide⟩,by decide,rfl,rfl⟩,fun h=>absurd h (by decide)⟩
theorem agX(y:List (List D)):Ct prog gl 17 [.agg (aT 2 0 ⟨0,0⟩ (zG 2) y)] (gives [.d (.v (.string (tB [50])))]):=by
 refine cz oE f17 {Gl with lp:=[]} ⟨_,_,rfl,rfl⟩ ?_
 rw[agS,show tx (ez ({t:={k:=2,sc:=0:Ty},aA:=false,n:=2,s:={data:={toList:=[]:Array UInt8}:ByteArray}:Go.Ex.AV}))=tB [50]from agU]
 exact⟨fun h=>absurd h (by decide),fun _=>⟨fun _=>⟨⟨⟨by decide,by decide⟩,by decide,by decide,by decide,by decide,fun h=>absurd h (by decide),by decide⟩,by decide,rfl,rfl⟩,fun h=>absurd h (by decide)⟩⟩
def V9(a:List R)(K:KT):Prop:=match a with
 |[.d (.v (.int .i64 n))]=>K [.agg (aT 2 0 ⟨0,0⟩ (zG n) [])] []
 |_=>False
def Nv(a:List R)(K:KT):Prop:=match a with
 |[.agg x]=>∃y:List (List D),x=aT 9 5 ⟨0,0⟩ zeroV y∧K [.d (.v (.string (tB [62])))] []
 |_=>False
inductive Shown:List D→ByteArray→Prop
 |col (y:List (List D)):Shown (aT 1 0 ⟨0,0⟩ zeroV y) (tB [36,48])
 |num (y:List (List D)):Shown (aT 2 0 ⟨0,0⟩ (zG 2) y) (tB [50])
def V_(a:List R)(K:KT):Prop:=match a with
 |[.agg x]=>∃s:ByteArray,Shown x s∧K [.d (.v (.string s))] []
 |_=>False
theorem QZ:CK gl V9 15:=fun a K h=>by
 unfold V9 at h
 split at h
 ·exact(ann _).gives h
 ·exact h.elim
theorem Nw:CK gl Nv 45:=fun a K h=>by
 unfold Nv at h
 split at h
 ·obtain⟨y,rfl,h⟩:=h;exact(agV y).gives h
 ·exact h.elim
theorem Q0:CK gl V_ 17:=fun a K h=>by
 unfold V_ at h
 split at h
 ·obtain⟨s,hs,h⟩:=h
  cases hs with
  |col y=>exact(agW y).gives h
  |num y=>exact(agX y).gives h
 ·exact h.elim
def agY:aj:=au (au E5 45 Nv) 17 V_
theorem Q1:ah prog gl agY:=af (af oE Nw) Q0
structure BX where
 i:Nat
 s:ByteArray
def agZ(y:List (List D))(x:BX):St:={tm:=[(1,.ref 1 0),(2,.d (.v (.string {data:={toList:=[]:Array UInt8}:ByteArray}))),(3,.d (.v (.string x.s))),(4,.d (.v (.int .i64 (x.i:Int))))],hp:=[(1,.box [.d (.v (.int .i64 9)),.d (.v (.int .i64 5)),.d (.v (.int .i64 0)),.d (.v (.int .i64 0)),.d (.v (.int .i64 0)),.d (.v (.int .i64 0)),.d (.v (.bool false)),.d (.v (.int .i64 0)),.d (.v (.string {data:={toList:=[]:Array UInt8}:ByteArray})),.d (.sl y)])],kn:=[],gd:=[]}
def Xh:Nat→ByteArray
 |0=>tB [40,62]
 |1=>tB [40,62,32,36,48]
 |_=>tB [40,62,32,36,48,32,50]
def TF(y:List (List D)):Fi:={Gl with lx:=[(8,{X:=BX,sh:=agZ y,P:=fun _ m x=>x.i≤2∧m=2-x.i∧x.s=Xh x.i})]}
def Zio(a0:List (List D)):List D:=[.i 9,.i 5,.i 0,.i 0,.i 0,.i 0,.v (.bool false),.i 0,.v (.string ⟨⟨[]⟩⟩),.sl a0]
def Zfm(a0:BX)(a1:List (List D)):St:={tm:=[(1,.ref 1 0),(2,.d (.v (.string ⟨⟨[]⟩⟩))),(3,.d (.v (.string a0.2))),(4,.i (↑a0.1:Int))],hp:=[(1,.box [.i 9,.i 5,.i 0,.i 0,.i 0,.i 0,.d (.v (.bool false)),.i 0,.d (.v (.string ⟨⟨[]⟩⟩)),.d (.sl a1)])],kn:=[],gd:=[]:St}
theorem anq(y:List (List D))(Q:KT):vc bl agY bf (TF y) (f17.body.getD .skip) f17.results.toList [.agg (aT 9 5 ⟨0,0⟩ zeroV y)] Q=((((9:Int)==1)=true→ar (5:Int)∧{data:={toList:=[(36:UInt8)]:Array UInt8}:ByteArray}.size.succ≤(9223372036854775807:Nat)∧Q [.d (.v (.string ({data:={toList:=[(36:UInt8)]:Array UInt8}:ByteArray}++tx (Lib.itoa (5:Int)))))] [])∧(((9:Int)==1)=false→(((9:Int)==2)=true→jj {t:={k:=(0:Int),sc:=(0:Int):Ty},aA:=false,n:=(0:Int),s:={data:={toList:=[]:Array UInt8}:ByteArray}:AV}∧(0:Int)≠(4:Int)∧Q [.d (.v (.string (tx (ez {t:={k:=(0:Int),sc:=(0:Int):Ty},aA:=false,n:=(0:Int),s:={data:={toList:=[]:Array UInt8}:ByteArray}:AV}))))] [])∧(((9:Int)==2)=false→fy fun y_1=>(Zio y)=(Zio y_1)∧{data:={toList:=[(40:UInt8)]:Array UInt8}:ByteArray}.size.succ≤(9223372036854775807:Nat)∧∃(x0:BX),({tm:=[(1,.ref 1 0),(2,.d (.v (.string ⟨⟨[]⟩⟩))),(3,.d (.v (.string ({data:={toList:=[(40:UInt8)]:Array UInt8}:ByteArray}++tB [(62:UInt8)])))),(4,.i 0)],hp:=[(1,.box [.i 9,.i 5,.i 0,.i 0,.i 0,.i 0,.d (.v (.bool false)),.i 0,.d (.v (.string ⟨⟨[]⟩⟩)),.d (.sl y)])],kn:=[],gd:=[]:St}=(Zfm x0 y)∧∃(n:Nat),x0.1≤(2:Nat)∧n=(2:Nat)-x0.1∧x0.2=Xh x0.1)∧∀(n:Nat) (x:BX),x.1≤(2:Nat)∧n=(2:Nat)-x.1∧x.2=Xh x.1→zF y fun es=>(decide ((↑x.1:Int)<(↑es.length:Int))=true→zF y fun es=>(0≤(↑x.1:Int)∧(↑x.1:Int)<(↑es.length:Int))∧∃(cells:List D),es[(↑x.1:Int).toNat]? = some cells∧Zs cells fun aN aW bO dv c_ fS b gI cD es=>∃(s:ByteArray),Shown (Z2 aN aW bO dv c_ fS b gI cD es) s∧{data:={toList:=[(32:UInt8)]:Array UInt8}:ByteArray}.size.add s.size≤(9223372036854775807:Nat)∧(x.2.size.add ([].append s.data.1).length).succ≤(9223372036854775807:Nat)∧∃(m:Nat),∃(x':BX),m<n∧{tm:=[(1,.ref 1 0),(2,.d (.v (.string ⟨⟨[]⟩⟩))),(3,.d (.v (.string (x.2++({data:={toList:=[(32:UInt8)]:Array UInt8}:ByteArray}++s))))),(4,.i (IntKind.i64.wrap ((↑x.1:Int)+1)))],hp:=[(1,.box [.i 9,.i 5,.i 0,.i 0,.i 0,.i 0,.d (.v (.bool false)),.i 0,.d (.v (.string ⟨⟨[]⟩⟩)),.d (.sl y)])],kn:=[],gd:=[]:St}=(Zfm x' y)∧x'.1≤(2:Nat)∧m=(2:Nat)-x'.1∧x'.2=Xh x'.1)∧(decide ((↑x.1:Int)<(↑es.length:Int))=false→x.2.size.succ≤(9223372036854775807:Nat)∧Q [.d (.v (.string (x.2++{data:={toList:=[(41:UInt8)]:Array UInt8}:ByteArray})))] [])))):=by kernel_rfl
theorem anr:Ct prog gl 17 [.agg (cells bgY)] (gives [.d (.v (.string (tB [40,62,32,36,48,32,50,41])))]):=by
 have hc:cells bgY=aT 9 5 ⟨0,0⟩ zeroV (aa [xK,tU 2]):=ab _ _ _ _ _
 have h0:(aa [xK,tU 2])[0]? = some (aT 1 0 ⟨0,0⟩ zeroV []):=rfl
 have h1:(aa [xK,tU 2])[1]? = some (aT 2 0 ⟨0,0⟩ (zG 2) []):=rfl
 have hl:(aa [xK,tU 2]).length=2:=rfl
 rw[hc]
 generalize hy:aa [xK,tU 2]=y at *
 refine aw bN Q1 aF bD mixed (fn:=f17) (body:=f17.body.getD .skip) (by kernel_rfl) (by kernel_rfl) (by kernel_rfl) (fi:=TF y) (by kernel_rfl) (by kernel_rfl) ⟨_,_,rfl,rfl⟩ ?_
 rw[anq];dsimp -eta -iota -proj only[fy,Zio,Zfm,zF,Zs,Zr,Z2]
 refine⟨fun h=>absurd h (by decide),fun _=>⟨fun h=>absurd h (by decide),fun _=>⟨y,rfl,by decide,(⟨0,tB [40,62]⟩:BX),⟨rfl,2,by decide,rfl,rfl⟩,fun m (x:BX) hx=>⟨y,rfl,fun hi=>?_,fun hi=>?_⟩⟩⟩⟩
 ·obtain⟨i,s⟩:=x
  obtain⟨g1,g2,g3⟩:=hx
  dsimp only at g1 g2 g3 hi ⊢
  rw[hl]at hi
  have hi:i<2:=by have:=of_decide_eq_true hi;omega
  rcases(by omega:i=0∨i=1)with rfl|rfl
  ·subst g3
   exact⟨y,rfl,⟨by decide,by rw[hl];decide⟩,_,h0,rfl,_,_,_,_,_,_,_,_,_,_,rfl,_,.col _,by decide,by decide,1,⟨1,Xh 1⟩,by omega,rfl,by decide,rfl,rfl⟩
  ·subst g3
   exact⟨y,rfl,⟨by decide,by rw[hl];decide⟩,_,h1,rfl,_,_,_,_,_,_,_,_,_,_,rfl,_,.num _,by decide,by decide,0,⟨2,Xh 2⟩,by omega,rfl,by decide,rfl,rfl⟩
 ·obtain⟨i,s⟩:=x
  obtain⟨g1,g2,g3⟩:=hx
  dsimp only at g1 g2 g3 hi ⊢
  rw[hl]at hi
  have hi:¬(i:Int)<2:=by simpa using hi
  have:i=2:=by omega
  subst this;subst g3
  exact⟨by decide,rfl,rfl⟩
def Cf(a:List R)(K:KT):Prop:=match a with
 |[.agg x,.d (.sl y)]=>∃(e:EX) (ae:List Ty),x=cells e∧y=ae.map Ty.cs∧fits e∧ae.length≤8796093022208∧∀(cL aU:Int) (t':Ty) (v':Go.Ex.AV) (l':List EX) (w:Int),wj ae e=(.mk cL aU t' v' l',w)→K [.agg (aT cL aU t' v' (aa l')),.d (.v (.int .i64 w))] []
 |_=>False
theorem DE(G:aZ gl):CK gl Cf 5:=fun a K h=>by
 unfold Cf at h
 split at h
 ·obtain⟨e,ae,rfl,rfl,h1,h2,h3⟩:=h
  have hc:=anl G e ae h1 h2
  rcases hr:wj ae e with⟨⟨cL,aU,t',v',l'⟩,w⟩
  rw[hr]at hc
  dsimp only at hc
  rw[ab]at hc
  exact hc.gives (h3 _ _ _ _ _ _ hr)
 ·exact h.elim
def Nx(a:List R)(K:KT):Prop:=match a with
 |[.agg x]=>x=cells bgY∧K [.d (.v (.string (tB [40,62,32,36,48,32,50,41])))] []
 |_=>False
theorem Ny:CK gl Nx 17:=fun a K h=>by
 unfold Nx at h
 split at h
 ·obtain⟨rfl,h⟩:=h;exact anr.gives h
 ·exact h.elim
def ag0:aj:=au (au (au (au d_ 16 OP) 15 V9) 5 Cf) 17 Nx
theorem Q2(G:aZ gl):ah prog gl ag0:=af (af (af (af bh CL) QZ) (DE G)) Ny
theorem ans(u:Nat)(Q:KT):vc bl ag0 bf fi7 (f7.body.getD .skip) f7.results.toList [] Q=(∃(e:EX),∃(ae:List Ty),[D.i 10,D.i 0,D.i 0,D.i 0,D.i 0,D.i 0,D.v (.bool false),D.i 0,D.v (.string ⟨⟨[]⟩⟩),D.sl [[D.i 9,D.i 5,D.i 0,D.i 0,D.i 0,D.i 0,D.v (.bool false),D.i 0,D.v (.string ⟨⟨[]⟩⟩),D.sl [[D.i 1,D.i 0,D.i 0,D.i 0,D.i 0,D.i 0,D.v (.bool false),D.i 0,D.v (.string ⟨⟨[]⟩⟩),D.sl []],[D.i 3,D.i 0,D.i 0,D.i 0,D.i 0,D.i 0,D.v (.bool false),D.i 0,D.v (.string ⟨⟨[]⟩⟩),D.sl [[D.i 2,D.i 0,D.i 0,D.i 0,D.i 2,D.i 0,D.v (.bool false),D.i 1,D.v (.string ⟨⟨[]⟩⟩),D.sl []],[D.i 2,D.i 0,D.i 0,D.i 0,D.i 2,D.i 0,D.v (.bool false),D.i 1,D.v (.string ⟨⟨[]⟩⟩),D.sl []]]]]],[D.i 2,D.i 0,D.i 0,D.i 0,D.i 1,D.i 0,D.v (.bool false),D.i (nO true),D.v (.string ⟨⟨[]⟩⟩),D.sl []]]]=cells e∧[[D.i 2,D.i 0]]=List.map Ty.cs ae∧fits e∧ae.length≤8796093022208∧∀(cL aU:Int) (t':Ty) (v':AV) (l':List EX) (w:Int),wj ae e=(EX.mk cL aU t' v' l',w)→[D.i cL,D.i aU,D.i t'.1,D.i t'.2,D.i v'.1.1,D.i v'.1.2,D.v (.bool v'.2),D.i v'.3,D.v (.string v'.4),D.sl (aa l')]=cells bgY∧Q [.d (.v (.bool (bif w==0 then tB [(40:UInt8),(62:UInt8),(32:UInt8),(36:UInt8),(48:UInt8),(32:UInt8),(50:UInt8),(41:UInt8)]=={data:={toList:=[(40:UInt8),(62:UInt8),(32:UInt8),(36:UInt8),(48:UInt8),(32:UInt8),(50:UInt8),(41:UInt8)]:Array UInt8}:ByteArray} else false)))] []):=by kernel_rfl
theorem Q3:fits bgX:=by
 simp only[bgX,xK,tU,V8,zG,zeroV,fits,eY,ar,cond_true,List.length_cons,List.length_nil]
 repeat' (first|(refine And.intro ?_ ?_)|trivial|decide)
theorem ant(G:aZ gl):Ct prog gl 7 [] (gives [.d (.v (.bool true))]):=by
 refine aw bN (Q2 G) aF bD mixed (fn:=f7) (body:=f7.body.getD .skip) (by kernel_rfl) (by kernel_rfl) (by kernel_rfl) (fi:=fi7) (by kernel_rfl) (by kernel_rfl) ⟨_,_,rfl,rfl⟩ ?_
 rw[ans 0]
 refine⟨bgX,[⟨2,0⟩],?_,rfl,Q3,by decide,fun cL aU t' v' l' w h=>?_⟩
 ·simp only[bgX,xK,tU,cells,aa,zeroV,zG,V8];rfl
 ·rw[QY]at h
  obtain⟨h1,rfl⟩:=Prod.mk.inj h
  refine⟨?_,?_,rfl⟩
  ·rw[h1];exact(ab _ _ _ _ _).symm
  ·rfl
theorem Nz:CK gl Cf 6:=fun a K h=>by
 unfold Cf at h
 split at h
 ·obtain⟨e,ae,rfl,rfl,h1,h2,h3⟩:=h
  have hc:=anc (gl:=gl) e ae h1 h2
  rcases hr:wj ae e with⟨⟨cL,aU,t',v',l'⟩,w⟩
  rw[hr]at hc
  dsimp only at hc
  rw[ab]at hc
  exact hc.gives (h3 _ _ _ _ _ _ hr)
 ·exact h.elim
def NA(a:List R)(K:KT):Prop:=match a with
 |[]=>K [.d (.v (.bool true))] []
 |_=>False
theorem NB(G:aZ gl):CK gl NA 7:=fun a K h=>by
 unfold NA at h
 split at h
 ·exact(ant G).gives h
 ·exact h.elim
def NC(a:List R)(K:KT):Prop:=match a with
 |[.agg x,.agg y]=>∃a b:EX,x=cells a∧y=cells b∧fits a∧fits b∧K [.d (.v (.bool (jb a b)))] []
 |_=>False
theorem ND:CK gl NC 8:=fun a K h=>by
 unfold NC at h
 split at h
 ·obtain⟨a,b,rfl,rfl,h1,h2,h3⟩:=h
  exact(aco _ a b (Nat.lt_succ_self _) h1 h2).gives h3
 ·exact h.elim
def TG:aj:=au (au (au (au d_ 5 Cf) 6 Cf) 7 NA) 8 NC
theorem NF(G:aZ gl):ah prog gl TG:=af (af (af (af bh (DE G)) Nz) (NB G)) ND
def Zh8(a0 a1:Int)(a2:Ty)(a3:Go.Ex.AV)(a4:List EX)(a5:List (List D))(k:Int→Int→Ty→AV→(List EX)→Int→Prop):Prop:=Zgd a0 a1 a2 a3 a4 a5 fun e ae=>∀(cL aU:Int) (t':Ty) (v':AV) (l':List EX) (w:Int),wj ae e=(EX.mk cL aU t' v' l',w)→k cL aU t' v' l' w
theorem vc4(op sub:Int)(t:Ty)(v:Go.Ex.AV)(args:List EX)(y:List (List D))(Q:KT):vc bl TG bf fi3 (f3.body.getD .skip) f3.results.toList [.agg (aT op sub t v (aa args)),.d (.sl y)] Q=(Zh8 op sub t v args y fun cL aU t' v' l' w=>Zh8 op sub t v args y fun ag1 V' anv anw anx tC=>∃(a b:EX),Zht cL aU t' v' l' a (Zht ag1 V' anv anw anx b (fits a∧fits b∧Q [.d (.v (.bool (bif bif true then jb a b else false then w==tC else false)))] []))):=by kernel_rfl
theorem Cg:fits tg:=by
 unfold tg
 simp only[fits,eY]
 exact⟨⟨⟨by decide,by decide⟩,⟨by decide,by decide⟩,⟨by decide,by decide⟩,⟨by decide,by decide⟩,⟨by decide,by decide⟩,⟨by decide,by decide⟩,⟨by decide,by decide⟩⟩,by decide,trivial⟩
theorem NG{ae:List Ty}{e:EX}(hf:fits e):fits (wj ae e).1:=by
 unfold wj
 cases h:(aV ae e).2 != 0
 ·have hm:=iN (ae:=ae) (e:=e) (by simpa using h)
  exact(MY (c:=(ae.length:Int)) ⟨hf,hm.1⟩).1
 ·exact Cg
theorem ct4(G:aZ gl):∀(e:EX) (ae:List Ty),fits e→ae.length≤8796093022208→Ct prog gl 3 [.agg (cells e),.d (.sl (ae.map Ty.cs))] (gives [.d (.v (.bool true))])
 | .mk op sub t v args,ae,hf,fw=>by
   have hc:aT op sub t v (aa args)=cells (.mk op sub t v args):=(ab _ _ _ _ _).symm
   rw[ab]
   refine aw bN (NF G) aF bD mixed (fn:=f3) (body:=f3.body.getD .skip) (by kernel_rfl) (by kernel_rfl) (by kernel_rfl) (fi:=fi3) (by kernel_rfl) (by kernel_rfl) ⟨_,_,rfl,rfl⟩ ?_
   rw[vc4];dsimp -eta -iota -proj only[Zh8,Zgd,SW,SV,Fl,zC,Z1,Zht,xQ]
   refine⟨.mk op sub t v args,ae,hc,rfl,hf,fw,fun o1 s1 t1 v1 l1 w1 h1=>⟨.mk op sub t v args,ae,hc,rfl,hf,fw,fun o2 s2 t2 v2 l2 w2 h2=>?_⟩⟩
   rw[h1]at h2
   injection h2 with ha hb
   injection ha with a1 a2 a3 a4 a5
   subst a1;subst a2;subst a3;subst a4;subst a5;subst hb
   have hff:=NG (ae:=ae) hf
   rw[h1]at hff
   refine⟨.mk o1 s1 t1 v1 l1,.mk o1 s1 t1 v1 l1,by rw[ab];rfl,by rw[ab];rfl,hff,hff,?_⟩
   have hs:jb (.mk o1 s1 t1 v1 l1) (.mk o1 s1 t1 v1 l1)=true:=by unfold jb;simp
   have hw:(w1==w1)=true:=beq_self_eq_true w1
   rw[hs,hw]
   exact⟨rfl,rfl⟩
end Go.Proofs.Tryz
