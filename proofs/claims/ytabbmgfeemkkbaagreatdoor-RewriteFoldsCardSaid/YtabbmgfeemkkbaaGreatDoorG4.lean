/- Part of the proof: contracts of functions; no condition. -/
import Derived.Test.YtabbmgfeemkkbaaGreatDoorG0
import Derived.RangeFuncBox
import Derived.RangeFuncLeaves
import Derived.Shelf.Abstract
import Derived.Shelf.RegionOpen
import Derived.WalkKit
import Derived.OwnWalkIn
import Derived.TacticsInMore
import Derived.LoopNIn
import Derived.LoopIn
import Derived.Lib.MinMax
namespace Go.Proofs.Tryz
open Go Go.RowKit Go.Shelf Go.Dm
attribute [local go_sem] Oper.semAt_some
set_option maxRecDepth 100000
set_option maxHeartbeats 2000000
theorem MZ:prog.follows .mixedOrders=true:=by kernel_rfl
theorem VU(l Bs Bn o1 o2:Nat)(ad:Option Addr)(len cap nn:Nat)(hn:1≤nn)(hs:len+nn≤9223372036854775807)(hlc:len≤cap)
  (T:Nat→Nat→Prop) (hT0:T 0 0) (hT1:∀k i,T k i→T (k+1) (i+nn))
  (J:Nat→World→Prop) (X:World→Prop) (Kp:World→Prop) (hKs:∀W,Kp W→W.cell? ⟨Bs,o1,none⟩=some (.slice ad len cap)) (hKn:∀W,Kp W→W.cell? ⟨Bn,o2,none⟩=some (.int .i64 nn))
  (hJd:∀i W,J i W→J i W.drew) (hKd:∀W,Kp W→Kp W.drew)
  (hY:∀(k i c:Nat) (v:Value) (W:World),T k i→J k W→Kp W→i<len→c=min nn (len-i)→v = .slice (ad.map (·.add (i*10))) c c→Dm.YieldAt prog l v W fun b W'=>Kp W'∧(b=true→J (k+1) W')∧(b=false→X W'))
  (W:World) (hK:Kp W) (h0:J 0 W):
  CallsIn Fence.wide 0 prog 108 #[.func (.yield l) #[] #[],.pointer (some ⟨Bs,o1,none⟩),.pointer (some ⟨Bn,o2,none⟩)] W fun e W'=>(∃v,e = .returned v)∧((∃k i,T k i∧len≤i∧i<len+nn∧J k W')∨X W'):=by
 have hbs:=hKs W hK
 have hbn:=hKn W hK
 have MZ:=MZ
 refine callsIn_of_wp func108 rfl trivial ?_ rfl
 simp only[ntmps108,List.size_toArray,List.length_cons,List.length_nil,Nat.reduceAdd,Nat.reduceSub,Array.replicate_succ,Array.replicate_zero,List.push_toArray,List.append_toArray,List.nil_append,List.cons_append]
 gi_wp2
 gi_loopw [4] (fun v wr=>∃k i:Nat,v = .int .i64 (i:Int)∧T k i∧i<len+nn∧J k wr∧Kp wr)
  (fun i _=>len+nn-(intOf i).toNat)
 case atStart=>exact⟨0,0,by simp,hT0,by omega,h0,hK⟩
 case round=>
  obtain⟨k,i,rfl,hik,hk,hJs,hKs'⟩:=hrel
  have hbs:=hKs _ hKs'
  have hbn:=hKn _ hKs'
  have hYk:=hY k i
  have hJd':J k wr.drew:=hJd k wr hJs
  have hKd':Kp wr.drew:=hKd wr hKs'
  by_cases hlt:i<len
  ·have hlt':(i:Int)<(len:Int):=by omega
   gi_wp2
   gi_region
   gi_wp2
   have hv:((i:Int)+min (nn:Int) ((len-i:Nat):Int)).toNat-i=min nn (len-i):=by omega
   obtain⟨fn,tmps,assign,body,hy,hR⟩:=hYk (min nn (len-i)) _ wr.drew hik hJd' hKd' hlt rfl rfl
   rw[hv,hy]
   refine⟨fun h=>by simp[Fence.wide]at h,hR.mono ?_⟩
   rintro e W3 ⟨b,rfl,hK3,ht,hf⟩
   have hbn3:=hKn _ hK3
   cases b
   ·gi_wp2
    refine bodyPost_ret (results_none rfl _ _ _) rfl ?_
    exact⟨⟨_,rfl⟩,.inr (hf (by simp))⟩
   ·gi_wp2
    go_roundw
    case rel=>exact⟨k+1,i+nn,by simp,hT1 k i hik,by omega,ht (by simp),hK3⟩
    case measure=>simp[intOf];omega
  ·gi_wp2
   go_end0
   exact⟨⟨_,rfl⟩,.inl ⟨k,i,hik,by omega,hk,hJs⟩⟩
def ik(es:List (List D))(nn:Nat):List R:=(List.range ((es.length+nn-1)/nn)).map fun k=>R.d (.sl ((es.drop (k*nn)).take nn))
theorem VW{ok:Nat→Prop}{w:World}{es:List (List D)}{ad:Option Addr}{cap sz i c nn:Nat}(h:Rd ok w (.slice ad es.length cap) (.sl es))(hsz:∀c∈es,c.length=sz)(hi:i<es.length)(hc:c=min nn (es.length-i)):
  Rd ok w (.slice (ad.map (·.add (i*sz))) c c) (.sl ((es.drop i).take nn)):=by
 generalize hv:Value.slice ad es.length cap=v at h
 generalize hd:D.sl es=d at h
 cases h with
 |v h=>cases hd
 |nil=>cases hd;simp at hi
 |aA=>cases hd;simp at hi
 |wm=>cases hd
 | @sl b off iE iz eC x dy fQ agc E' hr=>
   cases hd
   simp only[Value.slice.injEq]at hv
   obtain⟨rfl,_,rfl⟩:=hv
   have hs:eC=sz:=by rw[←agc _ (List.getElem_mem hi),hsz _ (List.getElem_mem hi)]
   subst hs
   have hlen:((es.drop i).take nn).length=c:=by simp;omega
   have gO:∀j,j<c→((es.drop i).take nn).getD j []=es.getD (i+j) []:=by
    intro j hj
    rw[List.getD_eq_getElem?_getD,List.getElem?_take,List.getElem?_drop,if_pos (by omega),List.getD_eq_getElem?_getD]
   have ha:(some (⟨b,off,none⟩:Addr)).map (·.add (i*eC))=some ⟨b,off+i*eC,none⟩:=by simp[addr_add]
   rw[ha]
   have:=Rd.sl (ok:=ok) (w:=w) (b:=b) (off:=off+i*eC) (cap:=c) (es:=(es.drop i).take nn) eC (fun p j=>x (i+p) j) (by omega) (fun _=>fQ (by rintro rfl;simp at hi))
    (fun c hc=>agc c (List.mem_of_mem_drop (List.mem_of_mem_take hc))) (fun p j hp hj=>?_) (fun p j hp hj=>?_)
   ·rw[hlen]at this;exact this
   ·rw[hlen]at hp
    have:=E' (i+p) j (by omega) hj
    have e:off+i*eC+(p*eC+j)=off+((i+p)*eC+j):=by rw[Nat.add_mul];omega
    rw[e];exact this
   ·rw[hlen]at hp
    rw[gO p hp]
    exact hr (i+p) j (by omega) hj
theorem amT(es:List (List D))(nn:Nat)(hn:1≤nn)(hs:es.length+nn≤9223372036854775807)(Fu:∀c∈es,c.length=10):Its prog 108 [.ptr [.sl es],.ptr [.v (.int .i64 nn)]] (ik es nn):=by
 refine⟨⟨f108,func108,by decide,rfl⟩,fun w ok vs l fQ hl oY J X h0 hJ hX sk=>?_⟩
 match vs,hl with
 |[v1,v2],_=>
 have r1:=oY 0 _ v1 rfl rfl
 have r2:=oY 1 _ v2 rfl rfl
 cases r1 with
 | @bW b1 o1 Xm x1 N9 T3 hr1=>
 cases r2 with
 | @bW b2 o2 cs2 x2 amU Ir hr2=>
 have c1:=T3 0 (by simp)
 have c2:=Ir 0 (by simp)
 have d1:=hr1 0 (by simp)
 have d2:=hr2 0 (by simp)
 rw[Nat.add_zero]at c1 c2
 have e2:x2 0 = .int .i64 nn:=by
  have:Rd ok w (x2 0) (.v (.int .i64 nn)):=d2
  generalize x2 0=v at this
  cases this;rfl
 rw[e2]at c2
 obtain⟨ad,cap,e1,dy⟩:∃ad cap,x1 0 = .slice ad es.length cap∧es.length≤cap:=by
  have:Rd ok w (x1 0) (.sl es):=d1
  generalize x1 0=v at this
  cases this with
  |nil=>exact⟨none,0,rfl,Nat.le_refl _⟩
  | @aA a cap=>exact⟨some a,cap,rfl,Nat.zero_le _⟩
  |sl sz x dy=>exact⟨_,_,rfl,dy⟩
 have d1:Rd ok w (.slice ad es.length cap) (.sl es):=by rw[←e1];exact d1
 rw[e1]at c1
 have hb1:=N9 (by simp)
 have du:=amU (by simp)
 let Kp:World→Prop:=fun W=>∀b,ok b→W.heap[b]? = w.heap[b]?
 have hdiv:∀k,es.length≤k*nn→k*nn<es.length+nn→(es.length+nn-1)/nn=k:=by
  intro k h1 h2
  refine Nat.div_eq_of_lt_le (by omega) ?_
  rw[Nat.add_mul,Nat.one_mul];omega
 have:=VU l b1 b2 o1 o2 ad es.length cap nn hn hs dy (fun k i=>i=k*nn) (by simp) (fun k i h=>by rw[h,Nat.add_mul,Nat.one_mul]) J X Kp
  (fun W hW=>(World.cell?_of_block (hW _ hb1)).trans c1) (fun W hW=>(World.cell?_of_block (hW _ du)).trans c2) (fun i W h=>hJ i W _ h) (fun W h=>h)
  (fun k i c v W hT hJk hK hi hc hv=>?_) w (fun _ _=>rfl) h0
 ·refine(callsIn_wide.1 this).mono ?_
  rintro e W ⟨he,hW⟩
  refine⟨he,hW.imp ?_ id⟩
  rintro⟨k,i,rfl,h1,h2,hj⟩
  have:(ik es nn).length=k:=by simp[ik,hdiv k h1 h2]
  rw[this];exact hj
 ·subst hT
  have hx:(ik es nn)[k]? = some (.d (.sl ((es.drop (k*nn)).take nn))):=by
   have:k<(es.length+nn-1)/nn:=by
    rw[Nat.lt_div_iff_mul_lt (by omega)];omega
   simp[ik,this]
  have cK:=VW d1 Fu hi hc
  rw[←hv]at cK
  have:=sk k _ W v hx hJk hK (.d (cK.mono (fun _ h=>h) (fun b hb=>hK b hb)) .nil)
  obtain⟨fn,tmps,assign,body,hy,hR⟩:=this
  refine⟨fn,tmps,assign,body,hy,hR.mono ?_⟩
  rintro e W' ⟨b,he,h1,h2,h3⟩
  exact⟨b,he,fun b hb=>(h1 b hb).trans (hK b hb),h2,h3⟩
end Go.Proofs.Tryz
namespace Go.Proofs.Tryz
open Go Go.Dm Go.Ex
set_option maxRecDepth 100000
variable {gl:Nat→Option Obj}
def kG(r:EX)(K:KT):Prop:=∀(cL aU:Int) (t':Ty) (v':Go.Ex.AV) (l':List EX),r = .mk cL aU t' v' l'→K [.agg (aT cL aU t' v' (aa l'))] []
theorem jB{f:Nat}{a:List R}{K:KT}{r:EX}(h:Ct prog gl f a (gives [.agg (cells r)]))(hk:kG r K):Ct prog gl f a K:=by
 obtain⟨cL,aU,t',v',l'⟩:=r
 have:=hk cL aU t' v' l' rfl
 rw[←ab]at this
 exact h.gives this
theorem agd(v:Go.Ex.AV)(Q:KT):vc bl d_ bf Yx (f38.body.getD .skip) f38.results.toList [.agg v.cs] Q=(Q [.agg [.i 2,.i 0,.i 0,.i 0,.i v.1.1,.i v.1.2,.v (.bool v.2),.i v.3,.v (.string v.4),.sl []]] []):=by kernel_rfl
theorem age(v:Go.Ex.AV):Ct prog gl 38 [.agg v.cs] (gives [.agg (cells (aY v))]):=by
 refine cz bh f38 Yx ⟨_,_,rfl,rfl⟩ ?_
 rw[agd]
 have:cells (aY v)=aT 2 0 ⟨0,0⟩ v []:=ab _ _ _ _ _
 rw[this]
 exact⟨rfl,rfl⟩
def M3(a:List R)(K:KT):Prop:=match a with
 |[.agg [.v (.int .i64 k),.v (.int .i64 sc),.v (.bool b),.v (.int .i64 m),.v (.string s)]]=>K [.agg (aT 2 0 ⟨0,0⟩ ⟨⟨k,sc⟩,b,m,s⟩ [])] []
 |_=>False
theorem M4:CK gl M3 38:=fun a K h=>by
 unfold M3 at h
 split at h
 ·rename_i k sc b m s
  have hc:cells (aY ⟨⟨k,sc⟩,b,m,s⟩)=aT 2 0 ⟨0,0⟩ ⟨⟨k,sc⟩,b,m,s⟩ []:=ab _ _ _ _ _
  rw[←hc]at h
  exact(age ⟨⟨k,sc⟩,b,m,s⟩).gives h
 ·exact h.elim
theorem agf(op sub:Int)(t:Ty)(v:Go.Ex.AV)(args:List EX)(b:Bool)(Q:KT):vc bl d_ bf Y3 (f80.body.getD .skip) f80.results.toList [.agg (aT op sub t v (aa args)),.d (.v (.bool b))] Q=(Q [.d (.v (.bool (bif op==2 then v.1.1==1&&(v.1.2==0&&(v.2==false&&(v.3==nO b&&(v.4=={data:={toList:=[]:Array UInt8}:ByteArray}&&true))))else false)))] []):=by kernel_rfl
theorem agh:∀(e:EX) (b:Bool),Ct prog gl 80 [.agg (cells e),.d (.v (.bool b))] (gives [.d (.v (.bool (pj e b)))])
 | .mk op sub t v args,b=>by
   rw[ab]
   refine cz bh f80 Y3 ⟨_,_,rfl,rfl⟩ ?_
   rw[agf]
   exact⟨rfl,rfl⟩
def M5(a:List R)(K:KT):Prop:=match a with
 |[.agg x,.d (.v (.bool b))]=>∃e:EX,x=cells e∧K [.d (.v (.bool (pj e b)))] []
 |_=>False
theorem M6:CK gl M5 80:=fun a K h=>by
 unfold M5 at h
 split at h
 ·obtain⟨e,rfl,h1⟩:=h
  exact(agh e _).gives h1
 ·exact h.elim
def M7:aj:=au d_ 38 M3
theorem E0:ah prog gl M7:=af bh M4
def xH:aj:=au M7 80 M5
theorem po:ah prog gl xH:=af E0 M6
def Tv(a0:Int)(a1:List (List D))(k:Int→Int→Int→Int→Int→Int→Bool→Int→ByteArray→(List (List D))→Prop):Prop:=uD a0 a1 fun cells=>Zs cells fun n aN aW bO dv c_ b fS cD es=>k n aN aW bO dv c_ b fS cD es
def Zgo(a0:List EX)(k:Int→Int→Int→Int→Int→Int→Bool→Int→ByteArray→(List (List D))→Prop):Prop:=gS a0 fun es=>Tv (0:Int) es fun n aN aW bO dv c_ b fS cD es=>k n aN aW bO dv c_ b fS cD es
def Dy(a0:KT)(a1 a2 a3 a4 a5 a6:Int)(a7:Bool)(a8:Int)(a9:ByteArray)(eV:List (List D)):Prop:=a0 [.agg (Z2 a1 a2 a3 a4 a5 a6 a7 a8 a9 eV)] []
def Zde(a0 a1 a2 a3 a4 a5:Int)(a6:Bool)(a7:Int)(a8:ByteArray)(a9:List (List D))(eV:EX)(fI:Int)(a12:KT)(cl W_ Xa Xb a17 Xc:Int)(Xd:Bool)(a20:Int)(a21:ByteArray)(a22:List (List D))(k:Prop):Prop:=lU a0 a1 a2 a3 a4 a5 a6 a7 a8 a9 eV ((pj eV (fI==10)=true→Dy a12 cl W_ Xa Xb a17 Xc Xd a20 a21 a22)∧k)
def Zju(a0 a1 a2 a3 a4 a5:Int)(a6:Bool)(a7:Int)(a8:ByteArray)(a9:List (List D))(eV:Int)(fI:KT)(a12 cl W_ Xa Xb a17:Int)(Xc:Bool)(Xd:Int)(a20:ByteArray)(a21:List (List D))(k:EX→Prop):Prop:=∃(e:EX),Zde a0 a1 a2 a3 a4 a5 a6 a7 a8 a9 e eV fI a12 cl W_ Xa Xb a17 Xc Xd a20 a21 (k e)
def Zc3(a0 a1:Int)(a2:Ty)(a3:Go.Ex.AV)(a4:List EX):List R:=[.agg (Z1 a0 a1 a2 a3 a4)]
def QP(a0:KT)(a1 a2:Int)(a3:Ty)(a4:Go.Ex.AV)(a5:List EX):Prop:=a0 (Zc3 a1 a2 a3 a4 a5) []
theorem agk(op sub:Int)(t:Ty)(v:Go.Ex.AV)(args:List EX)(Q:KT):vc bl xH bf Yy (f39.body.getD .skip) f39.results.toList [.agg (aT op sub t v (aa args))] Q=(Zgo args fun n aN aW bO dv c_ b fS cD es=>Qt args (1:Int) fun cells=>Zy cells fun gI mr zA mb mc me kU mf jn s_ e=>Zde n aN aW bO dv c_ b fS cD es e op Q gI mr zA mb mc me kU mf jn s_ ((pj e (op==10)=false→∃(e:EX),lU n aN aW bO dv c_ b fS cD es e (((pj e !op==10)=true→Dy Q n aN aW bO dv c_ b fS cD es)∧((pj e !op==10)=false→Zju gI mr zA mb mc me kU mf jn s_ op Q n aN aW bO dv c_ b fS cD es fun e=>(pj e (op==10)=false→QP Q op sub t v args)))))):=by kernel_rfl
theorem agl(op sub:Int)(t:Ty)(v:Go.Ex.AV)(args:List EX)(h:2≤args.length):Ct prog gl 39 [.agg (aT op sub t v (aa args))] (gives [.agg (cells (fq op (args.getD 0 (aY zeroV)) (args.getD 1 (aY zeroV)) (.mk op sub t v args)))]):=by
 refine cz po f39 Yy ⟨_,_,rfl,rfl⟩ ?_
 rw[agk];dsimp -eta -iota -proj only[Zgo,gS,fy,Tv,uD,Zs,Zr,Z2,Qt,Zy,Zde,lU,Dy,Zju,QP,Zc3,Z1]
 obtain⟨o0,s0,t0,v0,a0,e0,g0⟩:=aX (l:=args) (i:=0) (by omega)
 obtain⟨o1,s1,t1,v1,a1,e1,g1⟩:=aX (l:=args) (i:=1) (by omega)
 have d0:args.getD 0 (aY zeroV) = .mk o0 s0 t0 v0 a0:=by rw[List.getD_eq_getElem?_getD,List.getElem?_eq_getElem (by omega),e0];rfl
 have d1:args.getD 1 (aY zeroV) = .mk o1 s1 t1 v1 a1:=by rw[List.getD_eq_getElem?_getD,List.getElem?_eq_getElem (by omega),e1];rfl
 rw[d0,d1]
 refine⟨aa args,rfl,⟨by decide,by rw[ag];omega⟩,_,g0,rfl,o0,s0,t0.k,t0.sc,v0.t.k,v0.t.sc,v0.aA,v0.n,v0.s,aa a0,rfl,aa args,rfl,⟨by decide,by rw[ag];omega⟩,_,g1,rfl,o1,s1,t1.k,t1.sc,v1.t.k,v1.t.sc,v1.aA,v1.n,v1.s,aa a1,rfl,.mk o0 s0 t0 v0 a0,by rw[ab];rfl,fun h1=>?_,fun h1=>⟨.mk o0 s0 t0 v0 a0,by rw[ab];rfl,fun h2=>?_,fun h2=>⟨.mk o1 s1 t1 v1 a1,by rw[ab];rfl,fun h3=>?_,fun h3=>?_⟩⟩⟩<;>unfold fq<;>rw[h1]
 ·rw[cond_true,ab];exact⟨rfl,rfl⟩
 all_goals rw[cond_false,h2]
 ·rw[cond_true,ab];exact⟨rfl,rfl⟩
 all_goals rw[cond_false,h3]
 ·rw[cond_true,ab];exact⟨rfl,rfl⟩
 ·rw[cond_false,ab];exact⟨rfl,rfl⟩
def Zef(a0:Int)(a1:List (List D))(a2:KT):Prop:=(a0==12)=true→zF a1 fun kS=>Tv (0:Int) kS fun n gI mr zA mb mc b me kU es=>Dy a2 n gI mr zA mb mc b me kU es
def Zen(a0:Int)(a1:List (List D))(a2:KT)(k:Prop):Prop:=(Zef a0 a1 a2)∧k
theorem agm(op sub:Int)(t:Ty)(v:Go.Ex.AV)(args:List EX)(Q:KT):vc bl xH bf Yz (f40.body.getD .skip) f40.results.toList [.agg (aT op sub t v (aa args))] Q=(Zgo args fun n aN aW bO dv c_ b fS cD es=>Zen n es Q (((n==12)=false→((n==9)=true→Q [.agg [.i n,.i (jd aN),.i aW,.i bO,.i dv,.i c_,.v (.bool b),.i fS,.v (.string cD),.sl es]] [])∧((n==9)=false→QP Q op sub t v args)))):=by kernel_rfl
theorem agn(op sub:Int)(t:Ty)(v:Go.Ex.AV)(args:List EX)(h:1≤args.length)(hn:∀a,args[0]? = some a→a.op=12→1≤a.args.length):Ct prog gl 40 [.agg (aT op sub t v (aa args))] (gives [.agg (cells (pk (args.getD 0 (aY zeroV)) (.mk op sub t v args)))]):=by
 refine cz po f40 Yz ⟨_,_,rfl,rfl⟩ ?_
 rw[agm];dsimp -eta -iota -proj only[Zgo,gS,fy,Tv,uD,Zs,Zr,Z2,Zen,Zef,zF,Dy,QP,Zc3,Z1]
 obtain⟨o0,s0,t0,v0,a0,e0,g0⟩:=aX (l:=args) (i:=0) (by omega)
 have d0:args.getD 0 (aY zeroV) = .mk o0 s0 t0 v0 a0:=by rw[List.getD_eq_getElem?_getD,List.getElem?_eq_getElem (by omega),e0];rfl
 have hn:=hn (.mk o0 s0 t0 v0 a0) (by rw[List.getElem?_eq_getElem (by omega),e0])
 rw[d0]
 refine⟨aa args,rfl,⟨by decide,by rw[ag];omega⟩,_,g0,rfl,o0,s0,t0.k,t0.sc,v0.t.k,v0.t.sc,v0.aA,v0.n,v0.s,aa a0,rfl,fun h1=>?_,fun h1=>⟨fun h2=>?_,fun h2=>?_⟩⟩
 ·have h1:o0=12:=eq_of_beq h1
  have hl:1≤a0.length:=hn h1
  obtain⟨o1,s1,t1,v1,a1,e1,g1⟩:=aX (l:=a0) (i:=0) (by omega)
  have:pk (.mk o0 s0 t0 v0 a0) (.mk op sub t v args) = .mk o1 s1 t1 v1 a1:=by
   unfold pk
   dsimp only
   rw[if_pos h1,←e1]
   cases a0 with
   |nil=>simp at hl
   |cons b r=>rfl
  rw[this,ab]
  exact⟨aa a0,rfl,⟨by decide,by rw[ag];omega⟩,_,g1,rfl,o1,s1,t1.k,t1.sc,v1.t.k,v1.t.sc,v1.aA,v1.n,v1.s,aa a1,rfl,rfl,rfl⟩
 ·have h1:o0≠12:=by simpa using h1
  have h2:o0=9:=eq_of_beq h2
  unfold pk
  dsimp only
  rw[if_neg h1,if_pos h2,ab]
  exact⟨rfl,rfl⟩
 ·have h1:o0≠12:=by simpa using h1
  have h2:o0≠9:=by simpa using h2
  unfold pk
  dsimp only
  rw[if_neg h1,if_neg h2,ab]
  exact⟨rfl,rfl⟩
def M8(a:List R)(K:KT):Prop:=match a with
 |[.agg x]=>∃(op sub:Int) (t:Ty) (v:Go.Ex.AV) (args:List EX),x=aT op sub t v (aa args)∧2≤args.length∧kG (fq op (args.getD 0 (aY zeroV)) (args.getD 1 (aY zeroV)) (.mk op sub t v args)) K
 |_=>False
theorem M9:CK gl M8 39:=fun a K h=>by
 unfold M8 at h
 split at h
 ·obtain⟨op,sub,t,v,args,rfl,h1,h2⟩:=h
  exact jB (agl op sub t v args h1) h2
 ·exact h.elim
def M_(a:List R)(K:KT):Prop:=match a with
 |[.agg x]=>∃(op sub:Int) (t:Ty) (v:Go.Ex.AV) (args:List EX),x=aT op sub t v (aa args)∧1≤args.length∧(∀a,args[0]? = some a→a.op=12→1≤a.args.length)∧kG (pk (args.getD 0 (aY zeroV)) (.mk op sub t v args)) K
 |_=>False
theorem M':CK gl M_ 40:=fun a K h=>by
 unfold M_ at h
 split at h
 ·obtain⟨op,sub,t,v,args,rfl,h1,h2,h3⟩:=h
  exact jB (agn op sub t v args h1 h2) h3
 ·exact h.elim
def Dz:aj:=au xH 10 QK
theorem ta:ah prog gl Dz:=af po Dw
structure CQ where
 j:Nat
 acc:List EX
def VY(op sub:Int)(t:Ty)(v:Go.Ex.AV)(args:List EX)(y:List (List D))(kP dW:Int)(lt:Ty)(lv:Go.Ex.AV)(la:List EX)(x:CQ):St:={tm:=[(1,.d (.sl y)),(2,.ref 2 0),(4,.ref 4 0),(5,.d (.v (.int .i64 (args.length:Int)))),(6,.own 50006),(7,.ref 7 0),(8,.d (.v (.int .i64 (2*(x.j:Int)))))],hp:=[(2,.box [.d (.v (.int .i64 op)),.d (.v (.int .i64 sub)),.d (.v (.int .i64 t.k)),.d (.v (.int .i64 t.sc)),.d (.v (.int .i64 v.t.k)),.d (.v (.int .i64 v.t.sc)),.d (.v (.bool v.aA)),.d (.v (.int .i64 v.n)),.d (.v (.string v.s)),.d (.sl (aa args))]),(4,.box [.d (.v (.int .i64 0)),.d (.v (.int .i64 0)),.d (.v (.int .i64 0)),.d (.v (.int .i64 0)),.d (.v (.int .i64 0)),.d (.v (.int .i64 0)),.d (.v (.bool false)),.d (.v (.int .i64 0)),.d (.v (.string {data:={toList:=[]:Array UInt8}:ByteArray})),.nil]),(7,.box [.d (.v (.int .i64 kP)),.d (.v (.int .i64 dW)),.d (.v (.int .i64 lt.k)),.d (.v (.int .i64 lt.sc)),.d (.v (.int .i64 lv.t.k)),.d (.v (.int .i64 lv.t.sc)),.d (.v (.bool lv.aA)),.d (.v (.int .i64 lv.n)),.d (.v (.string lv.s)),.d (.sl (aa la))]),(50006,.bu 28 10 (aa x.acc))],kn:=[],gd:=[]}
def oz(args:List EX)(m:Nat)(x:CQ):Prop:=2*x.j<args.length∧m=args.length-x.j∧x.acc.length≤2*x.j∧cm args=(x.acc++(cm (args.drop (2*x.j))).1,(cm (args.drop (2*x.j))).2)
def Na(op sub:Int)(t:Ty)(v:Go.Ex.AV)(args:List EX)(y:List (List D))(kP dW:Int)(lt:Ty)(lv:Go.Ex.AV)(la:List EX):Fi:={aj9 with cv:=[(5,[⟨none,6,50006,28,10⟩])],lx:=[(5,{X:=CQ,sh:=VY op sub t v args y kP dW lt lv la,P:=fun _=>oz args})]}
def Ze7(a0:List EX)(k:(List (List D))→Int→Int→Int→Int→Int→Int→Bool→Int→ByteArray→(List (List D))→Prop):Prop:=Zer a0 fun es cells=>Zs cells fun n aN aW bO dv c_ b fS cD s_=>k es n aN aW bO dv c_ b fS cD s_
def Zb8(a0:List (List D))(a1:List EX)(a2:CQ)(a3 a4:Int)(a5:Ty)(a6:Go.Ex.AV)(a7 a8:Int)(a9:Ty)(eV:Go.Ex.AV)(fI:List EX):St:={tm:=[(1,.d (.sl a0)),(2,.ref 2 0),(4,.ref 4 0),(5,.i (↑a1.length:Int)),(6,.own 50006),(7,.ref 7 0),(8,.i ((2:Int)*(↑a2.1:Int)))],hp:=[(2,.box [.i a3,.i a4,.i a5.1,.i a5.2,.i a6.1.1,.i a6.1.2,.d (.v (.bool a6.2)),.i a6.3,.d (.v (.string a6.4)),.d (.sl (aa a1))]),(4,.box [.i 0,.i 0,.i 0,.i 0,.i 0,.i 0,.d (.v (.bool false)),.i 0,.d (.v (.string ⟨⟨[]⟩⟩)),.nil]),(7,.box [.i a7,.i a8,.i a9.1,.i a9.2,.i eV.1.1,.i eV.1.2,.d (.v (.bool eV.2)),.i eV.3,.d (.v (.string eV.4)),.d (.sl (aa fI))]),(50006,.bu 28 10 (aa a2.2))],kn:=[],gd:=[]:St}
def Zfd(a0:List EX)(a1:CQ)(k:Int→Int→Int→Int→Int→Int→Bool→Int→ByteArray→(List (List D))→Prop):Prop:=gS a0 fun es=>((0:Int)≤IntKind.i64.wrap ((2:Int)*(↑a1.1:Int)+1)∧IntKind.i64.wrap ((2:Int)*(↑a1.1:Int)+1)<(↑es.length:Int))∧∃(cells:List D),es[(IntKind.i64.wrap ((2:Int)*(↑a1.1:Int)+1)).toNat]? = some cells∧Zs cells fun n mg mh oA oB oC b tS jn es=>k n mg mh oA oB oC b tS jn es
def QQ(a0:List (List D))(a1:List Ty)(a2:EX)(k:Ty→Int→Prop):Prop:=a0=List.map Ty.cs a1∧fits a2∧a1.length≤8796093022208∧∀(dn:Ty) (f:Int),aV a1 a2=(dn,f)→k dn f
def Zcu(a0 a1:Int)(a2:Ty)(a3:Go.Ex.AV)(a4:List EX)(a5:List (List D))(k:Ty→Int→Prop):Prop:=∃(e:EX),∃(ae:List Ty),(Z1 a0 a1 a2 a3 a4)=Ex.cells e∧QQ a5 ae e fun dn f=>k dn f
def Ze2(a0 a1:Int)(a2:Ty)(a3:Go.Ex.AV)(a4:List EX)(a5:List (List D))(k:Ty→EX→(List Ty)→Prop):Prop:=Zcu a0 a1 a2 a3 a4 a5 fun dn _=>∃(e:EX),∃(ae:List Ty),k dn e ae
def Zg8(a0:CQ)(a1 a2:Int)(a3:Ty)(a4:Go.Ex.AV)(a5:List EX)(a6:List (List D))(k:Ty→EX→(List Ty)→Prop):Prop:=(28:Nat)=(28:Nat)∧(10:Nat)=(10:Nat)∧(↑(aa a0.2).length.succ:Int)*(↑(104:Nat):Int)≤140737488355328∧Ze2 a1 a2 a3 a4 a5 a6 fun dn e ae=>k dn e ae
def Zex(a0:Int)(a1 a2:Ty)(a3:KT)(a4 a5:Int)(a6:Ty)(a7:Go.Ex.AV)(a8:List EX):Prop:=(bif a0 != (0:Int)then true else !(a1.1==a2.1&&(a1.2==a2.2&&true)))=true→QP a3 a4 a5 a6 a7 a8
def Ze4(a0:Int)(a1 a2:Ty)(a3:KT)(a4 a5:Int)(a6:Ty)(a7:Go.Ex.AV)(a8:List EX)(k:Prop):Prop:=(Zex a0 a1 a2 a3 a4 a5 a6 a7 a8)∧k
def Zfe(a0:List (List D))(a1:List Ty)(a2:EX)(a3:Ty)(a4:KT)(a5 a6:Int)(a7:Ty)(a8:Go.Ex.AV)(a9:List EX)(k:Ty→Int→Prop):Prop:=QQ a0 a1 a2 fun oH f=>Ze4 f oH a3 a4 a5 a6 a7 a8 a9 (k oH f)
def Zi4(a0:Int)(a1 a2:Ty)(k:Prop):Prop:=(bif a0 != (0:Int)then true else !(a1.1==a2.1&&(a1.2==a2.2&&true)))=false→k
def Zjj(a0 a1:Int)(a2:Ty)(a3:Go.Ex.AV)(a4:List EX):Prop:=∀(c:List D),c∈[(Z1 a0 a1 a2 a3 a4)]→c.length=10
def Zir(a0 a1:Int)(a2:Ty)(a3:Go.Ex.AV)(a4:CQ)(a5 a6:Int)(a7:Ty)(a8:Go.Ex.AV)(a9:List EX):List D:=[.i a0,.i a1,.i a2.1,.i a2.2,.i a3.1.1,.i a3.1.2,.v (.bool a3.2),.i a3.3,.v (.string a3.4),.sl (aa a4.2++[(Z1 a5 a6 a7 a8 a9)])]
theorem agp(op sub:Int)(t:Ty)(v:Go.Ex.AV)(args:List EX)(y:List (List D))(kP dW:Int)(lt:Ty)(lv:Go.Ex.AV)(la:List EX)(Q:KT):vc bl Dz bf (Na op sub t v args y kP dW lt lv la) (f41.body.getD .skip) f41.results.toList [.agg (aT op sub t v (aa args)),.d (.sl y)] Q=(Ze7 args fun es n aN aW bO dv c_ b fS cD s_=>∃(x0:CQ),({tm:=[(1,.d (.sl y)),(2,.ref 2 0),(4,.ref 4 0),(5,.i (↑es.length:Int)),(6,.own 50006),(7,.ref 7 0),(8,.i 0)],hp:=[(2,.box [.i op,.i sub,.i t.1,.i t.2,.i v.1.1,.i v.1.2,.d (.v (.bool v.2)),.i v.3,.d (.v (.string v.4)),.d (.sl (aa args))]),(4,.box [.i 0,.i 0,.i 0,.i 0,.i 0,.i 0,.d (.v (.bool false)),.i 0,.d (.v (.string ⟨⟨[]⟩⟩)),.nil]),(7,.box [.i n,.i aN,.i aW,.i bO,.i dv,.i c_,.d (.v (.bool b)),.i fS,.d (.v (.string cD)),.d (.sl s_)]),(50006,.bu 28 10 [])],kn:=[],gd:=[]:St}=(Zb8 y args x0 op sub t v kP dW lt lv la)∧∃(n:Nat),oz args n x0)∧∀(n:Nat) (x:CQ),oz args n x→(decide (IntKind.i64.wrap ((2:Int)*(↑x.1:Int)+1)<(↑args.length:Int))=true→gS args fun es=>((0:Int)≤2*(↑x.1:Int)∧(2:Int)*(↑x.1:Int)<(↑es.length:Int))∧∃(cells:List D),es[((2:Int)*(↑x.1:Int)).toNat]? = some cells∧Fb cells fun gI mr zA mb mc me b mf kU es e=>(pj e true=true→Zfd args x fun n mg mh oA oB oC b tS jn es=>(decide ((↑(aa x.2).length:Int)>0)=true→(∀(c:List D),c∈[(Z2 n mg mh oA oB oC b tS jn es)]→c.length=10)∧Zg8 x op sub t v args y fun dn e ae=>[D.i op,D.i sub,D.i t.1,D.i t.2,D.i v.1.1,D.i v.1.2,D.v (.bool v.2),D.i v.3,D.v (.string v.4),D.sl (aa x.2++[(Z2 n mg mh oA oB oC b tS jn es)])]=Ex.cells e∧Zfe y ae e dn Q op sub t v args fun oH f=>(Zi4 f oH dn (Q [.agg [.i op,.i sub,.i t.1,.i t.2,.i v.1.1,.i v.1.2,.v (.bool v.2),.i v.3,.v (.string v.4),.sl (aa x.2++[(Z2 n mg mh oA oB oC b tS jn es)])]] [])))∧(decide ((↑(aa x.2).length:Int)>0)=false→Ze2 op sub t v args y fun dn e ae=>lU n mg mh oA oB oC b tS jn es e (Zfe y ae e dn Q op sub t v args fun oH f=>(Zi4 f oH dn (Dy Q n mg mh oA oB oC b tS jn es)))))∧(pj e true=false→((gI != (2:Int))=true→Zfd args x fun mg mh oA oB oC tS jn agq UA agr=>(∀(c:List D),c∈[(Z2 gI mr zA mb mc me b mf kU es),(Z2 mg mh oA oB oC tS jn agq UA agr)]→c.length=10)∧(28:Nat)=(28:Nat)∧(10:Nat)=(10:Nat)∧(↑(aa x.2).length.succ.succ:Int)*(↑(104:Nat):Int)≤140737488355328∧∃(m:Nat),∃(x':CQ),m<n∧{tm:=[(1,.d (.sl y)),(2,.ref 2 0),(4,.ref 4 0),(5,.i (↑args.length:Int)),(6,.own 50006),(7,.ref 7 0),(8,.i (IntKind.i64.wrap ((2:Int)*(↑x.1:Int)+2)))],hp:=[(2,.box [.i op,.i sub,.i t.1,.i t.2,.i v.1.1,.i v.1.2,.d (.v (.bool v.2)),.i v.3,.d (.v (.string v.4)),.d (.sl (aa args))]),(4,.box [.i 0,.i 0,.i 0,.i 0,.i 0,.i 0,.d (.v (.bool false)),.i 0,.d (.v (.string ⟨⟨[]⟩⟩)),.nil]),(7,.box [.i kP,.i dW,.i lt.1,.i lt.2,.i lv.1.1,.i lv.1.2,.d (.v (.bool lv.2)),.i lv.3,.d (.v (.string lv.4)),.d (.sl (aa la))]),(50006,.bu 28 10 (aa x.2++[(Z2 gI mr zA mb mc me b mf kU es),(Z2 mg mh oA oB oC tS jn agq UA agr)]))],kn:=[],gd:=[]:St}=(Zb8 y args x' op sub t v kP dW lt lv la)∧oz args m x')∧((gI != (2:Int))=false→∃(m:Nat),∃(x':CQ),m<n∧{tm:=[(1,.d (.sl y)),(2,.ref 2 0),(4,.ref 4 0),(5,.i (↑args.length:Int)),(6,.own 50006),(7,.ref 7 0),(8,.i (IntKind.i64.wrap ((2:Int)*(↑x.1:Int)+2)))],hp:=[(2,.box [.i op,.i sub,.i t.1,.i t.2,.i v.1.1,.i v.1.2,.d (.v (.bool v.2)),.i v.3,.d (.v (.string v.4)),.d (.sl (aa args))]),(4,.box [.i 0,.i 0,.i 0,.i 0,.i 0,.i 0,.d (.v (.bool false)),.i 0,.d (.v (.string ⟨⟨[]⟩⟩)),.nil]),(7,.box [.i kP,.i dW,.i lt.1,.i lt.2,.i lv.1.1,.i lv.1.2,.d (.v (.bool lv.2)),.i lv.3,.d (.v (.string lv.4)),.d (.sl (aa la))]),(50006,.bu 28 10 (aa x.2))],kn:=[],gd:=[]:St}=(Zb8 y args x' op sub t v kP dW lt lv la)∧oz args m x')))∧(decide (IntKind.i64.wrap ((2:Int)*(↑x.1:Int)+1)<(↑args.length:Int))=false→(decide ((↑(aa x.2).length:Int)>0)=true→(Zjj kP dW lt lv la)∧Zg8 x op sub t v args y fun dn e ae=>(Zir op sub t v x kP dW lt lv la)=Ex.cells e∧Zfe y ae e dn Q op sub t v args fun oH f=>(Zi4 f oH dn (Q [.agg (Zir op sub t v x kP dW lt lv la)] [])))∧(decide ((↑(aa x.2).length:Int)>0)=false→Zcu op sub t v args y fun dn f=>Zcu kP dW lt lv la y fun oH f=>Ze4 f oH dn Q op sub t v args ((Zi4 f oH dn (QP Q kP dW lt lv la)))))):=by kernel_rfl
theorem fF{ae:List Ty}{x y:EX}{t1 t2:Ty}{B_ tT:Int}(h1:aV ae x=(t1,B_))(h2:aV ae y=(t2,tT)):kF ae x y=bif (bif tT != 0 then true else !(t2.k==t1.k&&(t2.sc==t1.sc&&true)))then x else y:=by
 unfold kF iw
 rw[h1,h2]
 dsimp only
 cases h:tT==0
 ·simp[bne,h]
 ·simp only[bne,h,cond_true,Bool.not_true,cond_false]
  cases(t2.k==t1.k&&(t2.sc==t1.sc&&true))<;>rfl
theorem cw(a b:List EX):aa (a++b)=aa a++aa b:=by
 induction a with
 |nil=>simp[aa]
 |cons e r ih=>simp only[List.cons_append,aa,ih]
theorem tc{l:List EX}{c x:EX}{r:List EX}(h:l=c::x::r)(hr:r≠[]):cm l=bif pj c true then([],x)else bif c.op==2 then cm r else(c::x::(cm r).1,(cm r).2):=by
 subst h;rfl
theorem ags(c:Int)(sub:Int)(t:Ty)(v:Go.Ex.AV)(args:List EX)(ae:List Ty)(hP:Pe c (.mk 14 sub t v args))(fw:ae.length≤8796093022208):
  Ct prog gl 41 [.agg (aT 14 sub t v (aa args)),.d (.sl (ae.map Ty.cs))] (gives [.agg (cells (kF ae (.mk 14 sub t v args) (dF sub t v args)))]):=by
 obtain⟨h1,h2,h3⟩:=ef.1 hP
 have hm:=lH h2
 rw[Int.tmod_eq_emod_of_nonneg (by omega)]at hm
 have ho:args.length % 2=1:=by omega
 have hB:=h1.2
 have hc:aT 14 sub t v (aa args)=cells (.mk 14 sub t v args):=(ab _ _ _ _ _).symm
 obtain⟨lo,ls,lt,lv,la,el,gl'⟩:=cq (l:=args) (i:=args.length-1) (by omega)
 refine aw bN ta aF bD mixed (fn:=f41) (body:=f41.body.getD .skip) (by kernel_rfl) (by kernel_rfl) (by kernel_rfl) (fi:=Na 14 sub t v args (ae.map Ty.cs) lo ls lt lv la) (by kernel_rfl) (by kernel_rfl) ⟨_,_,rfl,rfl⟩ ?_
 rw[agp];dsimp -eta -iota -proj only[Ze7,Zer,gS,fy,Ib,Zs,Zr,Z2,Zb8,Fb,Zy,lU,Zfd,Zg8,Ze2,Zcu,Z1,QQ,Zfe,Ze4,Zex,QP,Zc3,Zi4,Dy,Zjj,Zir]
 have wl:IntKind.i64.wrap ((args.length:Int)-1)=((args.length-1:Nat):Int):=by rw[ai (by omega) (by omega)];omega
 refine⟨aa args,rfl,aa args,rfl,?_⟩
 rw[ag,wl,Int.toNat_natCast]
 refine⟨⟨by omega,by omega⟩,_,gl',rfl,lo,ls,lt.k,lt.sc,lv.t.k,lv.t.sc,lv.aA,lv.n,lv.s,aa la,rfl,⟨0,[]⟩,⟨rfl,args.length,by show 2*0<args.length;omega,rfl,Nat.le_refl _,by simp⟩,fun m x hx=>?_⟩
 obtain⟨x1,x2,x3,x4⟩:=hx
 have w1:IntKind.i64.wrap (2*(x.j:Int)+1)=((2*x.j+1:Nat):Int):=by rw[ai (by omega) (by omega)];omega
 have w2:IntKind.i64.wrap (2*(x.j:Int)+2)=2*((x.j+1:Nat):Int):=by rw[ai (by omega) (by omega)];omega
 have q0:(2*(x.j:Int)).toNat=2*x.j:=by omega
 rw[w1]
 refine⟨fun hi=>?_,fun hi=>?_⟩
 ·have hi:=of_decide_eq_true hi
  have hi:2*x.j+1<args.length:=by omega
  have hi2:2*x.j+2<args.length:=by omega
  obtain⟨o0,s0,t0,v0,a0,e0,g0⟩:=cq x1
  obtain⟨o1,s1,t1,v1,a1,e1,g1⟩:=cq hi
  have hd:args.drop (2*x.j)=EX.mk o0 s0 t0 v0 a0::EX.mk o1 s1 t1 v1 a1::args.drop (2*x.j+2):=by
   rw[List.drop_eq_getElem_cons x1,List.drop_eq_getElem_cons hi,e0,e1]
  have xI:=tc hd (by intro e;have:=congrArg List.length e;rw[List.length_drop]at this;simp at this;omega)
  rw[q0,Int.toNat_natCast]
  refine⟨aa args,rfl,⟨by omega,by rw[ag];omega⟩,_,g0,rfl,o0,s0,t0.k,t0.sc,v0.t.k,v0.t.sc,v0.aA,v0.n,v0.s,aa a0,rfl,.mk o0 s0 t0 v0 a0,by rw[ab];rfl,fun hb=>?_,fun hb=>⟨fun du=>?_,fun du=>?_⟩⟩
  ·rw[hb,cond_true]at xI
   rw[xI,List.append_nil]at x4
   refine⟨aa args,rfl,⟨by omega,by rw[ag];omega⟩,_,g1,rfl,o1,s1,t1.k,t1.sc,v1.t.k,v1.t.sc,v1.aA,v1.n,v1.s,aa a1,rfl,?_⟩
   (
    have hy:dF sub t v args=if x.acc=[]then(EX.mk o1 s1 t1 v1 a1)else .mk 14 sub t v (x.acc++[(EX.mk o1 s1 t1 v1 a1)]):=by
      unfold dF
      rw[x4]
    refine⟨fun hz=>?_,fun hz=>?_⟩
    ·have hz:=of_decide_eq_true hz
     rw[ag]at hz
     have bT:x.acc≠[]:=by intro e;rw[e]at hz;simp at hz
     rw[if_neg bT]at hy
     refine⟨by intro c hc;simp at hc;subst hc;rfl,rfl,rfl,by rw[ag];have:=x3;omega,.mk 14 sub t v args,ae,hc,rfl,hP.1,fw,fun u1 B_ k1=>⟨.mk 14 sub t v (x.acc++[(EX.mk o1 s1 t1 v1 a1)]),ae,?_,rfl,?_,fw,fun u2 tT k2=>have zr:aV ae (dF sub t v args)=(u2,tT):=(congrArg (aV ae) hy).trans k2;⟨fun hb=>?_,fun hb=>?_⟩⟩⟩
     ·rw[ab,cw]
      simp only[aa]
      rw[(ab o1 s1 t1 v1 a1)]<;>rfl
     ·rw[←hy];exact(jA hP).1
     ·rw[fF k1 zr,hb,cond_true,ab];exact⟨rfl,rfl⟩
     ·rw[fF k1 zr,hb,cond_false,hy,ab,cw]
      simp only[aa]
      rw[(ab o1 s1 t1 v1 a1)]
      exact⟨rfl,rfl⟩
    ·have hz:=of_decide_eq_false hz
     rw[ag]at hz
     have bT:x.acc=[]:=List.eq_nil_of_length_eq_zero (by omega)
     rw[if_pos bT]at hy
     refine⟨.mk 14 sub t v args,ae,hc,rfl,hP.1,fw,fun u1 B_ k1=>⟨(EX.mk o1 s1 t1 v1 a1),ae,?_,rfl,?_,fw,fun u2 tT k2=>have zr:aV ae (dF sub t v args)=(u2,tT):=(congrArg (aV ae) hy).trans k2;⟨fun hb=>?_,fun hb=>?_⟩⟩⟩
     ·rw[(ab o1 s1 t1 v1 a1)]<;>rfl
     ·rw[←hy];exact(jA hP).1
     ·rw[fF k1 zr,hb,cond_true,ab];exact⟨rfl,rfl⟩
     ·rw[fF k1 zr,hb,cond_false,hy,(ab o1 s1 t1 v1 a1)];exact⟨rfl,rfl⟩)
  ·rw[hb,cond_false]at xI
   have oG:(EX.op (.mk o0 s0 t0 v0 a0)==2)=false:=by
    show(o0==2)=false
    simpa[bne]using du
   rw[oG,cond_false]at xI
   rw[xI]at x4
   refine⟨aa args,rfl,⟨by omega,by rw[ag];omega⟩,_,g1,rfl,o1,s1,t1.k,t1.sc,v1.t.k,v1.t.sc,v1.aA,v1.n,v1.s,aa a1,rfl,by intro c hc;simp at hc;rcases hc with rfl|rfl<;>rfl,rfl,rfl,by rw[ag];simp only[Nat.succ_eq_add_one];omega,args.length-(x.j+1),⟨x.j+1,x.acc++[.mk o0 s0 t0 v0 a0,.mk o1 s1 t1 v1 a1]⟩,by omega,?_,by show 2*(x.j+1)<_;omega,rfl,by simp;omega,?_⟩
   ·have Xr:aa (x.acc++[EX.mk o0 s0 t0 v0 a0,EX.mk o1 s1 t1 v1 a1])=aa x.acc++[aT o0 s0 t0 v0 (aa a0),aT o1 s1 t1 v1 (aa a1)]:=by
      rw[cw]
      simp only[aa,ab]
    dsimp only
    rw[Xr,w2]
    rfl
   ·show cm args=((x.acc++[EX.mk o0 s0 t0 v0 a0,EX.mk o1 s1 t1 v1 a1])++(cm (args.drop (2*(x.j+1)))).1,(cm (args.drop (2*(x.j+1)))).2)
    rw[x4,List.append_assoc]
    rfl
  ·rw[hb,cond_false]at xI
   have oG:(EX.op (.mk o0 s0 t0 v0 a0)==2)=true:=by
    show(o0==2)=true
    simpa[bne]using du
   rw[oG,cond_true]at xI
   rw[xI]at x4
   exact⟨args.length-(x.j+1),⟨x.j+1,x.acc⟩,by omega,by rw[w2],by show 2*(x.j+1)<_;omega,rfl,by show x.acc.length≤2*(x.j+1);omega,x4⟩
 ·have hi:=of_decide_eq_false hi
  have hl:args.length=2*x.j+1:=by omega
  have hd:args.drop (2*x.j)=[.mk lo ls lt lv la]:=by
   rw[List.drop_eq_getElem_cons x1,List.drop_eq_nil_of_le (by omega)]
   congr 1
   rw[←el]
   congr 1
   omega
  rw[hd]at x4
  have x4:cm args=(x.acc,EX.mk lo ls lt lv la):=by rw[x4];simp[cm]
  (
   have hy:dF sub t v args=if x.acc=[]then(EX.mk lo ls lt lv la)else .mk 14 sub t v (x.acc++[(EX.mk lo ls lt lv la)]):=by
    unfold dF
    rw[x4]
   refine⟨fun hz=>?_,fun hz=>?_⟩
   ·have hz:=of_decide_eq_true hz
    rw[ag]at hz
    have bT:x.acc≠[]:=by intro e;rw[e]at hz;simp at hz
    rw[if_neg bT]at hy
    refine⟨by intro c hc;simp at hc;subst hc;rfl,rfl,rfl,by rw[ag];have:=x3;omega,.mk 14 sub t v args,ae,hc,rfl,hP.1,fw,fun u1 B_ k1=>⟨.mk 14 sub t v (x.acc++[(EX.mk lo ls lt lv la)]),ae,?_,rfl,?_,fw,fun u2 tT k2=>have zr:aV ae (dF sub t v args)=(u2,tT):=(congrArg (aV ae) hy).trans k2;⟨fun hb=>?_,fun hb=>?_⟩⟩⟩
    ·rw[ab,cw]
     simp only[aa]
     rw[(ab lo ls lt lv la)]<;>rfl
    ·rw[←hy];exact(jA hP).1
    ·rw[fF k1 zr,hb,cond_true,ab];exact⟨rfl,rfl⟩
    ·rw[fF k1 zr,hb,cond_false,hy,ab,cw]
     simp only[aa]
     rw[(ab lo ls lt lv la)]
     exact⟨rfl,rfl⟩
   ·have hz:=of_decide_eq_false hz
    rw[ag]at hz
    have bT:x.acc=[]:=List.eq_nil_of_length_eq_zero (by omega)
    rw[if_pos bT]at hy
    refine⟨.mk 14 sub t v args,ae,hc,rfl,hP.1,fw,fun u1 B_ k1=>⟨(EX.mk lo ls lt lv la),ae,?_,rfl,?_,fw,fun u2 tT k2=>have zr:aV ae (dF sub t v args)=(u2,tT):=(congrArg (aV ae) hy).trans k2;⟨fun hb=>?_,fun hb=>?_⟩⟩⟩
    ·rw[(ab lo ls lt lv la)]<;>rfl
    ·rw[←hy];exact(jA hP).1
    ·rw[fF k1 zr,hb,cond_true,ab];exact⟨rfl,rfl⟩
    ·rw[fF k1 zr,hb,cond_false,hy,(ab lo ls lt lv la)];exact⟨rfl,rfl⟩)
def Nb(a:List R)(K:KT):Prop:=match a with
 |[.agg x,.d (.sl y)]=>∃(c sub:Int) (t:Ty) (v:Go.Ex.AV) (args:List EX) (ae:List Ty),x=aT 14 sub t v (aa args)∧y=ae.map Ty.cs∧Pe c (.mk 14 sub t v args)∧ae.length≤8796093022208∧kG (kF ae (.mk 14 sub t v args) (dF sub t v args)) K
 |_=>False
theorem Nc:CK gl Nb 41:=fun a K h=>by
 unfold Nb at h
 split at h
 ·obtain⟨c,sub,t,v,args,ae,rfl,rfl,h1,h2,h3⟩:=h
  exact jB (ags c sub t v args ae h1 h2) h3
 ·exact h.elim
def Tw:aj:=au (au (au (au Dz 39 M8) 40 M_) 41 Nb) 11 VP
theorem Nd:ah prog gl Tw:=af (af (af (af ta M9) M') Nc) QO
def agt(n:Nat)(a:List R)(K:KT):Prop:=match a with
 |[.agg x,.d (.sl y)]=>∃(c:Int) (e:EX) (ae:List Ty),x=cells e∧y=ae.map Ty.cs∧size e<n∧Pe c e∧ae.length≤8796093022208∧kG (tR ae e) K
 |_=>False
def agu(n:Nat):aj:=au Tw 14 (agt n)
def qv(l:List EX)(r:List EX):Bool:=bif decide ((l.length:Int)>0)then r.all (fun a=>a.op==2)else false
def zt(op sub:Int)(t:Ty)(v:Go.Ex.AV)(args:List EX)(y:List (List D))(out:List EX)(j:Nat):St:={tm:=[(1,.d (.sl y)),(2,.ref 2 0),(4,.ref 4 0),(5,.ref 5 0),(6,.d (.v (.bool (qv args (out.take j))))),(7,.d (.v (.int .i64 (j:Int))))],hp:=[(2,.box [.d (.v (.int .i64 op)),.d (.v (.int .i64 sub)),.d (.v (.int .i64 t.k)),.d (.v (.int .i64 t.sc)),.d (.v (.int .i64 v.t.k)),.d (.v (.int .i64 v.t.sc)),.d (.v (.bool v.aA)),.d (.v (.int .i64 v.n)),.d (.v (.string v.s)),.d (.sl (aa args))]),(4,.box [.d (.v (.int .i64 0)),.d (.v (.int .i64 0)),.d (.v (.int .i64 0)),.d (.v (.int .i64 0)),.d (.v (.int .i64 0)),.d (.v (.int .i64 0)),.d (.v (.bool false)),.d (.v (.int .i64 0)),.d (.v (.string {data:={toList:=[]:Array UInt8}:ByteArray})),.nil]),(5,.box [.d (.v (.int .i64 op)),.d (.v (.int .i64 sub)),.d (.v (.int .i64 t.k)),.d (.v (.int .i64 t.sc)),.d (.v (.int .i64 v.t.k)),.d (.v (.int .i64 v.t.sc)),.d (.v (.bool v.aA)),.d (.v (.int .i64 v.n)),.d (.v (.string v.s)),.own 50005]),(50005,.bu 28 10 (aa (out.take j)))],kn:=[],gd:=[]}
def xJ(args:List EX)(m:Nat)(j:Nat):Prop:=j≤args.length∧m=args.length-j
def Tx(op sub:Int)(t:Ty)(v:Go.Ex.AV)(args:List EX)(y:List (List D))(out:List EX):Fi:={ajY with cv:=[(5,[⟨some 5,9,50005,28,10⟩])],lx:=[(5,{X:=Nat,sh:=zt op sub t v args y out,P:=fun _=>xJ args})]}
def Zdk(a0:List (List D))(a1:List EX)(a2:Nat)(a3:List EX)(a4 a5:Int)(a6:Ty)(a7:Go.Ex.AV):St:={tm:=[(1,.d (.sl a0)),(2,.ref 2 0),(4,.ref 4 0),(5,.ref 5 0),(6,.d (.v (.bool (qv a1 (List.take a2 a3))))),(7,.i (↑a2:Int))],hp:=[(2,.box [.i a4,.i a5,.i a6.1,.i a6.2,.i a7.1.1,.i a7.1.2,.d (.v (.bool a7.2)),.i a7.3,.d (.v (.string a7.4)),.d (.sl (aa a1))]),(4,.box [.i 0,.i 0,.i 0,.i 0,.i 0,.i 0,.d (.v (.bool false)),.i 0,.d (.v (.string ⟨⟨[]⟩⟩)),.nil]),(5,.box [.i a4,.i a5,.i a6.1,.i a6.2,.i a7.1.1,.i a7.1.2,.d (.v (.bool a7.2)),.i a7.3,.d (.v (.string a7.4)),.own 50005]),(50005,.bu 28 10 (aa (List.take a2 a3)))],kn:=[],gd:=[]:St}
def Zcv(a0:List EX)(a1:Nat)(a2:List (List D))(a3:Nat)(a4:List EX)(k:Int→Int→Ty→AV→(List EX)→Prop):Prop:=bz a0 a1 fun aW bO dv c_ fS gI b mr cD es=>∃(c:Int),∃(e:EX),∃(ae:List Ty),lU aW bO dv c_ fS gI b mr cD es e (a2=List.map Ty.cs ae∧size e<a3∧Pe c e∧ae.length≤8796093022208∧∀(cL aU:Int) (t':Ty) (v':AV) (l':List EX),tR ae e=EX.mk cL aU t' v' l'→(∀(c:List D),c∈[(xQ cL aU t' v' l')]→c.length=10)∧(28:Nat)=(28:Nat)∧(10:Nat)=(10:Nat)∧(↑(aa (List.take a1 a4)).length.succ:Int)*(↑(104:Nat):Int)≤140737488355328∧k cL aU t' v' l')
def Zcw(a0:List EX)(a1:Nat)(a2:List (List D))(a3:Nat)(a4:List EX)(k:Int→Int→Ty→AV→(List EX)→Nat→Nat→Prop):Prop:=Zcv a0 a1 a2 a3 a4 fun cL aU t' v' l'=>fb fun m x'=>k cL aU t' v' l' m x'
def Zcx(a0:List EX)(a1:Nat)(a2:List (List D))(a3:Nat)(a4:List EX)(a5:Nat)(k:Int→Int→Ty→AV→(List EX)→Nat→Nat→Prop):Prop:=Zcw a0 a1 a2 a3 a4 fun cL aU t' v' l' m x'=>m<a5∧k cL aU t' v' l' m x'
def Xe(a0 a1:Int)(a2:Ty)(a3:Go.Ex.AV)(a4:Nat)(a5:List EX):List D:=[.i a0,.i a1,.i a2.1,.i a2.2,.i a3.1.1,.i a3.1.2,.v (.bool a3.2),.i a3.3,.v (.string a3.4),.sl (aa (List.take a4 a5))]
def Zia(a0:List AV)(a1:EX)(a2:KT)(k:Int→Prop):Prop:=[]=List.map AV.cs a0∧fits a1∧vU a0∧a0.length≤4398046511104∧∀(w:AV) (f:Int),dq a0 a1=(w,f)→((f==0)=true→a2 [.agg [.i 2,.i 0,.i 0,.i 0,.i w.1.1,.i w.1.2,.v (.bool w.2),.i w.3,.v (.string w.4),.sl []]] [])∧k f
def Zhi(a0 a1:Int)(a2:Ty)(a3:Go.Ex.AV)(a4:Nat)(a5:List EX)(k:Int→Int→Ty→AV→(List EX)→Prop):Prop:=zE fun eh cr dn mv args=>(Xe a0 a1 a2 a3 a4 a5)=(xQ eh cr dn mv args)∧k eh cr dn mv args
def Zhj(a0 a1:Int)(a2:Ty)(a3:Go.Ex.AV)(a4:Nat)(a5:List EX)(a6:Nat)(k:Int→Int→Ty→AV→(List EX)→Prop):Prop:=Zhi a0 a1 a2 a3 a4 a5 fun eh cr dn mv args=>a6≤args.length∧k eh cr dn mv args
def Zfo(a0 a1:Int)(a2:Ty)(a3:AV)(a4:List EX):List R:=[.agg (xQ a0 a1 a2 a3 a4)]
def Xf(a0:KT)(a1 a2:Int)(a3:Ty)(a4:AV)(a5:List EX):Prop:=a0 (Zfo a1 a2 a3 a4 a5) []
def Zdw(a0 a1:Int)(a2:Ty)(a3:Go.Ex.AV)(a4:Nat)(a5:List EX)(a6:KT):Prop:=Zhj a0 a1 a2 a3 a4 a5 (2:Nat) fun eh cr dn mv args=>∀(cL aU:Int) (t':Ty) (v':AV) (l':List EX),fq eh (args.getD (0:Nat) (aY zeroV)) (args.getD (1:Nat) (aY zeroV)) (EX.mk eh cr dn mv args)=EX.mk cL aU t' v' l'→Xf a6 cL aU t' v' l'
def Zdx(a0 a1 a2:Int)(a3:Ty)(a4:Go.Ex.AV)(a5:Nat)(a6:List EX)(a7:KT):Prop:=(a0==a1)=true→Zdw a0 a2 a3 a4 a5 a6 a7
def Zd3(a0 a1 a2:Int)(a3:Ty)(a4:Go.Ex.AV)(a5:Nat)(a6:List EX)(a7:KT)(k:Prop):Prop:=(Zdx a0 a1 a2 a3 a4 a5 a6 a7)∧k
def Zj8(a0:Int)(a1:Ty)(a2:AV)(a3:List EX):List D:=[.i 14,.i a0,.i a1.1,.i a1.2,.i a2.1.1,.i a2.1.2,.v (.bool a2.2),.i a2.3,.v (.string a2.4),.sl (aa a3)]
def Zgv(a0:Nat)(a1:List EX)(k:Int→Int→Int→Int→Int→Int→Bool→Int→ByteArray→(List (List D))→Prop):Prop:=((0:Int)≤0∧0<(↑(aa (List.take a0 a1)).length:Int))∧(10:Nat)=(10:Nat)∧∃(cells:List D),(aa (List.take a0 a1))[Int.toNat (0:Int)]? = some cells∧Zr cells fun n aW bO dv c_ fS b gI cD es=>k n aW bO dv c_ fS b gI cD es
def Z9(a0 a1:Int)(a2:Ty)(a3:Go.Ex.AV)(a4:Nat)(a5:List EX)(a6:KT)(a7:List (List D)):Prop:=Zd3 a0 (10:Int) a1 a2 a3 a4 a5 a6 (((a0==10)=false→Zd3 a0 (11:Int) a1 a2 a3 a4 a5 a6 (((a0==11)=false→((a0==12)=true→Zhj a0 a1 a2 a3 a4 a5 (1:Nat) fun eh cr dn mv args=>(∀(a:EX),args[(0:Nat)]? = some a→a.op=(12:Int)→(1:Nat)≤a.args.length)∧∀(cL aU:Int) (t':Ty) (v':AV) (l':List EX),pk (args.getD (0:Nat) (aY zeroV)) (EX.mk eh cr dn mv args)=EX.mk cL aU t' v' l'→Xf a6 cL aU t' v' l')∧((a0==12)=false→((a0==14)=true→zE fun c cr dn mv args=>∃(ae:List Ty),(Xe a0 a1 a2 a3 a4 a5)=(Zj8 cr dn mv args)∧a7=List.map Ty.cs ae∧Pe c (EX.mk (14:Int) cr dn mv args)∧ae.length≤8796093022208∧∀(cL aU:Int) (t':Ty) (v':AV) (l':List EX),kF ae (EX.mk (14:Int) cr dn mv args) (dF cr dn mv args)=EX.mk cL aU t' v' l'→Xf a6 cL aU t' v' l')∧((a0==14)=false→((a0==16)=true→Zgv a4 a5 fun n aW bO dv c_ fS b gI cD es=>∃(e:EX),∃(ae:List Ty),lU n aW bO dv c_ fS b gI cD es e (QQ a7 ae e fun dn _=>((dn.1==a2.1&&(dn.2==a2.2&&true))=true→Zgv a4 a5 fun n mr zA mb mc me b mf kU es=>Dy a6 n mr zA mb mc me b mf kU es)∧((dn.1==a2.1&&(dn.2==a2.2&&true))=false→a6 [.agg (Xe a0 a1 a2 a3 a4 a5)] [])))∧((a0==16)=false→a6 [.agg (Xe a0 a1 a2 a3 a4 a5)] [])))))))
theorem am_(n:Nat)(op sub:Int)(t:Ty)(v:Go.Ex.AV)(args:List EX)(y:List (List D))(out:List EX)(Q:KT):vc bl (agu n) bf (Tx op sub t v args y out) (f14.body.getD .skip) f14.results.toList [.agg (aT op sub t v (aa args)),.d (.sl y)] Q=(zz args fun es x0=>({tm:=[(1,.d (.sl y)),(2,.ref 2 0),(4,.ref 4 0),(5,.ref 5 0),(6,.d (.v (.bool (decide ((↑es.length:Int)>0))))),(7,.i 0)],hp:=[(2,.box [.i op,.i sub,.i t.1,.i t.2,.i v.1.1,.i v.1.2,.d (.v (.bool v.2)),.i v.3,.d (.v (.string v.4)),.d (.sl (aa args))]),(4,.box [.i 0,.i 0,.i 0,.i 0,.i 0,.i 0,.d (.v (.bool false)),.i 0,.d (.v (.string ⟨⟨[]⟩⟩)),.nil]),(5,.box [.i op,.i sub,.i t.1,.i t.2,.i v.1.1,.i v.1.2,.d (.v (.bool v.2)),.i v.3,.d (.v (.string v.4)),.own 50005]),(50005,.bu 28 10 [])],kn:=[],gd:=[]:St}=(Zdk y args x0 out op sub t v)∧∃(n:Nat),xJ args n x0)∧∀(aN:Nat) (x:Nat),xJ args aN x→gS args fun es=>(sy x es (Zcx args x y n out aN fun cL aU t' v' l' m x'=>{tm:=[(1,.d (.sl y)),(2,.ref 2 0),(4,.ref 4 0),(5,.ref 5 0),(6,.d (.v (.bool (bif qv args (List.take x out)then cL==(2:Int)else false)))),(7,.i (IntKind.i64.wrap ((↑x:Int)+1)))],hp:=[(2,.box [.i op,.i sub,.i t.1,.i t.2,.i v.1.1,.i v.1.2,.d (.v (.bool v.2)),.i v.3,.d (.v (.string v.4)),.d (.sl (aa args))]),(4,.box [.i 0,.i 0,.i 0,.i 0,.i 0,.i 0,.d (.v (.bool false)),.i 0,.d (.v (.string ⟨⟨[]⟩⟩)),.nil]),(5,.box [.i op,.i sub,.i t.1,.i t.2,.i v.1.1,.i v.1.2,.d (.v (.bool v.2)),.i v.3,.d (.v (.string v.4)),.own 50005]),(50005,.bu 28 10 (aa (List.take x out)++[(xQ cL aU t' v' l')]))],kn:=[],gd:=[]:St}=(Zdk y args x' out op sub t v)∧xJ args m x'))∧(qE x es ((qv args (List.take x out)=true→∃(e:EX),∃(row:List AV),(Xe op sub t v x out)=cells e∧Zia row e Q fun f=>((f==0)=false→Z9 op sub t v x out Q y))∧(qv args (List.take x out)=false→Z9 op sub t v x out Q y)))):=by kernel_rfl
theorem VZ{args out:List EX}(h:out.length=args.length):qv args out=qu out:=by
 unfold qv qu
 cases out with
 |nil=>
  have:args=[]:=List.eq_nil_of_length_eq_zero (by simpa using h.symm)
  subst this;rfl
 |cons a r=>
  have:(args.length:Int)>0:=by rw[←h];simp
  rw[decide_eq_true this]
  simp
theorem agv:∀(n:Nat) (c:Int) (e:EX) (ae:List Ty),size e<n→Pe c e→ae.length≤8796093022208→Ct prog gl 14 [.agg (cells e),.d (.sl (ae.map Ty.cs))] (gives [.agg (cells (tR ae e))])
 |0,c,e,ae,h,_,_=>absurd h (Nat.not_lt_zero _)
 |n+1,c,.mk op sub t v args,ae,hsz,hP,fw=>by
  have hC:ah prog gl (agu n):=af Nd (fun a K hk=>by
   unfold agt at hk
   split at hk
   ·obtain⟨c,e,ae,rfl,rfl,h1,h2,h3,h4⟩:=hk
    exact jB (agv n c e ae h1 h2 h3) h4
   ·exact hk.elim)
  obtain⟨p1,p2,p3⟩:=ef.1 hP
  have hlen:=rj ae args
  have zJ:Pe c (.mk op sub t v (pn ae args)):=ef.2 ⟨⟨p1.1,by rw[hlen];exact p1.2⟩,by rw[hlen];exact p2,xG p3⟩
  have hE0:tR ae (.mk op sub t v args)=VQ ae op sub t v (pn ae args):=by simp only[tR]
  simp only[size]at hsz
  rw[ab]
  refine aw bN hC aF bD mixed (fn:=f14) (body:=f14.body.getD .skip) (by kernel_rfl) (by kernel_rfl) (by kernel_rfl) (fi:=Tx op sub t v args (ae.map Ty.cs) (pn ae args)) (by kernel_rfl) (by kernel_rfl) ⟨_,_,rfl,rfl⟩ ?_
  rw[am_];dsimp -eta -iota -proj only[zz,gS,fy,Zdk,sy,Zcx,Zcw,Zcv,bz,yM,Zbx,Zs,Zr,Z2,lU,xQ,fb,qE,Xe,Zia,Z9,Zd3,Zdx,Zdw,Zhj,Zhi,zE,Xf,Zfo,Zj8,Zgv,QQ,Dy]
  have gO:∀(j:Nat) (hj:j<args.length),(pn ae args)[j]'(by rw[hlen];exact hj)=tR ae args[j]:=fun j hj=>by
   simp only[ri,List.getElem_map]
  generalize TS:pn ae args=out at *
  obtain⟨_,h2,tf⟩:=ef.1 zJ
  refine⟨aa args,rfl,(0:Nat),⟨?_,args.length,Nat.zero_le _,rfl⟩,fun m (x:Nat) hx=>⟨aa args,rfl,fun hi=>?_,fun hi=>?_⟩⟩
  ·rw[ag]
   have:qv args (out.take 0)=decide ((args.length:Int)>0):=by
    unfold qv
    rw[List.take_zero]
    cases decide ((args.length:Int)>0)<;>rfl
   show _=zt op sub t v args (ae.map Ty.cs) out 0
   unfold zt
   rw[this]
   rfl
  ·obtain⟨x1,x2⟩:=hx
   have hi:=of_decide_eq_true hi
   rw[ag]at hi
   have hi:x<args.length:=by omega
   obtain⟨o0,s0,t0,v0,a0,e0,g0⟩:=cq hi
   refine⟨aa args,rfl,⟨by omega,by rw[ag];omega⟩,_,by rw[Int.toNat_natCast];exact g0,rfl,o0,s0,t0.k,t0.sc,v0.t.k,v0.t.sc,v0.aA,v0.n,v0.s,aa a0,rfl,c,args[x],ae,by rw[e0,ab];rfl,rfl,by have:=ph (List.getElem_mem hi);omega,p3 _ (List.getElem_mem hi),fw,fun cL aU t' v' l' he=>⟨by intro c hc;simp at hc;subst hc;rfl,rfl,rfl,?_,args.length-(x+1),x+1,by omega,?_,hi,rfl⟩⟩
   ·rw[ag,List.length_take]
    have:=p1.2
    omega
   ·have hox:x<out.length:=by omega
    have ht:out.take (x+1)=out.take x++[.mk cL aU t' v' l']:=by
     rw[List.take_add_one,List.getElem?_eq_getElem hox,Option.toList_some,gO x hi,he]
    have T3:aa (out.take (x+1))=aa (out.take x)++[aT cL aU t' v' (aa l')]:=by
     rw[ht,cw]
     simp only[aa,ab]
    have gp:qv args (out.take (x+1))=(bif qv args (out.take x)then cL==2 else false):=by
     unfold qv
     rw[ht,decide_eq_true (by omega),cond_true,cond_true,List.all_append]
     cases(out.take x).all fun a=>a.op==2<;>simp[EX.op]
    show _=zt op sub t v args (ae.map Ty.cs) out (x+1)
    unfold zt
    rw[T3,gp,aL (by have:=p1.2;omega)]
    rfl
  ·obtain⟨x1,x2⟩:=hx
   have hi:=of_decide_eq_false hi
   rw[ag]at hi
   have N6:out.take x=out:=List.take_of_length_le (by omega)
   rw[N6,VZ hlen]
   have hE:=hE0
   unfold VQ at hE
   refine⟨fun hA=>⟨.mk op sub t v out,[],(ab _ _ _ _ _).symm,rfl,zJ.1,(fun v hv=>(by cases hv)),(by decide),fun w f0' hw=>⟨fun hz=>?_,fun hz=>?_⟩⟩,fun hA=>?_⟩
   ·rw[hA,cond_true,hw]at hE
    dsimp only at hE
    rw[hz,cond_true]at hE
    rw[hE]
    have:cells (aY w)=aT 2 0 ⟨0,0⟩ w []:=ab _ _ _ _ _
    rw[this]
    exact⟨rfl,rfl⟩
   ·rw[hA,cond_true,hw]at hE
    dsimp only at hE
    rw[hz,cond_false]at hE
    (
     refine⟨fun o=>?_,fun n10=>⟨fun o=>?_,fun n11=>⟨fun o=>?_,fun n12=>⟨fun o=>?_,fun n14=>⟨fun o=>?_,fun n16=>?_⟩⟩⟩⟩⟩
     ·have o:op=10:=eq_of_beq o
      have hm:=dQ h2 (.inl o)
      refine⟨op,sub,t,v,out,rfl,by omega,fun cL aU t' v' l' he=>?_⟩
      rw[if_pos (.inl o),he]at hE
      rw[hE,ab];exact⟨rfl,rfl⟩
     ·have o:op=11:=eq_of_beq o
      have hm:=dQ h2 (.inr o)
      refine⟨op,sub,t,v,out,rfl,by omega,fun cL aU t' v' l' he=>?_⟩
      rw[if_pos (.inr o),he]at hE
      rw[hE,ab];exact⟨rfl,rfl⟩
     ·have o:op=12:=eq_of_beq o
      have hp:=b8 h2 (by omega) (by omega)
      refine⟨op,sub,t,v,out,rfl,by omega,fun a ha ho=>?_,fun cL aU t' v' l' he=>?_⟩
      ·obtain⟨ao,as',at',av,al⟩:=a
       have:=b8 (ef.1 (tf _ (List.mem_of_getElem? ha))).2.1 (by show ao≠1;have:ao=12:=ho;omega) (by show ao≠2;have:ao=12:=ho;omega)
       show 1≤al.length
       omega
      ·rw[if_neg (by omega),if_pos o,he]at hE
       rw[hE,ab];exact⟨rfl,rfl⟩
     ·have o:op=14:=eq_of_beq o
      subst o
      refine⟨c,sub,t,v,out,ae,rfl,rfl,zJ,fw,fun cL aU t' v' l' he=>?_⟩
      rw[if_neg (by omega),if_neg (by omega),if_pos rfl,he]at hE
      rw[hE,ab];exact⟨rfl,rfl⟩
     ·have o:op=16:=eq_of_beq o
      have hp:=b8 h2 (by omega) (by omega)
      have hp:0<out.length:=by omega
      obtain⟨o0,s0,t0,v0,a0,e0,g0⟩:=cq hp
      have d0:out.getD 0 (aY zeroV) = .mk o0 s0 t0 v0 a0:=by rw[List.getD_eq_getElem?_getD,List.getElem?_eq_getElem hp,e0];rfl
      rw[if_neg (by omega),if_neg (by omega),if_neg (by omega),if_pos o,d0]at hE
      have QR:fits (.mk o0 s0 t0 v0 a0):=by rw[←e0];exact(tf _ (List.getElem_mem hp)).1
      refine⟨⟨by decide,by rw[ag];omega⟩,rfl,_,g0,o0,s0,t0.k,t0.sc,v0.t.k,v0.t.sc,v0.aA,v0.n,v0.s,aa a0,rfl,.mk o0 s0 t0 v0 a0,ae,by rw[ab];rfl,rfl,QR,fw,fun u1 B_ k1=>?_⟩
      rw[k1]at hE
      refine⟨fun hs=>⟨⟨by decide,by rw[ag];omega⟩,rfl,_,g0,o0,s0,t0.k,t0.sc,v0.t.k,v0.t.sc,v0.aA,v0.n,v0.s,aa a0,rfl,?_⟩,fun hs=>?_⟩
      ·have hs:iw u1 t=true:=hs
       dsimp only at hE
       rw[hs,cond_true]at hE
       rw[hE,ab];exact⟨rfl,rfl⟩
      ·have hs:iw u1 t=false:=hs
       dsimp only at hE
       rw[hs,cond_false]at hE
       rw[hE,ab];exact⟨rfl,rfl⟩
     ·have n10:op≠10:=by simpa using n10
      have n11:op≠11:=by simpa using n11
      have n12:op≠12:=by simpa using n12
      have n14:op≠14:=by simpa using n14
      have n16:op≠16:=by simpa using n16
      rw[if_neg (by omega),if_neg n12,if_neg n14,if_neg n16]at hE
      rw[hE,ab];exact⟨rfl,rfl⟩)
   ·rw[hA,cond_false,cond_false]at hE
    (
     refine⟨fun o=>?_,fun n10=>⟨fun o=>?_,fun n11=>⟨fun o=>?_,fun n12=>⟨fun o=>?_,fun n14=>⟨fun o=>?_,fun n16=>?_⟩⟩⟩⟩⟩
     ·have o:op=10:=eq_of_beq o
      have hm:=dQ h2 (.inl o)
      refine⟨op,sub,t,v,out,rfl,by omega,fun cL aU t' v' l' he=>?_⟩
      rw[if_pos (.inl o),he]at hE
      rw[hE,ab];exact⟨rfl,rfl⟩
     ·have o:op=11:=eq_of_beq o
      have hm:=dQ h2 (.inr o)
      refine⟨op,sub,t,v,out,rfl,by omega,fun cL aU t' v' l' he=>?_⟩
      rw[if_pos (.inr o),he]at hE
      rw[hE,ab];exact⟨rfl,rfl⟩
     ·have o:op=12:=eq_of_beq o
      have hp:=b8 h2 (by omega) (by omega)
      refine⟨op,sub,t,v,out,rfl,by omega,fun a ha ho=>?_,fun cL aU t' v' l' he=>?_⟩
      ·obtain⟨ao,as',at',av,al⟩:=a
       have:=b8 (ef.1 (tf _ (List.mem_of_getElem? ha))).2.1 (by show ao≠1;have:ao=12:=ho;omega) (by show ao≠2;have:ao=12:=ho;omega)
       show 1≤al.length
       omega
      ·rw[if_neg (by omega),if_pos o,he]at hE
       rw[hE,ab];exact⟨rfl,rfl⟩
     ·have o:op=14:=eq_of_beq o
      subst o
      refine⟨c,sub,t,v,out,ae,rfl,rfl,zJ,fw,fun cL aU t' v' l' he=>?_⟩
      rw[if_neg (by omega),if_neg (by omega),if_pos rfl,he]at hE
      rw[hE,ab];exact⟨rfl,rfl⟩
     ·have o:op=16:=eq_of_beq o
      have hp:=b8 h2 (by omega) (by omega)
      have hp:0<out.length:=by omega
      obtain⟨o0,s0,t0,v0,a0,e0,g0⟩:=cq hp
      have d0:out.getD 0 (aY zeroV) = .mk o0 s0 t0 v0 a0:=by rw[List.getD_eq_getElem?_getD,List.getElem?_eq_getElem hp,e0];rfl
      rw[if_neg (by omega),if_neg (by omega),if_neg (by omega),if_pos o,d0]at hE
      have QR:fits (.mk o0 s0 t0 v0 a0):=by rw[←e0];exact(tf _ (List.getElem_mem hp)).1
      refine⟨⟨by decide,by rw[ag];omega⟩,rfl,_,g0,o0,s0,t0.k,t0.sc,v0.t.k,v0.t.sc,v0.aA,v0.n,v0.s,aa a0,rfl,.mk o0 s0 t0 v0 a0,ae,by rw[ab];rfl,rfl,QR,fw,fun u1 B_ k1=>?_⟩
      rw[k1]at hE
      refine⟨fun hs=>⟨⟨by decide,by rw[ag];omega⟩,rfl,_,g0,o0,s0,t0.k,t0.sc,v0.t.k,v0.t.sc,v0.aA,v0.n,v0.s,aa a0,rfl,?_⟩,fun hs=>?_⟩
      ·have hs:iw u1 t=true:=hs
       dsimp only at hE
       rw[hs,cond_true]at hE
       rw[hE,ab];exact⟨rfl,rfl⟩
      ·have hs:iw u1 t=false:=hs
       dsimp only at hE
       rw[hs,cond_false]at hE
       rw[hE,ab];exact⟨rfl,rfl⟩
     ·have n10:op≠10:=by simpa using n10
      have n11:op≠11:=by simpa using n11
      have n12:op≠12:=by simpa using n12
      have n14:op≠14:=by simpa using n14
      have n16:op≠16:=by simpa using n16
      rw[if_neg (by omega),if_neg n12,if_neg n14,if_neg n16]at hE
      rw[hE,ab];exact⟨rfl,rfl⟩)
def Nf(a:List R)(K:KT):Prop:=match a with
 |[.agg x,.d (.sl y)]=>∃(c:Int) (e:EX) (ae:List Ty),x=cells e∧y=ae.map Ty.cs∧Pe c e∧ae.length≤8796093022208∧kG (tR ae e) K
 |_=>False
theorem Ng:CK gl Nf 14:=fun a K h=>by
 unfold Nf at h
 split at h
 ·obtain⟨c,e,ae,rfl,rfl,h1,h2,h3⟩:=h
  exact jB (agv _ c e ae (Nat.lt_succ_self _) h1 h2) h3
 ·exact h.elim
noncomputable def tg:EX:=.mk 0 0 ⟨0,0⟩ zeroV []
noncomputable def wj(ae:List Ty)(e:EX):EX×Int:=bif (aV ae e).2 != 0 then(tg,(aV ae e).2)else(tR ae e,0)
def Tz:aj:=au Dz 14 Nf
theorem Nh:ah prog gl Tz:=af ta Ng
def Zgd(a0 a1:Int)(a2:Ty)(a3:Go.Ex.AV)(a4:List EX)(a5:List (List D))(k:EX→(List Ty)→Prop):Prop:=SW a0 a1 a2 a3 a4 a5 fun e ae=>ae.length≤8796093022208∧k e ae
def Zcy(a0 a1:Int)(a2:Ty)(a3:Go.Ex.AV)(a4:List EX)(a5:List (List D))(a6:KT):Prop:=Zgd a0 a1 a2 a3 a4 a5 fun e ae=>∀(dn:Ty) (f:Int),aV ae e=(dn,f)→((f != (0:Int))=true→a6 [.agg [.i 0,.i 0,.i 0,.i 0,.i 0,.i 0,.v (.bool false),.i 0,.v (.string ⟨⟨[]⟩⟩),.sl []],.d (.i f)] [])∧((f != (0:Int))=false→∃(c:Int),SV a0 a1 a2 a3 a4 a5 fun e ae=>Pe c e∧ae.length≤8796093022208∧∀(cL aU:Int) (t':Ty) (v':AV) (l':List EX),tR ae e=EX.mk cL aU t' v' l'→a6 [.agg (xQ cL aU t' v' l'),.d (.i 0)] [])
theorem anb(op sub:Int)(t:Ty)(v:Go.Ex.AV)(args:List EX)(y:List (List D))(Q:KT):vc bl Tz bf fi6 (f6.body.getD .skip) f6.results.toList [.agg (aT op sub t v (aa args)),.d (.sl y)] Q=(Zcy op sub t v args y Q):=by kernel_rfl
theorem anc:∀(e:EX) (ae:List Ty),fits e→ae.length≤8796093022208→Ct prog gl 6 [.agg (cells e),.d (.sl (ae.map Ty.cs))] (gives [.agg (cells (wj ae e).1),.d (.v (.int .i64 (wj ae e).2))])
 | .mk op sub t v args,ae,hf,fw=>by
   have hc:aT op sub t v (aa args)=cells (.mk op sub t v args):=(ab _ _ _ _ _).symm
   rw[ab]
   refine cz Nh f6 fi6 ⟨_,_,rfl,rfl⟩ ?_
   rw[anb];dsimp -eta -iota -proj only[Zcy,Zgd,SW,SV,Fl,zC,Z1,xQ]
   refine⟨.mk op sub t v args,ae,hc,rfl,hf,fw,fun t1 ff hk=>⟨fun h=>?_,fun h=>?_⟩⟩
   ·have:wj ae (.mk op sub t v args)=(tg,ff):=by
       unfold wj
       rw[hk]
       dsimp only
       rw[h];rfl
    rw[this]
    have hz:cells tg=aT 0 0 ⟨0,0⟩ zeroV []:=ab _ _ _ _ _
    dsimp only
    rw[hz]
    exact⟨rfl,rfl⟩
   ·have:wj ae (.mk op sub t v args)=(tR ae (.mk op sub t v args),0):=by
       unfold wj
       rw[hk]
       dsimp only
       rw[h];rfl
    rw[this]
    have hm:=iN (ae:=ae) (e:=.mk op sub t v args) (by rw[hk];simpa using h)
    refine⟨(ae.length:Int),.mk op sub t v args,ae,hc,rfl,⟨hf,hm.1⟩,fw,fun cL aU t' v' l' he=>?_⟩
    rw[he,ab]
    exact⟨rfl,rfl⟩
def agx:aj:=au d_ 78 C1
theorem QS:ah prog gl agx:=af bh yR
theorem agy(op sub:Int)(t:Ty)(v:Go.Ex.AV)(args:List EX)(b:Bool)(Q:KT):vc bl agx bf Yw (f36.body.getD .skip) f36.results.toList [.agg (aT op sub t v (aa args)),.d (.v (.bool b))] Q=(Q [.d (.v (.bool (bif op==2 then v.1.1==1&&(v.1.2==0&&(v.2==false&&((v.3==bif b then(1:Int)else(0:Int))&&(v.4==eB&&true))))else false)))] []):=by kernel_rfl
theorem agz:∀(e:EX) (b:Bool),Ct prog gl 36 [.agg (cells e),.d (.v (.bool b))] (gives [.d (.v (.bool (pj e b)))])
 | .mk op sub t v args,b=>by
   rw[ab]
   refine cz QS f36 Yw ⟨_,_,rfl,rfl⟩ ?_
   rw[agy]
   exact⟨rfl,rfl⟩
def DA(a:List R)(K:KT):Prop:=match a with
 |[.agg x,.d (.v (.bool b))]=>∃e:EX,x=cells e∧K [.d (.v (.bool (pj e b)))] []
 |_=>False
theorem zu:CK gl DA 36:=fun a K h=>by
 unfold DA at h
 split at h
 ·obtain⟨e,rfl,h1⟩:=h
  exact(agz e _).gives h1
 ·exact h.elim
theorem V0(op sub:Int)(t:Ty)(v:Go.Ex.AV)(args:List EX)(Q:KT):vc bl d_ bf OG (f34.body.getD .skip) f34.results.toList [.agg (aT op sub t v (aa args))] Q=(Q [.d (.v (.bool (op != (2:Int))))] []):=by kernel_rfl
theorem V1:∀(e:EX),Ct prog gl 34 [.agg (cells e)] (gives [.d (.v (.bool (e.op != 2)))])
 | .mk op sub t v args=>by
   rw[ab]
   refine cz bh f34 OG ⟨_,_,rfl,rfl⟩ ?_
   rw[V0]
   exact⟨rfl,rfl⟩
def B'(a:List R)(K:KT):Prop:=match a with
 |[.agg x]=>∃e:EX,x=cells e∧K [.d (.v (.bool (e.op != 2)))] []
 |_=>False
theorem E1:CK gl B' 34:=fun a K h=>by
 unfold B' at h
 split at h
 ·obtain⟨e,rfl,h1⟩:=h
  exact(V1 e).gives h1
 ·exact h.elim
def agA:aj:=au d_ 34 B'
theorem QT:ah prog gl agA:=af bh E1
def QU(l:List EX)(x:Nat):St:={tm:=[(0,.d (.sl (aa l))),(1,.fn 34 []),(4,.d (.v (.int .i64 0))),(7,.d (.v (.int .i64 ((aa l).length:Int)))),(8,.d (.v (.int .i64 (x:Int))))],hp:=[],kn:=[],gd:=[]}
def oD(l:List EX)(m:Nat)(x:Nat):Prop:=(x≤l.length∧m=l.length-x)∧∀e∈l.take x,(EX.op e != 2)=false
def DB(l:List EX):Fi:={YZ with lx:=[(2,{X:=Nat,sh:=QU l,P:=fun _=>oD l})]}
def Zih(a0:List EX)(a1:Nat):St:={tm:=[(0,.d (.sl (aa a0))),(1,.fn (34:Nat) []),(4,.i 0),(7,.i (↑(aa a0).length:Int)),(8,.i (↑a1:Int))],hp:=[],kn:=[],gd:=[]:St}
theorem V2(l:List EX)(Q:KT):vc bl agA bf (DB l) (f73.body.getD .skip) f73.results.toList [.d (.sl (aa l)),.fn 34 []] Q=(zz l fun es x0=>({tm:=[(0,.d (.sl (aa l))),(1,.fn (34:Nat) []),(4,.i 0),(7,.i (↑es.length:Int)),(8,.i 0)],hp:=[],kn:=[],gd:=[]:St}=(Zih l x0)∧∃(n:Nat),oD l n x0)∧∀(n:Nat) (x:Nat),oD l n x→(Gm x l (OI l x fun e=>((e.op != (2:Int))=true→Q [.d (.i (↑x:Int))] [])∧((e.op != (2:Int))=false→fG n fun m x'=>{tm:=[(0,.d (.sl (aa l))),(1,.fn (34:Nat) []),(4,.i 0),(7,.i (↑(aa l).length:Int)),(8,.i (IntKind.i64.wrap ((↑x:Int)+1)))],hp:=[],kn:=[],gd:=[]:St}=(Zih l x')∧oD l m x')))∧(Fc x l (qD Q))):=by kernel_rfl
theorem V3(l:List EX)(hl:l.length≤1353245080300):
  Ct prog gl 73 [.d (.sl (aa l)),.fn 34 []] (fun res fin=>fin=[]∧∃r:Int,res=[.d (.v (.int .i64 r))]∧decide (r≥0)=l.any (fun e=>e.op != 2)):=by
 refine aw bN QT aF bD mixed (fn:=f73) (body:=f73.body.getD .skip) (by kernel_rfl) (by kernel_rfl) (by kernel_rfl) (fi:=DB l) (by kernel_rfl) (by kernel_rfl) (by
  cases h:l.any (fun e=>e.op != 2)
  ·exact⟨_,_,rfl,-1,rfl,rfl⟩
  ·exact⟨_,_,rfl,0,rfl,rfl⟩) ?_
 rw[V2];dsimp -eta -iota -proj only[zz,gS,fy,Zih,Gm,OI,yM,Zbx,Fb,Zy,Zs,Zr,Z2,lU,fG,fb,Fc,qD,Fg]
 refine⟨_,rfl,(0:Nat),⟨rfl,l.length,⟨Nat.zero_le _,rfl⟩,by simp⟩,fun m (x:Nat) hx=>⟨fun hi=>?_,fun hi=>?_⟩⟩
 ·have hi:x<l.length:=by simpa[ag]using hi
  obtain⟨PM,w9,t1,v1,a1,e1,g1⟩:=aX hi
  have hm:=hx.1.2
  refine⟨aa l,rfl,⟨by omega,by rw[ag];omega⟩,_,g1,rfl,PM,w9,t1.k,t1.sc,v1.t.k,v1.t.sc,v1.aA,v1.n,v1.s,aa a1,rfl,l[x],by rw[e1,ab];rfl,fun hb=>?_,fun hb=>?_⟩
  ·refine⟨rfl,(x:Int),rfl,?_⟩
   rw[decide_eq_true (by omega)]
   exact(List.any_eq_true.2 ⟨l[x],List.getElem_mem hi,hb⟩).symm
  ·exact⟨l.length-(x+1),x+1,by omega,by rw[aL (by omega)],⟨hi,rfl⟩,lj (p:=fun e=>EX.op e != 2) hi hx.2 hb⟩
 ·have hi:¬x<l.length:=by simpa[ag]using hi
  have h:=hx.2
  rw[List.take_of_length_le (by omega)]at h
  refine⟨rfl,-1,rfl,?_⟩
  rw[any_none h];rfl
def Ca(a:List R)(K:KT):Prop:=match a with
 |[.d (.sl x),.fn 34 []]=>∃l:List EX,x=aa l∧l.length≤1353245080300∧∀r:Int,decide (r≥0)=l.any (fun e=>e.op != 2)→K [.d (.v (.int .i64 r))] []
 |_=>False
theorem E2:CK gl Ca 73:=fun a K h=>by
 unfold Ca at h
 split at h
 ·obtain⟨l,rfl,h1,h2⟩:=h
  exact(V3 l h1).mono fun res fin ⟨e1,r,e2,e3⟩=>by subst e1;subst e2;exact h2 r e3
 ·exact h.elim
def agB:aj:=au d_ 73 Ca
theorem QV:ah prog gl agB:=af bh E2
theorem V4(x:List (List D))(Q:KT):vc bl agB bf OF (f33.body.getD .skip) f33.results.toList [.d (.sl x),.fn 34 []] Q=(∃(l:List EX),x=aa l∧l.length≤1353245080300∧∀(r:Int),(decide (r≥0)=l.any fun(e:EX)=>e.op != (2:Int))→Q (Fh r (0:Int)) []):=by kernel_rfl
theorem V5(l:List EX)(hl:l.length≤1353245080300):
  Ct prog gl 33 [.d (.sl (aa l)),.fn 34 []] (gives [.d (.v (.bool (l.any fun e=>e.op != 2)))]):=by
 refine cz QV f33 OF ⟨_,_,rfl,rfl⟩ ?_
 rw[V4];dsimp -eta -iota -proj only[Fh]
 exact⟨l,rfl,hl,fun r hr=>⟨by rw[hr],rfl⟩⟩
def Cb(a:List R)(K:KT):Prop:=match a with
 |[.d (.sl x),.fn 34 []]=>∃l:List EX,x=aa l∧l.length≤1353245080300∧K [.d (.v (.bool (l.any fun e=>e.op != 2)))] []
 |_=>False
theorem E3:CK gl Cb 33:=fun a K h=>by
 unfold Cb at h
 split at h
 ·obtain⟨l,rfl,h1,h2⟩:=h
  exact(V5 l h1).gives h2
 ·exact h.elim
end Go.Proofs.Tryz
