/- A part of the proof: contracts of functions, by a verified generator of conditions; no condition of its own. -/
import Derived.Test.YthhomimmnogngaaGreatDoorSh
import Derived.Test.YthhomimmnogngaaGreatDoorDm21
import Derived.Below
import Derived.Sort.Grow
import Derived.Deep.Draws
import Derived.Test.YthhomimmnogngaaGreatDoorB10
import Derived.Test.YthhomimmnogngaaGreatDoorB1
namespace Go.Dm
variable {P:Program}
theorem fnOk_of{f:Nat}{fn:Func}(h:P.funcs[f]? = some fn)(h1:(fn.name == "runtime.NumGoroutine")=false)(h2:fn.body.isNone=false):FnOk P f:=⟨fn,h,h1,h2⟩
theorem ct_vals{gl:Nat→Option Obj}{f:Nat}(hf:FnOk P f){xs:List Value}{y:Value}(hy:plain y=true)
  (h:∀w:World,(∀b o,gl b=some o→w.heap[b]? = some o)→Calls P f xs.toArray w fun e w'=>e = .returned y∧Upd [] w.heap.size w w'):
  Ct P gl f (xs.map fun x=>R.d (.v x)) (gives [.d (.v y)]):=by
 refine⟨hf,⟨_,_,rfl,rfl⟩,fun w ok vs bs h0 h1 h2 h3 h4=>?_⟩
 have inv:∀(xs:List Value) (bs:List Nat) (vs:List Value),ArgsR ok w bs (xs.map fun x=>R.d (.v x)) vs→vs=xs∧bs=[]:=by
  intro xs
  induction xs with
  |nil=>intro bs vs h;cases h;exact⟨rfl,rfl⟩
  |cons x r ih=>
   intro bs vs h
   cases h with
   |d hd hr=>
    obtain⟨e1,e2⟩:=ih _ _ hr
    cases hd with
    |v _=>exact⟨by rw[e1],e2⟩
 obtain⟨rfl,rfl⟩:=inv xs bs vs h4
 refine(h w fun b o hb=>(h0 b o hb).2).mono fun e w' ⟨he,hu⟩=>?_
 exact⟨[.d (.v y)],[],[y],ok,[],he,⟨rfl,rfl⟩,fun _ h=>h,fun _ h=>.inl h,fun b hb=>Nat.lt_of_lt_of_le (h1 b hb) hu.size,hu,.d (.v hy) .nil,List.nodup_nil,(by intro b hb;cases hb),rfl,(by intro i n cs h;simp at h)⟩
theorem Below.upd{w w':World}(h:Go.RowKit.Below w.heap.size w w'):Upd [] w.heap.size w w':=⟨h.os,h.tape,h.output,h.size,fun k hk _=>h.block k hk⟩
theorem ct_texts{gl:Nat→Option Obj}{f:Nat}(hf:FnOk P f){xs:List ByteArray}{sep y:ByteArray}(hne:xs≠[])
  (h:∀(w:World) (bk o c:Nat),(∀(j:Nat) x,xs[j]? = some x→w.cell? ⟨bk,o+j,none⟩=some (.string x))→bk<w.heap.size→xs.length≤c→
   Calls P f #[.slice (some ⟨bk,o,none⟩) xs.length c,.string sep] w fun e w'=>e = .returned (.string y)∧Upd [] w.heap.size w w'):
  Ct P gl f [.d (.sl (xs.map fun x=>[.v (.string x)])),.d (.v (.string sep))] (gives [.d (.v (.string y))]):=by
 refine⟨hf,⟨_,_,rfl,rfl⟩,fun w ok vs bs h0 h1 h2 h3 h4=>?_⟩
 obtain⟨bk,o,c,rfl,rfl,hc,hb,hl⟩:∃bk o c,vs=[.slice (some ⟨bk,o,none⟩) xs.length c,.string sep]∧bs=[]∧(∀(j:Nat) x,xs[j]? = some x→w.cell? ⟨bk,o+j,none⟩=some (.string x))∧bk<w.heap.size∧xs.length≤c:=by
  cases h4 with
  |d hd hr=>
   cases hr with
   |d hd2 hr2=>
    cases hr2
    cases hd2
    generalize hes:(xs.map fun x=>[D.v (Value.string x)])=es at hd
    have hl:es.length=xs.length:=by rw[←hes];simp
    have hpos:0<xs.length:=List.length_pos_iff.2 hne
    cases hd with
    |nil=>simp at hl;omega
    |nul=>simp at hl;omega
    | @sl b off cap es sz x hcap hok hsz hcc hrr=>
      have hn:es≠[]:=by intro h;subst h;simp at hl;omega
      have h1s:sz=1:=by
          have:[D.v (Value.string xs[0])]∈es:=by rw[←hes];exact List.mem_map.2 ⟨_,List.getElem_mem hpos,rfl⟩
          exact(hsz _ this).symm
      subst h1s
      refine⟨b,off,cap,by rw[hl],rfl,fun j y hj=>?_,h1 _ (hok hn),by omega⟩
      have hjl:j<xs.length:=by
          rcases List.getElem?_eq_some_iff.1 hj with⟨h,_⟩;exact h
      have e1:=hcc j 0 (by omega) (by omega)
      have e2:=hrr j 0 (by omega) (by omega)
      rw[←hes,List.getD_eq_getElem?_getD (l:=List.map _ _),List.getElem?_map,hj]at e2
      simp only[Nat.mul_one,Nat.add_zero]at e1
      rw[e1]
      have e3:Rd ok w (x j 0) (.v (.string y)):=e2
      generalize x j 0=z at e3 ⊢
      cases e3
      rfl
 refine(h w bk o c hc hb hl).mono fun e w' ⟨he,hu⟩=>?_
 exact⟨[.d (.v (.string y))],[],[.string y],ok,[],he,⟨rfl,rfl⟩,fun _ h=>h,fun _ h=>.inl h,fun b hb=>Nat.lt_of_lt_of_le (h1 b hb) hu.size,hu,.d (.v rfl) .nil,List.nodup_nil,(by intro b hb;cases hb),rfl,(by intro i n cs h;simp at h)⟩
end Go.Dm
namespace Go.Proofs.Tryz
open Go Go.Dm Go.Ex
set_option maxRecDepth 100000
variable {gl:Nat→Option Obj}
def decB(i:Nat):ByteArray:=⟨(Go.Lib.decDigits i).toArray⟩
theorem ct210(i:Nat)(hi:i<100):Ct prog gl 49 [.d (.v (.int .i64 (i:Int))),.d (.v (.int .i64 10))] (gives [.d (.v (.string (decB i)))]):=
 ct_vals (fnOk_of func49 (by kernel_rfl) (by kernel_rfl)) (xs:=[.int .i64 (i:Int),.int .i64 10]) rfl fun w _=>(strconv_FormatInt_10_small i hi w).mono fun e w' ⟨h1,h2⟩=>⟨h1,by rw[h2];exact Upd.refl _ _ _⟩
def c_210(a:List R)(K:KT):Prop:=match a with
 |[.d (.v (.int .i64 n)),.d (.v (.int .i64 10))]=>∃i:Nat,n=(i:Int)∧i<100∧K [.d (.v (.string (decB i)))] []
 |_=>False
theorem c_210_ok(a:List R)(K:KT)(h:c_210 a K):Ct prog gl 49 a K:=by
 unfold c_210 at h
 split at h
 ·obtain⟨i,rfl,h1,h2⟩:=h
  exact(ct210 i h1).gives h2
 ·exact h.elim
def joinB(l:List ByteArray)(sep:ByteArray):ByteArray:=⟨(Go.Lib.join (l.map (·.data.toList)) sep.data.toList).toArray⟩
theorem ct137(l:List ByteArray)(sep:ByteArray)(hne:l≠[])(hl:l.length≤140737488355328)(hs:(joinB l sep).size≤140737488355328):Ct prog gl 28 [.d (.sl (l.map fun x=>[.v (.string x)])),.d (.v (.string sep))] (gives [.d (.v (.string (joinB l sep)))]):=
 ct_texts (fnOk_of func28 (by kernel_rfl) (by kernel_rfl)) hne fun w bk o c h1 h2 h3=>(strings_Join bk o c l sep w h1 h2 hl h3 (by simpa[joinB,ByteArray.size]using hs)).mono fun e w' ⟨h1,h2⟩=>⟨h1,Below.upd h2⟩
def c_137(a:List R)(K:KT):Prop:=match a with
 |[.d (.sl x),.d (.v (.string sep))]=>∃l:List ByteArray,x=l.map (fun s=>[.v (.string s)])∧l≠[]∧l.length≤140737488355328∧(joinB l sep).size≤140737488355328∧K [.d (.v (.string (joinB l sep)))] []
 |_=>False
theorem c_137_ok(a:List R)(K:KT)(h:c_137 a K):Ct prog gl 28 a K:=by
 unfold c_137 at h
 split at h
 ·obtain⟨l,rfl,h1,h2,h3,h4⟩:=h
  exact(ct137 l _ h1 h2 h3).gives h4
 ·exact h.elim
def C_h1:CallT:=addC (addC C_g6 49 c_210) 28 c_137
theorem C_h1_ok:CallsOk prog gl C_h1:=addC_ok (addC_ok C_g6_ok c_210_ok) c_137_ok
theorem vc134(n:Int)(Q:KT):vc E_0 C_h1 noI fi25 (f25.body.getD .skip) f25.results.toList [.d (.v (.int .i64 n))] Q=(∃(i:Nat),n=(↑i:Int)∧i<(100:Nat)∧Q [.d (.v (.string (decB i)))] []):=by kernel_rfl
theorem ct134(i:Nat)(hi:i<100):Ct prog gl 25 [.d (.v (.int .i64 (i:Int)))] (gives [.d (.v (.string (decB i)))]):=
 ctv C_h1_ok f25 fi25 ⟨_,_,rfl,rfl⟩ (by
  rw[vc134]
  exact⟨i,rfl,hi,rfl,rfl⟩)
def c_134(a:List R)(K:KT):Prop:=match a with
 |[.d (.v (.int .i64 n))]=>∃i:Nat,n=(i:Int)∧i<100∧K [.d (.v (.string (decB i)))] []
 |_=>False
theorem c_134_ok(a:List R)(K:KT)(h:c_134 a K):Ct prog gl 25 a K:=by
 unfold c_134 at h
 split at h
 ·obtain⟨i,rfl,h1,h2⟩:=h
  exact(ct134 i h1).gives h2
 ·exact h.elim
def C_h2:CallT:=addC C_h1 25 c_134
theorem C_h2_ok:CallsOk prog gl C_h2:=addC_ok C_h1_ok c_134_ok
def colE(i:Nat):EX:=.mk 1 (i:Int) ⟨0,0⟩ zeroV []
def Zcu:List R:=[.d (.v (.string {data:={toList:=[(63:UInt8)]:Array UInt8}:ByteArray}))]
def Zcz(a0:KT):Prop:=a0 Zcu []
def Zc0(a0:KT):Prop:=(({data:={toList:=[]:Array UInt8}:ByteArray}=={data:={toList:=[]:Array UInt8}:ByteArray})=true→Zcz a0)∧(({data:={toList:=[]:Array UInt8}:ByteArray}=={data:={toList:=[]:Array UInt8}:ByteArray})=false→a0 [.d (.v (.string ⟨⟨[]⟩⟩))] [])
theorem vc136(args:List EX)(Q:KT):vc E_0 C_h2 noI fi27 (f27.body.getD .skip) f27.results.toList [.agg (encX 3 0 ⟨0,0⟩ zeroV (cellsL args))] Q=(((bif bif (3:Int)==9 then decide ((0:Int)≥1)else false then decide ((0:Int)≤6)else false)=true→((0:Int)≤0∧0<(↑(7:Nat):Int))∧Zc0 Q)∧((bif bif (3:Int)==9 then decide ((0:Int)≥1)else false then decide ((0:Int)≤6)else false)=false→(((3:Int)==16)=true→∃(i:Nat),(0:Int)=(↑i:Int)∧i<(100:Nat)∧{data:={toList:=[(99:UInt8),(97:UInt8),(115:UInt8),(116:UInt8),(58:UInt8)]:Array UInt8}:ByteArray}.size.add (decB i).size≤(9223372036854775807:Nat)∧(((0:Int)==3)=true→∃(i_1:Nat),(0:Int)=(↑i_1:Int)∧i_1<(100:Nat)∧{data:={toList:=[(46:UInt8)]:Array UInt8}:ByteArray}.size.add (decB i_1).size≤(9223372036854775807:Nat)∧(({data:={toList:=[(99:UInt8),(97:UInt8),(115:UInt8),(116:UInt8),(58:UInt8)]:Array UInt8}:ByteArray}++decB i).size.add ([].append (Lib.decDigits i_1)).length).succ≤(9223372036854775807:Nat)∧(({data:={toList:=[(99:UInt8),(97:UInt8),(115:UInt8),(116:UInt8),(58:UInt8)]:Array UInt8}:ByteArray}++decB i++({data:={toList:=[(46:UInt8)]:Array UInt8}:ByteArray}++decB i_1)=={data:={toList:=[]:Array UInt8}:ByteArray})=true→Zcz Q)∧(({data:={toList:=[(99:UInt8),(97:UInt8),(115:UInt8),(116:UInt8),(58:UInt8)]:Array UInt8}:ByteArray}++decB i++({data:={toList:=[(46:UInt8)]:Array UInt8}:ByteArray}++decB i_1)=={data:={toList:=[]:Array UInt8}:ByteArray})=false→Q [.d (.v (.string ({data:={toList:=[(99:UInt8),(97:UInt8),(115:UInt8),(116:UInt8),(58:UInt8)]:Array UInt8}:ByteArray}++decB i++({data:={toList:=[(46:UInt8)]:Array UInt8}:ByteArray}++decB i_1))))] []))∧(((0:Int)==3)=false→(({data:={toList:=[(99:UInt8),(97:UInt8),(115:UInt8),(116:UInt8),(58:UInt8)]:Array UInt8}:ByteArray}++decB i=={data:={toList:=[]:Array UInt8}:ByteArray})=true→Zcz Q)∧(({data:={toList:=[(99:UInt8),(97:UInt8),(115:UInt8),(116:UInt8),(58:UInt8)]:Array UInt8}:ByteArray}++decB i=={data:={toList:=[]:Array UInt8}:ByteArray})=false→Q [.d (.v (.string ({data:={toList:=[(99:UInt8),(97:UInt8),(115:UInt8),(116:UInt8),(58:UInt8)]:Array UInt8}:ByteArray}++decB i)))] [])))∧(((3:Int)==16)=false→((bif decide ((3:Int)≥0)then decide ((3:Int)<19)else false)=true→((0:Int)≤3∧3<(↑(19:Nat):Int))∧(({data:={toList:=[(43:UInt8)]:Array UInt8}:ByteArray}=={data:={toList:=[]:Array UInt8}:ByteArray})=true→Zcz Q)∧(({data:={toList:=[(43:UInt8)]:Array UInt8}:ByteArray}=={data:={toList:=[]:Array UInt8}:ByteArray})=false→Q [.d (.v (.string {data:={toList:=[(43:UInt8)]:Array UInt8}:ByteArray}))] []))∧((bif decide ((3:Int)≥0)then decide ((3:Int)<19)else false)=false→Zc0 Q)))):=by kernel_rfl
theorem vc66c(i:Nat)(Q:KT):vc E_0 C_h2 noI {fi12 with lp:=[]} (f12.body.getD .skip) f12.results.toList [.agg (encX 1 (i:Int) ⟨0,0⟩ zeroV (cellsL []))] Q=((((1:Int)==1)=true→∃(i_1:Nat),(↑i:Int)=(↑i_1:Int)∧i_1<(100:Nat)∧{data:={toList:=[(36:UInt8)]:Array UInt8}:ByteArray}.size.add (decB i_1).size≤(9223372036854775807:Nat)∧Q [.d (.v (.string ({data:={toList:=[(36:UInt8)]:Array UInt8}:ByteArray}++decB i_1)))] [])∧(((1:Int)==1)=false→(((1:Int)==2)=true→False)∧(((1:Int)==2)=false→False))):=by kernel_rfl
def plusB:ByteArray:={data:={toList:=[(43:UInt8)]:Array UInt8}:ByteArray}
theorem ct136(args:List EX):Ct prog gl 27 [.agg (encX 3 0 ⟨0,0⟩ zeroV (cellsL args))] (gives [.d (.v (.string plusB))]):=
 ctv C_h2_ok f27 fi27 ⟨_,_,rfl,rfl⟩ (by
  rw[vc136];dsimp -eta -iota -proj only[Zc0,Zcz,Zcu]
  repeat' (first|(refine And.intro ?_ ?_)|(intro h;first|(exact absurd h (by decide))|skip)|rfl|decide))
def c_136(a:List R)(K:KT):Prop:=match a with
 |[.agg x]=>∃args:List EX,x=encX 3 0 ⟨0,0⟩ zeroV (cellsL args)∧K [.d (.v (.string plusB))] []
 |_=>False
theorem c_136_ok(a:List R)(K:KT)(h:c_136 a K):Ct prog gl 27 a K:=by
 unfold c_136 at h
 split at h
 ·obtain⟨args,rfl,h1⟩:=h
  exact(ct136 args).gives h1
 ·exact h.elim
def colB(i:Nat):ByteArray:={data:={toList:=[(36:UInt8)]:Array UInt8}:ByteArray}++decB i
theorem ct66c(i:Nat)(hi:i<100)(hs:(decB i).size≤100):Ct prog gl 12 [.agg (cells (colE i))] (gives [.d (.v (.string (colB i)))]):=by
 rw[show cells (colE i)=encX 1 (i:Int) ⟨0,0⟩ zeroV (cellsL [])from cells_mk _ _ _ _ _]
 refine ctv C_h2_ok f12 {fi12 with lp:=[]} ⟨_,_,rfl,rfl⟩ ?_
 rw[vc66c]
 refine⟨fun _=>⟨i,rfl,hi,?_,rfl,rfl⟩,fun h=>absurd h (by decide)⟩
 show 1+(decB i).size≤_
 omega
def c_66c(a:List R)(K:KT):Prop:=match a with
 |[.agg x]=>∃i:Nat,x=cells (colE i)∧i<100∧(decB i).size≤100∧K [.d (.v (.string (colB i)))] []
 |_=>False
theorem c_66c_ok(a:List R)(K:KT)(h:c_66c a K):Ct prog gl 12 a K:=by
 unfold c_66c at h
 split at h
 ·obtain⟨i,rfl,h1,h2,h3⟩:=h
  exact(ct66c i h1 h2).gives h3
 ·exact h.elim
def C_h3:CallT:=addC (addC C_h2 27 c_136) 12 c_66c
theorem C_h3_ok:CallsOk prog gl C_h3:=addC_ok (addC_ok C_h2_ok c_136_ok) c_66c_ok
structure WX where
 i:Nat
 l:List ByteArray
def st_66(x:WX):St:={tm:=[(2,.d (.v (.string {data:={toList:=[]:Array UInt8}:ByteArray}))),(3,.own 21),(23,.d (.sl (cellsL [colE 0,colE 1]))),(24,.d (.v (.int .i64 ((cellsL [colE 0,colE 1]).length:Int)))),(25,.d (.v (.int .i64 (x.i:Int))))],hp:=[(1,.box [.d (.v (.int .i64 3)),.d (.v (.int .i64 0)),.d (.v (.int .i64 0)),.d (.v (.int .i64 0)),.d (.v (.int .i64 0)),.d (.v (.int .i64 0)),.d (.v (.bool false)),.d (.v (.int .i64 0)),.d (.v (.string {data:={toList:=[]:Array UInt8}:ByteArray})),.d (.sl (cellsL [colE 0,colE 1]))]),(21,.lst 9 1 (x.l.map fun s=>[.v (.string s)]))],kn:=[],gd:=[]}
def inv_66(m:Nat)(x:WX):Prop:=x.i≤2∧m=2-x.i∧x.l=[plusB,colB 0,colB 1].take (x.i+1)
def fx_66:Fi:={fi12 with lx:=[(8,{X:=WX,sh:=st_66,P:=fun _=>inv_66})]}
theorem vc66(u:Nat)(Q:KT):vc E_0 C_h3 noI fx_66 (f12.body.getD .skip) f12.results.toList [.agg (encX 3 0 ⟨0,0⟩ zeroV (cellsL [colE 0,colE 1]))] Q=((((3:Int)==1)=true→∃(i:Nat),(0:Int)=(↑i:Int)∧i<(100:Nat)∧{data:={toList:=[(36:UInt8)]:Array UInt8}:ByteArray}.size.add (decB i).size≤(9223372036854775807:Nat)∧Q [.d (.v (.string ({data:={toList:=[(36:UInt8)]:Array UInt8}:ByteArray}++decB i)))] [])∧(((3:Int)==1)=false→(((3:Int)==2)=true→False)∧(((3:Int)==2)=false→∃(args:List EX),[D.i 3,D.i 0,D.i 0,D.i 0,D.i 0,D.i 0,D.v (.bool false),D.i 0,D.v (.string ⟨⟨[]⟩⟩),D.sl (cellsL [colE (0:Nat),colE (1:Nat)])]=[D.i 3,D.i 0,D.i 0,D.i 0,D.i 0,D.i 0,D.v (.bool false),D.i 0,D.v (.string ⟨⟨[]⟩⟩),D.sl (cellsL args)]∧∃(es:List (List D)),D.sl (cellsL [colE (0:Nat),colE (1:Nat)])=D.sl es∧∃(x0:WX),({tm:=[(2,.d (.v (.string ⟨⟨[]⟩⟩))),(3,.own 21),(23,.d (.sl (cellsL [colE (0:Nat),colE (1:Nat)]))),(24,.i (↑es.length:Int)),(25,.i 0)],hp:=[(1,.box [.i 3,.i 0,.i 0,.i 0,.i 0,.i 0,.d (.v (.bool false)),.i 0,.d (.v (.string ⟨⟨[]⟩⟩)),.d (.sl (cellsL [colE (0:Nat),colE (1:Nat)]))]),(21,.lst 9 1 [[.v (.string plusB)]])],kn:=[],gd:=[]:St}={tm:=[(2,.d (.v (.string ⟨⟨[]⟩⟩))),(3,.own 21),(23,.d (.sl (cellsL [colE (0:Nat),colE (1:Nat)]))),(24,.i (↑(2:Nat):Int)),(25,.i (↑x0.1:Int))],hp:=[(1,.box [.i 3,.i 0,.i 0,.i 0,.i 0,.i 0,.d (.v (.bool false)),.i 0,.d (.v (.string ⟨⟨[]⟩⟩)),.d (.sl (cellsL [colE (0:Nat),colE (1:Nat)]))]),(21,.lst 9 1 (List.map (fun(s:ByteArray)=>[.v (.string s)]) x0.2))],kn:=[],gd:=[]:St}∧∃(n:Nat),inv_66 n x0)∧∀(n:Nat) (x:WX),inv_66 n x→(decide ((↑x.1:Int)<(↑(2:Nat):Int))=true→∃(es:List (List D)),D.sl (cellsL [colE (0:Nat),colE (1:Nat)])=D.sl es∧(0≤(↑x.1:Int)∧(↑x.1:Int)<(↑es.length:Int))∧∃(cells:List D),es[(↑x.1:Int).toNat]? = some cells∧cells.length=10∧∃(n_1 n_2 n_3 n_4 n_5 n_6:Int),∃(b:Bool),∃(n_7:Int),∃(b_1:ByteArray),∃(es:List (List D)),cut 0 10 cells=some [D.i n_1,D.i n_2,D.i n_3,D.i n_4,D.i n_5,D.i n_6,D.v (.bool b),D.i n_7,D.v (.string b_1),D.sl es]∧∃(i:Nat),[D.i n_1,D.i n_2,D.i n_3,D.i n_4,D.i n_5,D.i n_6,D.v (.bool b),D.i n_7,D.v (.string b_1),D.sl es]=Ex.cells (colE i)∧i<(100:Nat)∧(decB i).size≤(100:Nat)∧(∀(c:List D),c∈[[D.v (.string (colB i))]]→c.length=1)∧(9:Nat)=(9:Nat)∧(1:Nat)=(1:Nat)∧(↑(List.map (fun(s:ByteArray)=>[D.v (.string s)]) x.2).length.succ:Int)*(↑(16:Nat):Int)≤140737488355328∧∃(m:Nat),∃(x':WX),m<n∧{tm:=[(2,.d (.v (.string ⟨⟨[]⟩⟩))),(3,.own 21),(23,.d (.sl (cellsL [colE (0:Nat),colE (1:Nat)]))),(24,.i (↑(2:Nat):Int)),(25,.i (IntKind.i64.wrap ((↑x.1:Int)+1)))],hp:=[(1,.box [.i 3,.i 0,.i 0,.i 0,.i 0,.i 0,.d (.v (.bool false)),.i 0,.d (.v (.string ⟨⟨[]⟩⟩)),.d (.sl (cellsL [colE (0:Nat),colE (1:Nat)]))]),(21,.lst 9 1 (List.map (fun(s:ByteArray)=>[.v (.string s)]) x.2++[[.v (.string (colB i))]]))],kn:=[],gd:=[]:St}={tm:=[(2,.d (.v (.string ⟨⟨[]⟩⟩))),(3,.own 21),(23,.d (.sl (cellsL [colE (0:Nat),colE (1:Nat)]))),(24,.i (↑(2:Nat):Int)),(25,.i (↑x'.1:Int))],hp:=[(1,.box [.i 3,.i 0,.i 0,.i 0,.i 0,.i 0,.d (.v (.bool false)),.i 0,.d (.v (.string ⟨⟨[]⟩⟩)),.d (.sl (cellsL [colE (0:Nat),colE (1:Nat)]))]),(21,.lst 9 1 (List.map (fun(s:ByteArray)=>[.v (.string s)]) x'.2))],kn:=[],gd:=[]:St}∧inv_66 m x')∧(decide ((↑x.1:Int)<(↑(2:Nat):Int))=false→∃(l:List ByteArray),List.map (fun(s:ByteArray)=>[D.v (.string s)]) x.2=List.map (fun(s:ByteArray)=>[D.v (.string s)]) l∧l≠[]∧l.length≤140737488355328∧(joinB l {data:={toList:=[(32:UInt8)]:Array UInt8}:ByteArray}).size≤(140737488355328:Nat)∧{data:={toList:=[(40:UInt8)]:Array UInt8}:ByteArray}.size.add (joinB l {data:={toList:=[(32:UInt8)]:Array UInt8}:ByteArray}).size≤(9223372036854775807:Nat)∧({data:={toList:=[(40:UInt8)]:Array UInt8}:ByteArray}++joinB l {data:={toList:=[(32:UInt8)]:Array UInt8}:ByteArray}).size.succ≤(9223372036854775807:Nat)∧Q [.d (.v (.string ({data:={toList:=[(40:UInt8)]:Array UInt8}:ByteArray}++joinB l {data:={toList:=[(32:UInt8)]:Array UInt8}:ByteArray}++{data:={toList:=[(41:UInt8)]:Array UInt8}:ByteArray})))] [])))):=by kernel_rfl
def showB:ByteArray:={data:={toList:=[(40:UInt8)]:Array UInt8}:ByteArray}++joinB [plusB,colB 0,colB 1] {data:={toList:=[(32:UInt8)]:Array UInt8}:ByteArray}++{data:={toList:=[(41:UInt8)]:Array UInt8}:ByteArray}
theorem dec0:decB 0={data:={toList:=[(48:UInt8)]:Array UInt8}:ByteArray}:=by
 unfold decB
 rw[Go.Lib.decDigits];rfl
theorem dec1:decB 1={data:={toList:=[(49:UInt8)]:Array UInt8}:ByteArray}:=by
 unfold decB
 rw[Go.Lib.decDigits];rfl
theorem join_val:joinB [plusB,colB 0,colB 1] {data:={toList:=[(32:UInt8)]:Array UInt8}:ByteArray}={data:={toList:=[(43:UInt8),32,36,48,32,36,49]:Array UInt8}:ByteArray}:=by
 unfold colB
 rw[dec0,dec1]
 rfl
theorem dec01:∀i,i<2→(decB i).size≤100:=by
 intro i hi
 match i,hi with
 |0,_=>rw[dec0];decide
 |1,_=>rw[dec1];decide
theorem ct66s:Ct prog gl 12 [.agg (encX 3 0 ⟨0,0⟩ zeroV (cellsL [colE 0,colE 1]))] (gives [.d (.v (.string showB))]):=by
 refine ct_of_vc E_ok C_h3_ok ioK_no it_ok mixed (fn:=f12) (body:=f12.body.getD .skip) (by kernel_rfl) (by kernel_rfl) (by kernel_rfl) (fi:=fx_66) (by kernel_rfl) (by kernel_rfl) ⟨_,_,rfl,rfl⟩ ?_
 rw[vc66 0]
 refine⟨fun h=>absurd h (by decide),fun _=>⟨fun h=>absurd h (by decide),fun _=>⟨_,rfl,_,rfl,(⟨0,[plusB]⟩:WX),⟨rfl,2,by decide,rfl,rfl⟩,fun m (x:WX) hx=>⟨fun hi=>?_,fun hi=>?_⟩⟩⟩⟩
 ·obtain⟨i,l⟩:=x
  obtain⟨h1,h2,h3⟩:=hx
  dsimp only at h1 h2 h3 hi ⊢
  have hi:i<2:=by have:=of_decide_eq_true hi;omega
  have hl:l.length=i+1:=by rw[h3];simp;omega
  have hg:(cellsL [colE 0,colE 1])[((i:Nat):Int).toNat]? = some (cells (colE i)):=by
   match i,hi with
   |0,_=>rfl
   |1,_=>rfl
  refine⟨_,rfl,⟨by omega,by show(i:Int)<2;omega⟩,cells (colE i),hg,rfl,_,_,_,_,_,_,_,_,_,_,rfl,i,rfl,by omega,dec01 i hi,by simp,rfl,rfl,?_,2-(i+1),⟨i+1,l++[colB i]⟩,by omega,?_,by show i+1≤2;omega,rfl,?_⟩
  ·rw[Nat.succ_eq_add_one,List.length_map,hl];omega
  ·dsimp only
   rw[wrap_next (by omega),List.map_append]
   rfl
  ·show l++[colB i]=_
   rw[h3]
   match i,hi with
   |0,_=>rfl
   |1,_=>rfl
 ·obtain⟨i,l⟩:=x
  obtain⟨h1,h2,h3⟩:=hx
  dsimp only at h1 h2 h3 hi ⊢
  have hi:¬(i:Int)<2:=of_decide_eq_false hi
  have:i=2:=by omega
  subst this
  refine⟨l,rfl,?_,?_,?_,?_,?_,?_⟩
  ·rw[h3];exact List.cons_ne_nil _ _
  ·rw[h3];decide
  all_goals rw[h3,show [plusB,colB 0,colB 1].take (2+1)=[plusB,colB 0,colB 1]from rfl]
  ·rw[join_val];decide
  ·rw[join_val];decide
  ·rw[join_val];decide
  ·exact⟨rfl,rfl⟩
end Go.Proofs.Tryz
namespace Go.Proofs.Tryz
open Go Go.Dm Go.Ex
set_option maxRecDepth 100000
variable {gl:Nat→Option Obj}
def c_66s(a:List R)(K:KT):Prop:=match a with
 |[.agg x]=>x=encX 3 0 ⟨0,0⟩ zeroV (cellsL [colE 0,colE 1])∧K [.d (.v (.string showB))] []
 |_=>False
theorem c_66s_ok(a:List R)(K:KT)(h:c_66s a K):Ct prog gl 12 a K:=by
 unfold c_66s at h
 split at h
 ·obtain⟨rfl,h1⟩:=h
  exact ct66s.gives h1
 ·exact h.elim
def sumE:EX:=.mk 3 0 ⟨0,0⟩ zeroV [colE 0,colE 0]
def quoE:EX:=.mk 6 0 ⟨0,0⟩ zeroV [colE 0,colE 1]
def rowP:List Go.Ex.AV:=[ofI 1,ofI 0]
theorem fits_col(i:Nat)(h:i<100):fits (colE i):=by
 simp only[colE,fits,zeroV,fitsL,in64,List.length_nil]
 refine⟨⟨?_,?_,?_,?_,?_,?_,?_⟩,?_,trivial⟩<;>omega
theorem fits_sum:fits sumE:=by
 simp only[sumE,fits,zeroV,fitsL,in64,List.length_cons,List.length_nil,fits_col 0 (by decide)]
 refine⟨⟨?_,?_,?_,?_,?_,?_,?_⟩,?_,?_⟩<;>simp
theorem fits_quo:fits quoE:=by
 simp only[quoE,fits,zeroV,fitsL,in64,List.length_cons,List.length_nil,fits_col 0 (by decide),fits_col 1 (by decide)]
 refine⟨⟨?_,?_,?_,?_,?_,?_,?_⟩,?_,?_⟩<;>simp
theorem show_val:showB={data:={toList:=[(40:UInt8),(43:UInt8),(32:UInt8),(36:UInt8),(48:UInt8),(32:UInt8),(36:UInt8),(49:UInt8),(41:UInt8)]:Array UInt8}:ByteArray}:=by
 unfold showB
 rw[join_val]
 rfl
end Go.Proofs.Tryz
namespace Go.Ex
open Go Go.Dm
def xlo(x:Int):Int:=aInt.bits .and .u64 x 4294967295
def xhi(x:Int):Int:=aInt.shr .u64 x 32
def mP(x y:Int):Int:=IntKind.u64.wrap (xlo x*xlo y)
def mQ(x y:Int):Int:=IntKind.u64.wrap (IntKind.u64.wrap (xhi x*xlo y)+xhi (mP x y))
def mR(x y:Int):Int:=IntKind.u64.wrap (IntKind.u64.wrap (xlo x*xhi y)+xlo (mQ x y))
def mH(x y:Int):Int:=IntKind.u64.wrap (IntKind.u64.wrap (IntKind.u64.wrap (xhi x*xhi y)+xhi (mQ x y))+xhi (mR x y))
def mL(x y:Int):Int:=aInt.bits .or .u64 (aInt.shl .u64 (mR x y) 32) (xlo (mP x y))
def wideLo(a b:Int):Int:=mL (IntKind.u64.wrap a) (IntKind.u64.wrap b)
def wideHi(a b:Int):Int:=
 let h:=IntKind.i64.wrap (mH (IntKind.u64.wrap a) (IntKind.u64.wrap b))
 let h:=bif decide (a<0)then IntKind.i64.wrap (h-b)else h
 bif decide (b<0)then IntKind.i64.wrap (h-a)else h
def narrowP(h l:Int):Int×Int:=bif h != aInt.shr .i64 (IntKind.i64.wrap l) 63 then(0,10)else(IntKind.i64.wrap l,0)
def mulP(a b:Int):Int×Int:=narrowP (wideHi a b) (wideLo a b)
end Go.Ex
namespace Go.Proofs.Tryz
open Go Go.Dm Go.Ex
set_option maxRecDepth 100000
variable {gl:Nat→Option Obj}
abbrev eB:ByteArray:={data:={toList:=[]:Array UInt8}:ByteArray}
def c_198(a:List R)(K:KT):Prop:=match a with
 |[.d (.v (.int .i64 k)),.d (.v (.int .i64 sc)),.d (.v (.int .i64 n)),.d (.v (.string s))]=>K [.agg [.v (.int .i64 k),.v (.int .i64 sc),.v (.bool false),.v (.int .i64 n),.v (.string s)]] []
 |_=>False
theorem vc198(k sc n:Int)(s:ByteArray)(Q:KT):vc E_0 C_g6 noI fi71 (f71.body.getD .skip) f71.results.toList [.d (.v (.int .i64 k)),.d (.v (.int .i64 sc)),.d (.v (.int .i64 n)),.d (.v (.string s))] Q=(Q [.agg [.i k,.i sc,.v (.bool false),.i n,.v (.string s)]] []):=by kernel_rfl
theorem ct198(k sc n:Int)(s:ByteArray):Ct prog gl 71 [.d (.v (.int .i64 k)),.d (.v (.int .i64 sc)),.d (.v (.int .i64 n)),.d (.v (.string s))] (gives [.agg [.v (.int .i64 k),.v (.int .i64 sc),.v (.bool false),.v (.int .i64 n),.v (.string s)]]):=
 ctv C_g6_ok f71 fi71 ⟨_,_,rfl,rfl⟩ (by
  rw[vc198];exact⟨rfl,rfl⟩)
theorem c_198_ok(a:List R)(K:KT)(h:c_198 a K):Ct prog gl 71 a K:=by
 unfold c_198 at h
 split at h
 ·exact(ct198 _ _ _ _).gives h
 ·exact h.elim
def C_k1:CallT:=addC C_g6 71 c_198
theorem C_k1_ok:CallsOk prog gl C_k1:=addC_ok C_g6_ok c_198_ok
def boolV(b:Bool):Go.Ex.AV:=⟨⟨1,0⟩,false,bif b then 1 else 0,eB⟩
def noneV(t:Ty):Go.Ex.AV:=⟨t,true,0,eB⟩
def textV(s:ByteArray):Go.Ex.AV:=⟨⟨4,0⟩,false,0,s⟩
def Z3(a0 a1:Int):List D:=[.i a0,.i 0,.v (.bool false),.i a1,.v (.string ⟨⟨[]⟩⟩)]
def Zez(a0:Int):List R:=[.agg (Z3 (1:Int) a0)]
theorem vc121(b:Bool)(Q:KT):vc E_0 C_k1 noI fi44 (f44.body.getD .skip) f44.results.toList [.d (.v (.bool b))] Q=((b=true→Q (Zez (1:Int)) [])∧(b=false→Q (Zez (0:Int)) [])):=by kernel_rfl
theorem ct121(b:Bool):Ct prog gl 44 [.d (.v (.bool b))] (gives [.agg (boolV b).cs]):=
 ctv C_k1_ok f44 fi44 ⟨_,_,rfl,rfl⟩ (by
  rw[vc121];dsimp -eta -iota -proj only[Zez,Z3]
  refine⟨fun h=>?_,fun h=>?_⟩<;>(subst h;exact⟨rfl,rfl⟩))
def c_121(a:List R)(K:KT):Prop:=match a with
 |[.d (.v (.bool b))]=>K [.agg (boolV b).cs] []
 |_=>False
theorem c_121_ok(a:List R)(K:KT)(h:c_121 a K):Ct prog gl 44 a K:=by
 unfold c_121 at h
 split at h
 ·exact(ct121 _).gives h
 ·exact h.elim
theorem vc200(s:ByteArray)(Q:KT):vc E_0 C_k1 noI fi73 (f73.body.getD .skip) f73.results.toList [.d (.v (.string s))] Q=(Q [.agg [.i 4,.i 0,.v (.bool false),.i 0,.v (.string s)]] []):=by kernel_rfl
theorem ct200(s:ByteArray):Ct prog gl 73 [.d (.v (.string s))] (gives [.agg (textV s).cs]):=
 ctv C_k1_ok f73 fi73 ⟨_,_,rfl,rfl⟩ (by
  rw[vc200];exact⟨rfl,rfl⟩)
def c_200(a:List R)(K:KT):Prop:=match a with
 |[.d (.v (.string s))]=>K [.agg (textV s).cs] []
 |_=>False
theorem c_200_ok(a:List R)(K:KT)(h:c_200 a K):Ct prog gl 73 a K:=by
 unfold c_200 at h
 split at h
 ·exact(ct200 _).gives h
 ·exact h.elim
theorem vc201(n:Int)(Q:KT):vc E_0 C_k1 noI fi74 (f74.body.getD .skip) f74.results.toList [.d (.v (.int .i64 n))] Q=(Q (Zex n) []):=by kernel_rfl
theorem ct201(n:Int):Ct prog gl 74 [.d (.v (.int .i64 n))] (gives [.agg (ofI n).cs]):=
 ctv C_k1_ok f74 fi74 ⟨_,_,rfl,rfl⟩ (by
  rw[vc201];dsimp -eta -iota -proj only[Zex];exact⟨rfl,rfl⟩)
def c_201(a:List R)(K:KT):Prop:=match a with
 |[.d (.v (.int .i64 n))]=>K [.agg (ofI n).cs] []
 |_=>False
theorem c_201_ok(a:List R)(K:KT)(h:c_201 a K):Ct prog gl 74 a K:=by
 unfold c_201 at h
 split at h
 ·exact(ct201 _).gives h
 ·exact h.elim
def C_k2:CallT:=addC (addC (addC C_k1 44 c_121) 73 c_200) 74 c_201
theorem C_k2_ok:CallsOk prog gl C_k2:=addC_ok (addC_ok (addC_ok C_k1_ok c_121_ok) c_200_ok) c_201_ok
def liftV(n:Int):Go.Ex.AV:=bif n==2 then noneV ⟨1,0⟩else boolV (n==1)
theorem vc117(n:Int)(Q:KT):vc E_0 C_k2 noI fi40 (f40.body.getD .skip) f40.results.toList [.d (.v (.int .i64 n))] Q=(((n==2)=true→Q [.agg [.i 1,.i 0,.v (.bool true),.i 0,.v (.string ⟨⟨[]⟩⟩)]] [])∧((n==2)=false→Q [.agg [.i 1,.i 0,.v (.bool false),.i (bif n==1 then(1:Int)else(0:Int)),.v (.string eB)]] [])):=by kernel_rfl
theorem ct117(n:Int):Ct prog gl 40 [.d (.v (.int .i64 n))] (gives [.agg (liftV n).cs]):=
 ctv C_k2_ok f40 fi40 ⟨_,_,rfl,rfl⟩ (by
  rw[vc117]
  refine⟨fun h=>?_,fun h=>?_⟩<;>(unfold liftV;rw[h];exact⟨rfl,rfl⟩))
def c_117(a:List R)(K:KT):Prop:=match a with
 |[.d (.v (.int .i64 n))]=>K [.agg (liftV n).cs] []
 |_=>False
theorem c_117_ok(a:List R)(K:KT)(h:c_117 a K):Ct prog gl 40 a K:=by
 unfold c_117 at h
 split at h
 ·exact(ct117 _).gives h
 ·exact h.elim
def remP(a b:Int):Int×Int:=bif b==0 then(0,11)else bif b == -1 then(0,0)else(a.tmod b,0)
theorem vc206(a b:Int)(Q:KT):vc E_0 C_g6 noI fi79 (f79.body.getD .skip) f79.results.toList [.d (.v (.int .i64 a)),.d (.v (.int .i64 b))] Q=(((b==0)=true→Zci Q (0:Int) (11:Int))∧((b==0)=false→((b==(-1:Int))=true→Zci Q (0:Int) (0:Int))∧((b==(-1:Int))=false→b≠(0:Int)∧Q [.d (.i (a.tmod b)),.d (.i 0)] []))):=by kernel_rfl
theorem ct206(a b:Int):Ct prog gl 79 [.d (.v (.int .i64 a)),.d (.v (.int .i64 b))] (gives [.d (.v (.int .i64 (remP a b).1)),.d (.v (.int .i64 (remP a b).2))]):=
 ctv C_g6_ok f79 fi79 ⟨_,_,rfl,rfl⟩ (by
  rw[vc206];dsimp -eta -iota -proj only[Zci]
  refine⟨fun h=>?_,fun h=>⟨fun h2=>?_,fun h2=>⟨by simpa using h,?_⟩⟩⟩<;>(simp only[remP, *,cond_true,cond_false];exact⟨rfl,rfl⟩))
def c_206(a:List R)(K:KT):Prop:=match a with
 |[.d (.v (.int .i64 a)),.d (.v (.int .i64 b))]=>K [.d (.v (.int .i64 (remP a b).1)),.d (.v (.int .i64 (remP a b).2))] []
 |_=>False
theorem c_206_ok(a:List R)(K:KT)(h:c_206 a K):Ct prog gl 79 a K:=by
 unfold c_206 at h
 split at h
 ·exact(ct206 _ _).gives h
 ·exact h.elim
theorem vc273(a b:Int)(Q:KT):vc E_0 C_g6 noI fi101 (f101.body.getD .skip) f101.results.toList [.d (.v (.int .i64 a)),.d (.v (.int .i64 b))] Q=((0:Int)≤32∧(0:Int)≤32∧(0:Int)≤32∧(0:Int)≤32∧(0:Int)≤32∧(0:Int)≤32∧(0:Int)≤32∧(0:Int)≤32∧(decide (a<0)=true→(decide (b<0)=true→Q [.agg [.i (IntKind.i64.wrap (IntKind.i64.wrap (IntKind.i64.wrap (IntKind.u64.wrap (IntKind.u64.wrap (IntKind.u64.wrap (aInt.shr IntKind.u64 (IntKind.u64.wrap a) (32:Int)*aInt.shr IntKind.u64 (IntKind.u64.wrap b) (32:Int))+aInt.shr IntKind.u64 (IntKind.u64.wrap (IntKind.u64.wrap (aInt.shr IntKind.u64 (IntKind.u64.wrap a) (32:Int)*aInt.bits BinOp.and IntKind.u64 (IntKind.u64.wrap b) (4294967295:Int))+aInt.shr IntKind.u64 (IntKind.u64.wrap (aInt.bits BinOp.and IntKind.u64 (IntKind.u64.wrap a) (4294967295:Int)*aInt.bits BinOp.and IntKind.u64 (IntKind.u64.wrap b) (4294967295:Int))) (32:Int))) (32:Int))+aInt.shr IntKind.u64 (IntKind.u64.wrap (IntKind.u64.wrap (aInt.bits BinOp.and IntKind.u64 (IntKind.u64.wrap a) (4294967295:Int)*aInt.shr IntKind.u64 (IntKind.u64.wrap b) (32:Int))+aInt.bits BinOp.and IntKind.u64 (IntKind.u64.wrap (IntKind.u64.wrap (aInt.shr IntKind.u64 (IntKind.u64.wrap a) (32:Int)*aInt.bits BinOp.and IntKind.u64 (IntKind.u64.wrap b) (4294967295:Int))+aInt.shr IntKind.u64 (IntKind.u64.wrap (aInt.bits BinOp.and IntKind.u64 (IntKind.u64.wrap a) (4294967295:Int)*aInt.bits BinOp.and IntKind.u64 (IntKind.u64.wrap b) (4294967295:Int))) (32:Int))) (4294967295:Int))) (32:Int)))-b)-a)),.v (.int .u64 (aInt.bits BinOp.or IntKind.u64 (aInt.shl IntKind.u64 (IntKind.u64.wrap (IntKind.u64.wrap (aInt.bits BinOp.and IntKind.u64 (IntKind.u64.wrap a) (4294967295:Int)*aInt.shr IntKind.u64 (IntKind.u64.wrap b) (32:Int))+aInt.bits BinOp.and IntKind.u64 (IntKind.u64.wrap (IntKind.u64.wrap (aInt.shr IntKind.u64 (IntKind.u64.wrap a) (32:Int)*aInt.bits BinOp.and IntKind.u64 (IntKind.u64.wrap b) (4294967295:Int))+aInt.shr IntKind.u64 (IntKind.u64.wrap (aInt.bits BinOp.and IntKind.u64 (IntKind.u64.wrap a) (4294967295:Int)*aInt.bits BinOp.and IntKind.u64 (IntKind.u64.wrap b) (4294967295:Int))) (32:Int))) (4294967295:Int))) (32:Int)) (aInt.bits BinOp.and IntKind.u64 (IntKind.u64.wrap (aInt.bits BinOp.and IntKind.u64 (IntKind.u64.wrap a) (4294967295:Int)*aInt.bits BinOp.and IntKind.u64 (IntKind.u64.wrap b) (4294967295:Int))) (4294967295:Int))))]] [])∧(decide (b<0)=false→Q [.agg [.i (IntKind.i64.wrap (IntKind.i64.wrap (IntKind.u64.wrap (IntKind.u64.wrap (IntKind.u64.wrap (aInt.shr IntKind.u64 (IntKind.u64.wrap a) (32:Int)*aInt.shr IntKind.u64 (IntKind.u64.wrap b) (32:Int))+aInt.shr IntKind.u64 (IntKind.u64.wrap (IntKind.u64.wrap (aInt.shr IntKind.u64 (IntKind.u64.wrap a) (32:Int)*aInt.bits BinOp.and IntKind.u64 (IntKind.u64.wrap b) (4294967295:Int))+aInt.shr IntKind.u64 (IntKind.u64.wrap (aInt.bits BinOp.and IntKind.u64 (IntKind.u64.wrap a) (4294967295:Int)*aInt.bits BinOp.and IntKind.u64 (IntKind.u64.wrap b) (4294967295:Int))) (32:Int))) (32:Int))+aInt.shr IntKind.u64 (IntKind.u64.wrap (IntKind.u64.wrap (aInt.bits BinOp.and IntKind.u64 (IntKind.u64.wrap a) (4294967295:Int)*aInt.shr IntKind.u64 (IntKind.u64.wrap b) (32:Int))+aInt.bits BinOp.and IntKind.u64 (IntKind.u64.wrap (IntKind.u64.wrap (aInt.shr IntKind.u64 (IntKind.u64.wrap a) (32:Int)*aInt.bits BinOp.and IntKind.u64 (IntKind.u64.wrap b) (4294967295:Int))+aInt.shr IntKind.u64 (IntKind.u64.wrap (aInt.bits BinOp.and IntKind.u64 (IntKind.u64.wrap a) (4294967295:Int)*aInt.bits BinOp.and IntKind.u64 (IntKind.u64.wrap b) (4294967295:Int))) (32:Int))) (4294967295:Int))) (32:Int)))-b)),.v (.int .u64 (aInt.bits BinOp.or IntKind.u64 (aInt.shl IntKind.u64 (IntKind.u64.wrap (IntKind.u64.wrap (aInt.bits BinOp.and IntKind.u64 (IntKind.u64.wrap a) (4294967295:Int)*aInt.shr IntKind.u64 (IntKind.u64.wrap b) (32:Int))+aInt.bits BinOp.and IntKind.u64 (IntKind.u64.wrap (IntKind.u64.wrap (aInt.shr IntKind.u64 (IntKind.u64.wrap a) (32:Int)*aInt.bits BinOp.and IntKind.u64 (IntKind.u64.wrap b) (4294967295:Int))+aInt.shr IntKind.u64 (IntKind.u64.wrap (aInt.bits BinOp.and IntKind.u64 (IntKind.u64.wrap a) (4294967295:Int)*aInt.bits BinOp.and IntKind.u64 (IntKind.u64.wrap b) (4294967295:Int))) (32:Int))) (4294967295:Int))) (32:Int)) (aInt.bits BinOp.and IntKind.u64 (IntKind.u64.wrap (aInt.bits BinOp.and IntKind.u64 (IntKind.u64.wrap a) (4294967295:Int)*aInt.bits BinOp.and IntKind.u64 (IntKind.u64.wrap b) (4294967295:Int))) (4294967295:Int))))]] []))∧(decide (a<0)=false→(decide (b<0)=true→Q [.agg [.i (IntKind.i64.wrap (IntKind.i64.wrap (IntKind.u64.wrap (IntKind.u64.wrap (IntKind.u64.wrap (aInt.shr IntKind.u64 (IntKind.u64.wrap a) (32:Int)*aInt.shr IntKind.u64 (IntKind.u64.wrap b) (32:Int))+aInt.shr IntKind.u64 (IntKind.u64.wrap (IntKind.u64.wrap (aInt.shr IntKind.u64 (IntKind.u64.wrap a) (32:Int)*aInt.bits BinOp.and IntKind.u64 (IntKind.u64.wrap b) (4294967295:Int))+aInt.shr IntKind.u64 (IntKind.u64.wrap (aInt.bits BinOp.and IntKind.u64 (IntKind.u64.wrap a) (4294967295:Int)*aInt.bits BinOp.and IntKind.u64 (IntKind.u64.wrap b) (4294967295:Int))) (32:Int))) (32:Int))+aInt.shr IntKind.u64 (IntKind.u64.wrap (IntKind.u64.wrap (aInt.bits BinOp.and IntKind.u64 (IntKind.u64.wrap a) (4294967295:Int)*aInt.shr IntKind.u64 (IntKind.u64.wrap b) (32:Int))+aInt.bits BinOp.and IntKind.u64 (IntKind.u64.wrap (IntKind.u64.wrap (aInt.shr IntKind.u64 (IntKind.u64.wrap a) (32:Int)*aInt.bits BinOp.and IntKind.u64 (IntKind.u64.wrap b) (4294967295:Int))+aInt.shr IntKind.u64 (IntKind.u64.wrap (aInt.bits BinOp.and IntKind.u64 (IntKind.u64.wrap a) (4294967295:Int)*aInt.bits BinOp.and IntKind.u64 (IntKind.u64.wrap b) (4294967295:Int))) (32:Int))) (4294967295:Int))) (32:Int)))-a)),.v (.int .u64 (aInt.bits BinOp.or IntKind.u64 (aInt.shl IntKind.u64 (IntKind.u64.wrap (IntKind.u64.wrap (aInt.bits BinOp.and IntKind.u64 (IntKind.u64.wrap a) (4294967295:Int)*aInt.shr IntKind.u64 (IntKind.u64.wrap b) (32:Int))+aInt.bits BinOp.and IntKind.u64 (IntKind.u64.wrap (IntKind.u64.wrap (aInt.shr IntKind.u64 (IntKind.u64.wrap a) (32:Int)*aInt.bits BinOp.and IntKind.u64 (IntKind.u64.wrap b) (4294967295:Int))+aInt.shr IntKind.u64 (IntKind.u64.wrap (aInt.bits BinOp.and IntKind.u64 (IntKind.u64.wrap a) (4294967295:Int)*aInt.bits BinOp.and IntKind.u64 (IntKind.u64.wrap b) (4294967295:Int))) (32:Int))) (4294967295:Int))) (32:Int)) (aInt.bits BinOp.and IntKind.u64 (IntKind.u64.wrap (aInt.bits BinOp.and IntKind.u64 (IntKind.u64.wrap a) (4294967295:Int)*aInt.bits BinOp.and IntKind.u64 (IntKind.u64.wrap b) (4294967295:Int))) (4294967295:Int))))]] [])∧(decide (b<0)=false→Q [.agg [.i (IntKind.i64.wrap (IntKind.u64.wrap (IntKind.u64.wrap (IntKind.u64.wrap (aInt.shr IntKind.u64 (IntKind.u64.wrap a) (32:Int)*aInt.shr IntKind.u64 (IntKind.u64.wrap b) (32:Int))+aInt.shr IntKind.u64 (IntKind.u64.wrap (IntKind.u64.wrap (aInt.shr IntKind.u64 (IntKind.u64.wrap a) (32:Int)*aInt.bits BinOp.and IntKind.u64 (IntKind.u64.wrap b) (4294967295:Int))+aInt.shr IntKind.u64 (IntKind.u64.wrap (aInt.bits BinOp.and IntKind.u64 (IntKind.u64.wrap a) (4294967295:Int)*aInt.bits BinOp.and IntKind.u64 (IntKind.u64.wrap b) (4294967295:Int))) (32:Int))) (32:Int))+aInt.shr IntKind.u64 (IntKind.u64.wrap (IntKind.u64.wrap (aInt.bits BinOp.and IntKind.u64 (IntKind.u64.wrap a) (4294967295:Int)*aInt.shr IntKind.u64 (IntKind.u64.wrap b) (32:Int))+aInt.bits BinOp.and IntKind.u64 (IntKind.u64.wrap (IntKind.u64.wrap (aInt.shr IntKind.u64 (IntKind.u64.wrap a) (32:Int)*aInt.bits BinOp.and IntKind.u64 (IntKind.u64.wrap b) (4294967295:Int))+aInt.shr IntKind.u64 (IntKind.u64.wrap (aInt.bits BinOp.and IntKind.u64 (IntKind.u64.wrap a) (4294967295:Int)*aInt.bits BinOp.and IntKind.u64 (IntKind.u64.wrap b) (4294967295:Int))) (32:Int))) (4294967295:Int))) (32:Int)))),.v (.int .u64 (aInt.bits BinOp.or IntKind.u64 (aInt.shl IntKind.u64 (IntKind.u64.wrap (IntKind.u64.wrap (aInt.bits BinOp.and IntKind.u64 (IntKind.u64.wrap a) (4294967295:Int)*aInt.shr IntKind.u64 (IntKind.u64.wrap b) (32:Int))+aInt.bits BinOp.and IntKind.u64 (IntKind.u64.wrap (IntKind.u64.wrap (aInt.shr IntKind.u64 (IntKind.u64.wrap a) (32:Int)*aInt.bits BinOp.and IntKind.u64 (IntKind.u64.wrap b) (4294967295:Int))+aInt.shr IntKind.u64 (IntKind.u64.wrap (aInt.bits BinOp.and IntKind.u64 (IntKind.u64.wrap a) (4294967295:Int)*aInt.bits BinOp.and IntKind.u64 (IntKind.u64.wrap b) (4294967295:Int))) (32:Int))) (4294967295:Int))) (32:Int)) (aInt.bits BinOp.and IntKind.u64 (IntKind.u64.wrap (aInt.bits BinOp.and IntKind.u64 (IntKind.u64.wrap a) (4294967295:Int)*aInt.bits BinOp.and IntKind.u64 (IntKind.u64.wrap b) (4294967295:Int))) (4294967295:Int))))]] []))):=by kernel_rfl
theorem ct273(a b:Int):Ct prog gl 101 [.d (.v (.int .i64 a)),.d (.v (.int .i64 b))] (gives [.agg [.v (.int .i64 (wideHi a b)),.v (.int .u64 (wideLo a b))]]):=
 ctv C_g6_ok f101 fi101 ⟨_,_,rfl,rfl⟩ (by
  rw[vc273]
  refine⟨by decide,by decide,by decide,by decide,by decide,by decide,by decide,by decide,fun h=>⟨fun h2=>?_,fun h2=>?_⟩,fun h=>⟨fun h2=>?_,fun h2=>?_⟩⟩<;>(unfold wideHi;rw[h,h2];exact⟨rfl,rfl⟩))
def c_273(a:List R)(K:KT):Prop:=match a with
 |[.d (.v (.int .i64 a)),.d (.v (.int .i64 b))]=>K [.agg [.v (.int .i64 (wideHi a b)),.v (.int .u64 (wideLo a b))]] []
 |_=>False
theorem c_273_ok(a:List R)(K:KT)(h:c_273 a K):Ct prog gl 101 a K:=by
 unfold c_273 at h
 split at h
 ·exact(ct273 _ _).gives h
 ·exact h.elim
theorem vc272(h l:Int)(Q:KT):vc E_0 C_g6 noI fi100 (f100.body.getD .skip) f100.results.toList [.agg [.v (.int .i64 h),.v (.int .u64 l)]] Q=((0:Int)≤63∧((h != aInt.shr IntKind.i64 (IntKind.i64.wrap l) (63:Int))=true→Zci Q (0:Int) (10:Int))∧((h != aInt.shr IntKind.i64 (IntKind.i64.wrap l) (63:Int))=false→Q [.d (.i (IntKind.i64.wrap l)),.d (.i 0)] [])):=by kernel_rfl
theorem ct272(h l:Int):Ct prog gl 100 [.agg [.v (.int .i64 h),.v (.int .u64 l)]] (gives [.d (.v (.int .i64 (narrowP h l).1)),.d (.v (.int .i64 (narrowP h l).2))]):=
 ctv C_g6_ok f100 fi100 ⟨_,_,rfl,rfl⟩ (by
  rw[vc272];dsimp -eta -iota -proj only[Zci]
  refine⟨by decide,fun h=>?_,fun h=>?_⟩<;>(unfold narrowP;rw[h];exact⟨rfl,rfl⟩))
def c_272(a:List R)(K:KT):Prop:=match a with
 |[.agg [.v (.int .i64 h),.v (.int .u64 l)]]=>K [.d (.v (.int .i64 (narrowP h l).1)),.d (.v (.int .i64 (narrowP h l).2))] []
 |_=>False
theorem c_272_ok(a:List R)(K:KT)(h:c_272 a K):Ct prog gl 100 a K:=by
 unfold c_272 at h
 split at h
 ·exact(ct272 _ _).gives h
 ·exact h.elim
def st_329(n:Int)(x:Nat):St:={tm:=[(2,.d (.v (.int .i64 0))),(3,.d (.v (.int .i64 0))),(4,.d (.v (.int .i64 ((10^x:Nat):Int)))),(8,.d (.v (.int .i64 n))),(9,.d (.v (.int .i64 (x:Int))))],hp:=[],kn:=[],gd:=[]}
def inv_329(n:Int)(m:Nat)(x:Nat):Prop:=(x:Int)≤n∧n≤18∧m=n.toNat-x
def fx_329(n:Int):Fi:={fi131 with lx:=[(5,{X:=Nat,sh:=st_329 n,P:=fun _=>inv_329 n})]}
def Zei(a0:Nat)(a1:Int):St:={tm:=[(2,.i 0),(3,.i 0),(4,.i (↑((10:Nat)^a0):Int)),(8,.i a1),(9,.i (↑a0:Int))],hp:=[],kn:=[],gd:=[]:St}
theorem vc329(n:Int)(Q:KT):vc E_0 C_g6 noI (fx_329 n) (f131.body.getD .skip) f131.results.toList [.d (.v (.int .i64 n))] Q=(((!s276_0 n)=true→Zci Q (0:Int) (1:Int))∧((!s276_0 n)=false→∃(x0:Nat),({tm:=[(2,.i 0),(3,.i 0),(4,.i 1),(8,.i n),(9,.i 0)],hp:=[],kn:=[],gd:=[]:St}=(Zei x0 n)∧∃(n_1:Nat),inv_329 n n_1 x0)∧∀(n_1:Nat) (x:Nat),inv_329 n n_1 x→(decide ((↑x:Int)<n)=true→Zee n_1 fun m x'=>{tm:=[(2,.i 0),(3,.i 0),(4,.i (IntKind.i64.wrap ((↑((10:Nat)^x):Int)*(10:Int)))),(8,.i n),(9,.i (IntKind.i64.wrap ((↑x:Int)+1)))],hp:=[],kn:=[],gd:=[]:St}=(Zei x' n)∧inv_329 n m x')∧(decide ((↑x:Int)<n)=false→Q [.d (.i (↑((10:Nat)^x):Int)),.d (.i 0)] []))):=by kernel_rfl
def powP(n:Int):Int×Int:=bif !s276_0 n then(0,1)else(((10^n.toNat:Nat):Int),0)
theorem pow_le{x:Nat}(h:x≤18):10^x≤1000000000000000000:=Nat.pow_le_pow_right (by decide) h
theorem ct329(n:Int):Ct prog gl 131 [.d (.v (.int .i64 n))] (gives [.d (.v (.int .i64 (powP n).1)),.d (.v (.int .i64 (powP n).2))]):=
 ct_of_vc E_ok C_g6_ok ioK_no it_ok mixed (fn:=f131) (body:=f131.body.getD .skip) (by kernel_rfl) (by kernel_rfl) (by kernel_rfl) (fi:=fx_329 n) (by kernel_rfl) (by kernel_rfl) ⟨_,_,rfl,rfl⟩ (by
  rw[vc329];dsimp -eta -iota -proj only[Zci,Zei,Zee,Zdt]
  refine⟨fun h=>?_,fun h=>?_⟩
  ·unfold powP;rw[h];exact⟨rfl,rfl⟩
  ·have hn:0≤n∧n≤18:=by
    revert h
    unfold s276_0
    by_cases h1:n≥0<;>by_cases h2:n≤18<;>simp[h1,h2]
   refine⟨(0:Nat),⟨rfl,n.toNat,hn.1,hn.2,by omega⟩,fun m (x:Nat) hx=>⟨fun hi=>?_,fun hi=>?_⟩⟩
   ·obtain⟨h1,h2,h3⟩:=hx
    have hi:=of_decide_eq_true hi
    refine⟨n.toNat-(x+1),x+1,by omega,?_,by omega,h2,by omega⟩
    have:=pow_le (x:=x+1) (by omega)
    have e:(((10^(x+1):Nat)):Int)=((10^x:Nat):Int)*10:=by rw[Nat.pow_succ];rfl
    have hp:0≤((10^x:Nat):Int):=Int.natCast_nonneg _
    have hq:(((10^(x+1):Nat)):Int)≤1000000000000000000:=Int.ofNat_le.2 this
    rw[e]at hq ⊢
    rw[wrap_next (by omega)]
    generalize ((10^x:Nat):Int)=p at *
    rw[wrap_i64_of (by omega) (by omega)]
   ·obtain⟨h1,h2,h3⟩:=hx
    have hi:=of_decide_eq_false hi
    unfold powP
    rw[h,show n.toNat=x by omega]
    exact⟨rfl,rfl⟩)
def c_329(a:List R)(K:KT):Prop:=match a with
 |[.d (.v (.int .i64 n))]=>K [.d (.v (.int .i64 (powP n).1)),.d (.v (.int .i64 (powP n).2))] []
 |_=>False
theorem c_329_ok(a:List R)(K:KT)(h:c_329 a K):Ct prog gl 131 a K:=by
 unfold c_329 at h
 split at h
 ·exact(ct329 _).gives h
 ·exact h.elim
def C_k4:CallT:=addC (addC (addC (addC (addC C_k2 40 c_117) 79 c_206) 101 c_273) 100 c_272) 131 c_329
theorem C_k4_ok:CallsOk prog gl C_k4:=addC_ok (addC_ok (addC_ok (addC_ok (addC_ok C_k2_ok c_117_ok) c_206_ok) c_273_ok) c_272_ok) c_329_ok
theorem vc204(a b:Int)(Q:KT):vc E_0 C_k4 noI fi77 (f77.body.getD .skip) f77.results.toList [.d (.v (.int .i64 a)),.d (.v (.int .i64 b))] Q=(Q [.d (.v (.int .i64 (narrowP (wideHi a b) (wideLo a b)).1)),.d (.v (.int .i64 (narrowP (wideHi a b) (wideLo a b)).2))] []):=by kernel_rfl
theorem ct204(a b:Int):Ct prog gl 77 [.d (.v (.int .i64 a)),.d (.v (.int .i64 b))] (gives [.d (.v (.int .i64 (mulP a b).1)),.d (.v (.int .i64 (mulP a b).2))]):=
 ctv C_k4_ok f77 fi77 ⟨_,_,rfl,rfl⟩ (by
  rw[vc204];exact⟨rfl,rfl⟩)
def c_204(a:List R)(K:KT):Prop:=match a with
 |[.d (.v (.int .i64 a)),.d (.v (.int .i64 b))]=>K [.d (.v (.int .i64 (mulP a b).1)),.d (.v (.int .i64 (mulP a b).2))] []
 |_=>False
theorem c_204_ok(a:List R)(K:KT)(h:c_204 a K):Ct prog gl 77 a K:=by
 unfold c_204 at h
 split at h
 ·exact(ct204 _ _).gives h
 ·exact h.elim
def C_k5:CallT:=addC C_k4 77 c_204
theorem C_k5_ok:CallsOk prog gl C_k5:=addC_ok C_k4_ok c_204_ok
def scaleP(v f t:Int):Int×Int:=
 bif (bif !s276_0 f then true else !s276_0 t)then(0,1)else bif !s114_0 v then(0,10)else
 bif decide (t≥f)then(bif (bif (mulP v (powP (IntKind.i64.wrap (t-f))).1).2 != 0 then true else !s114_0 (mulP v (powP (IntKind.i64.wrap (t-f))).1).1)then(0,10)else((mulP v (powP (IntKind.i64.wrap (t-f))).1).1,0))
 else bif decide (v.tmod (powP (IntKind.i64.wrap (f-t))).1≥IntKind.i64.wrap ((powP (IntKind.i64.wrap (f-t))).1-v.tmod (powP (IntKind.i64.wrap (f-t))).1))then(IntKind.i64.wrap (IntKind.i64.wrap (v.tdiv (powP (IntKind.i64.wrap (f-t))).1)+1),0)
 else bif decide (IntKind.i64.wrap (0-v.tmod (powP (IntKind.i64.wrap (f-t))).1)≥IntKind.i64.wrap ((powP (IntKind.i64.wrap (f-t))).1+v.tmod (powP (IntKind.i64.wrap (f-t))).1))then(IntKind.i64.wrap (IntKind.i64.wrap (v.tdiv (powP (IntKind.i64.wrap (f-t))).1)-1),0)
 else(IntKind.i64.wrap (v.tdiv (powP (IntKind.i64.wrap (f-t))).1),0)
theorem s276_iff{n:Int}:s276_0 n=true↔0≤n∧n≤18:=by
 unfold s276_0
 by_cases h1:n≥0<;>by_cases h2:n≤18<;>simp[h1,h2]<;>omega
theorem powP_ne{n:Int}(h:0≤n∧n≤18):(powP n).1=((10^n.toNat:Nat):Int):=by
 unfold powP
 rw[s276_iff.2 h]
 rfl
theorem vc269(v f t:Int)(Q:KT):vc E_0 C_k5 noI fi97 (f97.body.getD .skip) f97.results.toList [.d (.v (.int .i64 v)),.d (.v (.int .i64 f)),.d (.v (.int .i64 t))] Q=(((bif !s276_0 f then true else !s276_0 t)=true→Zci Q (0:Int) (1:Int))∧((bif !s276_0 f then true else !s276_0 t)=false→((!s114_0 v)=true→Zci Q (0:Int) (10:Int))∧((!s114_0 v)=false→(decide (t≥f)=true→((bif (mulP v (powP (IntKind.i64.wrap (t-f))).1).2 != (0:Int)then true else !s114_0 (mulP v (powP (IntKind.i64.wrap (t-f))).1).1)=true→Zci Q (0:Int) (10:Int))∧((bif (mulP v (powP (IntKind.i64.wrap (t-f))).1).2 != (0:Int)then true else !s114_0 (mulP v (powP (IntKind.i64.wrap (t-f))).1).1)=false→Q [.d (.v (.int .i64 (mulP v (powP (IntKind.i64.wrap (t-f))).1).1)),.d (.i 0)] []))∧(decide (t≥f)=false→(powP (IntKind.i64.wrap (f-t))).1≠(0:Int)∧(powP (IntKind.i64.wrap (f-t))).1≠(0:Int)∧(decide (v.tmod (powP (IntKind.i64.wrap (f-t))).1≥IntKind.i64.wrap ((powP (IntKind.i64.wrap (f-t))).1-v.tmod (powP (IntKind.i64.wrap (f-t))).1))=true→Q [.d (.i (IntKind.i64.wrap (IntKind.i64.wrap (v.tdiv (powP (IntKind.i64.wrap (f-t))).1)+(1:Int)))),.d (.i 0)] [])∧(decide (v.tmod (powP (IntKind.i64.wrap (f-t))).1≥IntKind.i64.wrap ((powP (IntKind.i64.wrap (f-t))).1-v.tmod (powP (IntKind.i64.wrap (f-t))).1))=false→(decide (IntKind.i64.wrap ((0:Int)-v.tmod (powP (IntKind.i64.wrap (f-t))).1)≥IntKind.i64.wrap ((powP (IntKind.i64.wrap (f-t))).1+v.tmod (powP (IntKind.i64.wrap (f-t))).1))=true→Q [.d (.i (IntKind.i64.wrap (IntKind.i64.wrap (v.tdiv (powP (IntKind.i64.wrap (f-t))).1)-(1:Int)))),.d (.i 0)] [])∧(decide (IntKind.i64.wrap ((0:Int)-v.tmod (powP (IntKind.i64.wrap (f-t))).1)≥IntKind.i64.wrap ((powP (IntKind.i64.wrap (f-t))).1+v.tmod (powP (IntKind.i64.wrap (f-t))).1))=false→Q [.d (.i (IntKind.i64.wrap (v.tdiv (powP (IntKind.i64.wrap (f-t))).1))),.d (.i 0)] [])))))):=by kernel_rfl
theorem ct269(v f t:Int):Ct prog gl 97 [.d (.v (.int .i64 v)),.d (.v (.int .i64 f)),.d (.v (.int .i64 t))] (gives [.d (.v (.int .i64 (scaleP v f t).1)),.d (.v (.int .i64 (scaleP v f t).2))]):=
 ctv C_k5_ok f97 fi97 ⟨_,_,rfl,rfl⟩ (by
  rw[vc269];dsimp -eta -iota -proj only[Zci]
  refine⟨fun h=>?_,fun h1=>⟨fun h=>?_,fun h2=>⟨fun h3=>⟨fun h=>?_,fun h=>?_⟩,fun h3=>?_⟩⟩⟩
  ·unfold scaleP;rw[h];exact⟨rfl,rfl⟩
  ·unfold scaleP;rw[h1,h];exact⟨rfl,rfl⟩
  ·unfold scaleP;rw[h1,h2,h3,cond_false,cond_false,cond_true,h];exact⟨rfl,rfl⟩
  ·unfold scaleP;rw[h1,h2,h3,cond_false,cond_false,cond_true,h];exact⟨rfl,rfl⟩
  ·have hne:(powP (IntKind.i64.wrap (f-t))).1≠0:=by
    have hft:(0≤f∧f≤18)∧(0≤t∧t≤18):=by
     rw[←s276_iff,←s276_iff]
     revert h1
     cases s276_0 f<;>cases s276_0 t<;>simp
    have:=of_decide_eq_false h3
    rw[wrap_i64_of (by omega) (by omega),powP_ne (by omega)]
    have:0<10^(f-t).toNat:=Nat.pow_pos (by decide)
    generalize 10^(f-t).toNat=p at *
    omega
   refine⟨hne,hne,fun h=>?_,fun h=>⟨fun h4=>?_,fun h4=>?_⟩⟩
   ·unfold scaleP;rw[h1,h2,h3,cond_false,cond_false,cond_false,h];exact⟨rfl,rfl⟩
   ·unfold scaleP;rw[h1,h2,h3,cond_false,cond_false,cond_false,h,cond_false,h4];exact⟨rfl,rfl⟩
   ·unfold scaleP;rw[h1,h2,h3,cond_false,cond_false,cond_false,h,cond_false,h4];exact⟨rfl,rfl⟩)
def c_269(a:List R)(K:KT):Prop:=match a with
 |[.d (.v (.int .i64 v)),.d (.v (.int .i64 f)),.d (.v (.int .i64 t))]=>K [.d (.v (.int .i64 (scaleP v f t).1)),.d (.v (.int .i64 (scaleP v f t).2))] []
 |_=>False
theorem c_269_ok(a:List R)(K:KT)(h:c_269 a K):Ct prog gl 97 a K:=by
 unfold c_269 at h
 split at h
 ·exact(ct269 _ _ _).gives h
 ·exact h.elim
def wideV(v:Go.Ex.AV)(n:Int):Int×Int:=(wideHi v.n (powP (IntKind.i64.wrap (n-s270_0 v.t.k v.t.sc v.nul v.n v.s))).1,wideLo v.n (powP (IntKind.i64.wrap (n-s270_0 v.t.k v.t.sc v.nul v.n v.s))).1)
theorem vc332(v:Go.Ex.AV)(n:Int)(Q:KT):vc E_0 C_k5 noI fi134 (f134.body.getD .skip) f134.results.toList [.agg v.cs,.d (.v (.int .i64 n))] Q=(Q [.agg [.i (wideHi v.3 (powP (IntKind.i64.wrap (n-s270_0 v.1.1 v.1.2 v.2 v.3 v.4))).1),.v (.int .u64 (wideLo v.3 (powP (IntKind.i64.wrap (n-s270_0 v.1.1 v.1.2 v.2 v.3 v.4))).1))]] []):=by kernel_rfl
theorem ct332(v:Go.Ex.AV)(n:Int):Ct prog gl 134 [.agg v.cs,.d (.v (.int .i64 n))] (gives [.agg [.v (.int .i64 (wideV v n).1),.v (.int .u64 (wideV v n).2)]]):=
 ctv C_k5_ok f134 fi134 ⟨_,_,rfl,rfl⟩ (by
  rw[vc332];exact⟨rfl,rfl⟩)
def c_332(a:List R)(K:KT):Prop:=match a with
 |[.agg [.v (.int .i64 k),.v (.int .i64 sc),.v (.bool b),.v (.int .i64 m),.v (.string s)],.d (.v (.int .i64 n))]=>K [.agg [.v (.int .i64 (wideV ⟨⟨k,sc⟩,b,m,s⟩ n).1),.v (.int .u64 (wideV ⟨⟨k,sc⟩,b,m,s⟩ n).2)]] []
 |_=>False
theorem c_332_ok(a:List R)(K:KT)(h:c_332 a K):Ct prog gl 134 a K:=by
 unfold c_332 at h
 split at h
 ·exact(ct332 _ _).gives h
 ·exact h.elim
theorem vc330(a b:ByteArray)(Q:KT):vc E_0 C_k5 noI fi132 (f132.body.getD .skip) f132.results.toList [.d (.v (.string a)),.d (.v (.string b))] Q=((Op.bytesLess a.toList b.toList=true→Zdp Q)∧(Op.bytesLess a.toList b.toList=false→((!(Op.bytesLess a.toList b.toList||a==b))=true→Q [.d (.i 1)] [])∧((!(Op.bytesLess a.toList b.toList||a==b))=false→Q [.d (.i 0)] []))):=by kernel_rfl
def threeS(a b:ByteArray):Int:=bif Op.bytesLess a.toList b.toList then -1 else bif !(Op.bytesLess a.toList b.toList||a==b)then 1 else 0
theorem ct330(a b:ByteArray):Ct prog gl 132 [.d (.v (.string a)),.d (.v (.string b))] (gives [.d (.v (.int .i64 (threeS a b)))]):=
 ctv C_k5_ok f132 fi132 ⟨_,_,rfl,rfl⟩ (by
  rw[vc330];dsimp -eta -iota -proj only[Zdp,Zdn]
  refine⟨fun h=>?_,fun h=>⟨fun h2=>?_,fun h2=>?_⟩⟩
  ·unfold threeS;rw[h];exact⟨rfl,rfl⟩
  ·unfold threeS;rw[h2,h];exact⟨rfl,rfl⟩
  ·unfold threeS;rw[h2,h];exact⟨rfl,rfl⟩)
def c_330(a:List R)(K:KT):Prop:=match a with
 |[.d (.v (.string a)),.d (.v (.string b))]=>K [.d (.v (.int .i64 (threeS a b)))] []
 |_=>False
theorem c_330_ok(a:List R)(K:KT)(h:c_330 a K):Ct prog gl 132 a K:=by
 unfold c_330 at h
 split at h
 ·exact(ct330 _ _).gives h
 ·exact h.elim
def C_k6:CallT:=addC (addC (addC C_k5 97 c_269) 134 c_332) 132 c_330
theorem C_k6_ok:CallsOk prog gl C_k6:=addC_ok (addC_ok (addC_ok C_k5_ok c_269_ok) c_332_ok) c_330_ok
end Go.Proofs.Tryz
